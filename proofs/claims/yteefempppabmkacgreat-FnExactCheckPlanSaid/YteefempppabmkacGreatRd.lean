/- How the data of the program are taken out of memory: plain lemmas, without conditions of their own. -/
import Derived.Test.YteefempppabmkacGreatEngC
import Derived.Test.YteefempppabmkacGreatDat
set_option linter.unusedVariables false
set_option linter.unusedSimpArgs false
set_option linter.ambiguousOpen false
set_option linter.unusedSectionVars false
set_option linter.unnecessarySimpa false
set_option linter.unusedVariables false
set_option linter.unusedSimpArgs false
namespace Go.Proofs.YteefempppabmkacGreat
open Go Go.E
open Go.E.Rep (rd)
open Go.E.Sep (own)
open Go.E.Sz (szd)
theorem z7u {F0:Nat→Prop}{M:List Nat}{w0 w:World}{fr:List Pr}{ow:List It}{x:Int}{cs:List Value}(H:HL F0 M w0 w fr ow)(i:Nat)(hi:fr[i]? = some (Pr.R x cs):=by exact rfl):cs=[.int .i64 x]∧I64 x∧HL F0 M w0 w (fr++[]) ow:=by
 have hr:=H.rR hi
 obtain⟨rfl,hr1,hr2⟩:=hr
 exact⟨rfl,⟨hr1,hr2⟩,by simpa using H⟩
theorem z6M {F0:Nat→Prop}{M:List Nat}{w0 w:World}{fr:List Pr}{ow:List It}{v:Value}{k:Nat}{xs:List Int}{x:Int}(H:HL F0 M w0 w fr ow)(i:Nat)(hx:xs[k]? = some x)(hi:fr[i]? = some (Pr.S xs v):=by exact rfl):∃ b o c,v = .slice (some ⟨b,o,none⟩) xs.length c∧I64 x∧HL F0 M w0 w (fr++[Pr.A b (o+k*1) [.int .i64 x],Pr.R x [.int .i64 x]]) ow:=by
 obtain⟨b,o,c,cs,hv,hr,H⟩:=H.ixS hi hx
 obtain⟨rfl,hr1,hr2⟩:=hr
 exact⟨b,o,c,hv,⟨hr1,hr2⟩,H⟩
theorem q5p {F0:Nat→Prop}{M:List Nat}{w0 w:World}{fr:List Pr}{ow:List It}{v:Value}{e k b:Nat}{xs:List Int}{x:Int}(H:HL F0 M w0 w fr ow)(i:Nat)(hx:xs[k]? = some x)(hb:v.ownBlock=some b)(hi:ow[i]? = some (It.O e xs v):=by exact rfl):At w b (0+k*1) [.int .i64 x]∧I64 x∧HL F0 M w0 w (fr++[Pr.R x [.int .i64 x]]) ow:=by
 obtain⟨cs,hA,hr,H⟩:=H.elO hi hx hb
 obtain⟨rfl,hr1,hr2⟩:=hr
 exact⟨hA,⟨hr1,hr2⟩,H⟩
theorem k1h {F0:Nat→Prop}{M:List Nat}{w0 w:World}{fr:List Pr}{ow:List It}{x:ByteArray}{cs:List Value}(H:HL F0 M w0 w fr ow)(i:Nat)(hi:fr[i]? = some (Pr.R x cs):=by exact rfl):cs=[.string x]∧x.size≤9223372036854775807∧HL F0 M w0 w (fr++[]) ow:=by
 have hr:=H.rR hi
 obtain⟨rfl,hr⟩:=hr
 exact⟨rfl,hr,by simpa using H⟩
theorem q7l {F0:Nat→Prop}{M:List Nat}{w0 w:World}{fr:List Pr}{ow:List It}{v:Value}{k:Nat}{xs:List ByteArray}{x:ByteArray}(H:HL F0 M w0 w fr ow)(i:Nat)(hx:xs[k]? = some x)(hi:fr[i]? = some (Pr.S xs v):=by exact rfl):∃ b o c,v = .slice (some ⟨b,o,none⟩) xs.length c∧x.size≤9223372036854775807∧HL F0 M w0 w (fr++[Pr.A b (o+k*1) [.string x],Pr.R x [.string x]]) ow:=by
 obtain⟨b,o,c,cs,hv,hr,H⟩:=H.ixS hi hx
 obtain⟨rfl,hr⟩:=hr
 exact⟨b,o,c,hv,hr,H⟩
theorem k2c {α:Type}[Rep α]{F0:Nat→Prop}{M:List Nat}{w0 w:World}{fr:List Pr}{ow:List It}{x:List α}{cs:List Value}(H:HL F0 M w0 w fr ow)(i:Nat)(hi:fr[i]? = some (Pr.R x cs):=by exact rfl):∃ A0:Option Addr,∃ n0 c0:Nat,cs=[.slice A0 n0 c0]∧HL F0 M w0 w (fr++[Pr.S x (.slice A0 n0 c0)]) ow:=by
 have hr:=H.rR hi
 obtain⟨v0,rfl,s0⟩:=hr
 obtain⟨A0,n0,c0,rfl⟩:=s0.form3
 exact⟨A0,n0,c0,rfl,H.more (ps:=[Pr.S x (.slice A0 n0 c0)]) (i:=i) (p:=Pr.R x [.slice A0 n0 c0]) hi fun F h=>⟨z1w.1 h,trivial⟩⟩
theorem z5O {α:Type}[Rep α]{F0:Nat→Prop}{M:List Nat}{w0 w:World}{fr:List Pr}{ow:List It}{v:Value}{k:Nat}{xs:List (List α)}{x:List α}(H:HL F0 M w0 w fr ow)(i:Nat)(hx:xs[k]? = some x)(hi:fr[i]? = some (Pr.S xs v):=by exact rfl):∃ b o c,∃ A0:Option Addr,∃ n0 c0:Nat,v = .slice (some ⟨b,o,none⟩) xs.length c∧HL F0 M w0 w (fr++[Pr.A b (o+k*1) [.slice A0 n0 c0],Pr.R x [.slice A0 n0 c0],Pr.S x (.slice A0 n0 c0)]) ow:=by
 obtain⟨b,o,c,cs,hv,hr,H⟩:=H.ixS hi hx
 obtain⟨v0,rfl,s0⟩:=hr
 obtain⟨A0,n0,c0,rfl⟩:=s0.form3
 exact⟨b,o,c,A0,n0,c0,hv,by
  have H:=H.more (ps:=[Pr.S x (.slice A0 n0 c0)]) (i:=fr.length+1) (p:=Pr.R x [.slice A0 n0 c0]) (by simp) fun F h=>⟨z1w.1 h,trivial⟩
  rwa [List.append_assoc] at H⟩
theorem q4Z {F0:Nat→Prop}{M:List Nat}{w0 w:World}{fr:List Pr}{ow:List It}{x:Attribute}{cs:List Value}(H:HL F0 M w0 w fr ow)(i:Nat)(hi:fr[i]? = some (Pr.R x cs):=by exact rfl):cs=[.string x.Name,.int .i64 x.Type_,.int .i64 x.Mode,.bool x.Circular]∧x.Name.size≤9223372036854775807∧I64 x.Type_∧I64 x.Mode∧HL F0 M w0 w (fr++[]) ow:=by
 have hr:=H.rR hi
 obtain⟨rfl,h0,h1,h2⟩:=hr
 exact⟨rfl,h0,h1,h2,by simpa using H⟩
theorem q4w {F0:Nat→Prop}{M:List Nat}{w0 w:World}{fr:List Pr}{ow:List It}{v:Value}{k:Nat}{xs:List Attribute}{x:Attribute}(H:HL F0 M w0 w fr ow)(i:Nat)(hx:xs[k]? = some x)(hi:fr[i]? = some (Pr.S xs v):=by exact rfl):∃ b o c,v = .slice (some ⟨b,o,none⟩) xs.length c∧x.Name.size≤9223372036854775807∧I64 x.Type_∧I64 x.Mode∧HL F0 M w0 w (fr++[Pr.A b (o+k*4) [.string x.Name,.int .i64 x.Type_,.int .i64 x.Mode,.bool x.Circular],Pr.R x [.string x.Name,.int .i64 x.Type_,.int .i64 x.Mode,.bool x.Circular]]) ow:=by
 obtain⟨b,o,c,cs,hv,hr,H⟩:=H.ixS hi hx
 obtain⟨rfl,h0,h1,h2⟩:=hr
 exact⟨b,o,c,hv,h0,h1,h2,H⟩
theorem z0r {F0:Nat→Prop}{M:List Nat}{w0 w:World}{fr:List Pr}{ow:List It}{v:Value}{e k b:Nat}{xs:List Attribute}{x:Attribute}(H:HL F0 M w0 w fr ow)(i:Nat)(hx:xs[k]? = some x)(hb:v.ownBlock=some b)(hi:ow[i]? = some (It.O e xs v):=by exact rfl):At w b (0+k*4) [.string x.Name,.int .i64 x.Type_,.int .i64 x.Mode,.bool x.Circular]∧x.Name.size≤9223372036854775807∧I64 x.Type_∧I64 x.Mode∧HL F0 M w0 w (fr++[Pr.R x [.string x.Name,.int .i64 x.Type_,.int .i64 x.Mode,.bool x.Circular]]) ow:=by
 obtain⟨cs,hA,hr,H⟩:=H.elO hi hx hb
 obtain⟨rfl,h0,h1,h2⟩:=hr
 exact⟨hA,h0,h1,h2,H⟩
theorem q6e {F0:Nat→Prop}{M:List Nat}{w0 w:World}{fr:List Pr}{ow:List It}{x:Symbol}{cs:List Value}(H:HL F0 M w0 w fr ow)(i:Nat)(hi:fr[i]? = some (Pr.R x cs):=by exact rfl):∃ A1:Option Addr,∃ n1 c1:Nat,cs=[.string x.Name,.slice A1 n1 c1]∧x.Name.size≤9223372036854775807∧HL F0 M w0 w (fr++[Pr.S x.Attributes (.slice A1 n1 c1)]) ow:=by
 have hr:=H.rR hi
 obtain⟨v1,rfl,h0,s1⟩:=hr
 obtain⟨A1,n1,c1,rfl⟩:=s1.form3
 exact⟨A1,n1,c1,rfl,h0,H.more (ps:=[Pr.S x.Attributes (.slice A1 n1 c1)]) (i:=i) (p:=Pr.R x [.string x.Name,.slice A1 n1 c1]) hi fun F h=>by
  obtain⟨w1,e,h0,s1⟩:=h
  simp only [List.cons.injEq,and_true,true_and] at e
  obtain rfl:=e
  exact⟨s1,trivial⟩⟩
theorem q4g {F0:Nat→Prop}{M:List Nat}{w0 w:World}{fr:List Pr}{ow:List It}{v:Value}{k:Nat}{xs:List Symbol}{x:Symbol}(H:HL F0 M w0 w fr ow)(i:Nat)(hx:xs[k]? = some x)(hi:fr[i]? = some (Pr.S xs v):=by exact rfl):∃ b o c,∃ A1:Option Addr,∃ n1 c1:Nat,v = .slice (some ⟨b,o,none⟩) xs.length c∧x.Name.size≤9223372036854775807∧HL F0 M w0 w (fr++[Pr.A b (o+k*2) [.string x.Name,.slice A1 n1 c1],Pr.R x [.string x.Name,.slice A1 n1 c1],Pr.S x.Attributes (.slice A1 n1 c1)]) ow:=by
 obtain⟨b,o,c,cs,hv,hr,H⟩:=H.ixS hi hx
 obtain⟨v1,rfl,h0,s1⟩:=hr
 obtain⟨A1,n1,c1,rfl⟩:=s1.form3
 exact⟨b,o,c,A1,n1,c1,hv,h0,by
  have H:=H.more (ps:=[Pr.S x.Attributes (.slice A1 n1 c1)]) (i:=fr.length+1) (p:=Pr.R x [.string x.Name,.slice A1 n1 c1]) (by simp) fun F h=>by
    obtain⟨w1,e,h0,s1⟩:=h
    simp only [List.cons.injEq,and_true,true_and] at e
    obtain rfl:=e
    exact⟨s1,trivial⟩
  rwa [List.append_assoc] at H⟩
theorem q2z {F0:Nat→Prop}{M:List Nat}{w0 w:World}{fr:List Pr}{ow:List It}{x:Occurrence}{cs:List Value}(H:HL F0 M w0 w fr ow)(i:Nat)(hi:fr[i]? = some (Pr.R x cs):=by exact rfl):cs=[.int .i64 x.Pos,.string x.Name]∧I64 x.Pos∧x.Name.size≤9223372036854775807∧HL F0 M w0 w (fr++[]) ow:=by
 have hr:=H.rR hi
 obtain⟨rfl,h0,h1⟩:=hr
 exact⟨rfl,h0,h1,by simpa using H⟩
theorem q5E {F0:Nat→Prop}{M:List Nat}{w0 w:World}{fr:List Pr}{ow:List It}{v:Value}{k:Nat}{xs:List Occurrence}{x:Occurrence}(H:HL F0 M w0 w fr ow)(i:Nat)(hx:xs[k]? = some x)(hi:fr[i]? = some (Pr.S xs v):=by exact rfl):∃ b o c,v = .slice (some ⟨b,o,none⟩) xs.length c∧I64 x.Pos∧x.Name.size≤9223372036854775807∧HL F0 M w0 w (fr++[Pr.A b (o+k*2) [.int .i64 x.Pos,.string x.Name],Pr.R x [.int .i64 x.Pos,.string x.Name]]) ow:=by
 obtain⟨b,o,c,cs,hv,hr,H⟩:=H.ixS hi hx
 obtain⟨rfl,h0,h1⟩:=hr
 exact⟨b,o,c,hv,h0,h1,H⟩
theorem q6o {F0:Nat→Prop}{M:List Nat}{w0 w:World}{fr:List Pr}{ow:List It}{v:Value}{e k b:Nat}{xs:List Occurrence}{x:Occurrence}(H:HL F0 M w0 w fr ow)(i:Nat)(hx:xs[k]? = some x)(hb:v.ownBlock=some b)(hi:ow[i]? = some (It.O e xs v):=by exact rfl):At w b (0+k*2) [.int .i64 x.Pos,.string x.Name]∧I64 x.Pos∧x.Name.size≤9223372036854775807∧HL F0 M w0 w (fr++[Pr.R x [.int .i64 x.Pos,.string x.Name]]) ow:=by
 obtain⟨cs,hA,hr,H⟩:=H.elO hi hx hb
 obtain⟨rfl,h0,h1⟩:=hr
 exact⟨hA,h0,h1,H⟩
theorem q3q {F0:Nat→Prop}{M:List Nat}{w0 w:World}{fr:List Pr}{ow:List It}{x:Expr}{cs:List Value}(H:HL F0 M w0 w fr ow)(i:Nat)(hi:fr[i]? = some (Pr.R x cs):=by exact rfl):∃ A6:Option Addr,∃ n6 c6:Nat,cs=[.int .i64 x.Kind,.int .i64 x.N,.int .i64 x.Pos,.int .i64 x.Type_,.string x.Symbol,.string x.Name,.slice A6 n6 c6]∧I64 x.Kind∧I64 x.N∧I64 x.Pos∧I64 x.Type_∧x.Symbol.size≤9223372036854775807∧x.Name.size≤9223372036854775807∧HL F0 M w0 w (fr++[Pr.S x.Args (.slice A6 n6 c6)]) ow:=by
 have hr:=H.rR hi
 obtain⟨v6,rfl,h0,h1,h2,h3,h4,h5,s6⟩:=(q2r.1 hr)
 obtain⟨A6,n6,c6,rfl⟩:=s6.form3
 exact⟨A6,n6,c6,rfl,h0,h1,h2,h3,h4,h5,H.more (ps:=[Pr.S x.Args (.slice A6 n6 c6)]) (i:=i) (p:=Pr.R x [.int .i64 x.Kind,.int .i64 x.N,.int .i64 x.Pos,.int .i64 x.Type_,.string x.Symbol,.string x.Name,.slice A6 n6 c6]) hi fun F h=>by
  obtain⟨w6,e,h0,h1,h2,h3,h4,h5,s6⟩:=(q2r.1 h)
  simp only [List.cons.injEq,and_true,true_and] at e
  obtain rfl:=e
  exact⟨s6,trivial⟩⟩
theorem q4f {F0:Nat→Prop}{M:List Nat}{w0 w:World}{fr:List Pr}{ow:List It}{v:Value}{k:Nat}{xs:List Expr}{x:Expr}(H:HL F0 M w0 w fr ow)(i:Nat)(hx:xs[k]? = some x)(hi:fr[i]? = some (Pr.S xs v):=by exact rfl):∃ b o c,∃ A6:Option Addr,∃ n6 c6:Nat,v = .slice (some ⟨b,o,none⟩) xs.length c∧I64 x.Kind∧I64 x.N∧I64 x.Pos∧I64 x.Type_∧x.Symbol.size≤9223372036854775807∧x.Name.size≤9223372036854775807∧HL F0 M w0 w (fr++[Pr.A b (o+k*7) [.int .i64 x.Kind,.int .i64 x.N,.int .i64 x.Pos,.int .i64 x.Type_,.string x.Symbol,.string x.Name,.slice A6 n6 c6],Pr.R x [.int .i64 x.Kind,.int .i64 x.N,.int .i64 x.Pos,.int .i64 x.Type_,.string x.Symbol,.string x.Name,.slice A6 n6 c6],Pr.S x.Args (.slice A6 n6 c6)]) ow:=by
 obtain⟨b,o,c,cs,hv,hr,H⟩:=H.ixS hi hx
 obtain⟨v6,rfl,h0,h1,h2,h3,h4,h5,s6⟩:=(q2r.1 hr)
 obtain⟨A6,n6,c6,rfl⟩:=s6.form3
 exact⟨b,o,c,A6,n6,c6,hv,h0,h1,h2,h3,h4,h5,by
  have H:=H.more (ps:=[Pr.S x.Args (.slice A6 n6 c6)]) (i:=fr.length+1) (p:=Pr.R x [.int .i64 x.Kind,.int .i64 x.N,.int .i64 x.Pos,.int .i64 x.Type_,.string x.Symbol,.string x.Name,.slice A6 n6 c6]) (by simp) fun F h=>by
    obtain⟨w6,e,h0,h1,h2,h3,h4,h5,s6⟩:=(q2r.1 h)
    simp only [List.cons.injEq,and_true,true_and] at e
    obtain rfl:=e
    exact⟨s6,trivial⟩
  rwa [List.append_assoc] at H⟩
theorem q8p {F0:Nat→Prop}{M:List Nat}{w0 w:World}{fr:List Pr}{ow:List It}{x:Equation}{cs:List Value}(H:HL F0 M w0 w fr ow)(i:Nat)(hi:fr[i]? = some (Pr.R x cs):=by exact rfl):∃ A8:Option Addr,∃ n8 c8:Nat,cs=[.int .i64 x.At.Pos,.string x.At.Name,.int .i64 x.Expr.Kind,.int .i64 x.Expr.N,.int .i64 x.Expr.Pos,.int .i64 x.Expr.Type_,.string x.Expr.Symbol,.string x.Expr.Name,.slice A8 n8 c8]∧I64 x.At.Pos∧x.At.Name.size≤9223372036854775807∧I64 x.Expr.Kind∧I64 x.Expr.N∧I64 x.Expr.Pos∧I64 x.Expr.Type_∧x.Expr.Symbol.size≤9223372036854775807∧x.Expr.Name.size≤9223372036854775807∧HL F0 M w0 w (fr++[Pr.S x.Expr.Args (.slice A8 n8 c8)]) ow:=by
 have hr:=H.rR hi
 obtain⟨v8,rfl,h0,h1,h2,h3,h4,h5,h6,h7,s8⟩:=hr
 obtain⟨A8,n8,c8,rfl⟩:=s8.form3
 exact⟨A8,n8,c8,rfl,h0,h1,h2,h3,h4,h5,h6,h7,H.more (ps:=[Pr.S x.Expr.Args (.slice A8 n8 c8)]) (i:=i) (p:=Pr.R x [.int .i64 x.At.Pos,.string x.At.Name,.int .i64 x.Expr.Kind,.int .i64 x.Expr.N,.int .i64 x.Expr.Pos,.int .i64 x.Expr.Type_,.string x.Expr.Symbol,.string x.Expr.Name,.slice A8 n8 c8]) hi fun F h=>by
  obtain⟨w8,e,h0,h1,h2,h3,h4,h5,h6,h7,s8⟩:=h
  simp only [List.cons.injEq,and_true,true_and] at e
  obtain rfl:=e
  exact⟨s8,trivial⟩⟩
theorem q3P {F0:Nat→Prop}{M:List Nat}{w0 w:World}{fr:List Pr}{ow:List It}{v:Value}{k:Nat}{xs:List Equation}{x:Equation}(H:HL F0 M w0 w fr ow)(i:Nat)(hx:xs[k]? = some x)(hi:fr[i]? = some (Pr.S xs v):=by exact rfl):∃ b o c,∃ A8:Option Addr,∃ n8 c8:Nat,v = .slice (some ⟨b,o,none⟩) xs.length c∧I64 x.At.Pos∧x.At.Name.size≤9223372036854775807∧I64 x.Expr.Kind∧I64 x.Expr.N∧I64 x.Expr.Pos∧I64 x.Expr.Type_∧x.Expr.Symbol.size≤9223372036854775807∧x.Expr.Name.size≤9223372036854775807∧HL F0 M w0 w (fr++[Pr.A b (o+k*9) [.int .i64 x.At.Pos,.string x.At.Name,.int .i64 x.Expr.Kind,.int .i64 x.Expr.N,.int .i64 x.Expr.Pos,.int .i64 x.Expr.Type_,.string x.Expr.Symbol,.string x.Expr.Name,.slice A8 n8 c8],Pr.R x [.int .i64 x.At.Pos,.string x.At.Name,.int .i64 x.Expr.Kind,.int .i64 x.Expr.N,.int .i64 x.Expr.Pos,.int .i64 x.Expr.Type_,.string x.Expr.Symbol,.string x.Expr.Name,.slice A8 n8 c8],Pr.S x.Expr.Args (.slice A8 n8 c8)]) ow:=by
 obtain⟨b,o,c,cs,hv,hr,H⟩:=H.ixS hi hx
 obtain⟨v8,rfl,h0,h1,h2,h3,h4,h5,h6,h7,s8⟩:=hr
 obtain⟨A8,n8,c8,rfl⟩:=s8.form3
 exact⟨b,o,c,A8,n8,c8,hv,h0,h1,h2,h3,h4,h5,h6,h7,by
  have H:=H.more (ps:=[Pr.S x.Expr.Args (.slice A8 n8 c8)]) (i:=fr.length+1) (p:=Pr.R x [.int .i64 x.At.Pos,.string x.At.Name,.int .i64 x.Expr.Kind,.int .i64 x.Expr.N,.int .i64 x.Expr.Pos,.int .i64 x.Expr.Type_,.string x.Expr.Symbol,.string x.Expr.Name,.slice A8 n8 c8]) (by simp) fun F h=>by
    obtain⟨w8,e,h0,h1,h2,h3,h4,h5,h6,h7,s8⟩:=h
    simp only [List.cons.injEq,and_true,true_and] at e
    obtain rfl:=e
    exact⟨s8,trivial⟩
  rwa [List.append_assoc] at H⟩
theorem q8C {F0:Nat→Prop}{M:List Nat}{w0 w:World}{fr:List Pr}{ow:List It}{x:Contribution}{cs:List Value}(H:HL F0 M w0 w fr ow)(i:Nat)(hi:fr[i]? = some (Pr.R x cs):=by exact rfl):∃ A8:Option Addr,∃ n8 c8:Nat,∃ A15:Option Addr,∃ n15 c15:Nat,cs=[.string x.Symbol,.string x.Name,.int .i64 x.Target.Kind,.int .i64 x.Target.N,.int .i64 x.Target.Pos,.int .i64 x.Target.Type_,.string x.Target.Symbol,.string x.Target.Name,.slice A8 n8 c8,.int .i64 x.Value.Kind,.int .i64 x.Value.N,.int .i64 x.Value.Pos,.int .i64 x.Value.Type_,.string x.Value.Symbol,.string x.Value.Name,.slice A15 n15 c15]∧x.Symbol.size≤9223372036854775807∧x.Name.size≤9223372036854775807∧I64 x.Target.Kind∧I64 x.Target.N∧I64 x.Target.Pos∧I64 x.Target.Type_∧x.Target.Symbol.size≤9223372036854775807∧x.Target.Name.size≤9223372036854775807∧I64 x.Value.Kind∧I64 x.Value.N∧I64 x.Value.Pos∧I64 x.Value.Type_∧x.Value.Symbol.size≤9223372036854775807∧x.Value.Name.size≤9223372036854775807∧HL F0 M w0 w (fr++[Pr.S x.Target.Args (.slice A8 n8 c8),Pr.S x.Value.Args (.slice A15 n15 c15)]) ow:=by
 have hr:=H.rR hi
 obtain⟨v8,v15,rfl,h0,h1,h2,h3,h4,h5,h6,h7,h9,h10,h11,h12,h13,h14,s8,s15⟩:=hr
 obtain⟨A8,n8,c8,rfl⟩:=s8.form3
 obtain⟨A15,n15,c15,rfl⟩:=s15.form3
 exact⟨A8,n8,c8,A15,n15,c15,rfl,h0,h1,h2,h3,h4,h5,h6,h7,h9,h10,h11,h12,h13,h14,H.more (ps:=[Pr.S x.Target.Args (.slice A8 n8 c8),Pr.S x.Value.Args (.slice A15 n15 c15)]) (i:=i) (p:=Pr.R x [.string x.Symbol,.string x.Name,.int .i64 x.Target.Kind,.int .i64 x.Target.N,.int .i64 x.Target.Pos,.int .i64 x.Target.Type_,.string x.Target.Symbol,.string x.Target.Name,.slice A8 n8 c8,.int .i64 x.Value.Kind,.int .i64 x.Value.N,.int .i64 x.Value.Pos,.int .i64 x.Value.Type_,.string x.Value.Symbol,.string x.Value.Name,.slice A15 n15 c15]) hi fun F h=>by
  obtain⟨w8,w15,e,h0,h1,h2,h3,h4,h5,h6,h7,h9,h10,h11,h12,h13,h14,s8,s15⟩:=h
  simp only [List.cons.injEq,and_true,true_and] at e
  obtain⟨rfl,rfl⟩:=e
  exact⟨s8,s15,trivial⟩⟩
theorem q3V {F0:Nat→Prop}{M:List Nat}{w0 w:World}{fr:List Pr}{ow:List It}{v:Value}{k:Nat}{xs:List Contribution}{x:Contribution}(H:HL F0 M w0 w fr ow)(i:Nat)(hx:xs[k]? = some x)(hi:fr[i]? = some (Pr.S xs v):=by exact rfl):∃ b o c,∃ A8:Option Addr,∃ n8 c8:Nat,∃ A15:Option Addr,∃ n15 c15:Nat,v = .slice (some ⟨b,o,none⟩) xs.length c∧x.Symbol.size≤9223372036854775807∧x.Name.size≤9223372036854775807∧I64 x.Target.Kind∧I64 x.Target.N∧I64 x.Target.Pos∧I64 x.Target.Type_∧x.Target.Symbol.size≤9223372036854775807∧x.Target.Name.size≤9223372036854775807∧I64 x.Value.Kind∧I64 x.Value.N∧I64 x.Value.Pos∧I64 x.Value.Type_∧x.Value.Symbol.size≤9223372036854775807∧x.Value.Name.size≤9223372036854775807∧HL F0 M w0 w (fr++[Pr.A b (o+k*16) [.string x.Symbol,.string x.Name,.int .i64 x.Target.Kind,.int .i64 x.Target.N,.int .i64 x.Target.Pos,.int .i64 x.Target.Type_,.string x.Target.Symbol,.string x.Target.Name,.slice A8 n8 c8,.int .i64 x.Value.Kind,.int .i64 x.Value.N,.int .i64 x.Value.Pos,.int .i64 x.Value.Type_,.string x.Value.Symbol,.string x.Value.Name,.slice A15 n15 c15],Pr.R x [.string x.Symbol,.string x.Name,.int .i64 x.Target.Kind,.int .i64 x.Target.N,.int .i64 x.Target.Pos,.int .i64 x.Target.Type_,.string x.Target.Symbol,.string x.Target.Name,.slice A8 n8 c8,.int .i64 x.Value.Kind,.int .i64 x.Value.N,.int .i64 x.Value.Pos,.int .i64 x.Value.Type_,.string x.Value.Symbol,.string x.Value.Name,.slice A15 n15 c15],Pr.S x.Target.Args (.slice A8 n8 c8),Pr.S x.Value.Args (.slice A15 n15 c15)]) ow:=by
 obtain⟨b,o,c,cs,hv,hr,H⟩:=H.ixS hi hx
 obtain⟨v8,v15,rfl,h0,h1,h2,h3,h4,h5,h6,h7,h9,h10,h11,h12,h13,h14,s8,s15⟩:=hr
 obtain⟨A8,n8,c8,rfl⟩:=s8.form3
 obtain⟨A15,n15,c15,rfl⟩:=s15.form3
 exact⟨b,o,c,A8,n8,c8,A15,n15,c15,hv,h0,h1,h2,h3,h4,h5,h6,h7,h9,h10,h11,h12,h13,h14,by
  have H:=H.more (ps:=[Pr.S x.Target.Args (.slice A8 n8 c8),Pr.S x.Value.Args (.slice A15 n15 c15)]) (i:=fr.length+1) (p:=Pr.R x [.string x.Symbol,.string x.Name,.int .i64 x.Target.Kind,.int .i64 x.Target.N,.int .i64 x.Target.Pos,.int .i64 x.Target.Type_,.string x.Target.Symbol,.string x.Target.Name,.slice A8 n8 c8,.int .i64 x.Value.Kind,.int .i64 x.Value.N,.int .i64 x.Value.Pos,.int .i64 x.Value.Type_,.string x.Value.Symbol,.string x.Value.Name,.slice A15 n15 c15]) (by simp) fun F h=>by
    obtain⟨w8,w15,e,h0,h1,h2,h3,h4,h5,h6,h7,h9,h10,h11,h12,h13,h14,s8,s15⟩:=h
    simp only [List.cons.injEq,and_true,true_and] at e
    obtain⟨rfl,rfl⟩:=e
    exact⟨s8,s15,trivial⟩
  rwa [List.append_assoc] at H⟩
theorem q3j {F0:Nat→Prop}{M:List Nat}{w0 w:World}{fr:List Pr}{ow:List It}{x:Rule}{cs:List Value}(H:HL F0 M w0 w fr ow)(i:Nat)(hi:fr[i]? = some (Pr.R x cs):=by exact rfl):∃ A2:Option Addr,∃ n2 c2:Nat,∃ A4:Option Addr,∃ n4 c4:Nat,∃ A5:Option Addr,∃ n5 c5:Nat,cs=[.string x.Name,.string x.Left,.slice A2 n2 c2,.bool x.Literal,.slice A4 n4 c4,.slice A5 n5 c5]∧x.Name.size≤9223372036854775807∧x.Left.size≤9223372036854775807∧HL F0 M w0 w (fr++[Pr.S x.Right (.slice A2 n2 c2),Pr.S x.Equations (.slice A4 n4 c4),Pr.S x.Contributions (.slice A5 n5 c5)]) ow:=by
 have hr:=H.rR hi
 obtain⟨v2,v4,v5,rfl,h0,h1,s2,s4,s5⟩:=hr
 obtain⟨A2,n2,c2,rfl⟩:=s2.form3
 obtain⟨A4,n4,c4,rfl⟩:=s4.form3
 obtain⟨A5,n5,c5,rfl⟩:=s5.form3
 exact⟨A2,n2,c2,A4,n4,c4,A5,n5,c5,rfl,h0,h1,H.more (ps:=[Pr.S x.Right (.slice A2 n2 c2),Pr.S x.Equations (.slice A4 n4 c4),Pr.S x.Contributions (.slice A5 n5 c5)]) (i:=i) (p:=Pr.R x [.string x.Name,.string x.Left,.slice A2 n2 c2,.bool x.Literal,.slice A4 n4 c4,.slice A5 n5 c5]) hi fun F h=>by
  obtain⟨w2,w4,w5,e,h0,h1,s2,s4,s5⟩:=h
  simp only [List.cons.injEq,and_true,true_and] at e
  obtain⟨rfl,rfl,rfl⟩:=e
  exact⟨s2,s4,s5,trivial⟩⟩
theorem q6N {F0:Nat→Prop}{M:List Nat}{w0 w:World}{fr:List Pr}{ow:List It}{v:Value}{k:Nat}{xs:List Rule}{x:Rule}(H:HL F0 M w0 w fr ow)(i:Nat)(hx:xs[k]? = some x)(hi:fr[i]? = some (Pr.S xs v):=by exact rfl):∃ b o c,∃ A2:Option Addr,∃ n2 c2:Nat,∃ A4:Option Addr,∃ n4 c4:Nat,∃ A5:Option Addr,∃ n5 c5:Nat,v = .slice (some ⟨b,o,none⟩) xs.length c∧x.Name.size≤9223372036854775807∧x.Left.size≤9223372036854775807∧HL F0 M w0 w (fr++[Pr.A b (o+k*6) [.string x.Name,.string x.Left,.slice A2 n2 c2,.bool x.Literal,.slice A4 n4 c4,.slice A5 n5 c5],Pr.R x [.string x.Name,.string x.Left,.slice A2 n2 c2,.bool x.Literal,.slice A4 n4 c4,.slice A5 n5 c5],Pr.S x.Right (.slice A2 n2 c2),Pr.S x.Equations (.slice A4 n4 c4),Pr.S x.Contributions (.slice A5 n5 c5)]) ow:=by
 obtain⟨b,o,c,cs,hv,hr,H⟩:=H.ixS hi hx
 obtain⟨v2,v4,v5,rfl,h0,h1,s2,s4,s5⟩:=hr
 obtain⟨A2,n2,c2,rfl⟩:=s2.form3
 obtain⟨A4,n4,c4,rfl⟩:=s4.form3
 obtain⟨A5,n5,c5,rfl⟩:=s5.form3
 exact⟨b,o,c,A2,n2,c2,A4,n4,c4,A5,n5,c5,hv,h0,h1,by
  have H:=H.more (ps:=[Pr.S x.Right (.slice A2 n2 c2),Pr.S x.Equations (.slice A4 n4 c4),Pr.S x.Contributions (.slice A5 n5 c5)]) (i:=fr.length+1) (p:=Pr.R x [.string x.Name,.string x.Left,.slice A2 n2 c2,.bool x.Literal,.slice A4 n4 c4,.slice A5 n5 c5]) (by simp) fun F h=>by
    obtain⟨w2,w4,w5,e,h0,h1,s2,s4,s5⟩:=h
    simp only [List.cons.injEq,and_true,true_and] at e
    obtain⟨rfl,rfl,rfl⟩:=e
    exact⟨s2,s4,s5,trivial⟩
  rwa [List.append_assoc] at H⟩
theorem q2s {F0:Nat→Prop}{M:List Nat}{w0 w:World}{fr:List Pr}{ow:List It}{x:Grammar}{cs:List Value}(H:HL F0 M w0 w fr ow)(i:Nat)(hi:fr[i]? = some (Pr.R x cs):=by exact rfl):∃ A0:Option Addr,∃ n0 c0:Nat,∃ A1:Option Addr,∃ n1 c1:Nat,cs=[.slice A0 n0 c0,.slice A1 n1 c1]∧HL F0 M w0 w (fr++[Pr.S x.Symbols (.slice A0 n0 c0),Pr.S x.Rules (.slice A1 n1 c1)]) ow:=by
 have hr:=H.rR hi
 obtain⟨v0,v1,rfl,s0,s1⟩:=hr
 obtain⟨A0,n0,c0,rfl⟩:=s0.form3
 obtain⟨A1,n1,c1,rfl⟩:=s1.form3
 exact⟨A0,n0,c0,A1,n1,c1,rfl,H.more (ps:=[Pr.S x.Symbols (.slice A0 n0 c0),Pr.S x.Rules (.slice A1 n1 c1)]) (i:=i) (p:=Pr.R x [.slice A0 n0 c0,.slice A1 n1 c1]) hi fun F h=>by
  obtain⟨w0,w1,e,s0,s1⟩:=h
  simp only [List.cons.injEq,and_true,true_and] at e
  obtain⟨rfl,rfl⟩:=e
  exact⟨s0,s1,trivial⟩⟩
theorem j0N {F0:Nat→Prop}{M:List Nat}{w0 w:World}{fr:List Pr}{ow:List It}{x:Step}{cs:List Value}(H:HL F0 M w0 w fr ow)(i:Nat)(hi:fr[i]? = some (Pr.R x cs):=by exact rfl):cs=[.int .i64 x.Kind,.int .i64 x.Pos,.int .i64 x.Visit,.string x.Name]∧I64 x.Kind∧I64 x.Pos∧I64 x.Visit∧x.Name.size≤9223372036854775807∧HL F0 M w0 w (fr++[]) ow:=by
 have hr:=H.rR hi
 obtain⟨rfl,h0,h1,h2,h3⟩:=hr
 exact⟨rfl,h0,h1,h2,h3,by simpa using H⟩
theorem z4z {F0:Nat→Prop}{M:List Nat}{w0 w:World}{fr:List Pr}{ow:List It}{v:Value}{k:Nat}{xs:List Step}{x:Step}(H:HL F0 M w0 w fr ow)(i:Nat)(hx:xs[k]? = some x)(hi:fr[i]? = some (Pr.S xs v):=by exact rfl):∃ b o c,v = .slice (some ⟨b,o,none⟩) xs.length c∧I64 x.Kind∧I64 x.Pos∧I64 x.Visit∧x.Name.size≤9223372036854775807∧HL F0 M w0 w (fr++[Pr.A b (o+k*4) [.int .i64 x.Kind,.int .i64 x.Pos,.int .i64 x.Visit,.string x.Name],Pr.R x [.int .i64 x.Kind,.int .i64 x.Pos,.int .i64 x.Visit,.string x.Name]]) ow:=by
 obtain⟨b,o,c,cs,hv,hr,H⟩:=H.ixS hi hx
 obtain⟨rfl,h0,h1,h2,h3⟩:=hr
 exact⟨b,o,c,hv,h0,h1,h2,h3,H⟩
theorem z2B {F0:Nat→Prop}{M:List Nat}{w0 w:World}{fr:List Pr}{ow:List It}{x:RulePlan}{cs:List Value}(H:HL F0 M w0 w fr ow)(i:Nat)(hi:fr[i]? = some (Pr.R x cs):=by exact rfl):∃ A1:Option Addr,∃ n1 c1:Nat,cs=[.string x.Rule,.slice A1 n1 c1]∧x.Rule.size≤9223372036854775807∧HL F0 M w0 w (fr++[Pr.S x.Steps (.slice A1 n1 c1)]) ow:=by
 have hr:=H.rR hi
 obtain⟨v1,rfl,h0,s1⟩:=hr
 obtain⟨A1,n1,c1,rfl⟩:=s1.form3
 exact⟨A1,n1,c1,rfl,h0,H.more (ps:=[Pr.S x.Steps (.slice A1 n1 c1)]) (i:=i) (p:=Pr.R x [.string x.Rule,.slice A1 n1 c1]) hi fun F h=>by
  obtain⟨w1,e,h0,s1⟩:=h
  simp only [List.cons.injEq,and_true,true_and] at e
  obtain rfl:=e
  exact⟨s1,trivial⟩⟩
theorem q8x {F0:Nat→Prop}{M:List Nat}{w0 w:World}{fr:List Pr}{ow:List It}{v:Value}{k:Nat}{xs:List RulePlan}{x:RulePlan}(H:HL F0 M w0 w fr ow)(i:Nat)(hx:xs[k]? = some x)(hi:fr[i]? = some (Pr.S xs v):=by exact rfl):∃ b o c,∃ A1:Option Addr,∃ n1 c1:Nat,v = .slice (some ⟨b,o,none⟩) xs.length c∧x.Rule.size≤9223372036854775807∧HL F0 M w0 w (fr++[Pr.A b (o+k*2) [.string x.Rule,.slice A1 n1 c1],Pr.R x [.string x.Rule,.slice A1 n1 c1],Pr.S x.Steps (.slice A1 n1 c1)]) ow:=by
 obtain⟨b,o,c,cs,hv,hr,H⟩:=H.ixS hi hx
 obtain⟨v1,rfl,h0,s1⟩:=hr
 obtain⟨A1,n1,c1,rfl⟩:=s1.form3
 exact⟨b,o,c,A1,n1,c1,hv,h0,by
  have H:=H.more (ps:=[Pr.S x.Steps (.slice A1 n1 c1)]) (i:=fr.length+1) (p:=Pr.R x [.string x.Rule,.slice A1 n1 c1]) (by simp) fun F h=>by
    obtain⟨w1,e,h0,s1⟩:=h
    simp only [List.cons.injEq,and_true,true_and] at e
    obtain rfl:=e
    exact⟨s1,trivial⟩
  rwa [List.append_assoc] at H⟩
theorem z8n {F0:Nat→Prop}{M:List Nat}{w0 w:World}{fr:List Pr}{ow:List It}{x:Phase}{cs:List Value}(H:HL F0 M w0 w fr ow)(i:Nat)(hi:fr[i]? = some (Pr.R x cs):=by exact rfl):∃ A0:Option Addr,∃ n0 c0:Nat,∃ A1:Option Addr,∃ n1 c1:Nat,cs=[.slice A0 n0 c0,.slice A1 n1 c1]∧HL F0 M w0 w (fr++[Pr.S x.Inherited (.slice A0 n0 c0),Pr.S x.Synthesized (.slice A1 n1 c1)]) ow:=by
 have hr:=H.rR hi
 obtain⟨v0,v1,rfl,s0,s1⟩:=hr
 obtain⟨A0,n0,c0,rfl⟩:=s0.form3
 obtain⟨A1,n1,c1,rfl⟩:=s1.form3
 exact⟨A0,n0,c0,A1,n1,c1,rfl,H.more (ps:=[Pr.S x.Inherited (.slice A0 n0 c0),Pr.S x.Synthesized (.slice A1 n1 c1)]) (i:=i) (p:=Pr.R x [.slice A0 n0 c0,.slice A1 n1 c1]) hi fun F h=>by
  obtain⟨w0,w1,e,s0,s1⟩:=h
  simp only [List.cons.injEq,and_true,true_and] at e
  obtain⟨rfl,rfl⟩:=e
  exact⟨s0,s1,trivial⟩⟩
theorem q5M {F0:Nat→Prop}{M:List Nat}{w0 w:World}{fr:List Pr}{ow:List It}{v:Value}{k:Nat}{xs:List Phase}{x:Phase}(H:HL F0 M w0 w fr ow)(i:Nat)(hx:xs[k]? = some x)(hi:fr[i]? = some (Pr.S xs v):=by exact rfl):∃ b o c,∃ A0:Option Addr,∃ n0 c0:Nat,∃ A1:Option Addr,∃ n1 c1:Nat,v = .slice (some ⟨b,o,none⟩) xs.length c∧HL F0 M w0 w (fr++[Pr.A b (o+k*2) [.slice A0 n0 c0,.slice A1 n1 c1],Pr.R x [.slice A0 n0 c0,.slice A1 n1 c1],Pr.S x.Inherited (.slice A0 n0 c0),Pr.S x.Synthesized (.slice A1 n1 c1)]) ow:=by
 obtain⟨b,o,c,cs,hv,hr,H⟩:=H.ixS hi hx
 obtain⟨v0,v1,rfl,s0,s1⟩:=hr
 obtain⟨A0,n0,c0,rfl⟩:=s0.form3
 obtain⟨A1,n1,c1,rfl⟩:=s1.form3
 exact⟨b,o,c,A0,n0,c0,A1,n1,c1,hv,by
  have H:=H.more (ps:=[Pr.S x.Inherited (.slice A0 n0 c0),Pr.S x.Synthesized (.slice A1 n1 c1)]) (i:=fr.length+1) (p:=Pr.R x [.slice A0 n0 c0,.slice A1 n1 c1]) (by simp) fun F h=>by
    obtain⟨w0,w1,e,s0,s1⟩:=h
    simp only [List.cons.injEq,and_true,true_and] at e
    obtain⟨rfl,rfl⟩:=e
    exact⟨s0,s1,trivial⟩
  rwa [List.append_assoc] at H⟩
theorem z6N {F0:Nat→Prop}{M:List Nat}{w0 w:World}{fr:List Pr}{ow:List It}{x:l28Work}{cs:List Value}(H:HL F0 M w0 w fr ow)(i:Nat)(hi:fr[i]? = some (Pr.R x cs):=by exact rfl):∃ A0:Option Addr,∃ n0 c0:Nat,∃ A1:Option Addr,∃ n1 c1:Nat,∃ A4:Option Addr,∃ n4 c4:Nat,∃ A6:Option Addr,∃ n6 c6:Nat,∃ A7:Option Addr,∃ n7 c7:Nat,∃ A8:Option Addr,∃ n8 c8:Nat,∃ A9:Option Addr,∃ n9 c9:Nat,∃ A10:Option Addr,∃ n10 c10:Nat,∃ A11:Option Addr,∃ n11 c11:Nat,cs=[.slice A0 n0 c0,.slice A1 n1 c1,.string x.r.Name,.string x.r.Left,.slice A4 n4 c4,.bool x.r.Literal,.slice A6 n6 c6,.slice A7 n7 c7,.slice A8 n8 c8,.slice A9 n9 c9,.slice A10 n10 c10,.slice A11 n11 c11]∧x.r.Name.size≤9223372036854775807∧x.r.Left.size≤9223372036854775807∧HL F0 M w0 w (fr++[Pr.S x.g.Symbols (.slice A0 n0 c0),Pr.S x.g.Rules (.slice A1 n1 c1),Pr.S x.r.Right (.slice A4 n4 c4),Pr.S x.r.Equations (.slice A6 n6 c6),Pr.S x.r.Contributions (.slice A7 n7 c7),Pr.S x.phases (.slice A8 n8 c8),Pr.S x.known (.slice A9 n9 c9),Pr.S x.visits (.slice A10 n10 c10),Pr.S x.steps (.slice A11 n11 c11)]) ow:=by
 have hr:=H.rR hi
 obtain⟨v0,v1,v4,v6,v7,v8,v9,v10,v11,rfl,h2,h3,s0,s1,s4,s6,s7,s8,s9,s10,s11⟩:=hr
 obtain⟨A0,n0,c0,rfl⟩:=s0.form3
 obtain⟨A1,n1,c1,rfl⟩:=s1.form3
 obtain⟨A4,n4,c4,rfl⟩:=s4.form3
 obtain⟨A6,n6,c6,rfl⟩:=s6.form3
 obtain⟨A7,n7,c7,rfl⟩:=s7.form3
 obtain⟨A8,n8,c8,rfl⟩:=s8.form3
 obtain⟨A9,n9,c9,rfl⟩:=s9.form3
 obtain⟨A10,n10,c10,rfl⟩:=s10.form3
 obtain⟨A11,n11,c11,rfl⟩:=s11.form3
 exact⟨A0,n0,c0,A1,n1,c1,A4,n4,c4,A6,n6,c6,A7,n7,c7,A8,n8,c8,A9,n9,c9,A10,n10,c10,A11,n11,c11,rfl,h2,h3,H.more (ps:=[Pr.S x.g.Symbols (.slice A0 n0 c0),Pr.S x.g.Rules (.slice A1 n1 c1),Pr.S x.r.Right (.slice A4 n4 c4),Pr.S x.r.Equations (.slice A6 n6 c6),Pr.S x.r.Contributions (.slice A7 n7 c7),Pr.S x.phases (.slice A8 n8 c8),Pr.S x.known (.slice A9 n9 c9),Pr.S x.visits (.slice A10 n10 c10),Pr.S x.steps (.slice A11 n11 c11)]) (i:=i) (p:=Pr.R x [.slice A0 n0 c0,.slice A1 n1 c1,.string x.r.Name,.string x.r.Left,.slice A4 n4 c4,.bool x.r.Literal,.slice A6 n6 c6,.slice A7 n7 c7,.slice A8 n8 c8,.slice A9 n9 c9,.slice A10 n10 c10,.slice A11 n11 c11]) hi fun F h=>by
  obtain⟨w0,w1,w4,w6,w7,w8,w9,w10,w11,e,h2,h3,s0,s1,s4,s6,s7,s8,s9,s10,s11⟩:=h
  simp only [List.cons.injEq,and_true,true_and] at e
  obtain⟨rfl,rfl,rfl,rfl,rfl,rfl,rfl,rfl,rfl⟩:=e
  exact⟨s0,s1,s4,s6,s7,s8,s9,s10,s11,trivial⟩⟩
theorem q6f {F0:Nat→Prop}{M:List Nat}{w0 w:World}{fr:List Pr}{ow:List It}{x:visits}{cs:List Value}(H:HL F0 M w0 w fr ow)(i:Nat)(hi:fr[i]? = some (Pr.R x cs):=by exact rfl):∃ A0:Option Addr,∃ n0 c0:Nat,∃ A1:Option Addr,∃ n1 c1:Nat,∃ A2:Option Addr,∃ n2 c2:Nat,∃ A5:Option Addr,∃ n5 c5:Nat,∃ A7:Option Addr,∃ n7 c7:Nat,∃ A8:Option Addr,∃ n8 c8:Nat,∃ A9:Option Addr,∃ n9 c9:Nat,∃ A10:Option Addr,∃ n10 c10:Nat,∃ A11:Option Addr,∃ n11 c11:Nat,cs=[.slice A0 n0 c0,.slice A1 n1 c1,.slice A2 n2 c2,.string x.r.Name,.string x.r.Left,.slice A5 n5 c5,.bool x.r.Literal,.slice A7 n7 c7,.slice A8 n8 c8,.slice A9 n9 c9,.slice A10 n10 c10,.slice A11 n11 c11]∧x.r.Name.size≤9223372036854775807∧x.r.Left.size≤9223372036854775807∧HL F0 M w0 w (fr++[Pr.S x.g.Symbols (.slice A0 n0 c0),Pr.S x.g.Rules (.slice A1 n1 c1),Pr.S x.phases (.slice A2 n2 c2),Pr.S x.r.Right (.slice A5 n5 c5),Pr.S x.r.Equations (.slice A7 n7 c7),Pr.S x.r.Contributions (.slice A8 n8 c8),Pr.S x.due (.slice A9 n9 c9),Pr.S x.known (.slice A10 n10 c10),Pr.S x.next (.slice A11 n11 c11)]) ow:=by
 have hr:=H.rR hi
 obtain⟨v0,v1,v2,v5,v7,v8,v9,v10,v11,rfl,h3,h4,s0,s1,s2,s5,s7,s8,s9,s10,s11⟩:=hr
 obtain⟨A0,n0,c0,rfl⟩:=s0.form3
 obtain⟨A1,n1,c1,rfl⟩:=s1.form3
 obtain⟨A2,n2,c2,rfl⟩:=s2.form3
 obtain⟨A5,n5,c5,rfl⟩:=s5.form3
 obtain⟨A7,n7,c7,rfl⟩:=s7.form3
 obtain⟨A8,n8,c8,rfl⟩:=s8.form3
 obtain⟨A9,n9,c9,rfl⟩:=s9.form3
 obtain⟨A10,n10,c10,rfl⟩:=s10.form3
 obtain⟨A11,n11,c11,rfl⟩:=s11.form3
 exact⟨A0,n0,c0,A1,n1,c1,A2,n2,c2,A5,n5,c5,A7,n7,c7,A8,n8,c8,A9,n9,c9,A10,n10,c10,A11,n11,c11,rfl,h3,h4,H.more (ps:=[Pr.S x.g.Symbols (.slice A0 n0 c0),Pr.S x.g.Rules (.slice A1 n1 c1),Pr.S x.phases (.slice A2 n2 c2),Pr.S x.r.Right (.slice A5 n5 c5),Pr.S x.r.Equations (.slice A7 n7 c7),Pr.S x.r.Contributions (.slice A8 n8 c8),Pr.S x.due (.slice A9 n9 c9),Pr.S x.known (.slice A10 n10 c10),Pr.S x.next (.slice A11 n11 c11)]) (i:=i) (p:=Pr.R x [.slice A0 n0 c0,.slice A1 n1 c1,.slice A2 n2 c2,.string x.r.Name,.string x.r.Left,.slice A5 n5 c5,.bool x.r.Literal,.slice A7 n7 c7,.slice A8 n8 c8,.slice A9 n9 c9,.slice A10 n10 c10,.slice A11 n11 c11]) hi fun F h=>by
  obtain⟨w0,w1,w2,w5,w7,w8,w9,w10,w11,e,h3,h4,s0,s1,s2,s5,s7,s8,s9,s10,s11⟩:=h
  simp only [List.cons.injEq,and_true,true_and] at e
  obtain⟨rfl,rfl,rfl,rfl,rfl,rfl,rfl,rfl,rfl⟩:=e
  exact⟨s0,s1,s2,s5,s7,s8,s9,s10,s11,trivial⟩⟩
end Go.Proofs.YteefempppabmkacGreat
