/- A small engine for walks through a Go program: plain lemmas on the model, without conditions of their own. -/
import Derived.Test.YtnhofaohogianaaGreatAb7
set_option linter.unusedVariables false
set_option linter.unusedSimpArgs false
set_option linter.ambiguousOpen false
set_option linter.unusedSectionVars false
set_option linter.unnecessarySimpa false
namespace Go.E
open Go
open Rep (rd)
open Sep (own)
section
variable {P:Program}{ρ:Env}{w:World}{o:Oper}
theorem q1v {S T:TypeId}{x:Operand}{q:IntKind}{m:Int}{d:TypeDesc}(ho:o.op=.convert S T x)(hS:P.underlying S=some d)(hT:intT P T=some .u8)(hx:E.ev ρ x=.int q m):Ev P ρ o w (.int .u8 ((UInt8.ofNat (m % 256).toNat).toNat:Int)):=by
 have h:=q1h (w:=w) ho hS hT hx
 have e:((UInt8.ofNat (m % 256).toNat).toNat:Int)=IntKind.u8.wrap m:=by
  rw[UInt8.toNat_ofNat']
  simp[IntKind.wrap,IntKind.signed,IntKind.bits]
  omega
 rw[e];exact h
theorem q1w {S T e:TypeId}{x:Operand}{b:UInt8}{v:Value}{F:Nat→Prop}(ho:o.op=.convert S T x)(hS:q7i P S=some e)(he:intT P e=some .u8)(hT:P.underlying T=some .string)(hx:E.ev ρ x=v)(h:rdS F w [b] v):Ev P ρ o w (.string ⟨#[b]⟩):=by
 obtain⟨A,cap,cells,rfl,_,_,⟨c,r,rfl,h1,h2⟩,h3⟩:=h
 obtain rfl:c=[.int .u8 (b.toNat:Int)]:=h1
 obtain rfl:r=[]:=h2
 rcases h3 with h3|⟨g,off,rfl,_,hat⟩
 ·cases h3
 have h1:=run_loadCellsFrom (P:=P) (w:=w) (b:=g) (off:=off) [.int .u8 (b.toNat:Int)] 0 #[] hat
 simp only[lnC,List.length_nil,Nat.zero_add] at h1
 simp[Ev,execOp,ho,hx,convert,run_underlying (q5T hS),run_underlying hT,run_underlying (j2W he),Conv.bytesToString,loadCells,h1]
 rfl
end
end Go.E
