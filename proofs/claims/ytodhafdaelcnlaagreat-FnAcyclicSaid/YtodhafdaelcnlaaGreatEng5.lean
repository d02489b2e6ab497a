/- A small engine for walks through a Go program: plain lemmas on the model, without conditions of their own. -/
import Derived.Test.YtodhafdaelcnlaaGreatAb7
set_option linter.unusedVariables false
set_option linter.unusedSimpArgs false
set_option linter.ambiguousOpen false
set_option linter.unusedSectionVars false
set_option linter.unnecessarySimpa false
namespace Go.E
open Go
open Rep (rd)
open Sep (own)
section
variable {P:Program}{ρ:Env}{w:World}{o:Oper}
theorem RP {S T:TypeId}{x:Operand}{q:IntKind}{m:Int}{d:TypeDesc}(ho:o.op=.convert S T x)(hS:P.underlying S=some d)(hT:fJ P T=some .u8)(hx:E.ev ρ x=.int q m):Ev P ρ o w (.int .u8 ((UInt8.ofNat (m % 256).toNat).toNat:Int)):=by
 have h:=Da (w:=w) ho hS hT hx;have e:((UInt8.ofNat (m % 256).toNat).toNat:Int)=IntKind.u8.wrap m:=by
  rw[UInt8.toNat_ofNat'];simp[IntKind.wrap,IntKind.signed,IntKind.bits];omega
 rw[e];exact h
theorem RO {S T e:TypeId}{x:Operand}{b:UInt8}{v:Value}{F:Nat->Prop}(ho:o.op=.convert S T x)(hS:cY P S=some e)(he:fJ P e=some .u8)(hT:P.underlying T=some .string)(hx:E.ev ρ x=v)(h:uL F w [b] v):Ev P ρ o w (.string ⟨#[b]⟩):=by
 obtain⟨A,cap,cells,rfl,_,_,⟨c,r,rfl,U,W⟩,h3⟩:=h;obtain rfl:c=[.int .u8 (b.toNat:Int)]:=U;obtain rfl:r=[]:=W;rcases h3 with h3|⟨g,off,rfl,_,hat⟩
 cases h3;have U:=run_loadCellsFrom (P:=P) (w:=w) (b:=g) (off:=off) [.int .u8 (b.toNat:Int)] 0 #[] hat
 simp only[bH,List.length_nil,Nat.zero_add] at U;simp[Ev,execOp,ho,hx,convert,run_underlying (ga hS),run_underlying hT,run_underlying (wC he),Conv.bytesToString,loadCells,U];rfl
end
end Go.E
