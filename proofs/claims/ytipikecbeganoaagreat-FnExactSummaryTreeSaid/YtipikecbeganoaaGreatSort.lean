/- What slices.SortFunc does by the order of the occurrences: each lemma bears its conditions in its statement. -/
import Derived.Test.YtipikecbeganoaaGreatAb13
import Derived.Deep.Quiet
import Derived.Deep.QuietTactic
import Derived.Shelf.SlSortCmp.NoneTotal
import Derived.Sort.Grow
import Derived.Sort.Statements
import Derived.StillTailTactics
import Derived.Test.YtipikecbeganoaaGreatRows
import Derived.WalkKit
import Derived.WalkLawsBesides
import Derived.WalkSpells
set_option linter.unusedVariables false
set_option linter.unusedSimpArgs false
set_option linter.ambiguousOpen false
set_option linter.unusedSectionVars false
set_option linter.unnecessarySimpa false
namespace Go.Proofs.YtipikecbeganoaaGreat
open Go Go.RowKit
set_option maxHeartbeats 1000000
set_option maxRecDepth 100000
theorem k8b (x:Int)(W:World):Calls Tryz.prog 277 #[.int .i64 x] W fun e w'=>e=.returned (.bool false)∧w'=W:=by
 go_enter Tryz.func277,Tryz.ntmps277
 go_wp2
 go_ret
 simp
theorem k8c (x:ByteArray)(W:World):Calls Tryz.prog 278 #[.string x] W fun e w'=>e=.returned (.bool false)∧w'=W:=by
 go_enter Tryz.func278,Tryz.ntmps278
 go_wp2
 go_ret
 simp
def cmpI (x y:Int):Int:=if x<y then -1 else if y<x then 1 else 0
def cmpS (x y:ByteArray):Int:=if Op.bytesLess x.toList y.toList=true then -1 else if (x.toList == y.toList)=true then 0 else 1
theorem k8d (x y:Int)(W:World):Calls Tryz.prog 258 #[.int .i64 x,.int .i64 y] W fun e w'=>e=.returned (.int .i64 (cmpI x y))∧w'=W:=by
 unfold cmpI
 go_enter Tryz.func258,Tryz.ntmps258
 go_wp2_with (go_at_call 277;refine (k8b _ _).mono ?_;rintro e w' ⟨rfl,rfl⟩)
 all_goals (go_ret;simp_all)
theorem k8e (x y:ByteArray)(W:World):Calls Tryz.prog 259 #[.string x,.string y] W fun e w'=>e=.returned (.int .i64 (cmpS x y))∧w'=W:=by
 unfold cmpS
 go_enter Tryz.func259,Tryz.ntmps259
 go_wp2_with (go_at_call 278;refine (k8c _ _).mono ?_;rintro e w' ⟨rfl,rfl⟩)
 all_goals (first|go_ret|skip)
 all_goals (simp_all)
theorem k8f (x y:Int)(hx:x≠0)(g:Nat)(W:World)(h0:W.cell? ⟨g,0,none⟩=some (.int .i64 x)):Calls Tryz.prog 257 #[.slice (some ⟨g,0,none⟩) 2 2] W fun e w'=>e=.returned (.int .i64 x)∧w'=W:=by
 have hb:(x != 0)=true:=by simpa using hx
 go_enter Tryz.func257,Tryz.ntmps257
 go_wp2
 refine wp_loop_rounds 1 ?_
 simp only[rounds_succ]
 go_wp2
 all_goals (first|(go_ret;simp_all;done)|simp_all)
theorem k8g (y:Int)(hy:y≠0)(g:Nat)(W:World)(h0:W.cell? ⟨g,0,none⟩=some (.int .i64 0))(h1:W.cell? ⟨g,1,none⟩=some (.int .i64 y)):Calls Tryz.prog 257 #[.slice (some ⟨g,0,none⟩) 2 2] W fun e w'=>e=.returned (.int .i64 y)∧w'=W:=by
 have hb:(y != 0)=true:=by simpa using hy
 go_enter Tryz.func257,Tryz.ntmps257
 go_wp2
 refine wp_loop_rounds 2 ?_
 simp only[rounds_succ]
 go_wp2
 simp only[rounds_succ]
 go_wp2
 all_goals (first|(go_ret;simp_all;done)|simp_all)
theorem k8h (g:Nat)(W:World)(h0:W.cell? ⟨g,0,none⟩=some (.int .i64 0))(h1:W.cell? ⟨g,1,none⟩=some (.int .i64 0)):Calls Tryz.prog 257 #[.slice (some ⟨g,0,none⟩) 2 2] W fun e w'=>e=.returned (.int .i64 0)∧w'=W:=by
 go_enter Tryz.func257,Tryz.ntmps257
 go_wp2
 refine wp_loop_rounds 3 ?_
 simp only[rounds_succ]
 go_wp2
 simp only[rounds_succ]
 go_wp2
 simp only[rounds_succ]
 go_wp2
 all_goals (first|(go_ret;simp_all;done)|simp_all)
theorem k9I (x y:Int)(g:Nat)(W:World)(h0:W.cell? ⟨g,0,none⟩=some (.int .i64 x))(h1:W.cell? ⟨g,1,none⟩=some (.int .i64 y)):Calls Tryz.prog 257 #[.slice (some ⟨g,0,none⟩) 2 2] W fun e w'=>e=.returned (.int .i64 (if x≠0 then x else y))∧w'=W:=by
 by_cases hx:x=0
 ·subst hx
  by_cases hy:y=0
  ·subst hy;exact k8h g W h0 h1
  ·exact k8g y hy g W h0 h1
 ·rw[ifP hx];exact k8f x y hx g W h0
def cmpO (a b:Oc):Int:=if cmpI a.Pos b.Pos≠0 then cmpI a.Pos b.Pos else cmpS a.Name b.Name
open Go.E
theorem ag3:aggT Tryz.prog 3=some false:=by kernel_rfl
theorem ag9:aggT Tryz.prog 9=some false:=by kernel_rfl
theorem sz3:szT Tryz.prog 3=some 1:=by kernel_rfl
theorem ze3:z3P Tryz.prog 3=some [.int .i64 0]:=by kernel_rfl
theorem el26:q7O Tryz.prog 26=some 3:=by kernel_rfl
theorem k3o:z8N Tryz.prog 168 0=some 0:=by kernel_rfl
theorem k3p:z8N Tryz.prog 168 1=some 1:=by kernel_rfl
theorem x0o:q7B Tryz.prog 257=true:=by kernel_rfl
theorem x0p:q7B Tryz.prog 258=true:=by kernel_rfl
theorem x0q:q7B Tryz.prog 259=true:=by kernel_rfl
theorem hmix:Tryz.prog.follows .mixedOrders=true:=by kernel_rfl
theorem k5L (a b:Oc)(W:World):Ret Tryz.prog 237 #[.agg #[.int .i64 a.Pos,.string a.Name],.agg #[.int .i64 b.Pos,.string b.Name]] W (fun _=>False) fun v w'=>v=.int .i64 (cmpO a b)∧Gr W w':=by
 have hI:∀ W',Ret Tryz.prog 258 #[.int .i64 a.Pos,.int .i64 b.Pos] W' (fun _=>False) fun v w'=>v=.int .i64 (cmpI a.Pos b.Pos)∧Gr W' w':=fun W'=>(k8d a.Pos b.Pos W').mono fun e w' ⟨h1,h2⟩=>⟨_,h1,by rw[h2];exact Ext.refl _,rfl,by rw[h2];exact Gr.refl _⟩
 have hS:∀ W',Ret Tryz.prog 259 #[.string a.Name,.string b.Name] W' (fun _=>False) fun v w'=>v=.int .i64 (cmpS a.Name b.Name)∧Gr W' w':=fun W'=>(k8e a.Name b.Name W').mono fun e w' ⟨h1,h2⟩=>⟨_,h1,by rw[h2];exact Ext.refl _,rfl,by rw[h2];exact Gr.refl _⟩
 unfold cmpO
 refine enter Tryz.func237 rfl rfl rfl ?_
 refine q1j (q1k ?_)
 refine q1v rfl rfl rfl rfl rfl fun b1 w1 g1 hb1 B1=>?_
 refine q1v rfl rfl rfl rfl rfl fun b2 w2 g2 hb2 B2=>?_
 have B1:=B1.ext g2.ext
 refine WL.ev rfl rfl (q2s rfl rfl) (WL.nil ?_)
 refine q1j (q1q (R:=Gr) 10 Gr.refl Gr.trans Gr.draw hmix (by kernel_rfl) ?_)
 refine QC.ev rfl rfl (fun w hw=>q0L rfl k3o rfl) ?_
 refine QC.ev rfl rfl (fun w hw=>q0M rfl ag3 rfl ((B1.ext hw.ext).cell rfl)) ?_
 refine QC.ev rfl rfl (fun w hw=>q0L rfl k3o rfl) ?_
 refine QC.ev rfl rfl (fun w hw=>q0M rfl ag3 rfl ((B2.ext hw.ext).cell rfl)) ?_
 refine q1n rfl rfl rfl rfl rfl x0p rfl (fun w hw=>hI w) ?_
 refine QC.ev rfl rfl (fun w hw=>q0L rfl k3p rfl) ?_
 refine QC.ev rfl rfl (fun w hw=>q0M rfl ag9 rfl ((B1.ext hw.ext).cell rfl)) ?_
 refine QC.ev rfl rfl (fun w hw=>q0L rfl k3p rfl) ?_
 refine QC.ev rfl rfl (fun w hw=>q0M rfl ag9 rfl ((B2.ext hw.ext).cell rfl)) ?_
 refine q1n rfl rfl rfl rfl rfl x0q rfl (fun w hw=>hS w) ?_
 refine QC.nil fun w3 g3=>?_
 refine q2g rfl rfl rfl el26 sz3 ze3 rfl (k9w rfl (k9w rfl x0j)) rfl rfl rfl fun g w4 g4 B4=>?_
 refine q2B rfl rfl rfl rfl rfl x0o rfl (M:=fun _=>False) (R:=fun v w'=>v=.int .i64 (if cmpI a.Pos b.Pos≠0 then cmpI a.Pos b.Pos else cmpS a.Name b.Name)∧w'=w4) ((k9I _ _ g w4 (B4.cell rfl) (B4.cell rfl)).mono fun e w' ⟨h1,h2⟩=>⟨_,h1,by rw[h2];exact Ext.refl _,rfl,h2⟩) ?_
 rintro _ w5 hE ⟨rfl,rfl⟩
 refine WL.ev rfl rfl (q2s rfl rfl) (WL.nil ?_)
 refine q1h ?_
 have g:=((g1.trans g2).trans g3).trans g4
 exact⟨_,res1 rfl rfl rfl,g.ext,rfl,g⟩
end Go.Proofs.YtipikecbeganoaaGreat
namespace Go.Proofs.YtipikecbeganoaaGreat
open Go Go.E Go.RowKit
theorem k7v:∀ x:List UInt8,Op.bytesLess x x=false
 | []=>rfl
 | a::x=>by simp[Op.bytesLess,k7v x]
theorem j5x:∀ x y z:List UInt8,Op.bytesLess x y=true→Op.bytesLess y z=true→Op.bytesLess x z=true
 | _,[],_,h,_=>by simp[Op.bytesLess] at h
 | _,_::_,[],_,h=>by simp[Op.bytesLess] at h
 | [],_::_,_::_,_,_=>rfl
 | a::x,b::y,c::z,h1,h2=>by
  simp only[Op.bytesLess,Bool.or_eq_true,Bool.and_eq_true,decide_eq_true_eq,beq_iff_eq] at *
  rcases h1 with h1|⟨rfl,h1⟩
  ·rcases h2 with h2|⟨rfl,h2⟩
   ·exact .inl (by rw[UInt8.lt_iff_toNat_lt] at *;omega)
   ·exact .inl h1
  ·rcases h2 with h2|⟨rfl,h2⟩
   ·exact .inl h2
   ·exact .inr ⟨rfl,j5x x y z h1 h2⟩
theorem j5y:∀ x y:List UInt8,Op.bytesLess x y=false→Op.bytesLess y x=false→x=y
 | [],[],_,_=>rfl
 | [],_::_,h,_=>by simp[Op.bytesLess] at h
 | _::_,[],_,h=>by simp[Op.bytesLess] at h
 | a::x,b::y,h1,h2=>by
  simp only[Op.bytesLess,Bool.or_eq_false_iff,Bool.and_eq_false_iff,decide_eq_false_iff_not,beq_eq_false_iff_ne] at *
  have hab:a=b:=by
   have h3:=h1.1;have h4:=h2.1
   rw[UInt8.lt_iff_toNat_lt] at h3 h4
   exact UInt8.toNat_inj.1 (by omega)
  subst hab
  simp at h1 h2
  rw[j5y x y h1 h2]
theorem k1L {x y:ByteArray}(h:x.toList=y.toList):x=y:=by
 rw[ByteArray.toList_eq,ByteArray.toList_eq] at h
 cases x;cases y;simp at h;simp[h]
theorem k5M (x y:ByteArray):cmpS x y<0↔Op.bytesLess x.toList y.toList=true:=by
 unfold cmpS
 by_cases h:Op.bytesLess x.toList y.toList=true
 ·simp[h]
 ·rw[ifN h]
  constructor
  ·intro h0;split at h0<;>simp at h0
  ·intro h0;exact absurd h0 h
def z3h (a b:Oc):Bool:=decide (a.Pos<b.Pos)||(decide (a.Pos=b.Pos)&&Op.bytesLess a.Name.toList b.Name.toList)
theorem k5N (a b:Oc):decide (cmpO a b<0)=z3h a b:=by
 unfold cmpO z3h cmpI
 by_cases h1:a.Pos<b.Pos
 ·simp[h1]
 ·by_cases h2:b.Pos<a.Pos
  ·have:¬ a.Pos=b.Pos:=by omega
   simp[h1,h2,this]
  ·have:a.Pos=b.Pos:=by omega
   simp only[h1,h2,if_false,ne_eq,not_true_eq_false,this,decide_true,Bool.true_and,Int.lt_irrefl,decide_false,Bool.false_or]
   rw[Bool.eq_iff_iff,decide_eq_true_eq]
   exact k5M _ _
theorem lessO_swo:Sort.SWO z3h where
 irrefl x:=by simp[z3h,k7v]
 trans x y z h1 h2:=by
  simp only[z3h,Bool.or_eq_true,Bool.and_eq_true,decide_eq_true_eq] at *
  rcases h1 with h1|⟨e1,h1⟩
  ·rcases h2 with h2|⟨e2,h2⟩
   ·exact .inl (by omega)
   ·exact .inl (by omega)
  ·rcases h2 with h2|⟨e2,h2⟩
   ·exact .inl (by omega)
   ·exact .inr ⟨by omega,j5x _ _ _ h1 h2⟩
 ntrans x y z h1 h2:=by
  simp only[z3h,Bool.or_eq_false_iff,Bool.and_eq_false_iff,decide_eq_false_iff_not] at *
  refine⟨by omega,?_⟩
  by_cases e:x.Pos=z.Pos
  ·have e1:x.Pos=y.Pos:=by omega
   have e2:y.Pos=z.Pos:=by omega
   right
   have a1:=h1.2.resolve_left (by simpa using e1)
   have a2:=h2.2.resolve_left (by simpa using e2)
   cases hb:Op.bytesLess x.Name.toList z.Name.toList with
   | false=>rfl
   | true=>
    -- x < z, not x < y, not y < z
    by_cases hyx:Op.bytesLess y.Name.toList x.Name.toList=true
    ·rw[j5x _ _ _ hyx hb] at a2;cases a2
    ·have:=j5y _ _ a1 (by simpa using hyx)
     rw[this,a2] at hb;cases hb
  ·exact .inl (by simpa using e)
theorem z8g (x y:Oc)(h1:z3h x y=false)(h2:z3h y x=false):x=y:=by
 simp only[z3h,Bool.or_eq_false_iff,Bool.and_eq_false_iff,decide_eq_false_iff_not] at *
 have e:x.Pos=y.Pos:=by omega
 have a1:=h1.2.resolve_left (by simpa using e)
 have a2:=h2.2.resolve_left (by simpa using e.symm)
 have:=k1L (j5y _ _ a1 a2)
 cases x;cases y;simp_all
end Go.Proofs.YtipikecbeganoaaGreat
namespace Go.Proofs
open Go.Shelf
namespace YtipikecbeganoaaGreat
def j8O:Go.Shelf.Ren:=⟨fun|6=>236|15=>256|14=>255|28=>275|29=>276|20=>267|21=>268|22=>269|23=>270|24=>271|25=>272|26=>273|27=>274|46=>282|47=>283|48=>284|49=>285|50=>286|57=>290|n=>n,fun|22=>140|24=>168|25=>257|3=>3|39=>178|0=>0|53=>278|55=>280|4=>4|46=>271|45=>270|50=>275|5=>5|9=>9|66=>282|70=>286|76=>288|77=>109|n=>n,fun|n=>n⟩
theorem k3q:Go.Proofs.SlLaysF0.n6 Tryz.prog j8O:={
 mixed:=by kernel_rfl,
 f6:=⟨Tryz.f236.name,by decide,Tryz.func236.trans (congrArg some (by kernel_rfl))⟩,
 f14:=⟨Tryz.f255.name,by decide,Tryz.func255.trans (congrArg some (by kernel_rfl))⟩,
 f15:=Tryz.func256.trans (congrArg some (by kernel_rfl)),
 f20:=⟨Tryz.f267.name,by decide,Tryz.func267.trans (congrArg some (by kernel_rfl))⟩,
 f21:=⟨Tryz.f268.name,by decide,Tryz.func268.trans (congrArg some (by kernel_rfl))⟩,
 f22:=⟨Tryz.f269.name,by decide,Tryz.func269.trans (congrArg some (by kernel_rfl))⟩,
 f23:=⟨Tryz.f270.name,by decide,Tryz.func270.trans (congrArg some (by kernel_rfl))⟩,
 f24:=⟨Tryz.f271.name,by decide,Tryz.func271.trans (congrArg some (by kernel_rfl))⟩,
 f25:=⟨Tryz.f272.name,by decide,Tryz.func272.trans (congrArg some (by kernel_rfl))⟩,
 f26:=⟨Tryz.f273.name,by decide,Tryz.func273.trans (congrArg some (by kernel_rfl))⟩,
 f27:=⟨Tryz.f274.name,by decide,Tryz.func274.trans (congrArg some (by kernel_rfl))⟩,
 f28:=Tryz.func275.trans (congrArg some (by kernel_rfl)),
 f29:=Tryz.func276.trans (congrArg some (by kernel_rfl)),
 f46:=⟨Tryz.f282.name,by decide,Tryz.func282.trans (congrArg some (by kernel_rfl))⟩,
 f47:=Tryz.func283.trans (congrArg some (by kernel_rfl)),
 f48:=Tryz.func284.trans (congrArg some (by kernel_rfl)),
 f49:=⟨Tryz.f285.name,by decide,Tryz.func285.trans (congrArg some (by kernel_rfl))⟩,
 f50:=⟨Tryz.f286.name,by decide,Tryz.func286.trans (congrArg some (by kernel_rfl))⟩,
 f57:=⟨Tryz.f290.name,by decide,Tryz.func290.trans (congrArg some (by kernel_rfl))⟩,
 t0:=Tryz.underlying0,
 a0:=Tryz.isAgg0,
 z0:=Tryz.sizeOf0,
 v0:=Tryz.zeroValue0,
 t3:=Tryz.underlying3,
 a3:=Tryz.isAgg3,
 z3:=Tryz.sizeOf3,
 v3:=Tryz.zeroValue3,
 t4:=Tryz.underlying4,
 a4:=Tryz.isAgg4,
 z4:=Tryz.sizeOf4,
 v4:=Tryz.zeroValue4,
 t5:=Tryz.underlying5,
 a5:=Tryz.isAgg5,
 z5:=Tryz.sizeOf5,
 v5:=Tryz.zeroValue5,
 t9:=Tryz.underlying9,
 a9:=Tryz.isAgg9,
 z9:=Tryz.sizeOf9,
 v9:=Tryz.zeroValue9,
 t22:=Tryz.underlying140,
 a22:=Tryz.isAgg140,
 z22:=Tryz.sizeOf140,
 v22:=Tryz.zeroValue140,
 t25:=Tryz.underlying257,
 a25:=Tryz.isAgg257,
 z25:=Tryz.sizeOf257,
 v25:=Tryz.zeroValue257,
 t39:=Tryz.underlying178,
 a39:=Tryz.isAgg178,
 z39:=Tryz.sizeOf178,
 v39:=Tryz.zeroValue178,
 t45:=Tryz.underlying270,
 a45:=Tryz.isAgg270,
 z45:=Tryz.sizeOf270,
 v45:=Tryz.zeroValue270,
 t46:=Tryz.underlying271,
 a46:=Tryz.isAgg271,
 z46:=Tryz.sizeOf271,
 v46:=Tryz.zeroValue271,
 t50:=Tryz.underlying275,
 a50:=Tryz.isAgg275,
 z50:=Tryz.sizeOf275,
 v50:=Tryz.zeroValue275,
 t53:=Tryz.underlying278,
 a53:=Tryz.isAgg278,
 z53:=Tryz.sizeOf278,
 v53:=Tryz.zeroValue278,
 t55:=Tryz.underlying280,
 a55:=Tryz.isAgg280,
 z55:=Tryz.sizeOf280,
 v55:=Tryz.zeroValue280,
 t66:=Tryz.underlying282,
 a66:=Tryz.isAgg282,
 z66:=Tryz.sizeOf282,
 v66:=Tryz.zeroValue282,
 t70:=Tryz.underlying286,
 a70:=Tryz.isAgg286,
 z70:=Tryz.sizeOf286,
 v70:=Tryz.zeroValue286,
 t76:=Tryz.underlying288,
 a76:=Tryz.isAgg288,
 z76:=Tryz.sizeOf288,
 v76:=Tryz.zeroValue288,
 t77:=Tryz.underlying109,
 a77:=Tryz.isAgg109,
 z77:=Tryz.sizeOf109,
 v77:=Tryz.zeroValue109 }
end YtipikecbeganoaaGreat
end Go.Proofs
namespace Go.Proofs.YtipikecbeganoaaGreat
open Go Go.E Go.RowKit
instance:Inhabited Oc:=⟨⟨0,⟨#[]⟩⟩⟩
def encO (x:Oc):List Value:=[.int .i64 x.Pos,.string x.Name]
theorem k5O (blk off size:Nat)(w:World):CmpLays Tryz.prog 237 #[] encO 2 cmpO blk off size w:=fun _ _ _ _ x y=>
 Calls.mono (k5L x y _) fun e w' ⟨v,h1,_,h2,h3⟩=>⟨by rw[h1,h2],h3⟩
theorem j2r:ltOf cmpO=z3h:=by funext x y;exact k5N x y
def j7o (l:List Oc):List Oc:=l.mergeSort fun x y=>!z3h y x
theorem k3r {S1:Nat→Prop}{w:World}{x:Oc}{c:List Value}(h:A.rd1 S1 w (Oc.D x) c):c=encO x∧∀ (S2:Nat→Prop) (w2:World),A.rd1 S2 w2 (Oc.D x) c:=by
 have h' : A.rdCs S1 w [.i .i64 x.Pos,.s x.Name] c:=h
 simp only[A.rdCs,A.rdC] at h'
 obtain⟨v,r,rfl,⟨rfl,h1⟩,v2,r2,rfl,⟨rfl,h2⟩,rfl⟩:=h'
 refine⟨rfl,fun S2 w2=>?_⟩
 show A.rdCs S2 w2 [.i .i64 x.Pos,.s x.Name] _
 simp only[A.rdCs,A.rdC]
 exact⟨_,_,rfl,⟨rfl,h1⟩,_,_,rfl,⟨rfl,h2⟩,rfl⟩
theorem k5P {m:A.Md}{a0:List Oc}(hbig:a0.length<4611686018427387904):A.Ok Tryz.prog 236 [.ref 0 none,.fn 237 []] [.row m 2 (a0.map Oc.D)] (.tu []) [.row m 2 ((j7o a0).map Oc.D)]:=by
 have eg:∀ args w,(callFunc 237 args).run Tryz.prog w=.ok (.enter 237 args) w:=enters_of Tryz.func237 (by kernel_rfl) rfl
 refine A.sortOk (enc:=encO) (fun h=>(k3r h).1) (fun h=>(k3r h).2 _ _) (fun _=>rfl) (fun l=>List.length_mergeSort l) (fun l y hy=>List.mem_mergeSort.1 hy) (fun A0 c w=>?_) (fun g cap d w hH hblk hbig=>?_) hbig
 ·have hc:=AnyF.slices_SortFunc_none k3q A0 c (.func (.func 237) #[] #[]) w
  change Calls Tryz.prog 236 _ _ _ at hc
  exact hc
 ·have hc:=AnyQ.slices_SortFunc_total k3q 2 Tryz.isAgg168 Tryz.sizeOf168 encO (fun _=>rfl) (fun x v hv=>by simp[encO] at hv;rcases hv with rfl|rfl<;>rfl) cmpO (by rw[j2r];exact lessO_swo) 237 #[] g 0 cap d w eg (k5O _ _ _ _) hH hblk hbig (by rw[j2r];exact z8g)
  change Calls Tryz.prog 236 _ _ _ at hc
  rw[j2r] at hc
  exact hc
end Go.Proofs.YtipikecbeganoaaGreat
