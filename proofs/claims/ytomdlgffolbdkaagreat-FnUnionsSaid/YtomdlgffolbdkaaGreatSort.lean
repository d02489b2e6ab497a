/- What slices.SortFunc does by the order of the occurrences: each lemma bears its conditions in its statement. -/
import Derived.Test.YtomdlgffolbdkaaGreatAb6
import Derived.Deep.Quiet
import Derived.Deep.QuietTactic
import Derived.Shelf.SlSortCmp.NoneTotal
import Derived.Sort.Grow
import Derived.Sort.Statements
import Derived.StillTailTactics
import Derived.Test.YtomdlgffolbdkaaGreatRows
import Derived.WalkKit
import Derived.WalkLawsBesides
import Derived.WalkSpells
set_option linter.unusedVariables false
set_option linter.unusedSimpArgs false
set_option linter.ambiguousOpen false
set_option linter.unusedSectionVars false
set_option linter.unnecessarySimpa false
namespace Go.Proofs.YtomdlgffolbdkaaGreat
open Go Go.RowKit
set_option maxHeartbeats 1000000
set_option maxRecDepth 100000
theorem k3N (x:Int)(W:World):Calls Tryz.prog 306 #[.int .i64 x] W fun e w'=>e=.returned (.bool false)∧w'=W:=by
 go_enter Tryz.func306,Tryz.ntmps306
 go_wp2
 go_ret
 simp
theorem k3O (x:ByteArray)(W:World):Calls Tryz.prog 307 #[.string x] W fun e w'=>e=.returned (.bool false)∧w'=W:=by
 go_enter Tryz.func307,Tryz.ntmps307
 go_wp2
 go_ret
 simp
def cmpI (x y:Int):Int:=if x<y then -1 else if y<x then 1 else 0
def cmpS (x y:ByteArray):Int:=if Op.bytesLess x.toList y.toList=true then -1 else if (x.toList == y.toList)=true then 0 else 1
theorem k3P (x y:Int)(W:World):Calls Tryz.prog 282 #[.int .i64 x,.int .i64 y] W fun e w'=>e=.returned (.int .i64 (cmpI x y))∧w'=W:=by
 unfold cmpI
 go_enter Tryz.func282,Tryz.ntmps282
 go_wp2_with (go_at_call 306;refine (k3N _ _).mono ?_;rintro e w' ⟨rfl,rfl⟩)
 all_goals (go_ret;simp_all)
theorem k3Q (x y:ByteArray)(W:World):Calls Tryz.prog 283 #[.string x,.string y] W fun e w'=>e=.returned (.int .i64 (cmpS x y))∧w'=W:=by
 unfold cmpS
 go_enter Tryz.func283,Tryz.ntmps283
 go_wp2_with (go_at_call 307;refine (k3O _ _).mono ?_;rintro e w' ⟨rfl,rfl⟩)
 all_goals (first|go_ret|skip)
 all_goals (simp_all)
theorem k3R (x y:Int)(hx:x≠0)(g:Nat)(W:World)(h0:W.cell? ⟨g,0,none⟩=some (.int .i64 x)):Calls Tryz.prog 281 #[.slice (some ⟨g,0,none⟩) 2 2] W fun e w'=>e=.returned (.int .i64 x)∧w'=W:=by
 have hb:(x != 0)=true:=by simpa using hx
 go_enter Tryz.func281,Tryz.ntmps281
 go_wp2
 refine wp_loop_rounds 1 ?_
 simp only[rounds_succ]
 go_wp2
 all_goals (first|(go_ret;simp_all;done)|simp_all)
theorem k3S (y:Int)(hy:y≠0)(g:Nat)(W:World)(h0:W.cell? ⟨g,0,none⟩=some (.int .i64 0))(h1:W.cell? ⟨g,1,none⟩=some (.int .i64 y)):Calls Tryz.prog 281 #[.slice (some ⟨g,0,none⟩) 2 2] W fun e w'=>e=.returned (.int .i64 y)∧w'=W:=by
 have hb:(y != 0)=true:=by simpa using hy
 go_enter Tryz.func281,Tryz.ntmps281
 go_wp2
 refine wp_loop_rounds 2 ?_
 simp only[rounds_succ]
 go_wp2
 simp only[rounds_succ]
 go_wp2
 all_goals (first|(go_ret;simp_all;done)|simp_all)
theorem k3T (g:Nat)(W:World)(h0:W.cell? ⟨g,0,none⟩=some (.int .i64 0))(h1:W.cell? ⟨g,1,none⟩=some (.int .i64 0)):Calls Tryz.prog 281 #[.slice (some ⟨g,0,none⟩) 2 2] W fun e w'=>e=.returned (.int .i64 0)∧w'=W:=by
 go_enter Tryz.func281,Tryz.ntmps281
 go_wp2
 refine wp_loop_rounds 3 ?_
 simp only[rounds_succ]
 go_wp2
 simp only[rounds_succ]
 go_wp2
 simp only[rounds_succ]
 go_wp2
 all_goals (first|(go_ret;simp_all;done)|simp_all)
theorem k5i (x y:Int)(g:Nat)(W:World)(h0:W.cell? ⟨g,0,none⟩=some (.int .i64 x))(h1:W.cell? ⟨g,1,none⟩=some (.int .i64 y)):Calls Tryz.prog 281 #[.slice (some ⟨g,0,none⟩) 2 2] W fun e w'=>e=.returned (.int .i64 (if x≠0 then x else y))∧w'=W:=by
 by_cases hx:x=0
 ·subst hx
  by_cases hy:y=0
  ·subst hy;exact k3T g W h0 h1
  ·exact k3S y hy g W h0 h1
 ·rw[ifP hx];exact k3R x y hx g W h0
def cmpO (a b:Oc):Int:=if cmpI a.Pos b.Pos≠0 then cmpI a.Pos b.Pos else cmpS a.Name b.Name
open Go.E
theorem ag3:aggT Tryz.prog 3=some false:=by kernel_rfl
theorem ag9:aggT Tryz.prog 9=some false:=by kernel_rfl
theorem sz3:szT Tryz.prog 3=some 1:=by kernel_rfl
theorem ze3:z2C Tryz.prog 3=some [.int .i64 0]:=by kernel_rfl
theorem el35:q7D Tryz.prog 35=some 3:=by kernel_rfl
theorem j9B:z6O Tryz.prog 105 0=some 0:=by kernel_rfl
theorem j9C:z6O Tryz.prog 105 1=some 1:=by kernel_rfl
theorem k5G:q8x Tryz.prog 281=true:=by kernel_rfl
theorem k5H:q8x Tryz.prog 282=true:=by kernel_rfl
theorem k5I:q8x Tryz.prog 283=true:=by kernel_rfl
theorem hmix:Tryz.prog.follows .mixedOrders=true:=by kernel_rfl
theorem k1L (a b:Oc)(W:World):Ret Tryz.prog 255 #[.agg #[.int .i64 a.Pos,.string a.Name],.agg #[.int .i64 b.Pos,.string b.Name]] W (fun _=>False) fun v w'=>v=.int .i64 (cmpO a b)∧Gr W w':=by
 have hI:∀ W',Ret Tryz.prog 282 #[.int .i64 a.Pos,.int .i64 b.Pos] W' (fun _=>False) fun v w'=>v=.int .i64 (cmpI a.Pos b.Pos)∧Gr W' w':=fun W'=>(k3P a.Pos b.Pos W').mono fun e w' ⟨h1,h2⟩=>⟨_,h1,by rw[h2];exact Ext.refl _,rfl,by rw[h2];exact Gr.refl _⟩
 have hS:∀ W',Ret Tryz.prog 283 #[.string a.Name,.string b.Name] W' (fun _=>False) fun v w'=>v=.int .i64 (cmpS a.Name b.Name)∧Gr W' w':=fun W'=>(k3Q a.Name b.Name W').mono fun e w' ⟨h1,h2⟩=>⟨_,h1,by rw[h2];exact Ext.refl _,rfl,by rw[h2];exact Gr.refl _⟩
 unfold cmpO
 refine enter Tryz.func255 rfl rfl rfl ?_
 refine q1g (q1h ?_)
 refine q1s rfl rfl rfl rfl rfl fun b1 w1 g1 hb1 B1=>?_
 refine q1s rfl rfl rfl rfl rfl fun b2 w2 g2 hb2 B2=>?_
 have B1:=B1.ext g2.ext
 refine WL.ev rfl rfl (q2r rfl rfl) (WL.nil ?_)
 refine q1g (q1n (R:=Gr) 10 Gr.refl Gr.trans Gr.draw hmix (by kernel_rfl) ?_)
 refine QC.ev rfl rfl (fun w hw=>q0L rfl j9B rfl) ?_
 refine QC.ev rfl rfl (fun w hw=>q0M rfl ag3 rfl ((B1.ext hw.ext).cell rfl)) ?_
 refine QC.ev rfl rfl (fun w hw=>q0L rfl j9B rfl) ?_
 refine QC.ev rfl rfl (fun w hw=>q0M rfl ag3 rfl ((B2.ext hw.ext).cell rfl)) ?_
 refine q1k rfl rfl rfl rfl rfl k5H rfl (fun w hw=>hI w) ?_
 refine QC.ev rfl rfl (fun w hw=>q0L rfl j9C rfl) ?_
 refine QC.ev rfl rfl (fun w hw=>q0M rfl ag9 rfl ((B1.ext hw.ext).cell rfl)) ?_
 refine QC.ev rfl rfl (fun w hw=>q0L rfl j9C rfl) ?_
 refine QC.ev rfl rfl (fun w hw=>q0M rfl ag9 rfl ((B2.ext hw.ext).cell rfl)) ?_
 refine q1k rfl rfl rfl rfl rfl k5I rfl (fun w hw=>hS w) ?_
 refine QC.nil fun w3 g3=>?_
 refine q2g rfl rfl rfl el35 sz3 ze3 rfl (k4V rfl (k4V rfl k5B)) rfl rfl rfl fun g w4 g4 B4=>?_
 refine q2B rfl rfl rfl rfl rfl k5G rfl (M:=fun _=>False) (R:=fun v w'=>v=.int .i64 (if cmpI a.Pos b.Pos≠0 then cmpI a.Pos b.Pos else cmpS a.Name b.Name)∧w'=w4) ((k5i _ _ g w4 (B4.cell rfl) (B4.cell rfl)).mono fun e w' ⟨h1,h2⟩=>⟨_,h1,by rw[h2];exact Ext.refl _,rfl,h2⟩) ?_
 rintro _ w5 hE ⟨rfl,rfl⟩
 refine WL.ev rfl rfl (q2r rfl rfl) (WL.nil ?_)
 refine CW.ret ?_
 have g:=((g1.trans g2).trans g3).trans g4
 exact⟨_,res1 rfl rfl rfl,g.ext,rfl,g⟩
end Go.Proofs.YtomdlgffolbdkaaGreat
namespace Go.Proofs.YtomdlgffolbdkaaGreat
open Go Go.E Go.RowKit
theorem k3e:∀ x:List UInt8,Op.bytesLess x x=false
 | []=>rfl
 | a::x=>by simp[Op.bytesLess,k3e x]
theorem j2L:∀ x y z:List UInt8,Op.bytesLess x y=true→Op.bytesLess y z=true→Op.bytesLess x z=true
 | _,[],_,h,_=>by simp[Op.bytesLess] at h
 | _,_::_,[],_,h=>by simp[Op.bytesLess] at h
 | [],_::_,_::_,_,_=>rfl
 | a::x,b::y,c::z,h1,h2=>by
  simp only[Op.bytesLess,Bool.or_eq_true,Bool.and_eq_true,decide_eq_true_eq,beq_iff_eq] at *
  rcases h1 with h1|⟨rfl,h1⟩
  ·rcases h2 with h2|⟨rfl,h2⟩
   ·exact .inl (by rw[UInt8.lt_iff_toNat_lt] at *;omega)
   ·exact .inl h1
  ·rcases h2 with h2|⟨rfl,h2⟩
   ·exact .inl h2
   ·exact .inr ⟨rfl,j2L x y z h1 h2⟩
theorem j2M:∀ x y:List UInt8,Op.bytesLess x y=false→Op.bytesLess y x=false→x=y
 | [],[],_,_=>rfl
 | [],_::_,h,_=>by simp[Op.bytesLess] at h
 | _::_,[],_,h=>by simp[Op.bytesLess] at h
 | a::x,b::y,h1,h2=>by
  simp only[Op.bytesLess,Bool.or_eq_false_iff,Bool.and_eq_false_iff,decide_eq_false_iff_not,beq_eq_false_iff_ne] at *
  have hab:a=b:=by
   have h3:=h1.1;have h4:=h2.1
   rw[UInt8.lt_iff_toNat_lt] at h3 h4
   exact UInt8.toNat_inj.1 (by omega)
  subst hab
  simp at h1 h2
  rw[j2M x y h1 h2]
theorem j8d {x y:ByteArray}(h:x.toList=y.toList):x=y:=by
 rw[ByteArray.toList_eq,ByteArray.toList_eq] at h
 cases x;cases y;simp at h;simp[h]
theorem k1M (x y:ByteArray):cmpS x y<0↔Op.bytesLess x.toList y.toList=true:=by
 unfold cmpS
 by_cases h:Op.bytesLess x.toList y.toList=true
 ·simp[h]
 ·rw[ifN h]
  constructor
  ·intro h0;split at h0<;>simp at h0
  ·intro h0;exact absurd h0 h
def z2e (a b:Oc):Bool:=decide (a.Pos<b.Pos)||(decide (a.Pos=b.Pos)&&Op.bytesLess a.Name.toList b.Name.toList)
theorem k1N (a b:Oc):decide (cmpO a b<0)=z2e a b:=by
 unfold cmpO z2e cmpI
 by_cases h1:a.Pos<b.Pos
 ·simp[h1]
 ·by_cases h2:b.Pos<a.Pos
  ·have:¬ a.Pos=b.Pos:=by omega
   simp[h1,h2,this]
  ·have:a.Pos=b.Pos:=by omega
   simp only[h1,h2,if_false,ne_eq,not_true_eq_false,this,decide_true,Bool.true_and,Int.lt_irrefl,decide_false,Bool.false_or]
   rw[Bool.eq_iff_iff,decide_eq_true_eq]
   exact k1M _ _
theorem lessO_swo:Sort.SWO z2e where
 irrefl x:=by simp[z2e,k3e]
 trans x y z h1 h2:=by
  simp only[z2e,Bool.or_eq_true,Bool.and_eq_true,decide_eq_true_eq] at *
  rcases h1 with h1|⟨e1,h1⟩
  ·rcases h2 with h2|⟨e2,h2⟩
   ·exact .inl (by omega)
   ·exact .inl (by omega)
  ·rcases h2 with h2|⟨e2,h2⟩
   ·exact .inl (by omega)
   ·exact .inr ⟨by omega,j2L _ _ _ h1 h2⟩
 ntrans x y z h1 h2:=by
  simp only[z2e,Bool.or_eq_false_iff,Bool.and_eq_false_iff,decide_eq_false_iff_not] at *
  refine⟨by omega,?_⟩
  by_cases e:x.Pos=z.Pos
  ·have e1:x.Pos=y.Pos:=by omega
   have e2:y.Pos=z.Pos:=by omega
   right
   have a1:=h1.2.resolve_left (by simpa using e1)
   have a2:=h2.2.resolve_left (by simpa using e2)
   cases hb:Op.bytesLess x.Name.toList z.Name.toList with
   | false=>rfl
   | true=>
    -- x < z, not x < y, not y < z
    by_cases hyx:Op.bytesLess y.Name.toList x.Name.toList=true
    ·rw[j2L _ _ _ hyx hb] at a2;cases a2
    ·have:=j2M _ _ a1 (by simpa using hyx)
     rw[this,a2] at hb;cases hb
  ·exact .inl (by simpa using e)
theorem z6n (x y:Oc)(h1:z2e x y=false)(h2:z2e y x=false):x=y:=by
 simp only[z2e,Bool.or_eq_false_iff,Bool.and_eq_false_iff,decide_eq_false_iff_not] at *
 have e:x.Pos=y.Pos:=by omega
 have a1:=h1.2.resolve_left (by simpa using e)
 have a2:=h2.2.resolve_left (by simpa using e.symm)
 have:=j8d (j2M _ _ a1 a2)
 cases x;cases y;simp_all
end Go.Proofs.YtomdlgffolbdkaaGreat
namespace Go.Proofs
open Go.Shelf
namespace YtomdlgffolbdkaaGreat
def j5G:Go.Shelf.Ren:=⟨fun|6=>254|15=>280|14=>279|28=>304|29=>305|20=>296|21=>297|22=>298|23=>299|24=>300|25=>301|26=>302|27=>303|46=>313|47=>314|48=>315|49=>316|50=>317|57=>321|n=>n,fun|22=>137|24=>105|25=>253|3=>3|39=>180|0=>0|53=>285|55=>287|4=>4|46=>278|45=>277|50=>282|5=>5|9=>9|66=>290|70=>294|76=>296|77=>68|n=>n,fun|n=>n⟩
theorem j9D:Go.Proofs.SlLaysF0.n6 Tryz.prog j5G:={
 mixed:=by kernel_rfl,
 f6:=⟨Tryz.f254.name,by decide,Tryz.func254.trans (congrArg some (by kernel_rfl))⟩,
 f14:=⟨Tryz.f279.name,by decide,Tryz.func279.trans (congrArg some (by kernel_rfl))⟩,
 f15:=Tryz.func280.trans (congrArg some (by kernel_rfl)),
 f20:=⟨Tryz.f296.name,by decide,Tryz.func296.trans (congrArg some (by kernel_rfl))⟩,
 f21:=⟨Tryz.f297.name,by decide,Tryz.func297.trans (congrArg some (by kernel_rfl))⟩,
 f22:=⟨Tryz.f298.name,by decide,Tryz.func298.trans (congrArg some (by kernel_rfl))⟩,
 f23:=⟨Tryz.f299.name,by decide,Tryz.func299.trans (congrArg some (by kernel_rfl))⟩,
 f24:=⟨Tryz.f300.name,by decide,Tryz.func300.trans (congrArg some (by kernel_rfl))⟩,
 f25:=⟨Tryz.f301.name,by decide,Tryz.func301.trans (congrArg some (by kernel_rfl))⟩,
 f26:=⟨Tryz.f302.name,by decide,Tryz.func302.trans (congrArg some (by kernel_rfl))⟩,
 f27:=⟨Tryz.f303.name,by decide,Tryz.func303.trans (congrArg some (by kernel_rfl))⟩,
 f28:=Tryz.func304.trans (congrArg some (by kernel_rfl)),
 f29:=Tryz.func305.trans (congrArg some (by kernel_rfl)),
 f46:=⟨Tryz.f313.name,by decide,Tryz.func313.trans (congrArg some (by kernel_rfl))⟩,
 f47:=Tryz.func314.trans (congrArg some (by kernel_rfl)),
 f48:=Tryz.func315.trans (congrArg some (by kernel_rfl)),
 f49:=⟨Tryz.f316.name,by decide,Tryz.func316.trans (congrArg some (by kernel_rfl))⟩,
 f50:=⟨Tryz.f317.name,by decide,Tryz.func317.trans (congrArg some (by kernel_rfl))⟩,
 f57:=⟨Tryz.f321.name,by decide,Tryz.func321.trans (congrArg some (by kernel_rfl))⟩,
 t0:=Tryz.underlying0,
 a0:=Tryz.isAgg0,
 z0:=Tryz.sizeOf0,
 v0:=Tryz.zeroValue0,
 t3:=Tryz.underlying3,
 a3:=Tryz.isAgg3,
 z3:=Tryz.sizeOf3,
 v3:=Tryz.zeroValue3,
 t4:=Tryz.underlying4,
 a4:=Tryz.isAgg4,
 z4:=Tryz.sizeOf4,
 v4:=Tryz.zeroValue4,
 t5:=Tryz.underlying5,
 a5:=Tryz.isAgg5,
 z5:=Tryz.sizeOf5,
 v5:=Tryz.zeroValue5,
 t9:=Tryz.underlying9,
 a9:=Tryz.isAgg9,
 z9:=Tryz.sizeOf9,
 v9:=Tryz.zeroValue9,
 t22:=Tryz.underlying137,
 a22:=Tryz.isAgg137,
 z22:=Tryz.sizeOf137,
 v22:=Tryz.zeroValue137,
 t25:=Tryz.underlying253,
 a25:=Tryz.isAgg253,
 z25:=Tryz.sizeOf253,
 v25:=Tryz.zeroValue253,
 t39:=Tryz.underlying180,
 a39:=Tryz.isAgg180,
 z39:=Tryz.sizeOf180,
 v39:=Tryz.zeroValue180,
 t45:=Tryz.underlying277,
 a45:=Tryz.isAgg277,
 z45:=Tryz.sizeOf277,
 v45:=Tryz.zeroValue277,
 t46:=Tryz.underlying278,
 a46:=Tryz.isAgg278,
 z46:=Tryz.sizeOf278,
 v46:=Tryz.zeroValue278,
 t50:=Tryz.underlying282,
 a50:=Tryz.isAgg282,
 z50:=Tryz.sizeOf282,
 v50:=Tryz.zeroValue282,
 t53:=Tryz.underlying285,
 a53:=Tryz.isAgg285,
 z53:=Tryz.sizeOf285,
 v53:=Tryz.zeroValue285,
 t55:=Tryz.underlying287,
 a55:=Tryz.isAgg287,
 z55:=Tryz.sizeOf287,
 v55:=Tryz.zeroValue287,
 t66:=Tryz.underlying290,
 a66:=Tryz.isAgg290,
 z66:=Tryz.sizeOf290,
 v66:=Tryz.zeroValue290,
 t70:=Tryz.underlying294,
 a70:=Tryz.isAgg294,
 z70:=Tryz.sizeOf294,
 v70:=Tryz.zeroValue294,
 t76:=Tryz.underlying296,
 a76:=Tryz.isAgg296,
 z76:=Tryz.sizeOf296,
 v76:=Tryz.zeroValue296,
 t77:=Tryz.underlying68,
 a77:=Tryz.isAgg68,
 z77:=Tryz.sizeOf68,
 v77:=Tryz.zeroValue68 }
end YtomdlgffolbdkaaGreat
end Go.Proofs
namespace Go.Proofs.YtomdlgffolbdkaaGreat
open Go Go.E Go.RowKit
instance:Inhabited Oc:=⟨⟨0,⟨#[]⟩⟩⟩
def encO (x:Oc):List Value:=[.int .i64 x.Pos,.string x.Name]
theorem k1O (blk off size:Nat)(w:World):CmpLays Tryz.prog 255 #[] encO 2 cmpO blk off size w:=fun _ _ _ _ x y=>
 Calls.mono (k1L x y _) fun e w' ⟨v,h1,_,h2,h3⟩=>⟨by rw[h1,h2],h3⟩
theorem z9Q:ltOf cmpO=z2e:=by funext x y;exact k1N x y
def j4n (l:List Oc):List Oc:=l.mergeSort fun x y=>!z2e y x
theorem j9E {S1:Nat→Prop}{w:World}{x:Oc}{c:List Value}(h:A.rd1 S1 w (Oc.D x) c):c=encO x∧∀ (S2:Nat→Prop) (w2:World),A.rd1 S2 w2 (Oc.D x) c:=by
 have h' : A.rdCs S1 w [.i .i64 x.Pos,.s x.Name] c:=h
 simp only[A.rdCs,A.rdC] at h'
 obtain⟨v,r,rfl,⟨rfl,h1⟩,v2,r2,rfl,⟨rfl,h2⟩,rfl⟩:=h'
 refine⟨rfl,fun S2 w2=>?_⟩
 show A.rdCs S2 w2 [.i .i64 x.Pos,.s x.Name] _
 simp only[A.rdCs,A.rdC]
 exact⟨_,_,rfl,⟨rfl,h1⟩,_,_,rfl,⟨rfl,h2⟩,rfl⟩
theorem k1P {m:A.Md}{a0:List Oc}(hbig:a0.length<4611686018427387904):A.Ok Tryz.prog 254 [.ref 0 none,.fn 255 []] [.row m 2 (a0.map Oc.D)] (.tu []) [.row m 2 ((j4n a0).map Oc.D)]:=by
 have eg:∀ args w,(callFunc 255 args).run Tryz.prog w=.ok (.enter 255 args) w:=enters_of Tryz.func255 (by kernel_rfl) rfl
 refine A.sortOk (enc:=encO) (fun h=>(j9E h).1) (fun h=>(j9E h).2 _ _) (fun _=>rfl) (fun l=>List.length_mergeSort l) (fun l y hy=>List.mem_mergeSort.1 hy) (fun A0 c w=>?_) (fun g cap d w hH hblk hbig=>?_) hbig
 ·have hc:=AnyF.slices_SortFunc_none j9D A0 c (.func (.func 255) #[] #[]) w
  change Calls Tryz.prog 254 _ _ _ at hc
  exact hc
 ·have hc:=AnyQ.slices_SortFunc_total j9D 2 Tryz.isAgg105 Tryz.sizeOf105 encO (fun _=>rfl) (fun x v hv=>by simp[encO] at hv;rcases hv with rfl|rfl<;>rfl) cmpO (by rw[z9Q];exact lessO_swo) 255 #[] g 0 cap d w eg (k1O _ _ _ _) hH hblk hbig (by rw[z9Q];exact z6n)
  change Calls Tryz.prog 254 _ _ _ at hc
  rw[z9Q] at hc
  exact hc
end Go.Proofs.YtomdlgffolbdkaaGreat
