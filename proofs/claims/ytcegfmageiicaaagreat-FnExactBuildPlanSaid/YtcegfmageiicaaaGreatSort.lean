/- What slices.SortFunc does by the order of the occurrences: each lemma bears its conditions in its statement. -/
import Derived.Test.YtcegfmageiicaaaGreatAb6
import Derived.Deep.Quiet
import Derived.Deep.QuietTactic
import Derived.Shelf.SlSortCmp.NoneTotal
import Derived.Sort.Grow
import Derived.Sort.Statements
import Derived.StillTailTactics
import Derived.Test.YtcegfmageiicaaaGreatRows
import Derived.WalkKit
import Derived.WalkLawsBesides
import Derived.WalkSpells
set_option linter.unusedVariables false
set_option linter.unusedSimpArgs false
set_option linter.ambiguousOpen false
set_option linter.unusedSectionVars false
set_option linter.unnecessarySimpa false
namespace Go.Proofs.YtcegfmageiicaaaGreat
open Go Go.RowKit
set_option maxHeartbeats 1000000
set_option maxRecDepth 100000
theorem k8G (x:Int)(W:World):Calls Tryz.prog 284 #[.int .i64 x] W fun e w'=>e=.returned (.bool false)∧w'=W:=by
 go_enter Tryz.func284,Tryz.ntmps284
 go_wp2
 go_ret
 simp
theorem k8H (x:ByteArray)(W:World):Calls Tryz.prog 285 #[.string x] W fun e w'=>e=.returned (.bool false)∧w'=W:=by
 go_enter Tryz.func285,Tryz.ntmps285
 go_wp2
 go_ret
 simp
def cmpI (x y:Int):Int:=if x<y then -1 else if y<x then 1 else 0
def cmpS (x y:ByteArray):Int:=if Op.bytesLess x.toList y.toList=true then -1 else if (x.toList == y.toList)=true then 0 else 1
theorem k8I (x y:Int)(W:World):Calls Tryz.prog 240 #[.int .i64 x,.int .i64 y] W fun e w'=>e=.returned (.int .i64 (cmpI x y))∧w'=W:=by
 unfold cmpI
 go_enter Tryz.func240,Tryz.ntmps240
 go_wp2_with (go_at_call 284;refine (k8G _ _).mono ?_;rintro e w' ⟨rfl,rfl⟩)
 all_goals (go_ret;simp_all)
theorem k8J (x y:ByteArray)(W:World):Calls Tryz.prog 241 #[.string x,.string y] W fun e w'=>e=.returned (.int .i64 (cmpS x y))∧w'=W:=by
 unfold cmpS
 go_enter Tryz.func241,Tryz.ntmps241
 go_wp2_with (go_at_call 285;refine (k8H _ _).mono ?_;rintro e w' ⟨rfl,rfl⟩)
 all_goals (first|go_ret|skip)
 all_goals (simp_all)
theorem k8K (x y:Int)(hx:x≠0)(g:Nat)(W:World)(h0:W.cell? ⟨g,0,none⟩=some (.int .i64 x)):Calls Tryz.prog 239 #[.slice (some ⟨g,0,none⟩) 2 2] W fun e w'=>e=.returned (.int .i64 x)∧w'=W:=by
 have hb:(x != 0)=true:=by simpa using hx
 go_enter Tryz.func239,Tryz.ntmps239
 go_wp2
 refine wp_loop_rounds 1 ?_
 simp only[rounds_succ]
 go_wp2
 all_goals (first|(go_ret;simp_all;done)|simp_all)
theorem k8L (y:Int)(hy:y≠0)(g:Nat)(W:World)(h0:W.cell? ⟨g,0,none⟩=some (.int .i64 0))(h1:W.cell? ⟨g,1,none⟩=some (.int .i64 y)):Calls Tryz.prog 239 #[.slice (some ⟨g,0,none⟩) 2 2] W fun e w'=>e=.returned (.int .i64 y)∧w'=W:=by
 have hb:(y != 0)=true:=by simpa using hy
 go_enter Tryz.func239,Tryz.ntmps239
 go_wp2
 refine wp_loop_rounds 2 ?_
 simp only[rounds_succ]
 go_wp2
 simp only[rounds_succ]
 go_wp2
 all_goals (first|(go_ret;simp_all;done)|simp_all)
theorem k8M (g:Nat)(W:World)(h0:W.cell? ⟨g,0,none⟩=some (.int .i64 0))(h1:W.cell? ⟨g,1,none⟩=some (.int .i64 0)):Calls Tryz.prog 239 #[.slice (some ⟨g,0,none⟩) 2 2] W fun e w'=>e=.returned (.int .i64 0)∧w'=W:=by
 go_enter Tryz.func239,Tryz.ntmps239
 go_wp2
 refine wp_loop_rounds 3 ?_
 simp only[rounds_succ]
 go_wp2
 simp only[rounds_succ]
 go_wp2
 simp only[rounds_succ]
 go_wp2
 all_goals (first|(go_ret;simp_all;done)|simp_all)
theorem x0g (x y:Int)(g:Nat)(W:World)(h0:W.cell? ⟨g,0,none⟩=some (.int .i64 x))(h1:W.cell? ⟨g,1,none⟩=some (.int .i64 y)):Calls Tryz.prog 239 #[.slice (some ⟨g,0,none⟩) 2 2] W fun e w'=>e=.returned (.int .i64 (if x≠0 then x else y))∧w'=W:=by
 by_cases hx:x=0
 ·subst hx
  by_cases hy:y=0
  ·subst hy;exact k8M g W h0 h1
  ·exact k8L y hy g W h0 h1
 ·rw[ifP hx];exact k8K x y hx g W h0
def cmpO (a b:Oc):Int:=if cmpI a.Pos b.Pos≠0 then cmpI a.Pos b.Pos else cmpS a.Name b.Name
open Go.E
theorem ag3:aggT Tryz.prog 3=some false:=by kernel_rfl
theorem ag9:aggT Tryz.prog 9=some false:=by kernel_rfl
theorem sz3:szT Tryz.prog 3=some 1:=by kernel_rfl
theorem ze3:z5b Tryz.prog 3=some [.int .i64 0]:=by kernel_rfl
theorem el57:q8F Tryz.prog 57=some 3:=by kernel_rfl
theorem k3M:z9S Tryz.prog 140 0=some 0:=by kernel_rfl
theorem k3N:z9S Tryz.prog 140 1=some 1:=by kernel_rfl
theorem x0I:q9C Tryz.prog 239=true:=by kernel_rfl
theorem x0J:q9C Tryz.prog 240=true:=by kernel_rfl
theorem x0K:q9C Tryz.prog 241=true:=by kernel_rfl
theorem hmix:Tryz.prog.follows .mixedOrders=true:=by kernel_rfl
theorem k6g (a b:Oc)(W:World):Ret Tryz.prog 186 #[.agg #[.int .i64 a.Pos,.string a.Name],.agg #[.int .i64 b.Pos,.string b.Name]] W (fun _=>False) fun v w'=>v=.int .i64 (cmpO a b)∧Gr W w':=by
 have hI:∀ W',Ret Tryz.prog 240 #[.int .i64 a.Pos,.int .i64 b.Pos] W' (fun _=>False) fun v w'=>v=.int .i64 (cmpI a.Pos b.Pos)∧Gr W' w':=fun W'=>(k8I a.Pos b.Pos W').mono fun e w' ⟨h1,h2⟩=>⟨_,h1,by rw[h2];exact Ext.refl _,rfl,by rw[h2];exact Gr.refl _⟩
 have hS:∀ W',Ret Tryz.prog 241 #[.string a.Name,.string b.Name] W' (fun _=>False) fun v w'=>v=.int .i64 (cmpS a.Name b.Name)∧Gr W' w':=fun W'=>(k8J a.Name b.Name W').mono fun e w' ⟨h1,h2⟩=>⟨_,h1,by rw[h2];exact Ext.refl _,rfl,by rw[h2];exact Gr.refl _⟩
 unfold cmpO
 refine enter Tryz.func186 rfl rfl rfl ?_
 refine q1g (q1h ?_)
 refine q1t rfl rfl rfl rfl rfl fun b1 w1 g1 hb1 B1=>?_
 refine q1t rfl rfl rfl rfl rfl fun b2 w2 g2 hb2 B2=>?_
 have B1:=B1.ext g2.ext
 refine WL.ev rfl rfl (q2n rfl rfl) (WL.nil ?_)
 refine q1g (q1n (R:=Gr) 10 Gr.refl Gr.trans Gr.draw hmix (by kernel_rfl) ?_)
 refine QC.ev rfl rfl (fun w hw=>q0M rfl k3M rfl) ?_
 refine QC.ev rfl rfl (fun w hw=>q0N rfl ag3 rfl ((B1.ext hw.ext).cell rfl)) ?_
 refine QC.ev rfl rfl (fun w hw=>q0M rfl k3M rfl) ?_
 refine QC.ev rfl rfl (fun w hw=>q0N rfl ag3 rfl ((B2.ext hw.ext).cell rfl)) ?_
 refine q1k rfl rfl rfl rfl rfl x0J rfl (fun w hw=>hI w) ?_
 refine QC.ev rfl rfl (fun w hw=>q0M rfl k3N rfl) ?_
 refine QC.ev rfl rfl (fun w hw=>q0N rfl ag9 rfl ((B1.ext hw.ext).cell rfl)) ?_
 refine QC.ev rfl rfl (fun w hw=>q0M rfl k3N rfl) ?_
 refine QC.ev rfl rfl (fun w hw=>q0N rfl ag9 rfl ((B2.ext hw.ext).cell rfl)) ?_
 refine q1k rfl rfl rfl rfl rfl x0K rfl (fun w hw=>hS w) ?_
 refine QC.nil fun w3 g3=>?_
 refine q2e rfl rfl rfl el57 sz3 ze3 rfl (k9T rfl (k9T rfl x0C)) rfl rfl rfl fun g w4 g4 B4=>?_
 refine q2w rfl rfl rfl rfl rfl x0I rfl (M:=fun _=>False) (R:=fun v w'=>v=.int .i64 (if cmpI a.Pos b.Pos≠0 then cmpI a.Pos b.Pos else cmpS a.Name b.Name)∧w'=w4) ((x0g _ _ g w4 (B4.cell rfl) (B4.cell rfl)).mono fun e w' ⟨h1,h2⟩=>⟨_,h1,by rw[h2];exact Ext.refl _,rfl,h2⟩) ?_
 rintro _ w5 hE ⟨rfl,rfl⟩
 refine WL.ev rfl rfl (q2n rfl rfl) (WL.nil ?_)
 refine q1e ?_
 have g:=((g1.trans g2).trans g3).trans g4
 exact⟨_,res1 rfl rfl rfl,g.ext,rfl,g⟩
end Go.Proofs.YtcegfmageiicaaaGreat
namespace Go.Proofs.YtcegfmageiicaaaGreat
open Go Go.E Go.RowKit
theorem k8a:∀ x:List UInt8,Op.bytesLess x x=false
 | []=>rfl
 | a::x=>by simp[Op.bytesLess,k8a x]
theorem j6u:∀ x y z:List UInt8,Op.bytesLess x y=true→Op.bytesLess y z=true→Op.bytesLess x z=true
 | _,[],_,h,_=>by simp[Op.bytesLess] at h
 | _,_::_,[],_,h=>by simp[Op.bytesLess] at h
 | [],_::_,_::_,_,_=>rfl
 | a::x,b::y,c::z,h1,h2=>by
  simp only[Op.bytesLess,Bool.or_eq_true,Bool.and_eq_true,decide_eq_true_eq,beq_iff_eq] at *
  rcases h1 with h1|⟨rfl,h1⟩
  ·rcases h2 with h2|⟨rfl,h2⟩
   ·exact .inl (by rw[UInt8.lt_iff_toNat_lt] at *;omega)
   ·exact .inl h1
  ·rcases h2 with h2|⟨rfl,h2⟩
   ·exact .inl h2
   ·exact .inr ⟨rfl,j6u x y z h1 h2⟩
theorem j6v:∀ x y:List UInt8,Op.bytesLess x y=false→Op.bytesLess y x=false→x=y
 | [],[],_,_=>rfl
 | [],_::_,h,_=>by simp[Op.bytesLess] at h
 | _::_,[],_,h=>by simp[Op.bytesLess] at h
 | a::x,b::y,h1,h2=>by
  simp only[Op.bytesLess,Bool.or_eq_false_iff,Bool.and_eq_false_iff,decide_eq_false_iff_not,beq_eq_false_iff_ne] at *
  have hab:a=b:=by
   have h3:=h1.1;have h4:=h2.1
   rw[UInt8.lt_iff_toNat_lt] at h3 h4
   exact UInt8.toNat_inj.1 (by omega)
  subst hab
  simp at h1 h2
  rw[j6v x y h1 h2]
theorem k2j {x y:ByteArray}(h:x.toList=y.toList):x=y:=by
 rw[ByteArray.toList_eq,ByteArray.toList_eq] at h
 cases x;cases y;simp at h;simp[h]
theorem k6h (x y:ByteArray):cmpS x y<0↔Op.bytesLess x.toList y.toList=true:=by
 unfold cmpS
 by_cases h:Op.bytesLess x.toList y.toList=true
 ·simp[h]
 ·rw[ifN h]
  constructor
  ·intro h0;split at h0<;>simp at h0
  ·intro h0;exact absurd h0 h
def z4n (a b:Oc):Bool:=decide (a.Pos<b.Pos)||(decide (a.Pos=b.Pos)&&Op.bytesLess a.Name.toList b.Name.toList)
theorem k6i (a b:Oc):decide (cmpO a b<0)=z4n a b:=by
 unfold cmpO z4n cmpI
 by_cases h1:a.Pos<b.Pos
 ·simp[h1]
 ·by_cases h2:b.Pos<a.Pos
  ·have:¬ a.Pos=b.Pos:=by omega
   simp[h1,h2,this]
  ·have:a.Pos=b.Pos:=by omega
   simp only[h1,h2,if_false,ne_eq,not_true_eq_false,this,decide_true,Bool.true_and,Int.lt_irrefl,decide_false,Bool.false_or]
   rw[Bool.eq_iff_iff,decide_eq_true_eq]
   exact k6h _ _
theorem lessO_swo:Sort.SWO z4n where
 irrefl x:=by simp[z4n,k8a]
 trans x y z h1 h2:=by
  simp only[z4n,Bool.or_eq_true,Bool.and_eq_true,decide_eq_true_eq] at *
  rcases h1 with h1|⟨e1,h1⟩
  ·rcases h2 with h2|⟨e2,h2⟩
   ·exact .inl (by omega)
   ·exact .inl (by omega)
  ·rcases h2 with h2|⟨e2,h2⟩
   ·exact .inl (by omega)
   ·exact .inr ⟨by omega,j6u _ _ _ h1 h2⟩
 ntrans x y z h1 h2:=by
  simp only[z4n,Bool.or_eq_false_iff,Bool.and_eq_false_iff,decide_eq_false_iff_not] at *
  refine⟨by omega,?_⟩
  by_cases e:x.Pos=z.Pos
  ·have e1:x.Pos=y.Pos:=by omega
   have e2:y.Pos=z.Pos:=by omega
   right
   have a1:=h1.2.resolve_left (by simpa using e1)
   have a2:=h2.2.resolve_left (by simpa using e2)
   cases hb:Op.bytesLess x.Name.toList z.Name.toList with
   | false=>rfl
   | true=>
    -- x < z, not x < y, not y < z
    by_cases hyx:Op.bytesLess y.Name.toList x.Name.toList=true
    ·rw[j6u _ _ _ hyx hb] at a2;cases a2
    ·have:=j6v _ _ a1 (by simpa using hyx)
     rw[this,a2] at hb;cases hb
  ·exact .inl (by simpa using e)
theorem z9n (x y:Oc)(h1:z4n x y=false)(h2:z4n y x=false):x=y:=by
 simp only[z4n,Bool.or_eq_false_iff,Bool.and_eq_false_iff,decide_eq_false_iff_not] at *
 have e:x.Pos=y.Pos:=by omega
 have a1:=h1.2.resolve_left (by simpa using e)
 have a2:=h2.2.resolve_left (by simpa using e.symm)
 have:=k2j (j6v _ _ a1 a2)
 cases x;cases y;simp_all
end Go.Proofs.YtcegfmageiicaaaGreat
namespace Go.Proofs.YtcegfmageiicaaaGreat
open Go Go.E Go.RowKit
end Go.Proofs.YtcegfmageiicaaaGreat
namespace Go.Proofs
open Go.Shelf
namespace YtcegfmageiicaaaGreat
def j9v:Go.Shelf.Ren:=⟨fun|6=>185|15=>238|14=>237|28=>282|29=>283|20=>274|21=>275|22=>276|23=>277|24=>278|25=>279|26=>280|27=>281|46=>302|47=>303|48=>304|49=>305|50=>306|57=>318|n=>n,fun|22=>115|24=>140|25=>206|3=>3|39=>138|0=>0|53=>279|55=>281|4=>4|46=>272|45=>271|50=>276|5=>5|9=>9|66=>290|70=>294|76=>297|77=>127|n=>n,fun|n=>n⟩
theorem k3O:Go.Proofs.SlLaysF0.n6 Tryz.prog j9v:={
 mixed:=by kernel_rfl,
 f6:=⟨Tryz.f185.name,by decide,Tryz.func185.trans (congrArg some (by kernel_rfl))⟩,
 f14:=⟨Tryz.f237.name,by decide,Tryz.func237.trans (congrArg some (by kernel_rfl))⟩,
 f15:=Tryz.func238.trans (congrArg some (by kernel_rfl)),
 f20:=⟨Tryz.f274.name,by decide,Tryz.func274.trans (congrArg some (by kernel_rfl))⟩,
 f21:=⟨Tryz.f275.name,by decide,Tryz.func275.trans (congrArg some (by kernel_rfl))⟩,
 f22:=⟨Tryz.f276.name,by decide,Tryz.func276.trans (congrArg some (by kernel_rfl))⟩,
 f23:=⟨Tryz.f277.name,by decide,Tryz.func277.trans (congrArg some (by kernel_rfl))⟩,
 f24:=⟨Tryz.f278.name,by decide,Tryz.func278.trans (congrArg some (by kernel_rfl))⟩,
 f25:=⟨Tryz.f279.name,by decide,Tryz.func279.trans (congrArg some (by kernel_rfl))⟩,
 f26:=⟨Tryz.f280.name,by decide,Tryz.func280.trans (congrArg some (by kernel_rfl))⟩,
 f27:=⟨Tryz.f281.name,by decide,Tryz.func281.trans (congrArg some (by kernel_rfl))⟩,
 f28:=Tryz.func282.trans (congrArg some (by kernel_rfl)),
 f29:=Tryz.func283.trans (congrArg some (by kernel_rfl)),
 f46:=⟨Tryz.f302.name,by decide,Tryz.func302.trans (congrArg some (by kernel_rfl))⟩,
 f47:=Tryz.func303.trans (congrArg some (by kernel_rfl)),
 f48:=Tryz.func304.trans (congrArg some (by kernel_rfl)),
 f49:=⟨Tryz.f305.name,by decide,Tryz.func305.trans (congrArg some (by kernel_rfl))⟩,
 f50:=⟨Tryz.f306.name,by decide,Tryz.func306.trans (congrArg some (by kernel_rfl))⟩,
 f57:=⟨Tryz.f318.name,by decide,Tryz.func318.trans (congrArg some (by kernel_rfl))⟩,
 t0:=Tryz.underlying0,
 a0:=Tryz.isAgg0,
 z0:=Tryz.sizeOf0,
 v0:=Tryz.zeroValue0,
 t3:=Tryz.underlying3,
 a3:=Tryz.isAgg3,
 z3:=Tryz.sizeOf3,
 v3:=Tryz.zeroValue3,
 t4:=Tryz.underlying4,
 a4:=Tryz.isAgg4,
 z4:=Tryz.sizeOf4,
 v4:=Tryz.zeroValue4,
 t5:=Tryz.underlying5,
 a5:=Tryz.isAgg5,
 z5:=Tryz.sizeOf5,
 v5:=Tryz.zeroValue5,
 t9:=Tryz.underlying9,
 a9:=Tryz.isAgg9,
 z9:=Tryz.sizeOf9,
 v9:=Tryz.zeroValue9,
 t22:=Tryz.underlying115,
 a22:=Tryz.isAgg115,
 z22:=Tryz.sizeOf115,
 v22:=Tryz.zeroValue115,
 t25:=Tryz.underlying206,
 a25:=Tryz.isAgg206,
 z25:=Tryz.sizeOf206,
 v25:=Tryz.zeroValue206,
 t39:=Tryz.underlying138,
 a39:=Tryz.isAgg138,
 z39:=Tryz.sizeOf138,
 v39:=Tryz.zeroValue138,
 t45:=Tryz.underlying271,
 a45:=Tryz.isAgg271,
 z45:=Tryz.sizeOf271,
 v45:=Tryz.zeroValue271,
 t46:=Tryz.underlying272,
 a46:=Tryz.isAgg272,
 z46:=Tryz.sizeOf272,
 v46:=Tryz.zeroValue272,
 t50:=Tryz.underlying276,
 a50:=Tryz.isAgg276,
 z50:=Tryz.sizeOf276,
 v50:=Tryz.zeroValue276,
 t53:=Tryz.underlying279,
 a53:=Tryz.isAgg279,
 z53:=Tryz.sizeOf279,
 v53:=Tryz.zeroValue279,
 t55:=Tryz.underlying281,
 a55:=Tryz.isAgg281,
 z55:=Tryz.sizeOf281,
 v55:=Tryz.zeroValue281,
 t66:=Tryz.underlying290,
 a66:=Tryz.isAgg290,
 z66:=Tryz.sizeOf290,
 v66:=Tryz.zeroValue290,
 t70:=Tryz.underlying294,
 a70:=Tryz.isAgg294,
 z70:=Tryz.sizeOf294,
 v70:=Tryz.zeroValue294,
 t76:=Tryz.underlying297,
 a76:=Tryz.isAgg297,
 z76:=Tryz.sizeOf297,
 v76:=Tryz.zeroValue297,
 t77:=Tryz.underlying127,
 a77:=Tryz.isAgg127,
 z77:=Tryz.sizeOf127,
 v77:=Tryz.zeroValue127 }
end YtcegfmageiicaaaGreat
end Go.Proofs
namespace Go.Proofs.YtcegfmageiicaaaGreat
open Go Go.E Go.RowKit
instance:Inhabited Oc:=⟨⟨0,⟨#[]⟩⟩⟩
def encO (x:Oc):List Value:=[.int .i64 x.Pos,.string x.Name]
theorem k6j (blk off size:Nat)(w:World):CmpLays Tryz.prog 186 #[] encO 2 cmpO blk off size w:=fun _ _ _ _ x y=>
 Calls.mono (k6g x y _) fun e w' ⟨v,h1,_,h2,h3⟩=>⟨by rw[h1,h2],h3⟩
theorem j3r:ltOf cmpO=z4n:=by funext x y;exact k6i x y
def j8b (l:List Oc):List Oc:=l.mergeSort fun x y=>!z4n y x
theorem k3P {S1:Nat→Prop}{w:World}{x:Oc}{c:List Value}(h:A.rd1 S1 w (Oc.D x) c):c=encO x∧∀ (S2:Nat→Prop) (w2:World),A.rd1 S2 w2 (Oc.D x) c:=by
 have h' : A.rdCs S1 w [.i .i64 x.Pos,.s x.Name] c:=h
 simp only[A.rdCs,A.rdC] at h'
 obtain⟨v,r,rfl,⟨rfl,h1⟩,v2,r2,rfl,⟨rfl,h2⟩,rfl⟩:=h'
 refine⟨rfl,fun S2 w2=>?_⟩
 show A.rdCs S2 w2 [.i .i64 x.Pos,.s x.Name] _
 simp only[A.rdCs,A.rdC]
 exact⟨_,_,rfl,⟨rfl,h1⟩,_,_,rfl,⟨rfl,h2⟩,rfl⟩
theorem k6k {m:A.Md}{a0:List Oc}(hbig:a0.length<4611686018427387904):A.Ok Tryz.prog 185 [.ref 0 none,.fn 186 []] [.row m 2 (a0.map Oc.D)] (.tu []) [.row m 2 ((j8b a0).map Oc.D)]:=by
 have eg:∀ args w,(callFunc 186 args).run Tryz.prog w=.ok (.enter 186 args) w:=enters_of Tryz.func186 (by kernel_rfl) rfl
 refine A.sortOk (enc:=encO) (fun h=>(k3P h).1) (fun h=>(k3P h).2 _ _) (fun _=>rfl) (fun l=>List.length_mergeSort l) (fun l y hy=>List.mem_mergeSort.1 hy) (fun A0 c w=>?_) (fun g cap d w hH hblk hbig=>?_) hbig
 ·have hc:=AnyF.slices_SortFunc_none k3O A0 c (.func (.func 186) #[] #[]) w
  change Calls Tryz.prog 185 _ _ _ at hc
  exact hc
 ·have hc:=AnyQ.slices_SortFunc_total k3O 2 Tryz.isAgg140 Tryz.sizeOf140 encO (fun _=>rfl) (fun x v hv=>by simp[encO] at hv;rcases hv with rfl|rfl<;>rfl) cmpO (by rw[j3r];exact lessO_swo) 186 #[] g 0 cap d w eg (k6j _ _ _ _) hH hblk hbig (by rw[j3r];exact z9n)
  change Calls Tryz.prog 185 _ _ _ at hc
  rw[j3r] at hc
  exact hc
end Go.Proofs.YtcegfmageiicaaaGreat
