/- What slices.SortFunc does by the order of the occurrences: each lemma bears its conditions in its statement. -/
import Derived.Test.YtibagkppfnjgcaaGreatAb6
import Derived.Deep.Quiet
import Derived.Deep.QuietTactic
import Derived.Shelf.SlSortCmp.NoneTotal
import Derived.Sort.Grow
import Derived.Sort.Statements
import Derived.StillTailTactics
import Derived.Test.YtibagkppfnjgcaaGreatRows
import Derived.WalkKit
import Derived.WalkLawsBesides
import Derived.WalkSpells
set_option linter.unusedVariables false
set_option linter.unusedSimpArgs false
set_option linter.ambiguousOpen false
set_option linter.unusedSectionVars false
set_option linter.unnecessarySimpa false
namespace Go.Proofs.YtibagkppfnjgcaaGreat
open Go Go.RowKit
set_option maxHeartbeats 1000000
set_option maxRecDepth 100000
theorem j8V (x:Int)(W:World):Calls Tryz.prog 164 #[.int .i64 x] W fun e w'=>e = .returned (.bool false)∧w'=W:=by
 go_enter Tryz.func164,Tryz.ntmps164
 go_wp2
 go_ret
 simp
theorem j8W (x:ByteArray)(W:World):Calls Tryz.prog 165 #[.string x] W fun e w'=>e = .returned (.bool false)∧w'=W:=by
 go_enter Tryz.func165,Tryz.ntmps165
 go_wp2
 go_ret
 simp
def cmpI (x y:Int):Int:=if x < y then -1 else if y < x then 1 else 0
def cmpS (x y:ByteArray):Int:=if Op.bytesLess x.toList y.toList=true then -1 else if (x.toList == y.toList)=true then 0 else 1
theorem j8X (x y:Int)(W:World):Calls Tryz.prog 124 #[.int .i64 x,.int .i64 y] W fun e w'=>e = .returned (.int .i64 (cmpI x y))∧w'=W:=by
 unfold cmpI
 go_enter Tryz.func124,Tryz.ntmps124
 go_wp2_with (go_at_call 164; refine (j8V _ _).mono ?_; rintro e w' ⟨rfl,rfl⟩)
 all_goals (go_ret; simp_all)
theorem j8Y (x y:ByteArray)(W:World):Calls Tryz.prog 125 #[.string x,.string y] W fun e w'=>e = .returned (.int .i64 (cmpS x y))∧w'=W:=by
 unfold cmpS
 go_enter Tryz.func125,Tryz.ntmps125
 go_wp2_with (go_at_call 165; refine (j8W _ _).mono ?_; rintro e w' ⟨rfl,rfl⟩)
 all_goals (first | go_ret | skip)
 all_goals (simp_all)
theorem j8Z (x y:Int)(hx:x≠0)(g:Nat)(W:World)(h0:W.cell? ⟨g,0,none⟩=some (.int .i64 x)):Calls Tryz.prog 123 #[.slice (some ⟨g,0,none⟩) 2 2] W fun e w'=>e = .returned (.int .i64 x)∧w'=W:=by
 have hb:(x != 0)=true:=by simpa using hx
 go_enter Tryz.func123,Tryz.ntmps123
 go_wp2
 refine wp_loop_rounds 1 ?_
 simp only [rounds_succ]
 go_wp2
 all_goals (first | (go_ret; simp_all; done) | simp_all)
theorem j9a (y:Int)(hy:y≠0)(g:Nat)(W:World)(h0:W.cell? ⟨g,0,none⟩=some (.int .i64 0))(h1:W.cell? ⟨g,1,none⟩=some (.int .i64 y)):Calls Tryz.prog 123 #[.slice (some ⟨g,0,none⟩) 2 2] W fun e w'=>e = .returned (.int .i64 y)∧w'=W:=by
 have hb:(y != 0)=true:=by simpa using hy
 go_enter Tryz.func123,Tryz.ntmps123
 go_wp2
 refine wp_loop_rounds 2 ?_
 simp only [rounds_succ]
 go_wp2
 simp only [rounds_succ]
 go_wp2
 all_goals (first | (go_ret; simp_all; done) | simp_all)
theorem j9b (g:Nat)(W:World)(h0:W.cell? ⟨g,0,none⟩=some (.int .i64 0))(h1:W.cell? ⟨g,1,none⟩=some (.int .i64 0)):Calls Tryz.prog 123 #[.slice (some ⟨g,0,none⟩) 2 2] W fun e w'=>e = .returned (.int .i64 0)∧w'=W:=by
 go_enter Tryz.func123,Tryz.ntmps123
 go_wp2
 refine wp_loop_rounds 3 ?_
 simp only [rounds_succ]
 go_wp2
 simp only [rounds_succ]
 go_wp2
 simp only [rounds_succ]
 go_wp2
 all_goals (first | (go_ret; simp_all; done) | simp_all)
theorem j9X (x y:Int)(g:Nat)(W:World)(h0:W.cell? ⟨g,0,none⟩=some (.int .i64 x))(h1:W.cell? ⟨g,1,none⟩=some (.int .i64 y)):Calls Tryz.prog 123 #[.slice (some ⟨g,0,none⟩) 2 2] W fun e w'=>e = .returned (.int .i64 (if x≠0 then x else y))∧w'=W:=by
 by_cases hx:x=0
 ·subst hx
  by_cases hy:y=0
  ·subst hy; exact j9b g W h0 h1
  ·exact j9a y hy g W h0 h1
 ·rw [if_pos hx]; exact j8Z x y hx g W h0
def cmpO (a b:Occurrence):Int:=if cmpI a.Pos b.Pos≠0 then cmpI a.Pos b.Pos else cmpS a.Name b.Name
open Go.E
theorem ag3:aggT Tryz.prog 3=some false:=by kernel_rfl
theorem ag9:aggT Tryz.prog 9=some false:=by kernel_rfl
theorem sz3:szT Tryz.prog 3=some 1:=by kernel_rfl
theorem ze3:z1G Tryz.prog 3=some [.int .i64 0]:=by kernel_rfl
theorem k0p:q7i Tryz.prog 104=some 3:=by kernel_rfl
theorem j8B:z4H Tryz.prog 40 0=some 0:=by kernel_rfl
theorem j8C:z4H Tryz.prog 40 1=some 1:=by kernel_rfl
theorem k0q:q8F Tryz.prog 123=true:=by kernel_rfl
theorem k0r:q8F Tryz.prog 124=true:=by kernel_rfl
theorem k0s:q8F Tryz.prog 125=true:=by kernel_rfl
theorem hmix:Tryz.prog.follows .mixedOrders=true:=by kernel_rfl
theorem j7b (a b:Occurrence)(W:World):Ret Tryz.prog 97 #[.agg #[.int .i64 a.Pos,.string a.Name],.agg #[.int .i64 b.Pos,.string b.Name]] W (fun _=>False) fun v w'=>v = .int .i64 (cmpO a b)∧Gr W w':=by
 have hI:∀ W',Ret Tryz.prog 124 #[.int .i64 a.Pos,.int .i64 b.Pos] W' (fun _=>False) fun v w'=>v = .int .i64 (cmpI a.Pos b.Pos)∧Gr W' w':=fun W'=>(j8X a.Pos b.Pos W').mono fun e w' ⟨h1,h2⟩=>⟨_,h1,by rw [h2]; exact Ext.refl _,rfl,by rw [h2]; exact Gr.refl _⟩
 have hS:∀ W',Ret Tryz.prog 125 #[.string a.Name,.string b.Name] W' (fun _=>False) fun v w'=>v = .int .i64 (cmpS a.Name b.Name)∧Gr W' w':=fun W'=>(j8Y a.Name b.Name W').mono fun e w' ⟨h1,h2⟩=>⟨_,h1,by rw [h2]; exact Ext.refl _,rfl,by rw [h2]; exact Gr.refl _⟩
 unfold cmpO
 refine enter Tryz.func97 rfl rfl rfl ?_
 refine q0O (q1H ?_)
 refine q0W rfl rfl rfl rfl rfl fun b1 w1 g1 hb1 B1=>?_
 refine q0W rfl rfl rfl rfl rfl fun b2 w2 g2 hb2 B2=>?_
 have B1:=B1.ext g2.ext
 refine WL.ev rfl rfl (q1R rfl rfl) (WL.nil ?_)
 refine q0O (q0T (R:=Gr) 10 Gr.refl Gr.trans Gr.draw hmix (by kernel_rfl) ?_)
 refine QC.ev rfl rfl (fun w hw=>q0F rfl j8B rfl) ?_
 refine QC.ev rfl rfl (fun w hw=>q0G rfl ag3 rfl ((B1.ext hw.ext).cell rfl)) ?_
 refine QC.ev rfl rfl (fun w hw=>q0F rfl j8B rfl) ?_
 refine QC.ev rfl rfl (fun w hw=>q0G rfl ag3 rfl ((B2.ext hw.ext).cell rfl)) ?_
 refine q0Q rfl rfl rfl rfl rfl k0r rfl (fun w hw=>hI w) ?_
 refine QC.ev rfl rfl (fun w hw=>q0F rfl j8C rfl) ?_
 refine QC.ev rfl rfl (fun w hw=>q0G rfl ag9 rfl ((B1.ext hw.ext).cell rfl)) ?_
 refine QC.ev rfl rfl (fun w hw=>q0F rfl j8C rfl) ?_
 refine QC.ev rfl rfl (fun w hw=>q0G rfl ag9 rfl ((B2.ext hw.ext).cell rfl)) ?_
 refine q0Q rfl rfl rfl rfl rfl k0s rfl (fun w hw=>hS w) ?_
 refine QC.nil fun w3 g3=>?_
 refine q1E rfl rfl rfl k0p sz3 ze3 rfl (j9L rfl (j9L rfl k0m)) rfl rfl rfl fun g w4 g4 B4=>?_
 refine q2b rfl rfl rfl rfl rfl k0q rfl (M:=fun _=>False) (R:=fun v w'=>v = .int .i64 (if cmpI a.Pos b.Pos≠0 then cmpI a.Pos b.Pos else cmpS a.Name b.Name)∧w'=w4) ((j9X _ _ g w4 (B4.cell rfl) (B4.cell rfl)).mono fun e w' ⟨h1,h2⟩=>⟨_,h1,by rw [h2]; exact Ext.refl _,rfl,h2⟩) ?_
 rintro _ w5 hE ⟨rfl,rfl⟩
 refine WL.ev rfl rfl (q1R rfl rfl) (WL.nil ?_)
 refine CW.ret ?_
 have g:=((g1.trans g2).trans g3).trans g4
 exact⟨_,res1 rfl rfl rfl,g.ext,rfl,g⟩
end Go.Proofs.YtibagkppfnjgcaaGreat
namespace Go.Proofs.YtibagkppfnjgcaaGreat
open Go Go.E Go.RowKit
theorem j8D:∀ x:List UInt8,Op.bytesLess x x=false
 | []=>rfl
 | a :: x=>by simp [Op.bytesLess,j8D x]
theorem z9x:∀ x y z:List UInt8,Op.bytesLess x y=true→Op.bytesLess y z=true→Op.bytesLess x z=true
 | _,[],_,h,_=>by simp [Op.bytesLess] at h
 | _,_ :: _,[],_,h=>by simp [Op.bytesLess] at h
 | [],_ :: _,_ :: _,_,_=>rfl
 | a :: x,b :: y,c :: z,h1,h2=>by
  simp only [Op.bytesLess,Bool.or_eq_true,Bool.and_eq_true,decide_eq_true_eq,beq_iff_eq] at *
  rcases h1 with h1 | ⟨rfl,h1⟩
  ·rcases h2 with h2 | ⟨rfl,h2⟩
   ·exact .inl (by rw [UInt8.lt_iff_toNat_lt] at *; omega)
   ·exact .inl h1
  ·rcases h2 with h2 | ⟨rfl,h2⟩
   ·exact .inl h2
   ·exact .inr ⟨rfl,z9x x y z h1 h2⟩
theorem z9y:∀ x y:List UInt8,Op.bytesLess x y=false→Op.bytesLess y x=false→x=y
 | [],[],_,_=>rfl
 | [],_ :: _,h,_=>by simp [Op.bytesLess] at h
 | _ :: _,[],_,h=>by simp [Op.bytesLess] at h
 | a :: x,b :: y,h1,h2=>by
  simp only [Op.bytesLess,Bool.or_eq_false_iff,Bool.and_eq_false_iff,decide_eq_false_iff_not,beq_eq_false_iff_ne] at *
  have hab:a=b:=by
   have h3:=h1.1; have h4:=h2.1
   rw [UInt8.lt_iff_toNat_lt] at h3 h4
   exact UInt8.toNat_inj.1 (by omega)
  subst hab
  simp at h1 h2
  rw [z9y x y h1 h2]
theorem j4l {x y:ByteArray}(h:x.toList=y.toList):x=y:=by
 rw [ByteArray.toList_eq,ByteArray.toList_eq] at h
 cases x; cases y; simp at h; simp [h]
theorem j7c (x y:ByteArray):cmpS x y < 0↔Op.bytesLess x.toList y.toList=true:=by
 unfold cmpS
 by_cases h:Op.bytesLess x.toList y.toList=true
 ·simp [h]
 ·rw [if_neg h]
  constructor
  ·intro h0; split at h0<;>simp at h0
  ·intro h0; exact absurd h0 h
def z0T (a b:Occurrence):Bool:=decide (a.Pos < b.Pos)||(decide (a.Pos=b.Pos)&&Op.bytesLess a.Name.toList b.Name.toList)
theorem j7d (a b:Occurrence):decide (cmpO a b < 0)=z0T a b:=by
 unfold cmpO z0T cmpI
 by_cases h1:a.Pos < b.Pos
 ·simp [h1]
 ·by_cases h2:b.Pos < a.Pos
  ·have:¬ a.Pos=b.Pos:=by omega
   simp [h1,h2,this]
  ·have:a.Pos=b.Pos:=by omega
   simp only [h1,h2,if_false,ne_eq,not_true_eq_false,this,decide_true,Bool.true_and,Int.lt_irrefl,decide_false,Bool.false_or]
   rw [Bool.eq_iff_iff,decide_eq_true_eq]
   exact j7c _ _
theorem lessO_swo:Sort.SWO z0T where
 irrefl x:=by simp [z0T,j8D]
 trans x y z h1 h2:=by
  simp only [z0T,Bool.or_eq_true,Bool.and_eq_true,decide_eq_true_eq] at *
  rcases h1 with h1 | ⟨e1,h1⟩
  ·rcases h2 with h2 | ⟨e2,h2⟩
   ·exact .inl (by omega)
   ·exact .inl (by omega)
  ·rcases h2 with h2 | ⟨e2,h2⟩
   ·exact .inl (by omega)
   ·exact .inr ⟨by omega,z9x _ _ _ h1 h2⟩
 ntrans x y z h1 h2:=by
  simp only [z0T,Bool.or_eq_false_iff,Bool.and_eq_false_iff,decide_eq_false_iff_not] at *
  refine⟨by omega,?_⟩
  by_cases e:x.Pos=z.Pos
  ·have e1:x.Pos=y.Pos:=by omega
   have e2:y.Pos=z.Pos:=by omega
   right
   have a1:=h1.2.resolve_left (by simpa using e1)
   have a2:=h2.2.resolve_left (by simpa using e2)
   cases hb:Op.bytesLess x.Name.toList z.Name.toList with
   | false=>rfl
   | true=>
    -- x < z, not x < y, not y < z
    by_cases hyx:Op.bytesLess y.Name.toList x.Name.toList=true
    ·rw [z9x _ _ _ hyx hb] at a2; cases a2
    ·have:=z9y _ _ a1 (by simpa using hyx)
     rw [this,a2] at hb; cases hb
  ·exact .inl (by simpa using e)
theorem z4q (x y:Occurrence)(h1:z0T x y=false)(h2:z0T y x=false):x=y:=by
 simp only [z0T,Bool.or_eq_false_iff,Bool.and_eq_false_iff,decide_eq_false_iff_not] at *
 have e:x.Pos=y.Pos:=by omega
 have a1:=h1.2.resolve_left (by simpa using e)
 have a2:=h2.2.resolve_left (by simpa using e.symm)
 have:=j4l (z9y _ _ a1 a2)
 cases x; cases y; simp_all
end Go.Proofs.YtibagkppfnjgcaaGreat
namespace Go.Proofs.YtibagkppfnjgcaaGreat
open Go Go.E Go.RowKit
end Go.Proofs.YtibagkppfnjgcaaGreat
namespace Go.Proofs
open Go.Shelf
namespace YtibagkppfnjgcaaGreat
def j2d:Go.Shelf.Ren:=⟨fun | 6=>96 | 15=>122 | 14=>121 | 28=>162 | 29=>163 | 20=>154 | 21=>155 | 22=>156 | 23=>157 | 24=>158 | 25=>159 | 26=>160 | 27=>161 | 46=>179 | 47=>180 | 48=>181 | 49=>182 | 50=>183 | 57=>196 | n=>n,fun | 22=>30 | 24=>40 | 25=>114 | 3=>3 | 39=>121 | 0=>0 | 53=>149 | 55=>151 | 4=>4 | 46=>142 | 45=>141 | 50=>146 | 5=>5 | 9=>9 | 66=>161 | 70=>165 | 76=>169 | 77=>68 | n=>n,fun | n=>n⟩
theorem j5y:Go.Proofs.SlLaysF0.n6 Tryz.prog j2d:={
 mixed:=by kernel_rfl,
 f6:=⟨Tryz.f96.name,by decide,Tryz.func96.trans (congrArg some (by kernel_rfl))⟩,
 f14:=⟨Tryz.f121.name,by decide,Tryz.func121.trans (congrArg some (by kernel_rfl))⟩,
 f15:=Tryz.func122.trans (congrArg some (by kernel_rfl)),
 f20:=⟨Tryz.f154.name,by decide,Tryz.func154.trans (congrArg some (by kernel_rfl))⟩,
 f21:=⟨Tryz.f155.name,by decide,Tryz.func155.trans (congrArg some (by kernel_rfl))⟩,
 f22:=⟨Tryz.f156.name,by decide,Tryz.func156.trans (congrArg some (by kernel_rfl))⟩,
 f23:=⟨Tryz.f157.name,by decide,Tryz.func157.trans (congrArg some (by kernel_rfl))⟩,
 f24:=⟨Tryz.f158.name,by decide,Tryz.func158.trans (congrArg some (by kernel_rfl))⟩,
 f25:=⟨Tryz.f159.name,by decide,Tryz.func159.trans (congrArg some (by kernel_rfl))⟩,
 f26:=⟨Tryz.f160.name,by decide,Tryz.func160.trans (congrArg some (by kernel_rfl))⟩,
 f27:=⟨Tryz.f161.name,by decide,Tryz.func161.trans (congrArg some (by kernel_rfl))⟩,
 f28:=Tryz.func162.trans (congrArg some (by kernel_rfl)),
 f29:=Tryz.func163.trans (congrArg some (by kernel_rfl)),
 f46:=⟨Tryz.f179.name,by decide,Tryz.func179.trans (congrArg some (by kernel_rfl))⟩,
 f47:=Tryz.func180.trans (congrArg some (by kernel_rfl)),
 f48:=Tryz.func181.trans (congrArg some (by kernel_rfl)),
 f49:=⟨Tryz.f182.name,by decide,Tryz.func182.trans (congrArg some (by kernel_rfl))⟩,
 f50:=⟨Tryz.f183.name,by decide,Tryz.func183.trans (congrArg some (by kernel_rfl))⟩,
 f57:=⟨Tryz.f196.name,by decide,Tryz.func196.trans (congrArg some (by kernel_rfl))⟩,
 t0:=Tryz.underlying0,
 a0:=Tryz.isAgg0,
 z0:=Tryz.sizeOf0,
 v0:=Tryz.zeroValue0,
 t3:=Tryz.underlying3,
 a3:=Tryz.isAgg3,
 z3:=Tryz.sizeOf3,
 v3:=Tryz.zeroValue3,
 t4:=Tryz.underlying4,
 a4:=Tryz.isAgg4,
 z4:=Tryz.sizeOf4,
 v4:=Tryz.zeroValue4,
 t5:=Tryz.underlying5,
 a5:=Tryz.isAgg5,
 z5:=Tryz.sizeOf5,
 v5:=Tryz.zeroValue5,
 t9:=Tryz.underlying9,
 a9:=Tryz.isAgg9,
 z9:=Tryz.sizeOf9,
 v9:=Tryz.zeroValue9,
 t22:=Tryz.underlying30,
 a22:=Tryz.isAgg30,
 z22:=Tryz.sizeOf30,
 v22:=Tryz.zeroValue30,
 t25:=Tryz.underlying114,
 a25:=Tryz.isAgg114,
 z25:=Tryz.sizeOf114,
 v25:=Tryz.zeroValue114,
 t39:=Tryz.underlying121,
 a39:=Tryz.isAgg121,
 z39:=Tryz.sizeOf121,
 v39:=Tryz.zeroValue121,
 t45:=Tryz.underlying141,
 a45:=Tryz.isAgg141,
 z45:=Tryz.sizeOf141,
 v45:=Tryz.zeroValue141,
 t46:=Tryz.underlying142,
 a46:=Tryz.isAgg142,
 z46:=Tryz.sizeOf142,
 v46:=Tryz.zeroValue142,
 t50:=Tryz.underlying146,
 a50:=Tryz.isAgg146,
 z50:=Tryz.sizeOf146,
 v50:=Tryz.zeroValue146,
 t53:=Tryz.underlying149,
 a53:=Tryz.isAgg149,
 z53:=Tryz.sizeOf149,
 v53:=Tryz.zeroValue149,
 t55:=Tryz.underlying151,
 a55:=Tryz.isAgg151,
 z55:=Tryz.sizeOf151,
 v55:=Tryz.zeroValue151,
 t66:=Tryz.underlying161,
 a66:=Tryz.isAgg161,
 z66:=Tryz.sizeOf161,
 v66:=Tryz.zeroValue161,
 t70:=Tryz.underlying165,
 a70:=Tryz.isAgg165,
 z70:=Tryz.sizeOf165,
 v70:=Tryz.zeroValue165,
 t76:=Tryz.underlying169,
 a76:=Tryz.isAgg169,
 z76:=Tryz.sizeOf169,
 v76:=Tryz.zeroValue169,
 t77:=Tryz.underlying68,
 a77:=Tryz.isAgg68,
 z77:=Tryz.sizeOf68,
 v77:=Tryz.zeroValue68 }
end YtibagkppfnjgcaaGreat
end Go.Proofs
namespace Go.Proofs.YtibagkppfnjgcaaGreat
open Go Go.E Go.RowKit
instance:Inhabited Occurrence:=⟨⟨0,⟨#[]⟩⟩⟩
def encO (x:Occurrence):List Value:=[.int .i64 x.Pos,.string x.Name]
theorem j7e (blk off size:Nat)(w:World):CmpLays Tryz.prog 97 #[] encO 2 cmpO blk off size w:=fun _ _ _ _ x y=>
 Calls.mono (j7b x y _) fun e w' ⟨v,h1,_,h2,h3⟩=>⟨by rw [h1,h2],h3⟩
theorem z6Z:ltOf cmpO=z0T:=by funext x y; exact j7d x y
def j2e (l:List Occurrence):List Occurrence:=l.mergeSort fun x y=>!z0T y x
theorem j5z {S1:Nat→Prop}{w:World}{x:Occurrence}{c:List Value}(h:A.rd1 S1 w (Occurrence.D x) c):c=encO x∧∀ (S2:Nat→Prop) (w2:World),A.rd1 S2 w2 (Occurrence.D x) c:=by
 have h' : A.rdCs S1 w [.i .i64 x.Pos,.s x.Name] c:=h
 simp only [A.rdCs,A.rdC] at h'
 obtain⟨v,r,rfl,⟨rfl,h1⟩,v2,r2,rfl,⟨rfl,h2⟩,rfl⟩:=h'
 refine⟨rfl,fun S2 w2=>?_⟩
 show A.rdCs S2 w2 [.i .i64 x.Pos,.s x.Name] _
 simp only [A.rdCs,A.rdC]
 exact⟨_,_,rfl,⟨rfl,h1⟩,_,_,rfl,⟨rfl,h2⟩,rfl⟩
theorem j7f {m:A.Md}{a0:List Occurrence}(hbig:a0.length < 4611686018427387904):A.Ok Tryz.prog 96 [.ref 0 none,.fn 97 []] [.row m 2 (a0.map Occurrence.D)] (.tu []) [.row m 2 ((j2e a0).map Occurrence.D)]:=by
 have eg:∀ args w,(callFunc 97 args).run Tryz.prog w = .ok (.enter 97 args) w:=enters_of Tryz.func97 (by kernel_rfl) rfl
 refine A.sortOk (enc:=encO) (fun h=>(j5z h).1) (fun h=>(j5z h).2 _ _) (fun _=>rfl) (fun l=>List.length_mergeSort l) (fun l y hy=>List.mem_mergeSort.1 hy) (fun A0 c w=>?_) (fun g cap d w hH hblk hbig=>?_) hbig
 ·have hc:=AnyF.slices_SortFunc_none j5y A0 c (.func (.func 97) #[] #[]) w
  change Calls Tryz.prog 96 _ _ _ at hc
  exact hc
 ·have hc:=AnyQ.slices_SortFunc_total j5y 2 Tryz.isAgg40 Tryz.sizeOf40 encO (fun _=>rfl) (fun x v hv=>by simp [encO] at hv; rcases hv with rfl | rfl<;>rfl) cmpO (by rw [z6Z]; exact lessO_swo) 97 #[] g 0 cap d w eg (j7e _ _ _ _) hH hblk hbig (by rw [z6Z]; exact z4q)
  change Calls Tryz.prog 96 _ _ _ at hc
  rw [z6Z] at hc
  exact hc
end Go.Proofs.YtibagkppfnjgcaaGreat
