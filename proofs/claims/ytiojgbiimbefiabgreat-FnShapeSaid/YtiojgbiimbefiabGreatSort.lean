/- What slices.SortFunc does by the order of the occurrences: each lemma bears its conditions in its statement. -/
import Derived.Test.YtiojgbiimbefiabGreatAb6
import Derived.Deep.Quiet
import Derived.Deep.QuietTactic
import Derived.Shelf.SlSortCmp.NoneTotal
import Derived.Sort.Grow
import Derived.Sort.Statements
import Derived.StillTailTactics
import Derived.Test.YtiojgbiimbefiabGreatRows
import Derived.WalkKit
import Derived.WalkLawsBesides
import Derived.WalkSpells
set_option linter.unusedVariables false
set_option linter.unusedSimpArgs false
set_option linter.ambiguousOpen false
set_option linter.unusedSectionVars false
set_option linter.unnecessarySimpa false
namespace Go.Proofs.YtiojgbiimbefiabGreat
open Go Go.RowKit
set_option maxHeartbeats 1000000
set_option maxRecDepth 100000
theorem j2b (x:Int)(W:World):Calls Tryz.prog 145 #[.int .i64 x] W fun e w'=>e = .returned (.bool false)∧w'=W:=by
 go_enter Tryz.func145,Tryz.ntmps145
 go_wp2
 go_ret
 simp
theorem j2c (x:ByteArray)(W:World):Calls Tryz.prog 146 #[.string x] W fun e w'=>e = .returned (.bool false)∧w'=W:=by
 go_enter Tryz.func146,Tryz.ntmps146
 go_wp2
 go_ret
 simp
def cmpI (x y:Int):Int:=if x < y then -1 else if y < x then 1 else 0
def cmpS (x y:ByteArray):Int:=if Op.bytesLess x.toList y.toList=true then -1 else if (x.toList == y.toList)=true then 0 else 1
theorem j2d (x y:Int)(W:World):Calls Tryz.prog 122 #[.int .i64 x,.int .i64 y] W fun e w'=>e = .returned (.int .i64 (cmpI x y))∧w'=W:=by
 unfold cmpI
 go_enter Tryz.func122,Tryz.ntmps122
 go_wp2_with (go_at_call 145; refine (j2b _ _).mono ?_; rintro e w' ⟨rfl,rfl⟩)
 all_goals (go_ret; simp_all)
theorem j2e (x y:ByteArray)(W:World):Calls Tryz.prog 123 #[.string x,.string y] W fun e w'=>e = .returned (.int .i64 (cmpS x y))∧w'=W:=by
 unfold cmpS
 go_enter Tryz.func123,Tryz.ntmps123
 go_wp2_with (go_at_call 146; refine (j2c _ _).mono ?_; rintro e w' ⟨rfl,rfl⟩)
 all_goals (first | go_ret | skip)
 all_goals (simp_all)
theorem j2f (x y:Int)(hx:x≠0)(g:Nat)(W:World)(h0:W.cell? ⟨g,0,none⟩=some (.int .i64 x)):Calls Tryz.prog 121 #[.slice (some ⟨g,0,none⟩) 2 2] W fun e w'=>e = .returned (.int .i64 x)∧w'=W:=by
 have hb:(x != 0)=true:=by simpa using hx
 go_enter Tryz.func121,Tryz.ntmps121
 go_wp2
 refine wp_loop_rounds 1 ?_
 simp only [rounds_succ]
 go_wp2
 all_goals (first | (go_ret; simp_all; done) | simp_all)
theorem j2g (y:Int)(hy:y≠0)(g:Nat)(W:World)(h0:W.cell? ⟨g,0,none⟩=some (.int .i64 0))(h1:W.cell? ⟨g,1,none⟩=some (.int .i64 y)):Calls Tryz.prog 121 #[.slice (some ⟨g,0,none⟩) 2 2] W fun e w'=>e = .returned (.int .i64 y)∧w'=W:=by
 have hb:(y != 0)=true:=by simpa using hy
 go_enter Tryz.func121,Tryz.ntmps121
 go_wp2
 refine wp_loop_rounds 2 ?_
 simp only [rounds_succ]
 go_wp2
 simp only [rounds_succ]
 go_wp2
 all_goals (first | (go_ret; simp_all; done) | simp_all)
theorem j2h (g:Nat)(W:World)(h0:W.cell? ⟨g,0,none⟩=some (.int .i64 0))(h1:W.cell? ⟨g,1,none⟩=some (.int .i64 0)):Calls Tryz.prog 121 #[.slice (some ⟨g,0,none⟩) 2 2] W fun e w'=>e = .returned (.int .i64 0)∧w'=W:=by
 go_enter Tryz.func121,Tryz.ntmps121
 go_wp2
 refine wp_loop_rounds 3 ?_
 simp only [rounds_succ]
 go_wp2
 simp only [rounds_succ]
 go_wp2
 simp only [rounds_succ]
 go_wp2
 all_goals (first | (go_ret; simp_all; done) | simp_all)
theorem j3c (x y:Int)(g:Nat)(W:World)(h0:W.cell? ⟨g,0,none⟩=some (.int .i64 x))(h1:W.cell? ⟨g,1,none⟩=some (.int .i64 y)):Calls Tryz.prog 121 #[.slice (some ⟨g,0,none⟩) 2 2] W fun e w'=>e = .returned (.int .i64 (if x≠0 then x else y))∧w'=W:=by
 by_cases hx:x=0
 ·subst hx
  by_cases hy:y=0
  ·subst hy; exact j2h g W h0 h1
  ·exact j2g y hy g W h0 h1
 ·rw [if_pos hx]; exact j2f x y hx g W h0
def cmpO (a b:Occurrence):Int:=if cmpI a.Pos b.Pos≠0 then cmpI a.Pos b.Pos else cmpS a.Name b.Name
open Go.E
theorem ag3:aggT Tryz.prog 3=some false:=by kernel_rfl
theorem ag9:aggT Tryz.prog 9=some false:=by kernel_rfl
theorem sz3:szT Tryz.prog 3=some 1:=by kernel_rfl
theorem ze3:q7l Tryz.prog 3=some [.int .i64 0]:=by kernel_rfl
theorem j3m:q4i Tryz.prog 119=some 3:=by kernel_rfl
theorem j1D:q9A Tryz.prog 44 0=some 0:=by kernel_rfl
theorem j1E:q9A Tryz.prog 44 1=some 1:=by kernel_rfl
theorem j3n:q3J Tryz.prog 121=true:=by kernel_rfl
theorem j3o:q3J Tryz.prog 122=true:=by kernel_rfl
theorem j3p:q3J Tryz.prog 123=true:=by kernel_rfl
theorem hmix:Tryz.prog.follows .mixedOrders=true:=by kernel_rfl
theorem j0z (a b:Occurrence)(W:World):Ret Tryz.prog 89 #[.agg #[.int .i64 a.Pos,.string a.Name],.agg #[.int .i64 b.Pos,.string b.Name]] W (fun _=>False) fun v w'=>v = .int .i64 (cmpO a b)∧Gr W w':=by
 have hI:∀ W',Ret Tryz.prog 122 #[.int .i64 a.Pos,.int .i64 b.Pos] W' (fun _=>False) fun v w'=>v = .int .i64 (cmpI a.Pos b.Pos)∧Gr W' w':=fun W'=>(j2d a.Pos b.Pos W').mono fun e w' ⟨h1,h2⟩=>⟨_,h1,by rw [h2]; exact Ext.refl _,rfl,by rw [h2]; exact Gr.refl _⟩
 have hS:∀ W',Ret Tryz.prog 123 #[.string a.Name,.string b.Name] W' (fun _=>False) fun v w'=>v = .int .i64 (cmpS a.Name b.Name)∧Gr W' w':=fun W'=>(j2e a.Name b.Name W').mono fun e w' ⟨h1,h2⟩=>⟨_,h1,by rw [h2]; exact Ext.refl _,rfl,by rw [h2]; exact Gr.refl _⟩
 unfold cmpO
 refine enter Tryz.func89 rfl rfl rfl ?_
 refine CW.seq (CW.reg ?_)
 refine q0p rfl rfl rfl rfl rfl fun b1 w1 g1 hb1 B1=>?_
 refine q0p rfl rfl rfl rfl rfl fun b2 w2 g2 hb2 B2=>?_
 have B1:=B1.ext g2.ext
 refine WL.ev rfl rfl (Ev.as rfl rfl) (WL.nil ?_)
 refine CW.seq (q0l (R:=Gr) 10 Gr.refl Gr.trans Gr.draw hmix (by kernel_rfl) ?_)
 refine QC.ev rfl rfl (fun w hw=>q0c rfl j1D rfl) ?_
 refine QC.ev rfl rfl (fun w hw=>q0d rfl ag3 rfl ((B1.ext hw.ext).cell rfl)) ?_
 refine QC.ev rfl rfl (fun w hw=>q0c rfl j1D rfl) ?_
 refine QC.ev rfl rfl (fun w hw=>q0d rfl ag3 rfl ((B2.ext hw.ext).cell rfl)) ?_
 refine QC.call rfl rfl rfl rfl rfl j3o rfl (fun w hw=>hI w) ?_
 refine QC.ev rfl rfl (fun w hw=>q0c rfl j1E rfl) ?_
 refine QC.ev rfl rfl (fun w hw=>q0d rfl ag9 rfl ((B1.ext hw.ext).cell rfl)) ?_
 refine QC.ev rfl rfl (fun w hw=>q0c rfl j1E rfl) ?_
 refine QC.ev rfl rfl (fun w hw=>q0d rfl ag9 rfl ((B2.ext hw.ext).cell rfl)) ?_
 refine QC.call rfl rfl rfl rfl rfl j3p rfl (fun w hw=>hS w) ?_
 refine QC.nil fun w3 g3=>?_
 refine q0N rfl rfl rfl j3m sz3 ze3 rfl (j2P rfl (j2P rfl j3k)) rfl rfl rfl fun g w4 g4 B4=>?_
 refine WL.call rfl rfl rfl rfl rfl j3n rfl (M:=fun _=>False) (R:=fun v w'=>v = .int .i64 (if cmpI a.Pos b.Pos≠0 then cmpI a.Pos b.Pos else cmpS a.Name b.Name)∧w'=w4) ((j3c _ _ g w4 (B4.cell rfl) (B4.cell rfl)).mono fun e w' ⟨h1,h2⟩=>⟨_,h1,by rw [h2]; exact Ext.refl _,rfl,h2⟩) ?_
 rintro _ w5 hE ⟨rfl,rfl⟩
 refine WL.ev rfl rfl (Ev.as rfl rfl) (WL.nil ?_)
 refine CW.ret ?_
 have g:=((g1.trans g2).trans g3).trans g4
 exact⟨_,res1 rfl rfl rfl,g.ext,rfl,g⟩
end Go.Proofs.YtiojgbiimbefiabGreat
namespace Go.Proofs.YtiojgbiimbefiabGreat
open Go Go.E Go.RowKit
theorem j1F:∀ x:List UInt8,Op.bytesLess x x=false
 | []=>rfl
 | a :: x=>by simp [Op.bytesLess,j1F x]
theorem z3K:∀ x y z:List UInt8,Op.bytesLess x y=true→Op.bytesLess y z=true→Op.bytesLess x z=true
 | _,[],_,h,_=>by simp [Op.bytesLess] at h
 | _,_ :: _,[],_,h=>by simp [Op.bytesLess] at h
 | [],_ :: _,_ :: _,_,_=>rfl
 | a :: x,b :: y,c :: z,h1,h2=>by
  simp only [Op.bytesLess,Bool.or_eq_true,Bool.and_eq_true,decide_eq_true_eq,beq_iff_eq] at *
  rcases h1 with h1 | ⟨rfl,h1⟩
  ·rcases h2 with h2 | ⟨rfl,h2⟩
   ·exact .inl (by rw [UInt8.lt_iff_toNat_lt] at *; omega)
   ·exact .inl h1
  ·rcases h2 with h2 | ⟨rfl,h2⟩
   ·exact .inl h2
   ·exact .inr ⟨rfl,z3K x y z h1 h2⟩
theorem z3L:∀ x y:List UInt8,Op.bytesLess x y=false→Op.bytesLess y x=false→x=y
 | [],[],_,_=>rfl
 | [],_ :: _,h,_=>by simp [Op.bytesLess] at h
 | _ :: _,[],_,h=>by simp [Op.bytesLess] at h
 | a :: x,b :: y,h1,h2=>by
  simp only [Op.bytesLess,Bool.or_eq_false_iff,Bool.and_eq_false_iff,decide_eq_false_iff_not,beq_eq_false_iff_ne] at *
  have hab:a=b:=by
   have h3:=h1.1; have h4:=h2.1
   rw [UInt8.lt_iff_toNat_lt] at h3 h4
   exact UInt8.toNat_inj.1 (by omega)
  subst hab
  simp at h1 h2
  rw [z3L x y h1 h2]
theorem z7N {x y:ByteArray}(h:x.toList=y.toList):x=y:=by
 rw [ByteArray.toList_eq,ByteArray.toList_eq] at h
 cases x; cases y; simp at h; simp [h]
theorem j0A (x y:ByteArray):cmpS x y < 0↔Op.bytesLess x.toList y.toList=true:=by
 unfold cmpS
 by_cases h:Op.bytesLess x.toList y.toList=true
 ·simp [h]
 ·rw [if_neg h]
  constructor
  ·intro h0; split at h0<;>simp at h0
  ·intro h0; exact absurd h0 h
def q6N (a b:Occurrence):Bool:=decide (a.Pos < b.Pos)||(decide (a.Pos=b.Pos)&&Op.bytesLess a.Name.toList b.Name.toList)
theorem j0B (a b:Occurrence):decide (cmpO a b < 0)=q6N a b:=by
 unfold cmpO q6N cmpI
 by_cases h1:a.Pos < b.Pos
 ·simp [h1]
 ·by_cases h2:b.Pos < a.Pos
  ·have:¬ a.Pos=b.Pos:=by omega
   simp [h1,h2,this]
  ·have:a.Pos=b.Pos:=by omega
   simp only [h1,h2,if_false,ne_eq,not_true_eq_false,this,decide_true,Bool.true_and,Int.lt_irrefl,decide_false,Bool.false_or]
   rw [Bool.eq_iff_iff,decide_eq_true_eq]
   exact j0A _ _
theorem lessO_swo:Sort.SWO q6N where
 irrefl x:=by simp [q6N,j1F]
 trans x y z h1 h2:=by
  simp only [q6N,Bool.or_eq_true,Bool.and_eq_true,decide_eq_true_eq] at *
  rcases h1 with h1 | ⟨e1,h1⟩
  ·rcases h2 with h2 | ⟨e2,h2⟩
   ·exact .inl (by omega)
   ·exact .inl (by omega)
  ·rcases h2 with h2 | ⟨e2,h2⟩
   ·exact .inl (by omega)
   ·exact .inr ⟨by omega,z3K _ _ _ h1 h2⟩
 ntrans x y z h1 h2:=by
  simp only [q6N,Bool.or_eq_false_iff,Bool.and_eq_false_iff,decide_eq_false_iff_not] at *
  refine⟨by omega,?_⟩
  by_cases e:x.Pos=z.Pos
  ·have e1:x.Pos=y.Pos:=by omega
   have e2:y.Pos=z.Pos:=by omega
   right
   have a1:=h1.2.resolve_left (by simpa using e1)
   have a2:=h2.2.resolve_left (by simpa using e2)
   cases hb:Op.bytesLess x.Name.toList z.Name.toList with
   | false=>rfl
   | true=>
    -- x < z, not x < y, not y < z
    by_cases hyx:Op.bytesLess y.Name.toList x.Name.toList=true
    ·rw [z3K _ _ _ hyx hb] at a2; cases a2
    ·have:=z3L _ _ a1 (by simpa using hyx)
     rw [this,a2] at hb; cases hb
  ·exact .inl (by simpa using e)
theorem q9q (x y:Occurrence)(h1:q6N x y=false)(h2:q6N y x=false):x=y:=by
 simp only [q6N,Bool.or_eq_false_iff,Bool.and_eq_false_iff,decide_eq_false_iff_not] at *
 have e:x.Pos=y.Pos:=by omega
 have a1:=h1.2.resolve_left (by simpa using e)
 have a2:=h2.2.resolve_left (by simpa using e.symm)
 have:=z7N (z3L _ _ a1 a2)
 cases x; cases y; simp_all
end Go.Proofs.YtiojgbiimbefiabGreat
namespace Go.Proofs.YtiojgbiimbefiabGreat
open Go Go.E Go.RowKit
end Go.Proofs.YtiojgbiimbefiabGreat
namespace Go.Proofs
open Go.Shelf
namespace YtiojgbiimbefiabGreat
def z5U:Go.Shelf.Ren:=⟨fun | 6=>88 | 15=>120 | 14=>119 | 28=>143 | 29=>144 | 20=>135 | 21=>136 | 22=>137 | 23=>138 | 24=>139 | 25=>140 | 26=>141 | 27=>142 | 46=>152 | 47=>153 | 48=>154 | 49=>155 | 50=>156 | 57=>159 | n=>n,fun | 22=>31 | 24=>44 | 25=>113 | 3=>3 | 39=>123 | 0=>0 | 53=>148 | 55=>150 | 4=>4 | 46=>141 | 45=>140 | 50=>145 | 5=>5 | 9=>9 | 66=>154 | 70=>158 | 76=>160 | 77=>29 | n=>n,fun | n=>n⟩
theorem z9f:Go.Proofs.SlLaysF0.n6 Tryz.prog z5U:={
 mixed:=by kernel_rfl,
 f6:=⟨Tryz.f88.name,by decide,Tryz.func88.trans (congrArg some (by kernel_rfl))⟩,
 f14:=⟨Tryz.f119.name,by decide,Tryz.func119.trans (congrArg some (by kernel_rfl))⟩,
 f15:=Tryz.func120.trans (congrArg some (by kernel_rfl)),
 f20:=⟨Tryz.f135.name,by decide,Tryz.func135.trans (congrArg some (by kernel_rfl))⟩,
 f21:=⟨Tryz.f136.name,by decide,Tryz.func136.trans (congrArg some (by kernel_rfl))⟩,
 f22:=⟨Tryz.f137.name,by decide,Tryz.func137.trans (congrArg some (by kernel_rfl))⟩,
 f23:=⟨Tryz.f138.name,by decide,Tryz.func138.trans (congrArg some (by kernel_rfl))⟩,
 f24:=⟨Tryz.f139.name,by decide,Tryz.func139.trans (congrArg some (by kernel_rfl))⟩,
 f25:=⟨Tryz.f140.name,by decide,Tryz.func140.trans (congrArg some (by kernel_rfl))⟩,
 f26:=⟨Tryz.f141.name,by decide,Tryz.func141.trans (congrArg some (by kernel_rfl))⟩,
 f27:=⟨Tryz.f142.name,by decide,Tryz.func142.trans (congrArg some (by kernel_rfl))⟩,
 f28:=Tryz.func143.trans (congrArg some (by kernel_rfl)),
 f29:=Tryz.func144.trans (congrArg some (by kernel_rfl)),
 f46:=⟨Tryz.f152.name,by decide,Tryz.func152.trans (congrArg some (by kernel_rfl))⟩,
 f47:=Tryz.func153.trans (congrArg some (by kernel_rfl)),
 f48:=Tryz.func154.trans (congrArg some (by kernel_rfl)),
 f49:=⟨Tryz.f155.name,by decide,Tryz.func155.trans (congrArg some (by kernel_rfl))⟩,
 f50:=⟨Tryz.f156.name,by decide,Tryz.func156.trans (congrArg some (by kernel_rfl))⟩,
 f57:=⟨Tryz.f159.name,by decide,Tryz.func159.trans (congrArg some (by kernel_rfl))⟩,
 t0:=Tryz.underlying0,
 a0:=Tryz.isAgg0,
 z0:=Tryz.sizeOf0,
 v0:=Tryz.zeroValue0,
 t3:=Tryz.underlying3,
 a3:=Tryz.isAgg3,
 z3:=Tryz.sizeOf3,
 v3:=Tryz.zeroValue3,
 t4:=Tryz.underlying4,
 a4:=Tryz.isAgg4,
 z4:=Tryz.sizeOf4,
 v4:=Tryz.zeroValue4,
 t5:=Tryz.underlying5,
 a5:=Tryz.isAgg5,
 z5:=Tryz.sizeOf5,
 v5:=Tryz.zeroValue5,
 t9:=Tryz.underlying9,
 a9:=Tryz.isAgg9,
 z9:=Tryz.sizeOf9,
 v9:=Tryz.zeroValue9,
 t22:=Tryz.underlying31,
 a22:=Tryz.isAgg31,
 z22:=Tryz.sizeOf31,
 v22:=Tryz.zeroValue31,
 t25:=Tryz.underlying113,
 a25:=Tryz.isAgg113,
 z25:=Tryz.sizeOf113,
 v25:=Tryz.zeroValue113,
 t39:=Tryz.underlying123,
 a39:=Tryz.isAgg123,
 z39:=Tryz.sizeOf123,
 v39:=Tryz.zeroValue123,
 t45:=Tryz.underlying140,
 a45:=Tryz.isAgg140,
 z45:=Tryz.sizeOf140,
 v45:=Tryz.zeroValue140,
 t46:=Tryz.underlying141,
 a46:=Tryz.isAgg141,
 z46:=Tryz.sizeOf141,
 v46:=Tryz.zeroValue141,
 t50:=Tryz.underlying145,
 a50:=Tryz.isAgg145,
 z50:=Tryz.sizeOf145,
 v50:=Tryz.zeroValue145,
 t53:=Tryz.underlying148,
 a53:=Tryz.isAgg148,
 z53:=Tryz.sizeOf148,
 v53:=Tryz.zeroValue148,
 t55:=Tryz.underlying150,
 a55:=Tryz.isAgg150,
 z55:=Tryz.sizeOf150,
 v55:=Tryz.zeroValue150,
 t66:=Tryz.underlying154,
 a66:=Tryz.isAgg154,
 z66:=Tryz.sizeOf154,
 v66:=Tryz.zeroValue154,
 t70:=Tryz.underlying158,
 a70:=Tryz.isAgg158,
 z70:=Tryz.sizeOf158,
 v70:=Tryz.zeroValue158,
 t76:=Tryz.underlying160,
 a76:=Tryz.isAgg160,
 z76:=Tryz.sizeOf160,
 v76:=Tryz.zeroValue160,
 t77:=Tryz.underlying29,
 a77:=Tryz.isAgg29,
 z77:=Tryz.sizeOf29,
 v77:=Tryz.zeroValue29 }
end YtiojgbiimbefiabGreat
end Go.Proofs
namespace Go.Proofs.YtiojgbiimbefiabGreat
open Go Go.E Go.RowKit
instance:Inhabited Occurrence:=⟨⟨0,⟨#[]⟩⟩⟩
def encO (x:Occurrence):List Value:=[.int .i64 x.Pos,.string x.Name]
theorem j0C (blk off size:Nat)(w:World):CmpLays Tryz.prog 89 #[] encO 2 cmpO blk off size w:=fun _ _ _ _ x y=>
 Calls.mono (j0z x y _) fun e w' ⟨v,h1,_,h2,h3⟩=>⟨by rw [h1,h2],h3⟩
theorem z1G:ltOf cmpO=q6N:=by funext x y; exact j0B x y
def z5V (l:List Occurrence):List Occurrence:=l.mergeSort fun x y=>!q6N y x
theorem z9g {S1:Nat→Prop}{w:World}{x:Occurrence}{c:List Value}(h:A.rd1 S1 w (Occurrence.D x) c):c=encO x∧∀ (S2:Nat→Prop) (w2:World),A.rd1 S2 w2 (Occurrence.D x) c:=by
 have h' : A.rdCs S1 w [.i .i64 x.Pos,.s x.Name] c:=h
 simp only [A.rdCs,A.rdC] at h'
 obtain⟨v,r,rfl,⟨rfl,h1⟩,v2,r2,rfl,⟨rfl,h2⟩,rfl⟩:=h'
 refine⟨rfl,fun S2 w2=>?_⟩
 show A.rdCs S2 w2 [.i .i64 x.Pos,.s x.Name] _
 simp only [A.rdCs,A.rdC]
 exact⟨_,_,rfl,⟨rfl,h1⟩,_,_,rfl,⟨rfl,h2⟩,rfl⟩
theorem j0D {m:A.Md}{a0:List Occurrence}(hbig:a0.length < 4611686018427387904):A.Ok Tryz.prog 88 [.ref 0 none,.fn 89 []] [.row m 2 (a0.map Occurrence.D)] (.tu []) [.row m 2 ((z5V a0).map Occurrence.D)]:=by
 have eg:∀ args w,(callFunc 89 args).run Tryz.prog w = .ok (.enter 89 args) w:=enters_of Tryz.func89 (by kernel_rfl) rfl
 refine A.sortOk (enc:=encO) (fun h=>(z9g h).1) (fun h=>(z9g h).2 _ _) (fun _=>rfl) (fun l=>List.length_mergeSort l) (fun l y hy=>List.mem_mergeSort.1 hy) (fun A0 c w=>?_) (fun g cap d w hH hblk hbig=>?_) hbig
 ·have hc:=AnyF.slices_SortFunc_none z9f A0 c (.func (.func 89) #[] #[]) w
  change Calls Tryz.prog 88 _ _ _ at hc
  exact hc
 ·have hc:=AnyQ.slices_SortFunc_total z9f 2 Tryz.isAgg44 Tryz.sizeOf44 encO (fun _=>rfl) (fun x v hv=>by simp [encO] at hv; rcases hv with rfl | rfl<;>rfl) cmpO (by rw [z1G]; exact lessO_swo) 89 #[] g 0 cap d w eg (j0C _ _ _ _) hH hblk hbig (by rw [z1G]; exact q9q)
  change Calls Tryz.prog 88 _ _ _ at hc
  rw [z1G] at hc
  exact hc
end Go.Proofs.YtiojgbiimbefiabGreat
