/- What slices.SortFunc does by the order of the occurrences: each lemma bears its conditions in its statement. -/
import Derived.Test.YtmblndlpkpaobaaGreatRows
import Derived.Test.YtmblndlpkpaobaaGreatRd
import Derived.Test.YtmblndlpkpaobaaGreatEngD
import Derived.WalkKit
import Derived.WalkSpells
import Derived.WalkLawsBesides
import Derived.Sort.Grow
import Derived.Deep.Quiet
import Derived.Deep.QuietTactic
import Derived.StillTailTactics
import Derived.Sort.Statements
import Derived.Shelf.SlSortCmp.NoneTotal
set_option linter.unusedVariables false
set_option linter.unusedSimpArgs false
set_option linter.ambiguousOpen false
set_option linter.unusedSectionVars false
set_option linter.unnecessarySimpa false
set_option linter.unusedVariables false
set_option linter.unusedSimpArgs false
namespace Go.Proofs.YtmblndlpkpaobaaGreat
open Go Go.RowKit
set_option maxHeartbeats 1000000
set_option maxRecDepth 100000
theorem z9N (x:Int)(W:World):Calls Tryz.prog 180 #[.int .i64 x] W fun e w'=>e = .returned (.bool false)∧w'=W:=by
 go_enter Tryz.func180,Tryz.ntmps180
 go_wp2
 go_ret
 simp
theorem z9O (x:ByteArray)(W:World):Calls Tryz.prog 181 #[.string x] W fun e w'=>e = .returned (.bool false)∧w'=W:=by
 go_enter Tryz.func181,Tryz.ntmps181
 go_wp2
 go_ret
 simp
def cmpI (x y:Int):Int:=if x < y then -1 else if y < x then 1 else 0
def cmpS (x y:ByteArray):Int:=if Op.bytesLess x.toList y.toList=true then -1 else if (x.toList == y.toList)=true then 0 else 1
theorem z9P (x y:Int)(W:World):Calls Tryz.prog 150 #[.int .i64 x,.int .i64 y] W fun e w'=>e = .returned (.int .i64 (cmpI x y))∧w'=W:=by
 unfold cmpI
 go_enter Tryz.func150,Tryz.ntmps150
 go_wp2_with (go_at_call 180; refine (z9N _ _).mono ?_; rintro e w' ⟨rfl,rfl⟩)
 all_goals (go_ret; simp_all)
theorem z9Q (x y:ByteArray)(W:World):Calls Tryz.prog 151 #[.string x,.string y] W fun e w'=>e = .returned (.int .i64 (cmpS x y))∧w'=W:=by
 unfold cmpS
 go_enter Tryz.func151,Tryz.ntmps151
 go_wp2_with (go_at_call 181; refine (z9O _ _).mono ?_; rintro e w' ⟨rfl,rfl⟩)
 all_goals (first | go_ret | skip)
 all_goals (simp_all)
theorem z9R (x y:Int)(hx:x≠0)(g:Nat)(W:World)(h0:W.cell? ⟨g,0,none⟩=some (.int .i64 x)):Calls Tryz.prog 149 #[.slice (some ⟨g,0,none⟩) 2 2] W fun e w'=>e = .returned (.int .i64 x)∧w'=W:=by
 have hb:(x != 0)=true:=by simpa using hx
 go_enter Tryz.func149,Tryz.ntmps149
 go_wp2
 refine wp_loop_rounds 1 ?_
 simp only [rounds_succ]
 go_wp2
 all_goals (first | (go_ret; simp_all; done) | simp_all)
theorem z9S (y:Int)(hy:y≠0)(g:Nat)(W:World)(h0:W.cell? ⟨g,0,none⟩=some (.int .i64 0))(h1:W.cell? ⟨g,1,none⟩=some (.int .i64 y)):Calls Tryz.prog 149 #[.slice (some ⟨g,0,none⟩) 2 2] W fun e w'=>e = .returned (.int .i64 y)∧w'=W:=by
 have hb:(y != 0)=true:=by simpa using hy
 go_enter Tryz.func149,Tryz.ntmps149
 go_wp2
 refine wp_loop_rounds 2 ?_
 simp only [rounds_succ]
 go_wp2
 simp only [rounds_succ]
 go_wp2
 all_goals (first | (go_ret; simp_all; done) | simp_all)
theorem z9T (g:Nat)(W:World)(h0:W.cell? ⟨g,0,none⟩=some (.int .i64 0))(h1:W.cell? ⟨g,1,none⟩=some (.int .i64 0)):Calls Tryz.prog 149 #[.slice (some ⟨g,0,none⟩) 2 2] W fun e w'=>e = .returned (.int .i64 0)∧w'=W:=by
 go_enter Tryz.func149,Tryz.ntmps149
 go_wp2
 refine wp_loop_rounds 3 ?_
 simp only [rounds_succ]
 go_wp2
 simp only [rounds_succ]
 go_wp2
 simp only [rounds_succ]
 go_wp2
 all_goals (first | (go_ret; simp_all; done) | simp_all)
theorem cmp_or (x y:Int)(g:Nat)(W:World)(h0:W.cell? ⟨g,0,none⟩=some (.int .i64 x))(h1:W.cell? ⟨g,1,none⟩=some (.int .i64 y)):Calls Tryz.prog 149 #[.slice (some ⟨g,0,none⟩) 2 2] W fun e w'=>e = .returned (.int .i64 (if x≠0 then x else y))∧w'=W:=by
 by_cases hx:x=0
 ·subst hx
  by_cases hy:y=0
  ·subst hy; exact z9T g W h0 h1
  ·exact z9S y hy g W h0 h1
 ·rw [if_pos hx]; exact z9R x y hx g W h0
def cmpO (a b:Occurrence):Int:=if cmpI a.Pos b.Pos≠0 then cmpI a.Pos b.Pos else cmpS a.Name b.Name
open Go.E
theorem ag3:aggT Tryz.prog 3=some false:=by kernel_rfl
theorem ag9:aggT Tryz.prog 9=some false:=by kernel_rfl
theorem sz3:szT Tryz.prog 3=some 1:=by kernel_rfl
theorem ze3:zeroT Tryz.prog 3=some [.int .i64 0]:=by kernel_rfl
theorem el106:elemT Tryz.prog 106=some 3:=by kernel_rfl
theorem fo55_0:fieldT Tryz.prog 55 0=some 0:=by kernel_rfl
theorem fo55_1:fieldT Tryz.prog 55 1=some 1:=by kernel_rfl
theorem ok149:q0a Tryz.prog 149=true:=by kernel_rfl
theorem ok150:q0a Tryz.prog 150=true:=by kernel_rfl
theorem ok151:q0a Tryz.prog 151=true:=by kernel_rfl
theorem hmix:Tryz.prog.follows .mixedOrders=true:=by kernel_rfl
theorem z8K (a b:Occurrence)(W:World):Ret Tryz.prog 114 #[.agg #[.int .i64 a.Pos,.string a.Name],.agg #[.int .i64 b.Pos,.string b.Name]] W (fun _=>False) fun v w'=>v = .int .i64 (cmpO a b)∧Gr W w':=by
 have hI:∀ W',Ret Tryz.prog 150 #[.int .i64 a.Pos,.int .i64 b.Pos] W' (fun _=>False) fun v w'=>v = .int .i64 (cmpI a.Pos b.Pos)∧Gr W' w':=fun W'=>(z9P a.Pos b.Pos W').mono fun e w' ⟨h1,h2⟩=>⟨_,h1,by rw [h2]; exact Ext.refl _,rfl,by rw [h2]; exact Gr.refl _⟩
 have hS:∀ W',Ret Tryz.prog 151 #[.string a.Name,.string b.Name] W' (fun _=>False) fun v w'=>v = .int .i64 (cmpS a.Name b.Name)∧Gr W' w':=fun W'=>(z9Q a.Name b.Name W').mono fun e w' ⟨h1,h2⟩=>⟨_,h1,by rw [h2]; exact Ext.refl _,rfl,by rw [h2]; exact Gr.refl _⟩
 unfold cmpO
 refine enter Tryz.func114 rfl rfl rfl ?_
 refine CW.seq (CW.reg ?_)
 refine WL.boxG rfl rfl rfl rfl rfl fun b1 w1 g1 hb1 B1=>?_
 refine WL.boxG rfl rfl rfl rfl rfl fun b2 w2 g2 hb2 B2=>?_
 have B1:=B1.ext g2.ext
 refine WL.ev rfl rfl (Ev.as rfl rfl) (WL.nil ?_)
 refine CW.seq (CW.quietC (R:=Gr) 10 Gr.refl Gr.trans Gr.draw hmix (by kernel_rfl) ?_)
 refine QC.ev rfl rfl (fun w hw=>Ev.fa rfl fo55_0 rfl) ?_
 refine QC.ev rfl rfl (fun w hw=>Ev.ld rfl ag3 rfl ((B1.ext hw.ext).cell rfl)) ?_
 refine QC.ev rfl rfl (fun w hw=>Ev.fa rfl fo55_0 rfl) ?_
 refine QC.ev rfl rfl (fun w hw=>Ev.ld rfl ag3 rfl ((B2.ext hw.ext).cell rfl)) ?_
 refine QC.call rfl rfl rfl rfl rfl ok150 rfl (fun w hw=>hI w) ?_
 refine QC.ev rfl rfl (fun w hw=>Ev.fa rfl fo55_1 rfl) ?_
 refine QC.ev rfl rfl (fun w hw=>Ev.ld rfl ag9 rfl ((B1.ext hw.ext).cell rfl)) ?_
 refine QC.ev rfl rfl (fun w hw=>Ev.fa rfl fo55_1 rfl) ?_
 refine QC.ev rfl rfl (fun w hw=>Ev.ld rfl ag9 rfl ((B2.ext hw.ext).cell rfl)) ?_
 refine QC.call rfl rfl rfl rfl rfl ok151 rfl (fun w hw=>hS w) ?_
 refine QC.nil fun w3 g3=>?_
 refine WL.litNG rfl rfl rfl el106 sz3 ze3 rfl (ball1 rfl (ball1 rfl ball0)) rfl rfl rfl fun g w4 g4 B4=>?_
 refine WL.call rfl rfl rfl rfl rfl ok149 rfl (M:=fun _=>False) (R:=fun v w'=>v = .int .i64 (if cmpI a.Pos b.Pos≠0 then cmpI a.Pos b.Pos else cmpS a.Name b.Name)∧w'=w4) ((cmp_or _ _ g w4 (B4.cell rfl) (B4.cell rfl)).mono fun e w' ⟨h1,h2⟩=>⟨_,h1,by rw [h2]; exact Ext.refl _,rfl,h2⟩) ?_
 rintro _ w5 hE ⟨rfl,rfl⟩
 refine WL.ev rfl rfl (Ev.as rfl rfl) (WL.nil ?_)
 refine CW.ret ?_
 have g:=((g1.trans g2).trans g3).trans g4
 exact⟨_,res1 rfl rfl rfl,g.ext,rfl,g⟩
end Go.Proofs.YtmblndlpkpaobaaGreat
namespace Go.Proofs.YtmblndlpkpaobaaGreat
open Go Go.E Go.RowKit
theorem bl_irr:∀ x:List UInt8,Op.bytesLess x x=false
 | []=>rfl
 | a :: x=>by simp [Op.bytesLess,bl_irr x]
theorem z3M:∀ x y z:List UInt8,Op.bytesLess x y=true→Op.bytesLess y z=true→Op.bytesLess x z=true
 | _,[],_,h,_=>by simp [Op.bytesLess] at h
 | _,_ :: _,[],_,h=>by simp [Op.bytesLess] at h
 | [],_ :: _,_ :: _,_,_=>rfl
 | a :: x,b :: y,c :: z,h1,h2=>by
  simp only [Op.bytesLess,Bool.or_eq_true,Bool.and_eq_true,decide_eq_true_eq,beq_iff_eq] at *
  rcases h1 with h1 | ⟨rfl,h1⟩
  ·rcases h2 with h2 | ⟨rfl,h2⟩
   ·exact .inl (by rw [UInt8.lt_iff_toNat_lt] at *; omega)
   ·exact .inl h1
  ·rcases h2 with h2 | ⟨rfl,h2⟩
   ·exact .inl h2
   ·exact .inr ⟨rfl,z3M x y z h1 h2⟩
theorem z3N:∀ x y:List UInt8,Op.bytesLess x y=false→Op.bytesLess y x=false→x=y
 | [],[],_,_=>rfl
 | [],_ :: _,h,_=>by simp [Op.bytesLess] at h
 | _ :: _,[],_,h=>by simp [Op.bytesLess] at h
 | a :: x,b :: y,h1,h2=>by
  simp only [Op.bytesLess,Bool.or_eq_false_iff,Bool.and_eq_false_iff,decide_eq_false_iff_not,beq_eq_false_iff_ne] at *
  have hab:a=b:=by
   have h3:=h1.1; have h4:=h2.1
   rw [UInt8.lt_iff_toNat_lt] at h3 h4
   exact UInt8.toNat_inj.1 (by omega)
  subst hab
  simp at h1 h2
  rw [z3N x y h1 h2]
theorem z6W {x y:ByteArray}(h:x.toList=y.toList):x=y:=by
 rw [ByteArray.toList_eq,ByteArray.toList_eq] at h
 cases x; cases y; simp at h; simp [h]
theorem z8L (x y:ByteArray):cmpS x y < 0↔Op.bytesLess x.toList y.toList=true:=by
 unfold cmpS
 by_cases h:Op.bytesLess x.toList y.toList=true
 ·simp [h]
 ·rw [if_neg h]
  constructor
  ·intro h0; split at h0<;>simp at h0
  ·intro h0; exact absurd h0 h
def lessO (a b:Occurrence):Bool:=decide (a.Pos < b.Pos)||(decide (a.Pos=b.Pos)&&Op.bytesLess a.Name.toList b.Name.toList)
theorem z8M (a b:Occurrence):decide (cmpO a b < 0)=lessO a b:=by
 unfold cmpO lessO cmpI
 by_cases h1:a.Pos < b.Pos
 ·simp [h1]
 ·by_cases h2:b.Pos < a.Pos
  ·have:¬ a.Pos=b.Pos:=by omega
   simp [h1,h2,this]
  ·have:a.Pos=b.Pos:=by omega
   simp only [h1,h2,if_false,ne_eq,not_true_eq_false,this,decide_true,Bool.true_and,Int.lt_irrefl,decide_false,Bool.false_or]
   rw [Bool.eq_iff_iff,decide_eq_true_eq]
   exact z8L _ _
theorem lessO_swo:Sort.SWO lessO where
 irrefl x:=by simp [lessO,bl_irr]
 trans x y z h1 h2:=by
  simp only [lessO,Bool.or_eq_true,Bool.and_eq_true,decide_eq_true_eq] at *
  rcases h1 with h1 | ⟨e1,h1⟩
  ·rcases h2 with h2 | ⟨e2,h2⟩
   ·exact .inl (by omega)
   ·exact .inl (by omega)
  ·rcases h2 with h2 | ⟨e2,h2⟩
   ·exact .inl (by omega)
   ·exact .inr ⟨by omega,z3M _ _ _ h1 h2⟩
 ntrans x y z h1 h2:=by
  simp only [lessO,Bool.or_eq_false_iff,Bool.and_eq_false_iff,decide_eq_false_iff_not] at *
  refine⟨by omega,?_⟩
  by_cases e:x.Pos=z.Pos
  ·have e1:x.Pos=y.Pos:=by omega
   have e2:y.Pos=z.Pos:=by omega
   right
   have a1:=h1.2.resolve_left (by simpa using e1)
   have a2:=h2.2.resolve_left (by simpa using e2)
   cases hb:Op.bytesLess x.Name.toList z.Name.toList with
   | false=>rfl
   | true=>
    -- x < z, not x < y, not y < z
    by_cases hyx:Op.bytesLess y.Name.toList x.Name.toList=true
    ·rw [z3M _ _ _ hyx hb] at a2; cases a2
    ·have:=z3N _ _ a1 (by simpa using hyx)
     rw [this,a2] at hb; cases hb
  ·exact .inl (by simpa using e)
theorem q9D (x y:Occurrence)(h1:lessO x y=false)(h2:lessO y x=false):x=y:=by
 simp only [lessO,Bool.or_eq_false_iff,Bool.and_eq_false_iff,decide_eq_false_iff_not] at *
 have e:x.Pos=y.Pos:=by omega
 have a1:=h1.2.resolve_left (by simpa using e)
 have a2:=h2.2.resolve_left (by simpa using e.symm)
 have:=z6W (z3N _ _ a1 a2)
 cases x; cases y; simp_all
end Go.Proofs.YtmblndlpkpaobaaGreat
namespace Go.Proofs.YtmblndlpkpaobaaGreat
open Go Go.E Go.RowKit
end Go.Proofs.YtmblndlpkpaobaaGreat
namespace Go.Proofs
open Go.Shelf
namespace YtmblndlpkpaobaaGreat
def z5x:Go.Shelf.Ren:=⟨fun | 6=>113 | 15=>148 | 14=>147 | 28=>178 | 29=>179 | 20=>170 | 21=>171 | 22=>172 | 23=>173 | 24=>174 | 25=>175 | 26=>176 | 27=>177 | 46=>197 | 47=>198 | 48=>199 | 49=>200 | 50=>201 | 57=>210 | n=>n,fun | 22=>52 | 24=>55 | 25=>147 | 3=>3 | 39=>164 | 0=>0 | 53=>189 | 55=>191 | 4=>4 | 46=>182 | 45=>181 | 50=>186 | 5=>5 | 9=>9 | 66=>196 | 70=>200 | 76=>206 | 77=>75 | n=>n,fun | n=>n⟩
theorem z7M:Go.Proofs.SlLaysF0.n6 Tryz.prog z5x:={
 mixed:=by kernel_rfl,
 f6:=⟨Tryz.f113.name,by decide,Tryz.func113.trans (congrArg some (by kernel_rfl))⟩,
 f14:=⟨Tryz.f147.name,by decide,Tryz.func147.trans (congrArg some (by kernel_rfl))⟩,
 f15:=Tryz.func148.trans (congrArg some (by kernel_rfl)),
 f20:=⟨Tryz.f170.name,by decide,Tryz.func170.trans (congrArg some (by kernel_rfl))⟩,
 f21:=⟨Tryz.f171.name,by decide,Tryz.func171.trans (congrArg some (by kernel_rfl))⟩,
 f22:=⟨Tryz.f172.name,by decide,Tryz.func172.trans (congrArg some (by kernel_rfl))⟩,
 f23:=⟨Tryz.f173.name,by decide,Tryz.func173.trans (congrArg some (by kernel_rfl))⟩,
 f24:=⟨Tryz.f174.name,by decide,Tryz.func174.trans (congrArg some (by kernel_rfl))⟩,
 f25:=⟨Tryz.f175.name,by decide,Tryz.func175.trans (congrArg some (by kernel_rfl))⟩,
 f26:=⟨Tryz.f176.name,by decide,Tryz.func176.trans (congrArg some (by kernel_rfl))⟩,
 f27:=⟨Tryz.f177.name,by decide,Tryz.func177.trans (congrArg some (by kernel_rfl))⟩,
 f28:=Tryz.func178.trans (congrArg some (by kernel_rfl)),
 f29:=Tryz.func179.trans (congrArg some (by kernel_rfl)),
 f46:=⟨Tryz.f197.name,by decide,Tryz.func197.trans (congrArg some (by kernel_rfl))⟩,
 f47:=Tryz.func198.trans (congrArg some (by kernel_rfl)),
 f48:=Tryz.func199.trans (congrArg some (by kernel_rfl)),
 f49:=⟨Tryz.f200.name,by decide,Tryz.func200.trans (congrArg some (by kernel_rfl))⟩,
 f50:=⟨Tryz.f201.name,by decide,Tryz.func201.trans (congrArg some (by kernel_rfl))⟩,
 f57:=⟨Tryz.f210.name,by decide,Tryz.func210.trans (congrArg some (by kernel_rfl))⟩,
 t0:=Tryz.underlying0,
 a0:=Tryz.isAgg0,
 z0:=Tryz.sizeOf0,
 v0:=Tryz.zeroValue0,
 t3:=Tryz.underlying3,
 a3:=Tryz.isAgg3,
 z3:=Tryz.sizeOf3,
 v3:=Tryz.zeroValue3,
 t4:=Tryz.underlying4,
 a4:=Tryz.isAgg4,
 z4:=Tryz.sizeOf4,
 v4:=Tryz.zeroValue4,
 t5:=Tryz.underlying5,
 a5:=Tryz.isAgg5,
 z5:=Tryz.sizeOf5,
 v5:=Tryz.zeroValue5,
 t9:=Tryz.underlying9,
 a9:=Tryz.isAgg9,
 z9:=Tryz.sizeOf9,
 v9:=Tryz.zeroValue9,
 t22:=Tryz.underlying52,
 a22:=Tryz.isAgg52,
 z22:=Tryz.sizeOf52,
 v22:=Tryz.zeroValue52,
 t25:=Tryz.underlying147,
 a25:=Tryz.isAgg147,
 z25:=Tryz.sizeOf147,
 v25:=Tryz.zeroValue147,
 t39:=Tryz.underlying164,
 a39:=Tryz.isAgg164,
 z39:=Tryz.sizeOf164,
 v39:=Tryz.zeroValue164,
 t45:=Tryz.underlying181,
 a45:=Tryz.isAgg181,
 z45:=Tryz.sizeOf181,
 v45:=Tryz.zeroValue181,
 t46:=Tryz.underlying182,
 a46:=Tryz.isAgg182,
 z46:=Tryz.sizeOf182,
 v46:=Tryz.zeroValue182,
 t50:=Tryz.underlying186,
 a50:=Tryz.isAgg186,
 z50:=Tryz.sizeOf186,
 v50:=Tryz.zeroValue186,
 t53:=Tryz.underlying189,
 a53:=Tryz.isAgg189,
 z53:=Tryz.sizeOf189,
 v53:=Tryz.zeroValue189,
 t55:=Tryz.underlying191,
 a55:=Tryz.isAgg191,
 z55:=Tryz.sizeOf191,
 v55:=Tryz.zeroValue191,
 t66:=Tryz.underlying196,
 a66:=Tryz.isAgg196,
 z66:=Tryz.sizeOf196,
 v66:=Tryz.zeroValue196,
 t70:=Tryz.underlying200,
 a70:=Tryz.isAgg200,
 z70:=Tryz.sizeOf200,
 v70:=Tryz.zeroValue200,
 t76:=Tryz.underlying206,
 a76:=Tryz.isAgg206,
 z76:=Tryz.sizeOf206,
 v76:=Tryz.zeroValue206,
 t77:=Tryz.underlying75,
 a77:=Tryz.isAgg75,
 z77:=Tryz.sizeOf75,
 v77:=Tryz.zeroValue75 }
end YtmblndlpkpaobaaGreat
end Go.Proofs
namespace Go.Proofs.YtmblndlpkpaobaaGreat
open Go Go.E Go.RowKit
instance:Inhabited Occurrence:=⟨⟨0,⟨#[]⟩⟩⟩
def encO (x:Occurrence):List Value:=[.int .i64 x.Pos,.string x.Name]
theorem z9U {L:List Nat}{w:World}{x:Occurrence}{cs:List Value}(h:Sep.own L w x cs):L=[]∧cs=encO x∧(I64 x.Pos∧x.Name.size≤9223372036854775807):=by
 obtain⟨rfl,h0,h1,rfl⟩:=h
 exact⟨rfl,rfl,h0,h1⟩
theorem z9V {w:World}{x:Occurrence}(h:I64 x.Pos∧x.Name.size≤9223372036854775807):Sep.own [] w x (encO x):=⟨rfl,h.1,h.2,rfl⟩
theorem z8N (blk off size:Nat)(w:World):CmpLays Tryz.prog 114 #[] encO 2 cmpO blk off size w:=fun _ _ _ _ x y=>
 Calls.mono (z8K x y _) fun e w' ⟨v,h1,_,h2,h3⟩=>⟨by rw [h1,h2],h3⟩
theorem z1Y:ltOf cmpO=lessO:=by funext x y; exact z8M x y
def sortO (l:List Occurrence):List Occurrence:=l.mergeSort fun x y=>!lessO y x
theorem z8O {a0:List Occurrence}{F0:Nat→Prop}{M:List Nat}{w0:World}{A0:Option Addr}{n0 c0:Nat}(hbig:a0.length < 4611686018427387904)(H:HL F0 M w0 w0 [] [It.O 55 a0 (.slice A0 n0 c0)]) :
  Ret Tryz.prog 113 #[.slice A0 n0 c0,.func (.func 114) #[] #[]] w0 (·∈M) fun v w=>v = .tuple #[]∧HL F0 M w0 w [] [It.O 55 (sortO a0) (.slice A0 n0 c0)]:=by
 have hlen:=(H.rO (i:=0) rfl).len
 by_cases h0:a0=[]
 ·subst h0
  obtain rfl:n0=0:=by have:=hlen; simp at this; omega
  have es:sortO []=[]:=by unfold sortO; simp
  have hc:=AnyF.slices_SortFunc_none z7M A0 c0 (.func (.func 114) #[] #[]) w0
  change Calls Tryz.prog 113 _ _ _ at hc
  exact hc.mono fun e w' ⟨h1,h2⟩=>⟨_,h1,by rw [h2]; exact Chg.refl _,rfl,by rw [h2,es]; exact H⟩
 ·obtain⟨x0,hx0⟩:∃ x,a0[0]? = some x:=⟨_,List.getElem?_eq_getElem (List.length_pos_iff.2 h0)⟩
  obtain⟨g,c,hv,_⟩:=H.ptO (i:=0) rfl hx0
  injection hv with e1 e2 e3
  subst e1; subst e2; subst e3
  obtain⟨hH,hblk,_,hm,hok,hnext⟩:=HL.holdsK (enc:=encO) (ok:=fun x=>I64 x.Pos∧x.Name.size≤9223372036854775807) (i:=0) z9U (fun _=>rfl) H rfl h0
  have eg:∀ args w,(callFunc 114 args).run Tryz.prog w = .ok (.enter 114 args) w:=enters_of Tryz.func114 (by kernel_rfl) rfl
  have hc:=AnyQ.slices_SortFunc_total z7M 2 Tryz.isAgg55 Tryz.sizeOf55 encO (fun _=>rfl) (fun x v hv=>by simp [encO] at hv; rcases hv with rfl | rfl<;>rfl) cmpO (by rw [z1Y]; exact lessO_swo) 114 #[] g 0 c0 a0.toArray w0 eg (z8N _ _ _ _) hH hblk (by simpa using hbig) (by rw [z1Y]; exact q9D)
  change Calls Tryz.prog 113 _ _ _ at hc
  rw [z1Y] at hc
  refine hc.mono fun e w' ⟨h1,n,os,h2⟩=>?_
  have hN:=hnext (ys:=sortO a0) (n:=n) (os:=os) (List.length_mergeSort a0) (fun y hy=>hok y (List.mem_mergeSort.1 hy)) z9V h2
  exact⟨_,h1,hN.chg,rfl,hN⟩
end Go.Proofs.YtmblndlpkpaobaaGreat
