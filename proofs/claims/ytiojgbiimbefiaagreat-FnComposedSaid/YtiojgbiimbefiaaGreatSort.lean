/- What slices.SortFunc does by the order of the occurrences: each lemma bears its conditions in its statement. -/
import Derived.Test.YtiojgbiimbefiaaGreatAb6
import Derived.Deep.Quiet
import Derived.Deep.QuietTactic
import Derived.Shelf.SlSortCmp.NoneTotal
import Derived.Sort.Grow
import Derived.Sort.Statements
import Derived.StillTailTactics
import Derived.Test.YtiojgbiimbefiaaGreatRows
import Derived.WalkKit
import Derived.WalkLawsBesides
import Derived.WalkSpells
set_option linter.unusedVariables false
set_option linter.unusedSimpArgs false
set_option linter.ambiguousOpen false
set_option linter.unusedSectionVars false
set_option linter.unnecessarySimpa false
namespace Go.Proofs.YtiojgbiimbefiaaGreat
open Go Go.RowKit
set_option maxHeartbeats 1000000
set_option maxRecDepth 100000
theorem j0M (x:Int)(W:World):Calls Tryz.prog 116 #[.int .i64 x] W fun e w'=>e = .returned (.bool false)∧w'=W:=by
 go_enter Tryz.func116,Tryz.ntmps116
 go_wp2
 go_ret
 simp
theorem j0N (x:ByteArray)(W:World):Calls Tryz.prog 117 #[.string x] W fun e w'=>e = .returned (.bool false)∧w'=W:=by
 go_enter Tryz.func117,Tryz.ntmps117
 go_wp2
 go_ret
 simp
def cmpI (x y:Int):Int:=if x < y then -1 else if y < x then 1 else 0
def cmpS (x y:ByteArray):Int:=if Op.bytesLess x.toList y.toList=true then -1 else if (x.toList == y.toList)=true then 0 else 1
theorem j0O (x y:Int)(W:World):Calls Tryz.prog 92 #[.int .i64 x,.int .i64 y] W fun e w'=>e = .returned (.int .i64 (cmpI x y))∧w'=W:=by
 unfold cmpI
 go_enter Tryz.func92,Tryz.ntmps92
 go_wp2_with (go_at_call 116; refine (j0M _ _).mono ?_; rintro e w' ⟨rfl,rfl⟩)
 all_goals (go_ret; simp_all)
theorem j0P (x y:ByteArray)(W:World):Calls Tryz.prog 93 #[.string x,.string y] W fun e w'=>e = .returned (.int .i64 (cmpS x y))∧w'=W:=by
 unfold cmpS
 go_enter Tryz.func93,Tryz.ntmps93
 go_wp2_with (go_at_call 117; refine (j0N _ _).mono ?_; rintro e w' ⟨rfl,rfl⟩)
 all_goals (first | go_ret | skip)
 all_goals (simp_all)
theorem j0Q (x y:Int)(hx:x≠0)(g:Nat)(W:World)(h0:W.cell? ⟨g,0,none⟩=some (.int .i64 x)):Calls Tryz.prog 91 #[.slice (some ⟨g,0,none⟩) 2 2] W fun e w'=>e = .returned (.int .i64 x)∧w'=W:=by
 have hb:(x != 0)=true:=by simpa using hx
 go_enter Tryz.func91,Tryz.ntmps91
 go_wp2
 refine wp_loop_rounds 1 ?_
 simp only [rounds_succ]
 go_wp2
 all_goals (first | (go_ret; simp_all; done) | simp_all)
theorem j0R (y:Int)(hy:y≠0)(g:Nat)(W:World)(h0:W.cell? ⟨g,0,none⟩=some (.int .i64 0))(h1:W.cell? ⟨g,1,none⟩=some (.int .i64 y)):Calls Tryz.prog 91 #[.slice (some ⟨g,0,none⟩) 2 2] W fun e w'=>e = .returned (.int .i64 y)∧w'=W:=by
 have hb:(y != 0)=true:=by simpa using hy
 go_enter Tryz.func91,Tryz.ntmps91
 go_wp2
 refine wp_loop_rounds 2 ?_
 simp only [rounds_succ]
 go_wp2
 simp only [rounds_succ]
 go_wp2
 all_goals (first | (go_ret; simp_all; done) | simp_all)
theorem j0S (g:Nat)(W:World)(h0:W.cell? ⟨g,0,none⟩=some (.int .i64 0))(h1:W.cell? ⟨g,1,none⟩=some (.int .i64 0)):Calls Tryz.prog 91 #[.slice (some ⟨g,0,none⟩) 2 2] W fun e w'=>e = .returned (.int .i64 0)∧w'=W:=by
 go_enter Tryz.func91,Tryz.ntmps91
 go_wp2
 refine wp_loop_rounds 3 ?_
 simp only [rounds_succ]
 go_wp2
 simp only [rounds_succ]
 go_wp2
 simp only [rounds_succ]
 go_wp2
 all_goals (first | (go_ret; simp_all; done) | simp_all)
theorem j1U (x y:Int)(g:Nat)(W:World)(h0:W.cell? ⟨g,0,none⟩=some (.int .i64 x))(h1:W.cell? ⟨g,1,none⟩=some (.int .i64 y)):Calls Tryz.prog 91 #[.slice (some ⟨g,0,none⟩) 2 2] W fun e w'=>e = .returned (.int .i64 (if x≠0 then x else y))∧w'=W:=by
 by_cases hx:x=0
 ·subst hx
  by_cases hy:y=0
  ·subst hy; exact j0S g W h0 h1
  ·exact j0R y hy g W h0 h1
 ·rw [if_pos hx]; exact j0Q x y hx g W h0
def cmpO (a b:Occurrence):Int:=if cmpI a.Pos b.Pos≠0 then cmpI a.Pos b.Pos else cmpS a.Name b.Name
open Go.E
theorem ag3:aggT Tryz.prog 3=some false:=by kernel_rfl
theorem ag9:aggT Tryz.prog 9=some false:=by kernel_rfl
theorem sz3:szT Tryz.prog 3=some 1:=by kernel_rfl
theorem ze3:q6e Tryz.prog 3=some [.int .i64 0]:=by kernel_rfl
theorem el36:q3A Tryz.prog 36=some 3:=by kernel_rfl
theorem j0e:q8n Tryz.prog 72 0=some 0:=by kernel_rfl
theorem j0f:q8n Tryz.prog 72 1=some 1:=by kernel_rfl
theorem ok91:q3o Tryz.prog 91=true:=by kernel_rfl
theorem ok92:q3o Tryz.prog 92=true:=by kernel_rfl
theorem ok93:q3o Tryz.prog 93=true:=by kernel_rfl
theorem hmix:Tryz.prog.follows .mixedOrders=true:=by kernel_rfl
theorem z9d (a b:Occurrence)(W:World):Ret Tryz.prog 69 #[.agg #[.int .i64 a.Pos,.string a.Name],.agg #[.int .i64 b.Pos,.string b.Name]] W (fun _=>False) fun v w'=>v = .int .i64 (cmpO a b)∧Gr W w':=by
 have hI:∀ W',Ret Tryz.prog 92 #[.int .i64 a.Pos,.int .i64 b.Pos] W' (fun _=>False) fun v w'=>v = .int .i64 (cmpI a.Pos b.Pos)∧Gr W' w':=fun W'=>(j0O a.Pos b.Pos W').mono fun e w' ⟨h1,h2⟩=>⟨_,h1,by rw [h2]; exact Ext.refl _,rfl,by rw [h2]; exact Gr.refl _⟩
 have hS:∀ W',Ret Tryz.prog 93 #[.string a.Name,.string b.Name] W' (fun _=>False) fun v w'=>v = .int .i64 (cmpS a.Name b.Name)∧Gr W' w':=fun W'=>(j0P a.Name b.Name W').mono fun e w' ⟨h1,h2⟩=>⟨_,h1,by rw [h2]; exact Ext.refl _,rfl,by rw [h2]; exact Gr.refl _⟩
 unfold cmpO
 refine enter Tryz.func69 rfl rfl rfl ?_
 refine CW.seq (CW.reg ?_)
 refine q0q rfl rfl rfl rfl rfl fun b1 w1 g1 hb1 B1=>?_
 refine q0q rfl rfl rfl rfl rfl fun b2 w2 g2 hb2 B2=>?_
 have B1:=B1.ext g2.ext
 refine WL.ev rfl rfl (Ev.as rfl rfl) (WL.nil ?_)
 refine CW.seq (q0m (R:=Gr) 10 Gr.refl Gr.trans Gr.draw hmix (by kernel_rfl) ?_)
 refine QC.ev rfl rfl (fun w hw=>q0c rfl j0e rfl) ?_
 refine QC.ev rfl rfl (fun w hw=>q0d rfl ag3 rfl ((B1.ext hw.ext).cell rfl)) ?_
 refine QC.ev rfl rfl (fun w hw=>q0c rfl j0e rfl) ?_
 refine QC.ev rfl rfl (fun w hw=>q0d rfl ag3 rfl ((B2.ext hw.ext).cell rfl)) ?_
 refine QC.call rfl rfl rfl rfl rfl ok92 rfl (fun w hw=>hI w) ?_
 refine QC.ev rfl rfl (fun w hw=>q0c rfl j0f rfl) ?_
 refine QC.ev rfl rfl (fun w hw=>q0d rfl ag9 rfl ((B1.ext hw.ext).cell rfl)) ?_
 refine QC.ev rfl rfl (fun w hw=>q0c rfl j0f rfl) ?_
 refine QC.ev rfl rfl (fun w hw=>q0d rfl ag9 rfl ((B2.ext hw.ext).cell rfl)) ?_
 refine QC.call rfl rfl rfl rfl rfl ok93 rfl (fun w hw=>hS w) ?_
 refine QC.nil fun w3 g3=>?_
 refine q0Q rfl rfl rfl el36 sz3 ze3 rfl (j1H rfl (j1H rfl j2l)) rfl rfl rfl fun g w4 g4 B4=>?_
 refine WL.call rfl rfl rfl rfl rfl ok91 rfl (M:=fun _=>False) (R:=fun v w'=>v = .int .i64 (if cmpI a.Pos b.Pos≠0 then cmpI a.Pos b.Pos else cmpS a.Name b.Name)∧w'=w4) ((j1U _ _ g w4 (B4.cell rfl) (B4.cell rfl)).mono fun e w' ⟨h1,h2⟩=>⟨_,h1,by rw [h2]; exact Ext.refl _,rfl,h2⟩) ?_
 rintro _ w5 hE ⟨rfl,rfl⟩
 refine WL.ev rfl rfl (Ev.as rfl rfl) (WL.nil ?_)
 refine CW.ret ?_
 have g:=((g1.trans g2).trans g3).trans g4
 exact⟨_,res1 rfl rfl rfl,g.ext,rfl,g⟩
end Go.Proofs.YtiojgbiimbefiaaGreat
namespace Go.Proofs.YtiojgbiimbefiaaGreat
open Go Go.E Go.RowKit
theorem j0g:∀ x:List UInt8,Op.bytesLess x x=false
 | []=>rfl
 | a :: x=>by simp [Op.bytesLess,j0g x]
theorem z2o:∀ x y z:List UInt8,Op.bytesLess x y=true→Op.bytesLess y z=true→Op.bytesLess x z=true
 | _,[],_,h,_=>by simp [Op.bytesLess] at h
 | _,_ :: _,[],_,h=>by simp [Op.bytesLess] at h
 | [],_ :: _,_ :: _,_,_=>rfl
 | a :: x,b :: y,c :: z,h1,h2=>by
  simp only [Op.bytesLess,Bool.or_eq_true,Bool.and_eq_true,decide_eq_true_eq,beq_iff_eq] at *
  rcases h1 with h1 | ⟨rfl,h1⟩
  ·rcases h2 with h2 | ⟨rfl,h2⟩
   ·exact .inl (by rw [UInt8.lt_iff_toNat_lt] at *; omega)
   ·exact .inl h1
  ·rcases h2 with h2 | ⟨rfl,h2⟩
   ·exact .inl h2
   ·exact .inr ⟨rfl,z2o x y z h1 h2⟩
theorem z2p:∀ x y:List UInt8,Op.bytesLess x y=false→Op.bytesLess y x=false→x=y
 | [],[],_,_=>rfl
 | [],_ :: _,h,_=>by simp [Op.bytesLess] at h
 | _ :: _,[],_,h=>by simp [Op.bytesLess] at h
 | a :: x,b :: y,h1,h2=>by
  simp only [Op.bytesLess,Bool.or_eq_false_iff,Bool.and_eq_false_iff,decide_eq_false_iff_not,beq_eq_false_iff_ne] at *
  have hab:a=b:=by
   have h3:=h1.1; have h4:=h2.1
   rw [UInt8.lt_iff_toNat_lt] at h3 h4
   exact UInt8.toNat_inj.1 (by omega)
  subst hab
  simp at h1 h2
  rw [z2p x y h1 h2]
theorem z6r {x y:ByteArray}(h:x.toList=y.toList):x=y:=by
 rw [ByteArray.toList_eq,ByteArray.toList_eq] at h
 cases x; cases y; simp at h; simp [h]
theorem z9e (x y:ByteArray):cmpS x y < 0↔Op.bytesLess x.toList y.toList=true:=by
 unfold cmpS
 by_cases h:Op.bytesLess x.toList y.toList=true
 ·simp [h]
 ·rw [if_neg h]
  constructor
  ·intro h0; split at h0<;>simp at h0
  ·intro h0; exact absurd h0 h
def q5N (a b:Occurrence):Bool:=decide (a.Pos < b.Pos)||(decide (a.Pos=b.Pos)&&Op.bytesLess a.Name.toList b.Name.toList)
theorem z9f (a b:Occurrence):decide (cmpO a b < 0)=q5N a b:=by
 unfold cmpO q5N cmpI
 by_cases h1:a.Pos < b.Pos
 ·simp [h1]
 ·by_cases h2:b.Pos < a.Pos
  ·have:¬ a.Pos=b.Pos:=by omega
   simp [h1,h2,this]
  ·have:a.Pos=b.Pos:=by omega
   simp only [h1,h2,if_false,ne_eq,not_true_eq_false,this,decide_true,Bool.true_and,Int.lt_irrefl,decide_false,Bool.false_or]
   rw [Bool.eq_iff_iff,decide_eq_true_eq]
   exact z9e _ _
theorem lessO_swo:Sort.SWO q5N where
 irrefl x:=by simp [q5N,j0g]
 trans x y z h1 h2:=by
  simp only [q5N,Bool.or_eq_true,Bool.and_eq_true,decide_eq_true_eq] at *
  rcases h1 with h1 | ⟨e1,h1⟩
  ·rcases h2 with h2 | ⟨e2,h2⟩
   ·exact .inl (by omega)
   ·exact .inl (by omega)
  ·rcases h2 with h2 | ⟨e2,h2⟩
   ·exact .inl (by omega)
   ·exact .inr ⟨by omega,z2o _ _ _ h1 h2⟩
 ntrans x y z h1 h2:=by
  simp only [q5N,Bool.or_eq_false_iff,Bool.and_eq_false_iff,decide_eq_false_iff_not] at *
  refine⟨by omega,?_⟩
  by_cases e:x.Pos=z.Pos
  ·have e1:x.Pos=y.Pos:=by omega
   have e2:y.Pos=z.Pos:=by omega
   right
   have a1:=h1.2.resolve_left (by simpa using e1)
   have a2:=h2.2.resolve_left (by simpa using e2)
   cases hb:Op.bytesLess x.Name.toList z.Name.toList with
   | false=>rfl
   | true=>
    -- x < z, not x < y, not y < z
    by_cases hyx:Op.bytesLess y.Name.toList x.Name.toList=true
    ·rw [z2o _ _ _ hyx hb] at a2; cases a2
    ·have:=z2p _ _ a1 (by simpa using hyx)
     rw [this,a2] at hb; cases hb
  ·exact .inl (by simpa using e)
theorem q7U (x y:Occurrence)(h1:q5N x y=false)(h2:q5N y x=false):x=y:=by
 simp only [q5N,Bool.or_eq_false_iff,Bool.and_eq_false_iff,decide_eq_false_iff_not] at *
 have e:x.Pos=y.Pos:=by omega
 have a1:=h1.2.resolve_left (by simpa using e)
 have a2:=h2.2.resolve_left (by simpa using e.symm)
 have:=z6r (z2p _ _ a1 a2)
 cases x; cases y; simp_all
end Go.Proofs.YtiojgbiimbefiaaGreat
namespace Go.Proofs.YtiojgbiimbefiaaGreat
open Go Go.E Go.RowKit
end Go.Proofs.YtiojgbiimbefiaaGreat
namespace Go.Proofs
open Go.Shelf
namespace YtiojgbiimbefiaaGreat
def z4z:Go.Shelf.Ren:=⟨fun | 6=>68 | 15=>90 | 14=>89 | 28=>114 | 29=>115 | 20=>106 | 21=>107 | 22=>108 | 23=>109 | 24=>110 | 25=>111 | 26=>112 | 27=>113 | 46=>121 | 47=>122 | 48=>123 | 49=>124 | 50=>125 | 57=>129 | n=>n,fun | 22=>51 | 24=>72 | 25=>99 | 3=>3 | 39=>86 | 0=>0 | 53=>142 | 55=>144 | 4=>4 | 46=>135 | 45=>134 | 50=>139 | 5=>5 | 9=>9 | 66=>148 | 70=>152 | 76=>155 | 77=>156 | n=>n,fun | n=>n⟩
theorem z7E:Go.Proofs.SlLaysF0.n6 Tryz.prog z4z:={
 mixed:=by kernel_rfl,
 f6:=⟨Tryz.f68.name,by decide,Tryz.func68.trans (congrArg some (by kernel_rfl))⟩,
 f14:=⟨Tryz.f89.name,by decide,Tryz.func89.trans (congrArg some (by kernel_rfl))⟩,
 f15:=Tryz.func90.trans (congrArg some (by kernel_rfl)),
 f20:=⟨Tryz.f106.name,by decide,Tryz.func106.trans (congrArg some (by kernel_rfl))⟩,
 f21:=⟨Tryz.f107.name,by decide,Tryz.func107.trans (congrArg some (by kernel_rfl))⟩,
 f22:=⟨Tryz.f108.name,by decide,Tryz.func108.trans (congrArg some (by kernel_rfl))⟩,
 f23:=⟨Tryz.f109.name,by decide,Tryz.func109.trans (congrArg some (by kernel_rfl))⟩,
 f24:=⟨Tryz.f110.name,by decide,Tryz.func110.trans (congrArg some (by kernel_rfl))⟩,
 f25:=⟨Tryz.f111.name,by decide,Tryz.func111.trans (congrArg some (by kernel_rfl))⟩,
 f26:=⟨Tryz.f112.name,by decide,Tryz.func112.trans (congrArg some (by kernel_rfl))⟩,
 f27:=⟨Tryz.f113.name,by decide,Tryz.func113.trans (congrArg some (by kernel_rfl))⟩,
 f28:=Tryz.func114.trans (congrArg some (by kernel_rfl)),
 f29:=Tryz.func115.trans (congrArg some (by kernel_rfl)),
 f46:=⟨Tryz.f121.name,by decide,Tryz.func121.trans (congrArg some (by kernel_rfl))⟩,
 f47:=Tryz.func122.trans (congrArg some (by kernel_rfl)),
 f48:=Tryz.func123.trans (congrArg some (by kernel_rfl)),
 f49:=⟨Tryz.f124.name,by decide,Tryz.func124.trans (congrArg some (by kernel_rfl))⟩,
 f50:=⟨Tryz.f125.name,by decide,Tryz.func125.trans (congrArg some (by kernel_rfl))⟩,
 f57:=⟨Tryz.f129.name,by decide,Tryz.func129.trans (congrArg some (by kernel_rfl))⟩,
 t0:=Tryz.underlying0,
 a0:=Tryz.isAgg0,
 z0:=Tryz.sizeOf0,
 v0:=Tryz.zeroValue0,
 t3:=Tryz.underlying3,
 a3:=Tryz.isAgg3,
 z3:=Tryz.sizeOf3,
 v3:=Tryz.zeroValue3,
 t4:=Tryz.underlying4,
 a4:=Tryz.isAgg4,
 z4:=Tryz.sizeOf4,
 v4:=Tryz.zeroValue4,
 t5:=Tryz.underlying5,
 a5:=Tryz.isAgg5,
 z5:=Tryz.sizeOf5,
 v5:=Tryz.zeroValue5,
 t9:=Tryz.underlying9,
 a9:=Tryz.isAgg9,
 z9:=Tryz.sizeOf9,
 v9:=Tryz.zeroValue9,
 t22:=Tryz.underlying51,
 a22:=Tryz.isAgg51,
 z22:=Tryz.sizeOf51,
 v22:=Tryz.zeroValue51,
 t25:=Tryz.underlying99,
 a25:=Tryz.isAgg99,
 z25:=Tryz.sizeOf99,
 v25:=Tryz.zeroValue99,
 t39:=Tryz.underlying86,
 a39:=Tryz.isAgg86,
 z39:=Tryz.sizeOf86,
 v39:=Tryz.zeroValue86,
 t45:=Tryz.underlying134,
 a45:=Tryz.isAgg134,
 z45:=Tryz.sizeOf134,
 v45:=Tryz.zeroValue134,
 t46:=Tryz.underlying135,
 a46:=Tryz.isAgg135,
 z46:=Tryz.sizeOf135,
 v46:=Tryz.zeroValue135,
 t50:=Tryz.underlying139,
 a50:=Tryz.isAgg139,
 z50:=Tryz.sizeOf139,
 v50:=Tryz.zeroValue139,
 t53:=Tryz.underlying142,
 a53:=Tryz.isAgg142,
 z53:=Tryz.sizeOf142,
 v53:=Tryz.zeroValue142,
 t55:=Tryz.underlying144,
 a55:=Tryz.isAgg144,
 z55:=Tryz.sizeOf144,
 v55:=Tryz.zeroValue144,
 t66:=Tryz.underlying148,
 a66:=Tryz.isAgg148,
 z66:=Tryz.sizeOf148,
 v66:=Tryz.zeroValue148,
 t70:=Tryz.underlying152,
 a70:=Tryz.isAgg152,
 z70:=Tryz.sizeOf152,
 v70:=Tryz.zeroValue152,
 t76:=Tryz.underlying155,
 a76:=Tryz.isAgg155,
 z76:=Tryz.sizeOf155,
 v76:=Tryz.zeroValue155,
 t77:=Tryz.underlying156,
 a77:=Tryz.isAgg156,
 z77:=Tryz.sizeOf156,
 v77:=Tryz.zeroValue156 }
end YtiojgbiimbefiaaGreat
end Go.Proofs
namespace Go.Proofs.YtiojgbiimbefiaaGreat
open Go Go.E Go.RowKit
instance:Inhabited Occurrence:=⟨⟨0,⟨#[]⟩⟩⟩
def encO (x:Occurrence):List Value:=[.int .i64 x.Pos,.string x.Name]
theorem z9g (blk off size:Nat)(w:World):CmpLays Tryz.prog 69 #[] encO 2 cmpO blk off size w:=fun _ _ _ _ x y=>
 Calls.mono (z9d x y _) fun e w' ⟨v,h1,_,h2,h3⟩=>⟨by rw [h1,h2],h3⟩
theorem z0u:ltOf cmpO=q5N:=by funext x y; exact z9f x y
def z3u (l:List Occurrence):List Occurrence:=l.mergeSort fun x y=>!q5N y x
theorem z7F {S1:Nat→Prop}{w:World}{x:Occurrence}{c:List Value}(h:A.rd1 S1 w (Occurrence.D x) c):c=encO x∧∀ (S2:Nat→Prop) (w2:World),A.rd1 S2 w2 (Occurrence.D x) c:=by
 have h' : A.rdCs S1 w [.i .i64 x.Pos,.s x.Name] c:=h
 simp only [A.rdCs,A.rdC] at h'
 obtain⟨v,r,rfl,⟨rfl,h1⟩,v2,r2,rfl,⟨rfl,h2⟩,rfl⟩:=h'
 refine⟨rfl,fun S2 w2=>?_⟩
 show A.rdCs S2 w2 [.i .i64 x.Pos,.s x.Name] _
 simp only [A.rdCs,A.rdC]
 exact⟨_,_,rfl,⟨rfl,h1⟩,_,_,rfl,⟨rfl,h2⟩,rfl⟩
theorem z9h {m:A.Md}{a0:List Occurrence}(hbig:a0.length < 4611686018427387904):A.Ok Tryz.prog 68 [.ref 0 none,.fn 69 []] [.row m 2 (a0.map Occurrence.D)] (.tu []) [.row m 2 ((z3u a0).map Occurrence.D)]:=by
 have eg:∀ args w,(callFunc 69 args).run Tryz.prog w = .ok (.enter 69 args) w:=enters_of Tryz.func69 (by kernel_rfl) rfl
 refine A.sortOk (enc:=encO) (fun h=>(z7F h).1) (fun h=>(z7F h).2 _ _) (fun _=>rfl) (fun l=>List.length_mergeSort l) (fun l y hy=>List.mem_mergeSort.1 hy) (fun A0 c w=>?_) (fun g cap d w hH hblk hbig=>?_) hbig
 ·have hc:=AnyF.slices_SortFunc_none z7E A0 c (.func (.func 69) #[] #[]) w
  change Calls Tryz.prog 68 _ _ _ at hc
  exact hc
 ·have hc:=AnyQ.slices_SortFunc_total z7E 2 Tryz.isAgg72 Tryz.sizeOf72 encO (fun _=>rfl) (fun x v hv=>by simp [encO] at hv; rcases hv with rfl | rfl<;>rfl) cmpO (by rw [z0u]; exact lessO_swo) 69 #[] g 0 cap d w eg (z9g _ _ _ _) hH hblk hbig (by rw [z0u]; exact q7U)
  change Calls Tryz.prog 68 _ _ _ at hc
  rw [z0u] at hc
  exact hc
end Go.Proofs.YtiojgbiimbefiaaGreat
