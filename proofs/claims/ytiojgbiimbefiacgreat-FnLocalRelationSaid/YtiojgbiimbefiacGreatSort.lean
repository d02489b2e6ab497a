/- What slices.SortFunc does by the order of the occurrences: each lemma bears its conditions in its statement. -/
import Derived.Test.YtiojgbiimbefiacGreatAb5
import Derived.Deep.Quiet
import Derived.Deep.QuietTactic
import Derived.Shelf.SlSortCmp.NoneTotal
import Derived.Sort.Grow
import Derived.Sort.Statements
import Derived.StillTailTactics
import Derived.Test.YtiojgbiimbefiacGreatRows
import Derived.WalkKit
import Derived.WalkLawsBesides
import Derived.WalkSpells
set_option linter.unusedVariables false
set_option linter.unusedSimpArgs false
set_option linter.ambiguousOpen false
set_option linter.unusedSectionVars false
set_option linter.unnecessarySimpa false
namespace Go.Proofs.YtiojgbiimbefiacGreat
open Go Go.RowKit
set_option maxHeartbeats 1000000
set_option maxRecDepth 100000
theorem j3e (x:Int)(W:World):Calls Tryz.prog 107 #[.int .i64 x] W fun e w'=>e = .returned (.bool false)∧w'=W:=by
 go_enter Tryz.func107,Tryz.ntmps107
 go_wp2
 go_ret
 simp
theorem j3f (x:ByteArray)(W:World):Calls Tryz.prog 108 #[.string x] W fun e w'=>e = .returned (.bool false)∧w'=W:=by
 go_enter Tryz.func108,Tryz.ntmps108
 go_wp2
 go_ret
 simp
def cmpI (x y:Int):Int:=if x < y then -1 else if y < x then 1 else 0
def cmpS (x y:ByteArray):Int:=if Op.bytesLess x.toList y.toList=true then -1 else if (x.toList == y.toList)=true then 0 else 1
theorem j3g (x y:Int)(W:World):Calls Tryz.prog 73 #[.int .i64 x,.int .i64 y] W fun e w'=>e = .returned (.int .i64 (cmpI x y))∧w'=W:=by
 unfold cmpI
 go_enter Tryz.func73,Tryz.ntmps73
 go_wp2_with (go_at_call 107; refine (j3e _ _).mono ?_; rintro e w' ⟨rfl,rfl⟩)
 all_goals (go_ret; simp_all)
theorem j3h (x y:ByteArray)(W:World):Calls Tryz.prog 74 #[.string x,.string y] W fun e w'=>e = .returned (.int .i64 (cmpS x y))∧w'=W:=by
 unfold cmpS
 go_enter Tryz.func74,Tryz.ntmps74
 go_wp2_with (go_at_call 108; refine (j3f _ _).mono ?_; rintro e w' ⟨rfl,rfl⟩)
 all_goals (first | go_ret | skip)
 all_goals (simp_all)
theorem j3i (x y:Int)(hx:x≠0)(g:Nat)(W:World)(h0:W.cell? ⟨g,0,none⟩=some (.int .i64 x)):Calls Tryz.prog 72 #[.slice (some ⟨g,0,none⟩) 2 2] W fun e w'=>e = .returned (.int .i64 x)∧w'=W:=by
 have hb:(x != 0)=true:=by simpa using hx
 go_enter Tryz.func72,Tryz.ntmps72
 go_wp2
 refine wp_loop_rounds 1 ?_
 simp only [rounds_succ]
 go_wp2
 all_goals (first | (go_ret; simp_all; done) | simp_all)
theorem j3j (y:Int)(hy:y≠0)(g:Nat)(W:World)(h0:W.cell? ⟨g,0,none⟩=some (.int .i64 0))(h1:W.cell? ⟨g,1,none⟩=some (.int .i64 y)):Calls Tryz.prog 72 #[.slice (some ⟨g,0,none⟩) 2 2] W fun e w'=>e = .returned (.int .i64 y)∧w'=W:=by
 have hb:(y != 0)=true:=by simpa using hy
 go_enter Tryz.func72,Tryz.ntmps72
 go_wp2
 refine wp_loop_rounds 2 ?_
 simp only [rounds_succ]
 go_wp2
 simp only [rounds_succ]
 go_wp2
 all_goals (first | (go_ret; simp_all; done) | simp_all)
theorem j3k (g:Nat)(W:World)(h0:W.cell? ⟨g,0,none⟩=some (.int .i64 0))(h1:W.cell? ⟨g,1,none⟩=some (.int .i64 0)):Calls Tryz.prog 72 #[.slice (some ⟨g,0,none⟩) 2 2] W fun e w'=>e = .returned (.int .i64 0)∧w'=W:=by
 go_enter Tryz.func72,Tryz.ntmps72
 go_wp2
 refine wp_loop_rounds 3 ?_
 simp only [rounds_succ]
 go_wp2
 simp only [rounds_succ]
 go_wp2
 simp only [rounds_succ]
 go_wp2
 all_goals (first | (go_ret; simp_all; done) | simp_all)
theorem j4n (x y:Int)(g:Nat)(W:World)(h0:W.cell? ⟨g,0,none⟩=some (.int .i64 x))(h1:W.cell? ⟨g,1,none⟩=some (.int .i64 y)):Calls Tryz.prog 72 #[.slice (some ⟨g,0,none⟩) 2 2] W fun e w'=>e = .returned (.int .i64 (if x≠0 then x else y))∧w'=W:=by
 by_cases hx:x=0
 ·subst hx
  by_cases hy:y=0
  ·subst hy; exact j3k g W h0 h1
  ·exact j3j y hy g W h0 h1
 ·rw [if_pos hx]; exact j3i x y hx g W h0
def cmpO (a b:Occurrence):Int:=if cmpI a.Pos b.Pos≠0 then cmpI a.Pos b.Pos else cmpS a.Name b.Name
open Go.E
theorem ag3:aggT Tryz.prog 3=some false:=by kernel_rfl
theorem ag9:aggT Tryz.prog 9=some false:=by kernel_rfl
theorem sz3:szT Tryz.prog 3=some 1:=by kernel_rfl
theorem ze3:q6T Tryz.prog 3=some [.int .i64 0]:=by kernel_rfl
theorem el35:q3W Tryz.prog 35=some 3:=by kernel_rfl
theorem j2B:q9y Tryz.prog 54 0=some 0:=by kernel_rfl
theorem j2C:q9y Tryz.prog 54 1=some 1:=by kernel_rfl
theorem ok72:q3M Tryz.prog 72=true:=by kernel_rfl
theorem ok73:q3M Tryz.prog 73=true:=by kernel_rfl
theorem ok74:q3M Tryz.prog 74=true:=by kernel_rfl
theorem hmix:Tryz.prog.follows .mixedOrders=true:=by kernel_rfl
theorem j1p (a b:Occurrence)(W:World):Ret Tryz.prog 48 #[.agg #[.int .i64 a.Pos,.string a.Name],.agg #[.int .i64 b.Pos,.string b.Name]] W (fun _=>False) fun v w'=>v = .int .i64 (cmpO a b)∧Gr W w':=by
 have hI:∀ W',Ret Tryz.prog 73 #[.int .i64 a.Pos,.int .i64 b.Pos] W' (fun _=>False) fun v w'=>v = .int .i64 (cmpI a.Pos b.Pos)∧Gr W' w':=fun W'=>(j3g a.Pos b.Pos W').mono fun e w' ⟨h1,h2⟩=>⟨_,h1,by rw [h2]; exact Ext.refl _,rfl,by rw [h2]; exact Gr.refl _⟩
 have hS:∀ W',Ret Tryz.prog 74 #[.string a.Name,.string b.Name] W' (fun _=>False) fun v w'=>v = .int .i64 (cmpS a.Name b.Name)∧Gr W' w':=fun W'=>(j3h a.Name b.Name W').mono fun e w' ⟨h1,h2⟩=>⟨_,h1,by rw [h2]; exact Ext.refl _,rfl,by rw [h2]; exact Gr.refl _⟩
 unfold cmpO
 refine enter Tryz.func48 rfl rfl rfl ?_
 refine CW.seq (CW.reg ?_)
 refine q0r rfl rfl rfl rfl rfl fun b1 w1 g1 hb1 B1=>?_
 refine q0r rfl rfl rfl rfl rfl fun b2 w2 g2 hb2 B2=>?_
 have B1:=B1.ext g2.ext
 refine WL.ev rfl rfl (Ev.as rfl rfl) (WL.nil ?_)
 refine CW.seq (q0m (R:=Gr) 10 Gr.refl Gr.trans Gr.draw hmix (by kernel_rfl) ?_)
 refine QC.ev rfl rfl (fun w hw=>q0c rfl j2B rfl) ?_
 refine QC.ev rfl rfl (fun w hw=>q0d rfl ag3 rfl ((B1.ext hw.ext).cell rfl)) ?_
 refine QC.ev rfl rfl (fun w hw=>q0c rfl j2B rfl) ?_
 refine QC.ev rfl rfl (fun w hw=>q0d rfl ag3 rfl ((B2.ext hw.ext).cell rfl)) ?_
 refine QC.call rfl rfl rfl rfl rfl ok73 rfl (fun w hw=>hI w) ?_
 refine QC.ev rfl rfl (fun w hw=>q0c rfl j2C rfl) ?_
 refine QC.ev rfl rfl (fun w hw=>q0d rfl ag9 rfl ((B1.ext hw.ext).cell rfl)) ?_
 refine QC.ev rfl rfl (fun w hw=>q0c rfl j2C rfl) ?_
 refine QC.ev rfl rfl (fun w hw=>q0d rfl ag9 rfl ((B2.ext hw.ext).cell rfl)) ?_
 refine QC.call rfl rfl rfl rfl rfl ok74 rfl (fun w hw=>hS w) ?_
 refine QC.nil fun w3 g3=>?_
 refine q0R rfl rfl rfl el35 sz3 ze3 rfl (j4a rfl (j4a rfl j4K)) rfl rfl rfl fun g w4 g4 B4=>?_
 refine WL.call rfl rfl rfl rfl rfl ok72 rfl (M:=fun _=>False) (R:=fun v w'=>v = .int .i64 (if cmpI a.Pos b.Pos≠0 then cmpI a.Pos b.Pos else cmpS a.Name b.Name)∧w'=w4) ((j4n _ _ g w4 (B4.cell rfl) (B4.cell rfl)).mono fun e w' ⟨h1,h2⟩=>⟨_,h1,by rw [h2]; exact Ext.refl _,rfl,h2⟩) ?_
 rintro _ w5 hE ⟨rfl,rfl⟩
 refine WL.ev rfl rfl (Ev.as rfl rfl) (WL.nil ?_)
 refine CW.ret ?_
 have g:=((g1.trans g2).trans g3).trans g4
 exact⟨_,res1 rfl rfl rfl,g.ext,rfl,g⟩
end Go.Proofs.YtiojgbiimbefiacGreat
namespace Go.Proofs.YtiojgbiimbefiacGreat
open Go Go.E Go.RowKit
theorem j2D:∀ x:List UInt8,Op.bytesLess x x=false
 | []=>rfl
 | a :: x=>by simp [Op.bytesLess,j2D x]
theorem z3K:∀ x y z:List UInt8,Op.bytesLess x y=true→Op.bytesLess y z=true→Op.bytesLess x z=true
 | _,[],_,h,_=>by simp [Op.bytesLess] at h
 | _,_ :: _,[],_,h=>by simp [Op.bytesLess] at h
 | [],_ :: _,_ :: _,_,_=>rfl
 | a :: x,b :: y,c :: z,h1,h2=>by
  simp only [Op.bytesLess,Bool.or_eq_true,Bool.and_eq_true,decide_eq_true_eq,beq_iff_eq] at *
  rcases h1 with h1 | ⟨rfl,h1⟩
  ·rcases h2 with h2 | ⟨rfl,h2⟩
   ·exact .inl (by rw [UInt8.lt_iff_toNat_lt] at *; omega)
   ·exact .inl h1
  ·rcases h2 with h2 | ⟨rfl,h2⟩
   ·exact .inl h2
   ·exact .inr ⟨rfl,z3K x y z h1 h2⟩
theorem z3L:∀ x y:List UInt8,Op.bytesLess x y=false→Op.bytesLess y x=false→x=y
 | [],[],_,_=>rfl
 | [],_ :: _,h,_=>by simp [Op.bytesLess] at h
 | _ :: _,[],_,h=>by simp [Op.bytesLess] at h
 | a :: x,b :: y,h1,h2=>by
  simp only [Op.bytesLess,Bool.or_eq_false_iff,Bool.and_eq_false_iff,decide_eq_false_iff_not,beq_eq_false_iff_ne] at *
  have hab:a=b:=by
   have h3:=h1.1; have h4:=h2.1
   rw [UInt8.lt_iff_toNat_lt] at h3 h4
   exact UInt8.toNat_inj.1 (by omega)
  subst hab
  simp at h1 h2
  rw [z3L x y h1 h2]
theorem z8r {x y:ByteArray}(h:x.toList=y.toList):x=y:=by
 rw [ByteArray.toList_eq,ByteArray.toList_eq] at h
 cases x; cases y; simp at h; simp [h]
theorem j1q (x y:ByteArray):cmpS x y < 0↔Op.bytesLess x.toList y.toList=true:=by
 unfold cmpS
 by_cases h:Op.bytesLess x.toList y.toList=true
 ·simp [h]
 ·rw [if_neg h]
  constructor
  ·intro h0; split at h0<;>simp at h0
  ·intro h0; exact absurd h0 h
def q6y (a b:Occurrence):Bool:=decide (a.Pos < b.Pos)||(decide (a.Pos=b.Pos)&&Op.bytesLess a.Name.toList b.Name.toList)
theorem j1r (a b:Occurrence):decide (cmpO a b < 0)=q6y a b:=by
 unfold cmpO q6y cmpI
 by_cases h1:a.Pos < b.Pos
 ·simp [h1]
 ·by_cases h2:b.Pos < a.Pos
  ·have:¬ a.Pos=b.Pos:=by omega
   simp [h1,h2,this]
  ·have:a.Pos=b.Pos:=by omega
   simp only [h1,h2,if_false,ne_eq,not_true_eq_false,this,decide_true,Bool.true_and,Int.lt_irrefl,decide_false,Bool.false_or]
   rw [Bool.eq_iff_iff,decide_eq_true_eq]
   exact j1q _ _
theorem lessO_swo:Sort.SWO q6y where
 irrefl x:=by simp [q6y,j2D]
 trans x y z h1 h2:=by
  simp only [q6y,Bool.or_eq_true,Bool.and_eq_true,decide_eq_true_eq] at *
  rcases h1 with h1 | ⟨e1,h1⟩
  ·rcases h2 with h2 | ⟨e2,h2⟩
   ·exact .inl (by omega)
   ·exact .inl (by omega)
  ·rcases h2 with h2 | ⟨e2,h2⟩
   ·exact .inl (by omega)
   ·exact .inr ⟨by omega,z3K _ _ _ h1 h2⟩
 ntrans x y z h1 h2:=by
  simp only [q6y,Bool.or_eq_false_iff,Bool.and_eq_false_iff,decide_eq_false_iff_not] at *
  refine⟨by omega,?_⟩
  by_cases e:x.Pos=z.Pos
  ·have e1:x.Pos=y.Pos:=by omega
   have e2:y.Pos=z.Pos:=by omega
   right
   have a1:=h1.2.resolve_left (by simpa using e1)
   have a2:=h2.2.resolve_left (by simpa using e2)
   cases hb:Op.bytesLess x.Name.toList z.Name.toList with
   | false=>rfl
   | true=>
    -- x < z, not x < y, not y < z
    by_cases hyx:Op.bytesLess y.Name.toList x.Name.toList=true
    ·rw [z3K _ _ _ hyx hb] at a2; cases a2
    ·have:=z3L _ _ a1 (by simpa using hyx)
     rw [this,a2] at hb; cases hb
  ·exact .inl (by simpa using e)
theorem q9h (x y:Occurrence)(h1:q6y x y=false)(h2:q6y y x=false):x=y:=by
 simp only [q6y,Bool.or_eq_false_iff,Bool.and_eq_false_iff,decide_eq_false_iff_not] at *
 have e:x.Pos=y.Pos:=by omega
 have a1:=h1.2.resolve_left (by simpa using e)
 have a2:=h2.2.resolve_left (by simpa using e.symm)
 have:=z8r (z3L _ _ a1 a2)
 cases x; cases y; simp_all
end Go.Proofs.YtiojgbiimbefiacGreat
namespace Go.Proofs.YtiojgbiimbefiacGreat
open Go Go.E Go.RowKit
end Go.Proofs.YtiojgbiimbefiacGreat
namespace Go.Proofs
open Go.Shelf
namespace YtiojgbiimbefiacGreat
def z6l:Go.Shelf.Ren:=⟨fun | 6=>47 | 15=>71 | 14=>70 | 28=>105 | 29=>106 | 20=>97 | 21=>98 | 22=>99 | 23=>100 | 24=>101 | 25=>102 | 26=>103 | 27=>104 | 46=>128 | 47=>129 | 48=>130 | 49=>131 | 50=>132 | 57=>142 | n=>n,fun | 22=>39 | 24=>54 | 25=>86 | 3=>3 | 39=>76 | 0=>0 | 53=>140 | 55=>142 | 4=>4 | 46=>133 | 45=>132 | 50=>137 | 5=>5 | 9=>9 | 66=>153 | 70=>157 | 76=>165 | 77=>64 | n=>n,fun | n=>n⟩
theorem z9L:Go.Proofs.SlLaysF0.n6 Tryz.prog z6l:={
 mixed:=by kernel_rfl,
 f6:=⟨Tryz.f47.name,by decide,Tryz.func47.trans (congrArg some (by kernel_rfl))⟩,
 f14:=⟨Tryz.f70.name,by decide,Tryz.func70.trans (congrArg some (by kernel_rfl))⟩,
 f15:=Tryz.func71.trans (congrArg some (by kernel_rfl)),
 f20:=⟨Tryz.f97.name,by decide,Tryz.func97.trans (congrArg some (by kernel_rfl))⟩,
 f21:=⟨Tryz.f98.name,by decide,Tryz.func98.trans (congrArg some (by kernel_rfl))⟩,
 f22:=⟨Tryz.f99.name,by decide,Tryz.func99.trans (congrArg some (by kernel_rfl))⟩,
 f23:=⟨Tryz.f100.name,by decide,Tryz.func100.trans (congrArg some (by kernel_rfl))⟩,
 f24:=⟨Tryz.f101.name,by decide,Tryz.func101.trans (congrArg some (by kernel_rfl))⟩,
 f25:=⟨Tryz.f102.name,by decide,Tryz.func102.trans (congrArg some (by kernel_rfl))⟩,
 f26:=⟨Tryz.f103.name,by decide,Tryz.func103.trans (congrArg some (by kernel_rfl))⟩,
 f27:=⟨Tryz.f104.name,by decide,Tryz.func104.trans (congrArg some (by kernel_rfl))⟩,
 f28:=Tryz.func105.trans (congrArg some (by kernel_rfl)),
 f29:=Tryz.func106.trans (congrArg some (by kernel_rfl)),
 f46:=⟨Tryz.f128.name,by decide,Tryz.func128.trans (congrArg some (by kernel_rfl))⟩,
 f47:=Tryz.func129.trans (congrArg some (by kernel_rfl)),
 f48:=Tryz.func130.trans (congrArg some (by kernel_rfl)),
 f49:=⟨Tryz.f131.name,by decide,Tryz.func131.trans (congrArg some (by kernel_rfl))⟩,
 f50:=⟨Tryz.f132.name,by decide,Tryz.func132.trans (congrArg some (by kernel_rfl))⟩,
 f57:=⟨Tryz.f142.name,by decide,Tryz.func142.trans (congrArg some (by kernel_rfl))⟩,
 t0:=Tryz.underlying0,
 a0:=Tryz.isAgg0,
 z0:=Tryz.sizeOf0,
 v0:=Tryz.zeroValue0,
 t3:=Tryz.underlying3,
 a3:=Tryz.isAgg3,
 z3:=Tryz.sizeOf3,
 v3:=Tryz.zeroValue3,
 t4:=Tryz.underlying4,
 a4:=Tryz.isAgg4,
 z4:=Tryz.sizeOf4,
 v4:=Tryz.zeroValue4,
 t5:=Tryz.underlying5,
 a5:=Tryz.isAgg5,
 z5:=Tryz.sizeOf5,
 v5:=Tryz.zeroValue5,
 t9:=Tryz.underlying9,
 a9:=Tryz.isAgg9,
 z9:=Tryz.sizeOf9,
 v9:=Tryz.zeroValue9,
 t22:=Tryz.underlying39,
 a22:=Tryz.isAgg39,
 z22:=Tryz.sizeOf39,
 v22:=Tryz.zeroValue39,
 t25:=Tryz.underlying86,
 a25:=Tryz.isAgg86,
 z25:=Tryz.sizeOf86,
 v25:=Tryz.zeroValue86,
 t39:=Tryz.underlying76,
 a39:=Tryz.isAgg76,
 z39:=Tryz.sizeOf76,
 v39:=Tryz.zeroValue76,
 t45:=Tryz.underlying132,
 a45:=Tryz.isAgg132,
 z45:=Tryz.sizeOf132,
 v45:=Tryz.zeroValue132,
 t46:=Tryz.underlying133,
 a46:=Tryz.isAgg133,
 z46:=Tryz.sizeOf133,
 v46:=Tryz.zeroValue133,
 t50:=Tryz.underlying137,
 a50:=Tryz.isAgg137,
 z50:=Tryz.sizeOf137,
 v50:=Tryz.zeroValue137,
 t53:=Tryz.underlying140,
 a53:=Tryz.isAgg140,
 z53:=Tryz.sizeOf140,
 v53:=Tryz.zeroValue140,
 t55:=Tryz.underlying142,
 a55:=Tryz.isAgg142,
 z55:=Tryz.sizeOf142,
 v55:=Tryz.zeroValue142,
 t66:=Tryz.underlying153,
 a66:=Tryz.isAgg153,
 z66:=Tryz.sizeOf153,
 v66:=Tryz.zeroValue153,
 t70:=Tryz.underlying157,
 a70:=Tryz.isAgg157,
 z70:=Tryz.sizeOf157,
 v70:=Tryz.zeroValue157,
 t76:=Tryz.underlying165,
 a76:=Tryz.isAgg165,
 z76:=Tryz.sizeOf165,
 v76:=Tryz.zeroValue165,
 t77:=Tryz.underlying64,
 a77:=Tryz.isAgg64,
 z77:=Tryz.sizeOf64,
 v77:=Tryz.zeroValue64 }
end YtiojgbiimbefiacGreat
end Go.Proofs
namespace Go.Proofs.YtiojgbiimbefiacGreat
open Go Go.E Go.RowKit
instance:Inhabited Occurrence:=⟨⟨0,⟨#[]⟩⟩⟩
def encO (x:Occurrence):List Value:=[.int .i64 x.Pos,.string x.Name]
theorem j1s (blk off size:Nat)(w:World):CmpLays Tryz.prog 48 #[] encO 2 cmpO blk off size w:=fun _ _ _ _ x y=>
 Calls.mono (j1p x y _) fun e w' ⟨v,h1,_,h2,h3⟩=>⟨by rw [h1,h2],h3⟩
theorem z1H:ltOf cmpO=q6y:=by funext x y; exact j1r x y
def z5b (l:List Occurrence):List Occurrence:=l.mergeSort fun x y=>!q6y y x
theorem z9M {S1:Nat→Prop}{w:World}{x:Occurrence}{c:List Value}(h:A.rd1 S1 w (Occurrence.D x) c):c=encO x∧∀ (S2:Nat→Prop) (w2:World),A.rd1 S2 w2 (Occurrence.D x) c:=by
 have h' : A.rdCs S1 w [.i .i64 x.Pos,.s x.Name] c:=h
 simp only [A.rdCs,A.rdC] at h'
 obtain⟨v,r,rfl,⟨rfl,h1⟩,v2,r2,rfl,⟨rfl,h2⟩,rfl⟩:=h'
 refine⟨rfl,fun S2 w2=>?_⟩
 show A.rdCs S2 w2 [.i .i64 x.Pos,.s x.Name] _
 simp only [A.rdCs,A.rdC]
 exact⟨_,_,rfl,⟨rfl,h1⟩,_,_,rfl,⟨rfl,h2⟩,rfl⟩
theorem j1t {m:A.Md}{a0:List Occurrence}(hbig:a0.length < 4611686018427387904):A.Ok Tryz.prog 47 [.ref 0 none,.fn 48 []] [.row m 2 (a0.map Occurrence.D)] (.tu []) [.row m 2 ((z5b a0).map Occurrence.D)]:=by
 have eg:∀ args w,(callFunc 48 args).run Tryz.prog w = .ok (.enter 48 args) w:=enters_of Tryz.func48 (by kernel_rfl) rfl
 refine A.sortOk (enc:=encO) (fun h=>(z9M h).1) (fun h=>(z9M h).2 _ _) (fun _=>rfl) (fun l=>List.length_mergeSort l) (fun l y hy=>List.mem_mergeSort.1 hy) (fun A0 c w=>?_) (fun g cap d w hH hblk hbig=>?_) hbig
 ·have hc:=AnyF.slices_SortFunc_none z9L A0 c (.func (.func 48) #[] #[]) w
  change Calls Tryz.prog 47 _ _ _ at hc
  exact hc
 ·have hc:=AnyQ.slices_SortFunc_total z9L 2 Tryz.isAgg54 Tryz.sizeOf54 encO (fun _=>rfl) (fun x v hv=>by simp [encO] at hv; rcases hv with rfl | rfl<;>rfl) cmpO (by rw [z1H]; exact lessO_swo) 48 #[] g 0 cap d w eg (j1s _ _ _ _) hH hblk hbig (by rw [z1H]; exact q9h)
  change Calls Tryz.prog 47 _ _ _ at hc
  rw [z1H] at hc
  exact hc
end Go.Proofs.YtiojgbiimbefiacGreat
