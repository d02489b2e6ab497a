/- What slices.SortFunc does by the order of the occurrences: each lemma bears its conditions in its statement. -/
import Derived.Test.YtpnkinhphabkcaaGreatAb5
import Derived.Deep.Quiet
import Derived.Deep.QuietTactic
import Derived.Shelf.SlSortCmp.NoneTotal
import Derived.Sort.Grow
import Derived.Sort.Statements
import Derived.StillTailTactics
import Derived.Test.YtpnkinhphabkcaaGreatRows
import Derived.WalkKit
import Derived.WalkLawsBesides
import Derived.WalkSpells
set_option linter.unusedVariables false
set_option linter.unusedSimpArgs false
set_option linter.ambiguousOpen false
set_option linter.unusedSectionVars false
set_option linter.unnecessarySimpa false
namespace Go.Proofs.YtpnkinhphabkcaaGreat
open Go Go.RowKit
set_option maxHeartbeats 1000000
set_option maxRecDepth 100000
theorem k5d (x:Int)(W:World):Calls Tryz.prog 179 #[.int .i64 x] W fun e w'=>e = .returned (.bool false)∧w'=W:=by
 go_enter Tryz.func179,Tryz.ntmps179
 go_wp2
 go_ret
 simp
theorem k5e (x:ByteArray)(W:World):Calls Tryz.prog 180 #[.string x] W fun e w'=>e = .returned (.bool false)∧w'=W:=by
 go_enter Tryz.func180,Tryz.ntmps180
 go_wp2
 go_ret
 simp
def cmpI (x y:Int):Int:=if x < y then -1 else if y < x then 1 else 0
def cmpS (x y:ByteArray):Int:=if Op.bytesLess x.toList y.toList=true then -1 else if (x.toList == y.toList)=true then 0 else 1
theorem k5f (x y:Int)(W:World):Calls Tryz.prog 141 #[.int .i64 x,.int .i64 y] W fun e w'=>e = .returned (.int .i64 (cmpI x y))∧w'=W:=by
 unfold cmpI
 go_enter Tryz.func141,Tryz.ntmps141
 go_wp2_with (go_at_call 179; refine (k5d _ _).mono ?_; rintro e w' ⟨rfl,rfl⟩)
 all_goals (go_ret; simp_all)
theorem k5g (x y:ByteArray)(W:World):Calls Tryz.prog 142 #[.string x,.string y] W fun e w'=>e = .returned (.int .i64 (cmpS x y))∧w'=W:=by
 unfold cmpS
 go_enter Tryz.func142,Tryz.ntmps142
 go_wp2_with (go_at_call 180; refine (k5e _ _).mono ?_; rintro e w' ⟨rfl,rfl⟩)
 all_goals (first | go_ret | skip)
 all_goals (simp_all)
theorem k5h (x y:Int)(hx:x≠0)(g:Nat)(W:World)(h0:W.cell? ⟨g,0,none⟩=some (.int .i64 x)):Calls Tryz.prog 140 #[.slice (some ⟨g,0,none⟩) 2 2] W fun e w'=>e = .returned (.int .i64 x)∧w'=W:=by
 have hb:(x != 0)=true:=by simpa using hx
 go_enter Tryz.func140,Tryz.ntmps140
 go_wp2
 refine wp_loop_rounds 1 ?_
 simp only [rounds_succ]
 go_wp2
 all_goals (first | (go_ret; simp_all; done) | simp_all)
theorem k5i (y:Int)(hy:y≠0)(g:Nat)(W:World)(h0:W.cell? ⟨g,0,none⟩=some (.int .i64 0))(h1:W.cell? ⟨g,1,none⟩=some (.int .i64 y)):Calls Tryz.prog 140 #[.slice (some ⟨g,0,none⟩) 2 2] W fun e w'=>e = .returned (.int .i64 y)∧w'=W:=by
 have hb:(y != 0)=true:=by simpa using hy
 go_enter Tryz.func140,Tryz.ntmps140
 go_wp2
 refine wp_loop_rounds 2 ?_
 simp only [rounds_succ]
 go_wp2
 simp only [rounds_succ]
 go_wp2
 all_goals (first | (go_ret; simp_all; done) | simp_all)
theorem k5j (g:Nat)(W:World)(h0:W.cell? ⟨g,0,none⟩=some (.int .i64 0))(h1:W.cell? ⟨g,1,none⟩=some (.int .i64 0)):Calls Tryz.prog 140 #[.slice (some ⟨g,0,none⟩) 2 2] W fun e w'=>e = .returned (.int .i64 0)∧w'=W:=by
 go_enter Tryz.func140,Tryz.ntmps140
 go_wp2
 refine wp_loop_rounds 3 ?_
 simp only [rounds_succ]
 go_wp2
 simp only [rounds_succ]
 go_wp2
 simp only [rounds_succ]
 go_wp2
 all_goals (first | (go_ret; simp_all; done) | simp_all)
theorem k6w (x y:Int)(g:Nat)(W:World)(h0:W.cell? ⟨g,0,none⟩=some (.int .i64 x))(h1:W.cell? ⟨g,1,none⟩=some (.int .i64 y)):Calls Tryz.prog 140 #[.slice (some ⟨g,0,none⟩) 2 2] W fun e w'=>e = .returned (.int .i64 (if x≠0 then x else y))∧w'=W:=by
 by_cases hx:x=0
 ·subst hx
  by_cases hy:y=0
  ·subst hy; exact k5j g W h0 h1
  ·exact k5i y hy g W h0 h1
 ·rw [if_pos hx]; exact k5h x y hx g W h0
def cmpO (a b:Occurrence):Int:=if cmpI a.Pos b.Pos≠0 then cmpI a.Pos b.Pos else cmpS a.Name b.Name
open Go.E
theorem ag3:aggT Tryz.prog 3=some false:=by kernel_rfl
theorem ag9:aggT Tryz.prog 9=some false:=by kernel_rfl
theorem sz3:szT Tryz.prog 3=some 1:=by kernel_rfl
theorem ze3:z4s Tryz.prog 3=some [.int .i64 0]:=by kernel_rfl
theorem el36:q8E Tryz.prog 36=some 3:=by kernel_rfl
theorem k4x:z8f Tryz.prog 78 0=some 0:=by kernel_rfl
theorem k4y:z8f Tryz.prog 78 1=some 1:=by kernel_rfl
theorem k6T:q9G Tryz.prog 140=true:=by kernel_rfl
theorem k6U:q9G Tryz.prog 141=true:=by kernel_rfl
theorem k6V:q9G Tryz.prog 142=true:=by kernel_rfl
theorem hmix:Tryz.prog.follows .mixedOrders=true:=by kernel_rfl
theorem k2Z (a b:Occurrence)(W:World):Ret Tryz.prog 104 #[.agg #[.int .i64 a.Pos,.string a.Name],.agg #[.int .i64 b.Pos,.string b.Name]] W (fun _=>False) fun v w'=>v = .int .i64 (cmpO a b)∧Gr W w':=by
 have hI:∀ W',Ret Tryz.prog 141 #[.int .i64 a.Pos,.int .i64 b.Pos] W' (fun _=>False) fun v w'=>v = .int .i64 (cmpI a.Pos b.Pos)∧Gr W' w':=fun W'=>(k5f a.Pos b.Pos W').mono fun e w' ⟨h1,h2⟩=>⟨_,h1,by rw [h2]; exact Ext.refl _,rfl,by rw [h2]; exact Gr.refl _⟩
 have hS:∀ W',Ret Tryz.prog 142 #[.string a.Name,.string b.Name] W' (fun _=>False) fun v w'=>v = .int .i64 (cmpS a.Name b.Name)∧Gr W' w':=fun W'=>(k5g a.Name b.Name W').mono fun e w' ⟨h1,h2⟩=>⟨_,h1,by rw [h2]; exact Ext.refl _,rfl,by rw [h2]; exact Gr.refl _⟩
 unfold cmpO
 refine enter Tryz.func104 rfl rfl rfl ?_
 refine q0Z (q1a ?_)
 refine q1k rfl rfl rfl rfl rfl fun b1 w1 g1 hb1 B1=>?_
 refine q1k rfl rfl rfl rfl rfl fun b2 w2 g2 hb2 B2=>?_
 have B1:=B1.ext g2.ext
 refine WL.ev rfl rfl (q2h rfl rfl) (WL.nil ?_)
 refine q0Z (q1g (R:=Gr) 10 Gr.refl Gr.trans Gr.draw hmix (by kernel_rfl) ?_)
 refine QC.ev rfl rfl (fun w hw=>q0G rfl k4x rfl) ?_
 refine QC.ev rfl rfl (fun w hw=>q0H rfl ag3 rfl ((B1.ext hw.ext).cell rfl)) ?_
 refine QC.ev rfl rfl (fun w hw=>q0G rfl k4x rfl) ?_
 refine QC.ev rfl rfl (fun w hw=>q0H rfl ag3 rfl ((B2.ext hw.ext).cell rfl)) ?_
 refine q1d rfl rfl rfl rfl rfl k6U rfl (fun w hw=>hI w) ?_
 refine QC.ev rfl rfl (fun w hw=>q0G rfl k4y rfl) ?_
 refine QC.ev rfl rfl (fun w hw=>q0H rfl ag9 rfl ((B1.ext hw.ext).cell rfl)) ?_
 refine QC.ev rfl rfl (fun w hw=>q0G rfl k4y rfl) ?_
 refine QC.ev rfl rfl (fun w hw=>q0H rfl ag9 rfl ((B2.ext hw.ext).cell rfl)) ?_
 refine q1d rfl rfl rfl rfl rfl k6V rfl (fun w hw=>hS w) ?_
 refine QC.nil fun w3 g3=>?_
 refine q1S rfl rfl rfl el36 sz3 ze3 rfl (k6k rfl (k6k rfl k6Q)) rfl rfl rfl fun g w4 g4 B4=>?_
 refine q2r rfl rfl rfl rfl rfl k6T rfl (M:=fun _=>False) (R:=fun v w'=>v = .int .i64 (if cmpI a.Pos b.Pos≠0 then cmpI a.Pos b.Pos else cmpS a.Name b.Name)∧w'=w4) ((k6w _ _ g w4 (B4.cell rfl) (B4.cell rfl)).mono fun e w' ⟨h1,h2⟩=>⟨_,h1,by rw [h2]; exact Ext.refl _,rfl,h2⟩) ?_
 rintro _ w5 hE ⟨rfl,rfl⟩
 refine WL.ev rfl rfl (q2h rfl rfl) (WL.nil ?_)
 refine CW.ret ?_
 have g:=((g1.trans g2).trans g3).trans g4
 exact⟨_,res1 rfl rfl rfl,g.ext,rfl,g⟩
end Go.Proofs.YtpnkinhphabkcaaGreat
namespace Go.Proofs.YtpnkinhphabkcaaGreat
open Go Go.E Go.RowKit
theorem k4z:∀ x:List UInt8,Op.bytesLess x x=false
 | []=>rfl
 | a :: x=>by simp [Op.bytesLess,k4z x]
theorem j3W:∀ x y z:List UInt8,Op.bytesLess x y=true→Op.bytesLess y z=true→Op.bytesLess x z=true
 | _,[],_,h,_=>by simp [Op.bytesLess] at h
 | _,_ :: _,[],_,h=>by simp [Op.bytesLess] at h
 | [],_ :: _,_ :: _,_,_=>rfl
 | a :: x,b :: y,c :: z,h1,h2=>by
  simp only [Op.bytesLess,Bool.or_eq_true,Bool.and_eq_true,decide_eq_true_eq,beq_iff_eq] at *
  rcases h1 with h1 | ⟨rfl,h1⟩
  ·rcases h2 with h2 | ⟨rfl,h2⟩
   ·exact .inl (by rw [UInt8.lt_iff_toNat_lt] at *; omega)
   ·exact .inl h1
  ·rcases h2 with h2 | ⟨rfl,h2⟩
   ·exact .inl h2
   ·exact .inr ⟨rfl,j3W x y z h1 h2⟩
theorem j3X:∀ x y:List UInt8,Op.bytesLess x y=false→Op.bytesLess y x=false→x=y
 | [],[],_,_=>rfl
 | [],_ :: _,h,_=>by simp [Op.bytesLess] at h
 | _ :: _,[],_,h=>by simp [Op.bytesLess] at h
 | a :: x,b :: y,h1,h2=>by
  simp only [Op.bytesLess,Bool.or_eq_false_iff,Bool.and_eq_false_iff,decide_eq_false_iff_not,beq_eq_false_iff_ne] at *
  have hab:a=b:=by
   have h3:=h1.1; have h4:=h2.1
   rw [UInt8.lt_iff_toNat_lt] at h3 h4
   exact UInt8.toNat_inj.1 (by omega)
  subst hab
  simp at h1 h2
  rw [j3X x y h1 h2]
theorem j9w {x y:ByteArray}(h:x.toList=y.toList):x=y:=by
 rw [ByteArray.toList_eq,ByteArray.toList_eq] at h
 cases x; cases y; simp at h; simp [h]
theorem k3a (x y:ByteArray):cmpS x y < 0↔Op.bytesLess x.toList y.toList=true:=by
 unfold cmpS
 by_cases h:Op.bytesLess x.toList y.toList=true
 ·simp [h]
 ·rw [if_neg h]
  constructor
  ·intro h0; split at h0<;>simp at h0
  ·intro h0; exact absurd h0 h
def z3x (a b:Occurrence):Bool:=decide (a.Pos < b.Pos)||(decide (a.Pos=b.Pos)&&Op.bytesLess a.Name.toList b.Name.toList)
theorem k3b (a b:Occurrence):decide (cmpO a b < 0)=z3x a b:=by
 unfold cmpO z3x cmpI
 by_cases h1:a.Pos < b.Pos
 ·simp [h1]
 ·by_cases h2:b.Pos < a.Pos
  ·have:¬ a.Pos=b.Pos:=by omega
   simp [h1,h2,this]
  ·have:a.Pos=b.Pos:=by omega
   simp only [h1,h2,if_false,ne_eq,not_true_eq_false,this,decide_true,Bool.true_and,Int.lt_irrefl,decide_false,Bool.false_or]
   rw [Bool.eq_iff_iff,decide_eq_true_eq]
   exact k3a _ _
theorem lessO_swo:Sort.SWO z3x where
 irrefl x:=by simp [z3x,k4z]
 trans x y z h1 h2:=by
  simp only [z3x,Bool.or_eq_true,Bool.and_eq_true,decide_eq_true_eq] at *
  rcases h1 with h1 | ⟨e1,h1⟩
  ·rcases h2 with h2 | ⟨e2,h2⟩
   ·exact .inl (by omega)
   ·exact .inl (by omega)
  ·rcases h2 with h2 | ⟨e2,h2⟩
   ·exact .inl (by omega)
   ·exact .inr ⟨by omega,j3W _ _ _ h1 h2⟩
 ntrans x y z h1 h2:=by
  simp only [z3x,Bool.or_eq_false_iff,Bool.and_eq_false_iff,decide_eq_false_iff_not] at *
  refine⟨by omega,?_⟩
  by_cases e:x.Pos=z.Pos
  ·have e1:x.Pos=y.Pos:=by omega
   have e2:y.Pos=z.Pos:=by omega
   right
   have a1:=h1.2.resolve_left (by simpa using e1)
   have a2:=h2.2.resolve_left (by simpa using e2)
   cases hb:Op.bytesLess x.Name.toList z.Name.toList with
   | false=>rfl
   | true=>
    -- x < z, not x < y, not y < z
    by_cases hyx:Op.bytesLess y.Name.toList x.Name.toList=true
    ·rw [j3W _ _ _ hyx hb] at a2; cases a2
    ·have:=j3X _ _ a1 (by simpa using hyx)
     rw [this,a2] at hb; cases hb
  ·exact .inl (by simpa using e)
theorem z7J (x y:Occurrence)(h1:z3x x y=false)(h2:z3x y x=false):x=y:=by
 simp only [z3x,Bool.or_eq_false_iff,Bool.and_eq_false_iff,decide_eq_false_iff_not] at *
 have e:x.Pos=y.Pos:=by omega
 have a1:=h1.2.resolve_left (by simpa using e)
 have a2:=h2.2.resolve_left (by simpa using e.symm)
 have:=j9w (j3X _ _ a1 a2)
 cases x; cases y; simp_all
end Go.Proofs.YtpnkinhphabkcaaGreat
namespace Go.Proofs.YtpnkinhphabkcaaGreat
open Go Go.E Go.RowKit
end Go.Proofs.YtpnkinhphabkcaaGreat
namespace Go.Proofs
open Go.Shelf
namespace YtpnkinhphabkcaaGreat
def j7c:Go.Shelf.Ren:=⟨fun | 6=>103 | 15=>139 | 14=>138 | 28=>177 | 29=>178 | 20=>169 | 21=>170 | 22=>171 | 23=>172 | 24=>173 | 25=>174 | 26=>175 | 27=>176 | 46=>209 | 47=>210 | 48=>211 | 49=>212 | 50=>213 | 57=>229 | n=>n,fun | 22=>75 | 24=>78 | 25=>128 | 3=>3 | 39=>91 | 0=>0 | 53=>179 | 55=>181 | 4=>4 | 46=>172 | 45=>171 | 50=>176 | 5=>5 | 9=>9 | 66=>191 | 70=>195 | 76=>204 | 77=>104 | n=>n,fun | n=>n⟩
theorem k0V:Go.Proofs.SlLaysF0.n6 Tryz.prog j7c:={
 mixed:=by kernel_rfl,
 f6:=⟨Tryz.f103.name,by decide,Tryz.func103.trans (congrArg some (by kernel_rfl))⟩,
 f14:=⟨Tryz.f138.name,by decide,Tryz.func138.trans (congrArg some (by kernel_rfl))⟩,
 f15:=Tryz.func139.trans (congrArg some (by kernel_rfl)),
 f20:=⟨Tryz.f169.name,by decide,Tryz.func169.trans (congrArg some (by kernel_rfl))⟩,
 f21:=⟨Tryz.f170.name,by decide,Tryz.func170.trans (congrArg some (by kernel_rfl))⟩,
 f22:=⟨Tryz.f171.name,by decide,Tryz.func171.trans (congrArg some (by kernel_rfl))⟩,
 f23:=⟨Tryz.f172.name,by decide,Tryz.func172.trans (congrArg some (by kernel_rfl))⟩,
 f24:=⟨Tryz.f173.name,by decide,Tryz.func173.trans (congrArg some (by kernel_rfl))⟩,
 f25:=⟨Tryz.f174.name,by decide,Tryz.func174.trans (congrArg some (by kernel_rfl))⟩,
 f26:=⟨Tryz.f175.name,by decide,Tryz.func175.trans (congrArg some (by kernel_rfl))⟩,
 f27:=⟨Tryz.f176.name,by decide,Tryz.func176.trans (congrArg some (by kernel_rfl))⟩,
 f28:=Tryz.func177.trans (congrArg some (by kernel_rfl)),
 f29:=Tryz.func178.trans (congrArg some (by kernel_rfl)),
 f46:=⟨Tryz.f209.name,by decide,Tryz.func209.trans (congrArg some (by kernel_rfl))⟩,
 f47:=Tryz.func210.trans (congrArg some (by kernel_rfl)),
 f48:=Tryz.func211.trans (congrArg some (by kernel_rfl)),
 f49:=⟨Tryz.f212.name,by decide,Tryz.func212.trans (congrArg some (by kernel_rfl))⟩,
 f50:=⟨Tryz.f213.name,by decide,Tryz.func213.trans (congrArg some (by kernel_rfl))⟩,
 f57:=⟨Tryz.f229.name,by decide,Tryz.func229.trans (congrArg some (by kernel_rfl))⟩,
 t0:=Tryz.underlying0,
 a0:=Tryz.isAgg0,
 z0:=Tryz.sizeOf0,
 v0:=Tryz.zeroValue0,
 t3:=Tryz.underlying3,
 a3:=Tryz.isAgg3,
 z3:=Tryz.sizeOf3,
 v3:=Tryz.zeroValue3,
 t4:=Tryz.underlying4,
 a4:=Tryz.isAgg4,
 z4:=Tryz.sizeOf4,
 v4:=Tryz.zeroValue4,
 t5:=Tryz.underlying5,
 a5:=Tryz.isAgg5,
 z5:=Tryz.sizeOf5,
 v5:=Tryz.zeroValue5,
 t9:=Tryz.underlying9,
 a9:=Tryz.isAgg9,
 z9:=Tryz.sizeOf9,
 v9:=Tryz.zeroValue9,
 t22:=Tryz.underlying75,
 a22:=Tryz.isAgg75,
 z22:=Tryz.sizeOf75,
 v22:=Tryz.zeroValue75,
 t25:=Tryz.underlying128,
 a25:=Tryz.isAgg128,
 z25:=Tryz.sizeOf128,
 v25:=Tryz.zeroValue128,
 t39:=Tryz.underlying91,
 a39:=Tryz.isAgg91,
 z39:=Tryz.sizeOf91,
 v39:=Tryz.zeroValue91,
 t45:=Tryz.underlying171,
 a45:=Tryz.isAgg171,
 z45:=Tryz.sizeOf171,
 v45:=Tryz.zeroValue171,
 t46:=Tryz.underlying172,
 a46:=Tryz.isAgg172,
 z46:=Tryz.sizeOf172,
 v46:=Tryz.zeroValue172,
 t50:=Tryz.underlying176,
 a50:=Tryz.isAgg176,
 z50:=Tryz.sizeOf176,
 v50:=Tryz.zeroValue176,
 t53:=Tryz.underlying179,
 a53:=Tryz.isAgg179,
 z53:=Tryz.sizeOf179,
 v53:=Tryz.zeroValue179,
 t55:=Tryz.underlying181,
 a55:=Tryz.isAgg181,
 z55:=Tryz.sizeOf181,
 v55:=Tryz.zeroValue181,
 t66:=Tryz.underlying191,
 a66:=Tryz.isAgg191,
 z66:=Tryz.sizeOf191,
 v66:=Tryz.zeroValue191,
 t70:=Tryz.underlying195,
 a70:=Tryz.isAgg195,
 z70:=Tryz.sizeOf195,
 v70:=Tryz.zeroValue195,
 t76:=Tryz.underlying204,
 a76:=Tryz.isAgg204,
 z76:=Tryz.sizeOf204,
 v76:=Tryz.zeroValue204,
 t77:=Tryz.underlying104,
 a77:=Tryz.isAgg104,
 z77:=Tryz.sizeOf104,
 v77:=Tryz.zeroValue104 }
end YtpnkinhphabkcaaGreat
end Go.Proofs
namespace Go.Proofs.YtpnkinhphabkcaaGreat
open Go Go.E Go.RowKit
instance:Inhabited Occurrence:=⟨⟨0,⟨#[]⟩⟩⟩
def encO (x:Occurrence):List Value:=[.int .i64 x.Pos,.string x.Name]
theorem k3c (blk off size:Nat)(w:World):CmpLays Tryz.prog 104 #[] encO 2 cmpO blk off size w:=fun _ _ _ _ x y=>
 Calls.mono (k2Z x y _) fun e w' ⟨v,h1,_,h2,h3⟩=>⟨by rw [h1,h2],h3⟩
theorem j1h:ltOf cmpO=z3x:=by funext x y; exact k3b x y
def j5D (l:List Occurrence):List Occurrence:=l.mergeSort fun x y=>!z3x y x
theorem k0W {S1:Nat→Prop}{w:World}{x:Occurrence}{c:List Value}(h:A.rd1 S1 w (Occurrence.D x) c):c=encO x∧∀ (S2:Nat→Prop) (w2:World),A.rd1 S2 w2 (Occurrence.D x) c:=by
 have h' : A.rdCs S1 w [.i .i64 x.Pos,.s x.Name] c:=h
 simp only [A.rdCs,A.rdC] at h'
 obtain⟨v,r,rfl,⟨rfl,h1⟩,v2,r2,rfl,⟨rfl,h2⟩,rfl⟩:=h'
 refine⟨rfl,fun S2 w2=>?_⟩
 show A.rdCs S2 w2 [.i .i64 x.Pos,.s x.Name] _
 simp only [A.rdCs,A.rdC]
 exact⟨_,_,rfl,⟨rfl,h1⟩,_,_,rfl,⟨rfl,h2⟩,rfl⟩
theorem k3d {m:A.Md}{a0:List Occurrence}(hbig:a0.length < 4611686018427387904):A.Ok Tryz.prog 103 [.ref 0 none,.fn 104 []] [.row m 2 (a0.map Occurrence.D)] (.tu []) [.row m 2 ((j5D a0).map Occurrence.D)]:=by
 have eg:∀ args w,(callFunc 104 args).run Tryz.prog w = .ok (.enter 104 args) w:=enters_of Tryz.func104 (by kernel_rfl) rfl
 refine A.sortOk (enc:=encO) (fun h=>(k0W h).1) (fun h=>(k0W h).2 _ _) (fun _=>rfl) (fun l=>List.length_mergeSort l) (fun l y hy=>List.mem_mergeSort.1 hy) (fun A0 c w=>?_) (fun g cap d w hH hblk hbig=>?_) hbig
 ·have hc:=AnyF.slices_SortFunc_none k0V A0 c (.func (.func 104) #[] #[]) w
  change Calls Tryz.prog 103 _ _ _ at hc
  exact hc
 ·have hc:=AnyQ.slices_SortFunc_total k0V 2 Tryz.isAgg78 Tryz.sizeOf78 encO (fun _=>rfl) (fun x v hv=>by simp [encO] at hv; rcases hv with rfl | rfl<;>rfl) cmpO (by rw [j1h]; exact lessO_swo) 104 #[] g 0 cap d w eg (k3c _ _ _ _) hH hblk hbig (by rw [j1h]; exact z7J)
  change Calls Tryz.prog 103 _ _ _ at hc
  rw [j1h] at hc
  exact hc
end Go.Proofs.YtpnkinhphabkcaaGreat
