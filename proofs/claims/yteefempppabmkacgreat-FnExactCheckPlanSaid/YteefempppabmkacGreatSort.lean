/- What slices.SortFunc does by the order of the occurrences: each lemma bears its conditions in its statement. -/
import Derived.Test.YteefempppabmkacGreatRows
import Derived.Test.YteefempppabmkacGreatRd
import Derived.Test.YteefempppabmkacGreatEngD
import Derived.WalkKit
import Derived.WalkSpells
import Derived.WalkLawsBesides
import Derived.Sort.Grow
import Derived.Deep.Quiet
import Derived.Deep.QuietTactic
import Derived.StillTailTactics
import Derived.Sort.Statements
import Derived.Shelf.SlSortCmp.NoneTotal
set_option linter.unusedVariables false
set_option linter.unusedSimpArgs false
set_option linter.ambiguousOpen false
set_option linter.unusedSectionVars false
set_option linter.unnecessarySimpa false
set_option linter.unusedVariables false
set_option linter.unusedSimpArgs false
namespace Go.Proofs.YteefempppabmkacGreat
open Go Go.RowKit
set_option maxHeartbeats 1000000
set_option maxRecDepth 100000
theorem j9N (x:Int)(W:World):Calls Tryz.prog 226 #[.int .i64 x] W fun e w'=>e = .returned (.bool false)∧w'=W:=by
 go_enter Tryz.func226,Tryz.ntmps226
 go_wp2
 go_ret
 simp
theorem j9O (x:ByteArray)(W:World):Calls Tryz.prog 227 #[.string x] W fun e w'=>e = .returned (.bool false)∧w'=W:=by
 go_enter Tryz.func227,Tryz.ntmps227
 go_wp2
 go_ret
 simp
def cmpI (x y:Int):Int:=if x < y then -1 else if y < x then 1 else 0
def cmpS (x y:ByteArray):Int:=if Op.bytesLess x.toList y.toList=true then -1 else if (x.toList == y.toList)=true then 0 else 1
theorem j9P (x y:Int)(W:World):Calls Tryz.prog 200 #[.int .i64 x,.int .i64 y] W fun e w'=>e = .returned (.int .i64 (cmpI x y))∧w'=W:=by
 unfold cmpI
 go_enter Tryz.func200,Tryz.ntmps200
 go_wp2_with (go_at_call 226; refine (j9N _ _).mono ?_; rintro e w' ⟨rfl,rfl⟩)
 all_goals (go_ret; simp_all)
theorem j9Q (x y:ByteArray)(W:World):Calls Tryz.prog 201 #[.string x,.string y] W fun e w'=>e = .returned (.int .i64 (cmpS x y))∧w'=W:=by
 unfold cmpS
 go_enter Tryz.func201,Tryz.ntmps201
 go_wp2_with (go_at_call 227; refine (j9O _ _).mono ?_; rintro e w' ⟨rfl,rfl⟩)
 all_goals (first | go_ret | skip)
 all_goals (simp_all)
theorem j9R (x y:Int)(hx:x≠0)(g:Nat)(W:World)(h0:W.cell? ⟨g,0,none⟩=some (.int .i64 x)):Calls Tryz.prog 199 #[.slice (some ⟨g,0,none⟩) 2 2] W fun e w'=>e = .returned (.int .i64 x)∧w'=W:=by
 have hb:(x != 0)=true:=by simpa using hx
 go_enter Tryz.func199,Tryz.ntmps199
 go_wp2
 refine wp_loop_rounds 1 ?_
 simp only [rounds_succ]
 go_wp2
 all_goals (first | (go_ret; simp_all; done) | simp_all)
theorem j9S (y:Int)(hy:y≠0)(g:Nat)(W:World)(h0:W.cell? ⟨g,0,none⟩=some (.int .i64 0))(h1:W.cell? ⟨g,1,none⟩=some (.int .i64 y)):Calls Tryz.prog 199 #[.slice (some ⟨g,0,none⟩) 2 2] W fun e w'=>e = .returned (.int .i64 y)∧w'=W:=by
 have hb:(y != 0)=true:=by simpa using hy
 go_enter Tryz.func199,Tryz.ntmps199
 go_wp2
 refine wp_loop_rounds 2 ?_
 simp only [rounds_succ]
 go_wp2
 simp only [rounds_succ]
 go_wp2
 all_goals (first | (go_ret; simp_all; done) | simp_all)
theorem j9T (g:Nat)(W:World)(h0:W.cell? ⟨g,0,none⟩=some (.int .i64 0))(h1:W.cell? ⟨g,1,none⟩=some (.int .i64 0)):Calls Tryz.prog 199 #[.slice (some ⟨g,0,none⟩) 2 2] W fun e w'=>e = .returned (.int .i64 0)∧w'=W:=by
 go_enter Tryz.func199,Tryz.ntmps199
 go_wp2
 refine wp_loop_rounds 3 ?_
 simp only [rounds_succ]
 go_wp2
 simp only [rounds_succ]
 go_wp2
 simp only [rounds_succ]
 go_wp2
 all_goals (first | (go_ret; simp_all; done) | simp_all)
theorem k1i (x y:Int)(g:Nat)(W:World)(h0:W.cell? ⟨g,0,none⟩=some (.int .i64 x))(h1:W.cell? ⟨g,1,none⟩=some (.int .i64 y)):Calls Tryz.prog 199 #[.slice (some ⟨g,0,none⟩) 2 2] W fun e w'=>e = .returned (.int .i64 (if x≠0 then x else y))∧w'=W:=by
 by_cases hx:x=0
 ·subst hx
  by_cases hy:y=0
  ·subst hy; exact j9T g W h0 h1
  ·exact j9S y hy g W h0 h1
 ·rw [if_pos hx]; exact j9R x y hx g W h0
def cmpO (a b:Occurrence):Int:=if cmpI a.Pos b.Pos≠0 then cmpI a.Pos b.Pos else cmpS a.Name b.Name
open Go.E
theorem ag3:aggT Tryz.prog 3=some false:=by kernel_rfl
theorem ag9:aggT Tryz.prog 9=some false:=by kernel_rfl
theorem sz3:szT Tryz.prog 3=some 1:=by kernel_rfl
theorem ze3:q6d Tryz.prog 3=some [.int .i64 0]:=by kernel_rfl
theorem el94:q4Y Tryz.prog 94=some 3:=by kernel_rfl
theorem j0O:q7u Tryz.prog 133 0=some 0:=by kernel_rfl
theorem j6a:q7u Tryz.prog 133 1=some 1:=by kernel_rfl
theorem k2d:q2p Tryz.prog 199=true:=by kernel_rfl
theorem k2e:q2p Tryz.prog 200=true:=by kernel_rfl
theorem k2f:q2p Tryz.prog 201=true:=by kernel_rfl
theorem hmix:Tryz.prog.follows .mixedOrders=true:=by kernel_rfl
theorem j7W (a b:Occurrence)(W:World):Ret Tryz.prog 167 #[.agg #[.int .i64 a.Pos,.string a.Name],.agg #[.int .i64 b.Pos,.string b.Name]] W (fun _=>False) fun v w'=>v = .int .i64 (cmpO a b)∧Gr W w':=by
 have hI:∀ W',Ret Tryz.prog 200 #[.int .i64 a.Pos,.int .i64 b.Pos] W' (fun _=>False) fun v w'=>v = .int .i64 (cmpI a.Pos b.Pos)∧Gr W' w':=fun W'=>(j9P a.Pos b.Pos W').mono fun e w' ⟨h1,h2⟩=>⟨_,h1,by rw [h2]; exact Ext.refl _,rfl,by rw [h2]; exact Gr.refl _⟩
 have hS:∀ W',Ret Tryz.prog 201 #[.string a.Name,.string b.Name] W' (fun _=>False) fun v w'=>v = .int .i64 (cmpS a.Name b.Name)∧Gr W' w':=fun W'=>(j9Q a.Name b.Name W').mono fun e w' ⟨h1,h2⟩=>⟨_,h1,by rw [h2]; exact Ext.refl _,rfl,by rw [h2]; exact Gr.refl _⟩
 unfold cmpO
 refine enter Tryz.func167 rfl rfl rfl ?_
 refine CW.seq (q1x ?_)
 refine q1G rfl rfl rfl rfl rfl fun b1 w1 g1 hb1 B1=>?_
 refine q1G rfl rfl rfl rfl rfl fun b2 w2 g2 hb2 B2=>?_
 have B1:=B1.ext g2.ext
 refine q0b rfl rfl (q1m rfl rfl) (WL.nil ?_)
 refine CW.seq (q1o (R:=Gr) 10 Gr.refl Gr.trans Gr.draw hmix (by kernel_rfl) ?_)
 refine q1f rfl rfl (fun w hw=>q0m rfl j0O rfl) ?_
 refine q1f rfl rfl (fun w hw=>q0h rfl ag3 rfl ((B1.ext hw.ext).cell rfl)) ?_
 refine q1f rfl rfl (fun w hw=>q0m rfl j0O rfl) ?_
 refine q1f rfl rfl (fun w hw=>q0h rfl ag3 rfl ((B2.ext hw.ext).cell rfl)) ?_
 refine QC.call rfl rfl rfl rfl rfl k2e rfl (fun w hw=>hI w) ?_
 refine q1f rfl rfl (fun w hw=>q0m rfl j6a rfl) ?_
 refine q1f rfl rfl (fun w hw=>q0h rfl ag9 rfl ((B1.ext hw.ext).cell rfl)) ?_
 refine q1f rfl rfl (fun w hw=>q0m rfl j6a rfl) ?_
 refine q1f rfl rfl (fun w hw=>q0h rfl ag9 rfl ((B2.ext hw.ext).cell rfl)) ?_
 refine QC.call rfl rfl rfl rfl rfl k2f rfl (fun w hw=>hS w) ?_
 refine QC.nil fun w3 g3=>?_
 refine q1L rfl rfl rfl el94 sz3 ze3 rfl (z5g rfl (z5g rfl k1e)) rfl rfl rfl fun g w4 g4 B4=>?_
 refine WL.call rfl rfl rfl rfl rfl k2d rfl (M:=fun _=>False) (R:=fun v w'=>v = .int .i64 (if cmpI a.Pos b.Pos≠0 then cmpI a.Pos b.Pos else cmpS a.Name b.Name)∧w'=w4) ((k1i _ _ g w4 (B4.cell rfl) (B4.cell rfl)).mono fun e w' ⟨h1,h2⟩=>⟨_,h1,by rw [h2]; exact Ext.refl _,rfl,h2⟩) ?_
 rintro _ w5 hE ⟨rfl,rfl⟩
 refine q0b rfl rfl (q1m rfl rfl) (WL.nil ?_)
 refine q1w ?_
 have g:=((g1.trans g2).trans g3).trans g4
 exact⟨_,res1 rfl rfl rfl,g.ext,rfl,g⟩
end Go.Proofs.YteefempppabmkacGreat
namespace Go.Proofs.YteefempppabmkacGreat
open Go Go.E Go.RowKit
theorem j9E:∀ x:List UInt8,Op.bytesLess x x=false
 | []=>rfl
 | a :: x=>by simp [Op.bytesLess,j9E x]
theorem j0P:∀ x y z:List UInt8,Op.bytesLess x y=true→Op.bytesLess y z=true→Op.bytesLess x z=true
 | _,[],_,h,_=>by simp [Op.bytesLess] at h
 | _,_ :: _,[],_,h=>by simp [Op.bytesLess] at h
 | [],_ :: _,_ :: _,_,_=>rfl
 | a :: x,b :: y,c :: z,h1,h2=>by
  simp only [Op.bytesLess,Bool.or_eq_true,Bool.and_eq_true,decide_eq_true_eq,beq_iff_eq] at *
  rcases h1 with h1 | ⟨rfl,h1⟩
  ·rcases h2 with h2 | ⟨rfl,h2⟩
   ·exact .inl (by rw [UInt8.lt_iff_toNat_lt] at *; omega)
   ·exact .inl h1
  ·rcases h2 with h2 | ⟨rfl,h2⟩
   ·exact .inl h2
   ·exact .inr ⟨rfl,j0P x y z h1 h2⟩
theorem j0Q:∀ x y:List UInt8,Op.bytesLess x y=false→Op.bytesLess y x=false→x=y
 | [],[],_,_=>rfl
 | [],_ :: _,h,_=>by simp [Op.bytesLess] at h
 | _ :: _,[],_,h=>by simp [Op.bytesLess] at h
 | a :: x,b :: y,h1,h2=>by
  simp only [Op.bytesLess,Bool.or_eq_false_iff,Bool.and_eq_false_iff,decide_eq_false_iff_not,beq_eq_false_iff_ne] at *
  have hab:a=b:=by
   have h3:=h1.1; have h4:=h2.1
   rw [UInt8.lt_iff_toNat_lt] at h3 h4
   exact UInt8.toNat_inj.1 (by omega)
  subst hab
  simp at h1 h2
  rw [j0Q x y h1 h2]
theorem j4U {x y:ByteArray}(h:x.toList=y.toList):x=y:=by
 rw [ByteArray.toList_eq,ByteArray.toList_eq] at h
 cases x; cases y; simp at h; simp [h]
theorem j7X (x y:ByteArray):cmpS x y < 0↔Op.bytesLess x.toList y.toList=true:=by
 unfold cmpS
 by_cases h:Op.bytesLess x.toList y.toList=true
 ·simp [h]
 ·rw [if_neg h]
  constructor
  ·intro h0; split at h0<;>simp at h0
  ·intro h0; exact absurd h0 h
def z0P (a b:Occurrence):Bool:=decide (a.Pos < b.Pos)||(decide (a.Pos=b.Pos)&&Op.bytesLess a.Name.toList b.Name.toList)
theorem j7Y (a b:Occurrence):decide (cmpO a b < 0)=z0P a b:=by
 unfold cmpO z0P cmpI
 by_cases h1:a.Pos < b.Pos
 ·simp [h1]
 ·by_cases h2:b.Pos < a.Pos
  ·have:¬ a.Pos=b.Pos:=by omega
   simp [h1,h2,this]
  ·have:a.Pos=b.Pos:=by omega
   simp only [h1,h2,if_false,ne_eq,not_true_eq_false,this,decide_true,Bool.true_and,Int.lt_irrefl,decide_false,Bool.false_or]
   rw [Bool.eq_iff_iff,decide_eq_true_eq]
   exact j7X _ _
theorem lessO_swo:Sort.SWO z0P where
 irrefl x:=by simp [z0P,j9E]
 trans x y z h1 h2:=by
  simp only [z0P,Bool.or_eq_true,Bool.and_eq_true,decide_eq_true_eq] at *
  rcases h1 with h1 | ⟨e1,h1⟩
  ·rcases h2 with h2 | ⟨e2,h2⟩
   ·exact .inl (by omega)
   ·exact .inl (by omega)
  ·rcases h2 with h2 | ⟨e2,h2⟩
   ·exact .inl (by omega)
   ·exact .inr ⟨by omega,j0P _ _ _ h1 h2⟩
 ntrans x y z h1 h2:=by
  simp only [z0P,Bool.or_eq_false_iff,Bool.and_eq_false_iff,decide_eq_false_iff_not] at *
  refine⟨by omega,?_⟩
  by_cases e:x.Pos=z.Pos
  ·have e1:x.Pos=y.Pos:=by omega
   have e2:y.Pos=z.Pos:=by omega
   right
   have a1:=h1.2.resolve_left (by simpa using e1)
   have a2:=h2.2.resolve_left (by simpa using e2)
   cases hb:Op.bytesLess x.Name.toList z.Name.toList with
   | false=>rfl
   | true=>
    -- x < z, not x < y, not y < z
    by_cases hyx:Op.bytesLess y.Name.toList x.Name.toList=true
    ·rw [j0P _ _ _ hyx hb] at a2; cases a2
    ·have:=j0Q _ _ a1 (by simpa using hyx)
     rw [this,a2] at hb; cases hb
  ·exact .inl (by simpa using e)
theorem z5k (x y:Occurrence)(h1:z0P x y=false)(h2:z0P y x=false):x=y:=by
 simp only [z0P,Bool.or_eq_false_iff,Bool.and_eq_false_iff,decide_eq_false_iff_not] at *
 have e:x.Pos=y.Pos:=by omega
 have a1:=h1.2.resolve_left (by simpa using e)
 have a2:=h2.2.resolve_left (by simpa using e.symm)
 have:=j4U (j0Q _ _ a1 a2)
 cases x; cases y; simp_all
end Go.Proofs.YteefempppabmkacGreat
namespace Go.Proofs.YteefempppabmkacGreat
open Go Go.E Go.RowKit
end Go.Proofs.YteefempppabmkacGreat
namespace Go.Proofs
open Go.Shelf
namespace YteefempppabmkacGreat
def j3a:Go.Shelf.Ren:=⟨fun | 6=>166 | 15=>198 | 14=>197 | 28=>224 | 29=>225 | 20=>216 | 21=>217 | 22=>218 | 23=>219 | 24=>220 | 25=>221 | 26=>222 | 27=>223 | 46=>240 | 47=>241 | 48=>242 | 49=>243 | 50=>244 | 57=>252 | n=>n,fun | 22=>95 | 24=>133 | 25=>221 | 3=>3 | 39=>237 | 0=>0 | 53=>256 | 55=>258 | 4=>4 | 46=>249 | 45=>248 | 50=>253 | 5=>5 | 9=>9 | 66=>260 | 70=>264 | 76=>269 | 77=>139 | n=>n,fun | n=>n⟩
theorem j6b:Go.Proofs.SlLaysF0.n6 Tryz.prog j3a:={
 mixed:=by kernel_rfl,
 f6:=⟨Tryz.f166.name,by decide,Tryz.func166.trans (congrArg some (by kernel_rfl))⟩,
 f14:=⟨Tryz.f197.name,by decide,Tryz.func197.trans (congrArg some (by kernel_rfl))⟩,
 f15:=Tryz.func198.trans (congrArg some (by kernel_rfl)),
 f20:=⟨Tryz.f216.name,by decide,Tryz.func216.trans (congrArg some (by kernel_rfl))⟩,
 f21:=⟨Tryz.f217.name,by decide,Tryz.func217.trans (congrArg some (by kernel_rfl))⟩,
 f22:=⟨Tryz.f218.name,by decide,Tryz.func218.trans (congrArg some (by kernel_rfl))⟩,
 f23:=⟨Tryz.f219.name,by decide,Tryz.func219.trans (congrArg some (by kernel_rfl))⟩,
 f24:=⟨Tryz.f220.name,by decide,Tryz.func220.trans (congrArg some (by kernel_rfl))⟩,
 f25:=⟨Tryz.f221.name,by decide,Tryz.func221.trans (congrArg some (by kernel_rfl))⟩,
 f26:=⟨Tryz.f222.name,by decide,Tryz.func222.trans (congrArg some (by kernel_rfl))⟩,
 f27:=⟨Tryz.f223.name,by decide,Tryz.func223.trans (congrArg some (by kernel_rfl))⟩,
 f28:=Tryz.func224.trans (congrArg some (by kernel_rfl)),
 f29:=Tryz.func225.trans (congrArg some (by kernel_rfl)),
 f46:=⟨Tryz.f240.name,by decide,Tryz.func240.trans (congrArg some (by kernel_rfl))⟩,
 f47:=Tryz.func241.trans (congrArg some (by kernel_rfl)),
 f48:=Tryz.func242.trans (congrArg some (by kernel_rfl)),
 f49:=⟨Tryz.f243.name,by decide,Tryz.func243.trans (congrArg some (by kernel_rfl))⟩,
 f50:=⟨Tryz.f244.name,by decide,Tryz.func244.trans (congrArg some (by kernel_rfl))⟩,
 f57:=⟨Tryz.f252.name,by decide,Tryz.func252.trans (congrArg some (by kernel_rfl))⟩,
 t0:=Tryz.underlying0,
 a0:=Tryz.isAgg0,
 z0:=Tryz.sizeOf0,
 v0:=Tryz.zeroValue0,
 t3:=Tryz.underlying3,
 a3:=Tryz.isAgg3,
 z3:=Tryz.sizeOf3,
 v3:=Tryz.zeroValue3,
 t4:=Tryz.underlying4,
 a4:=Tryz.isAgg4,
 z4:=Tryz.sizeOf4,
 v4:=Tryz.zeroValue4,
 t5:=Tryz.underlying5,
 a5:=Tryz.isAgg5,
 z5:=Tryz.sizeOf5,
 v5:=Tryz.zeroValue5,
 t9:=Tryz.underlying9,
 a9:=Tryz.isAgg9,
 z9:=Tryz.sizeOf9,
 v9:=Tryz.zeroValue9,
 t22:=Tryz.underlying95,
 a22:=Tryz.isAgg95,
 z22:=Tryz.sizeOf95,
 v22:=Tryz.zeroValue95,
 t25:=Tryz.underlying221,
 a25:=Tryz.isAgg221,
 z25:=Tryz.sizeOf221,
 v25:=Tryz.zeroValue221,
 t39:=Tryz.underlying237,
 a39:=Tryz.isAgg237,
 z39:=Tryz.sizeOf237,
 v39:=Tryz.zeroValue237,
 t45:=Tryz.underlying248,
 a45:=Tryz.isAgg248,
 z45:=Tryz.sizeOf248,
 v45:=Tryz.zeroValue248,
 t46:=Tryz.underlying249,
 a46:=Tryz.isAgg249,
 z46:=Tryz.sizeOf249,
 v46:=Tryz.zeroValue249,
 t50:=Tryz.underlying253,
 a50:=Tryz.isAgg253,
 z50:=Tryz.sizeOf253,
 v50:=Tryz.zeroValue253,
 t53:=Tryz.underlying256,
 a53:=Tryz.isAgg256,
 z53:=Tryz.sizeOf256,
 v53:=Tryz.zeroValue256,
 t55:=Tryz.underlying258,
 a55:=Tryz.isAgg258,
 z55:=Tryz.sizeOf258,
 v55:=Tryz.zeroValue258,
 t66:=Tryz.underlying260,
 a66:=Tryz.isAgg260,
 z66:=Tryz.sizeOf260,
 v66:=Tryz.zeroValue260,
 t70:=Tryz.underlying264,
 a70:=Tryz.isAgg264,
 z70:=Tryz.sizeOf264,
 v70:=Tryz.zeroValue264,
 t76:=Tryz.underlying269,
 a76:=Tryz.isAgg269,
 z76:=Tryz.sizeOf269,
 v76:=Tryz.zeroValue269,
 t77:=Tryz.underlying139,
 a77:=Tryz.isAgg139,
 z77:=Tryz.sizeOf139,
 v77:=Tryz.zeroValue139 }
end YteefempppabmkacGreat
end Go.Proofs
namespace Go.Proofs.YteefempppabmkacGreat
open Go Go.E Go.RowKit
instance:Inhabited Occurrence:=⟨⟨0,⟨#[]⟩⟩⟩
def encO (x:Occurrence):List Value:=[.int .i64 x.Pos,.string x.Name]
theorem j9U {L:List Nat}{w:World}{x:Occurrence}{cs:List Value}(h:Sep.own L w x cs):L=[]∧cs=encO x∧(I64 x.Pos∧x.Name.size≤9223372036854775807):=by
 obtain⟨rfl,h0,h1,rfl⟩:=h
 exact⟨rfl,rfl,h0,h1⟩
theorem j9V {w:World}{x:Occurrence}(h:I64 x.Pos∧x.Name.size≤9223372036854775807):Sep.own [] w x (encO x):=⟨rfl,h.1,h.2,rfl⟩
theorem j7Z (blk off size:Nat)(w:World):CmpLays Tryz.prog 167 #[] encO 2 cmpO blk off size w:=fun _ _ _ _ x y=>
 Calls.mono (j7W x y _) fun e w' ⟨v,h1,_,h2,h3⟩=>⟨by rw [h1,h2],h3⟩
theorem z8A:ltOf cmpO=z0P:=by funext x y; exact j7Y x y
def z9O (l:List Occurrence):List Occurrence:=l.mergeSort fun x y=>!z0P y x
theorem j8a {a0:List Occurrence}{F0:Nat→Prop}{M:List Nat}{w0:World}{A0:Option Addr}{n0 c0:Nat}(hbig:a0.length < 4611686018427387904)(H:HL F0 M w0 w0 [] [It.O 133 a0 (.slice A0 n0 c0)]) :
  Ret Tryz.prog 166 #[.slice A0 n0 c0,.func (.func 167) #[] #[]] w0 (·∈M) fun v w=>v = .tuple #[]∧HL F0 M w0 w [] [It.O 133 (z9O a0) (.slice A0 n0 c0)]:=by
 have hlen:=(H.rO (i:=0) rfl).len
 by_cases h0:a0=[]
 ·subst h0
  obtain rfl:n0=0:=by have:=hlen; simp at this; omega
  have es:z9O []=[]:=by unfold z9O; simp
  have hc:=AnyF.slices_SortFunc_none j6b A0 c0 (.func (.func 167) #[] #[]) w0
  change Calls Tryz.prog 166 _ _ _ at hc
  exact hc.mono fun e w' ⟨h1,h2⟩=>⟨_,h1,by rw [h2]; exact Chg.refl _,rfl,by rw [h2,es]; exact H⟩
 ·obtain⟨x0,hx0⟩:∃ x,a0[0]? = some x:=⟨_,List.getElem?_eq_getElem (List.length_pos_iff.2 h0)⟩
  obtain⟨g,c,hv,_⟩:=H.ptO (i:=0) rfl hx0
  injection hv with e1 e2 e3
  subst e1; subst e2; subst e3
  obtain⟨hH,hblk,_,hm,hok,hnext⟩:=HL.holdsK (enc:=encO) (ok:=fun x=>I64 x.Pos∧x.Name.size≤9223372036854775807) (i:=0) j9U (fun _=>rfl) H rfl h0
  have eg:∀ args w,(callFunc 167 args).run Tryz.prog w = .ok (.enter 167 args) w:=enters_of Tryz.func167 (by kernel_rfl) rfl
  have hc:=AnyQ.slices_SortFunc_total j6b 2 Tryz.isAgg133 Tryz.sizeOf133 encO (fun _=>rfl) (fun x v hv=>by simp [encO] at hv; rcases hv with rfl | rfl<;>rfl) cmpO (by rw [z8A]; exact lessO_swo) 167 #[] g 0 c0 a0.toArray w0 eg (j7Z _ _ _ _) hH hblk (by simpa using hbig) (by rw [z8A]; exact z5k)
  change Calls Tryz.prog 166 _ _ _ at hc
  rw [z8A] at hc
  refine hc.mono fun e w' ⟨h1,n,os,h2⟩=>?_
  have hN:=hnext (ys:=z9O a0) (n:=n) (os:=os) (List.length_mergeSort a0) (fun y hy=>hok y (List.mem_mergeSort.1 hy)) j9V h2
  exact⟨_,h1,hN.chg,rfl,hN⟩
end Go.Proofs.YteefempppabmkacGreat
