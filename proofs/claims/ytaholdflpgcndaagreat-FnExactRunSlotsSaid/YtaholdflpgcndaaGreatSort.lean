/- What slices.SortFunc does by the order of the occurrences: each lemma bears its conditions in its statement. -/
import Derived.Test.YtaholdflpgcndaaGreatAb6
import Derived.Deep.Quiet
import Derived.Deep.QuietTactic
import Derived.Shelf.SlSortCmp.NoneTotal
import Derived.Sort.Grow
import Derived.Sort.Statements
import Derived.StillTailTactics
import Derived.Test.YtaholdflpgcndaaGreatRows
import Derived.WalkKit
import Derived.WalkLawsBesides
import Derived.WalkSpells
set_option linter.unusedVariables false
set_option linter.unusedSimpArgs false
set_option linter.ambiguousOpen false
set_option linter.unusedSectionVars false
set_option linter.unnecessarySimpa false
namespace Go.Proofs.YtaholdflpgcndaaGreat
open Go Go.RowKit
set_option maxHeartbeats 1000000
set_option maxRecDepth 100000
theorem j5H (x:Int)(W:World):Calls Tryz.prog 176 #[.int .i64 x] W fun e w'=>e = .returned (.bool false)∧w'=W:=by
 go_enter Tryz.func176,Tryz.ntmps176
 go_wp2
 go_ret
 simp
theorem j5I (x:ByteArray)(W:World):Calls Tryz.prog 177 #[.string x] W fun e w'=>e = .returned (.bool false)∧w'=W:=by
 go_enter Tryz.func177,Tryz.ntmps177
 go_wp2
 go_ret
 simp
def cmpI (x y:Int):Int:=if x < y then -1 else if y < x then 1 else 0
def cmpS (x y:ByteArray):Int:=if Op.bytesLess x.toList y.toList=true then -1 else if (x.toList == y.toList)=true then 0 else 1
theorem j5J (x y:Int)(W:World):Calls Tryz.prog 139 #[.int .i64 x,.int .i64 y] W fun e w'=>e = .returned (.int .i64 (cmpI x y))∧w'=W:=by
 unfold cmpI
 go_enter Tryz.func139,Tryz.ntmps139
 go_wp2_with (go_at_call 176; refine (j5H _ _).mono ?_; rintro e w' ⟨rfl,rfl⟩)
 all_goals (go_ret; simp_all)
theorem j5K (x y:ByteArray)(W:World):Calls Tryz.prog 140 #[.string x,.string y] W fun e w'=>e = .returned (.int .i64 (cmpS x y))∧w'=W:=by
 unfold cmpS
 go_enter Tryz.func140,Tryz.ntmps140
 go_wp2_with (go_at_call 177; refine (j5I _ _).mono ?_; rintro e w' ⟨rfl,rfl⟩)
 all_goals (first | go_ret | skip)
 all_goals (simp_all)
theorem j5L (x y:Int)(hx:x≠0)(g:Nat)(W:World)(h0:W.cell? ⟨g,0,none⟩=some (.int .i64 x)):Calls Tryz.prog 138 #[.slice (some ⟨g,0,none⟩) 2 2] W fun e w'=>e = .returned (.int .i64 x)∧w'=W:=by
 have hb:(x != 0)=true:=by simpa using hx
 go_enter Tryz.func138,Tryz.ntmps138
 go_wp2
 refine wp_loop_rounds 1 ?_
 simp only [rounds_succ]
 go_wp2
 all_goals (first | (go_ret; simp_all; done) | simp_all)
theorem j5M (y:Int)(hy:y≠0)(g:Nat)(W:World)(h0:W.cell? ⟨g,0,none⟩=some (.int .i64 0))(h1:W.cell? ⟨g,1,none⟩=some (.int .i64 y)):Calls Tryz.prog 138 #[.slice (some ⟨g,0,none⟩) 2 2] W fun e w'=>e = .returned (.int .i64 y)∧w'=W:=by
 have hb:(y != 0)=true:=by simpa using hy
 go_enter Tryz.func138,Tryz.ntmps138
 go_wp2
 refine wp_loop_rounds 2 ?_
 simp only [rounds_succ]
 go_wp2
 simp only [rounds_succ]
 go_wp2
 all_goals (first | (go_ret; simp_all; done) | simp_all)
theorem j5N (g:Nat)(W:World)(h0:W.cell? ⟨g,0,none⟩=some (.int .i64 0))(h1:W.cell? ⟨g,1,none⟩=some (.int .i64 0)):Calls Tryz.prog 138 #[.slice (some ⟨g,0,none⟩) 2 2] W fun e w'=>e = .returned (.int .i64 0)∧w'=W:=by
 go_enter Tryz.func138,Tryz.ntmps138
 go_wp2
 refine wp_loop_rounds 3 ?_
 simp only [rounds_succ]
 go_wp2
 simp only [rounds_succ]
 go_wp2
 simp only [rounds_succ]
 go_wp2
 all_goals (first | (go_ret; simp_all; done) | simp_all)
theorem j6S (x y:Int)(g:Nat)(W:World)(h0:W.cell? ⟨g,0,none⟩=some (.int .i64 x))(h1:W.cell? ⟨g,1,none⟩=some (.int .i64 y)):Calls Tryz.prog 138 #[.slice (some ⟨g,0,none⟩) 2 2] W fun e w'=>e = .returned (.int .i64 (if x≠0 then x else y))∧w'=W:=by
 by_cases hx:x=0
 ·subst hx
  by_cases hy:y=0
  ·subst hy; exact j5N g W h0 h1
  ·exact j5M y hy g W h0 h1
 ·rw [if_pos hx]; exact j5L x y hx g W h0
def cmpO (a b:Occurrence):Int:=if cmpI a.Pos b.Pos≠0 then cmpI a.Pos b.Pos else cmpS a.Name b.Name
open Go.E
theorem ag3:aggT Tryz.prog 3=some false:=by kernel_rfl
theorem ag9:aggT Tryz.prog 9=some false:=by kernel_rfl
theorem sz3:szT Tryz.prog 3=some 1:=by kernel_rfl
theorem ze3:q9s Tryz.prog 3=some [.int .i64 0]:=by kernel_rfl
theorem el30:q5m Tryz.prog 30=some 3:=by kernel_rfl
theorem j5j:z1J Tryz.prog 89 0=some 0:=by kernel_rfl
theorem j5k:z1J Tryz.prog 89 1=some 1:=by kernel_rfl
theorem j7n:q5C Tryz.prog 138=true:=by kernel_rfl
theorem j7o:q5C Tryz.prog 139=true:=by kernel_rfl
theorem j7p:q5C Tryz.prog 140=true:=by kernel_rfl
theorem hmix:Tryz.prog.follows .mixedOrders=true:=by kernel_rfl
theorem j3L (a b:Occurrence)(W:World):Ret Tryz.prog 90 #[.agg #[.int .i64 a.Pos,.string a.Name],.agg #[.int .i64 b.Pos,.string b.Name]] W (fun _=>False) fun v w'=>v = .int .i64 (cmpO a b)∧Gr W w':=by
 have hI:∀ W',Ret Tryz.prog 139 #[.int .i64 a.Pos,.int .i64 b.Pos] W' (fun _=>False) fun v w'=>v = .int .i64 (cmpI a.Pos b.Pos)∧Gr W' w':=fun W'=>(j5J a.Pos b.Pos W').mono fun e w' ⟨h1,h2⟩=>⟨_,h1,by rw [h2]; exact Ext.refl _,rfl,by rw [h2]; exact Gr.refl _⟩
 have hS:∀ W',Ret Tryz.prog 140 #[.string a.Name,.string b.Name] W' (fun _=>False) fun v w'=>v = .int .i64 (cmpS a.Name b.Name)∧Gr W' w':=fun W'=>(j5K a.Name b.Name W').mono fun e w' ⟨h1,h2⟩=>⟨_,h1,by rw [h2]; exact Ext.refl _,rfl,by rw [h2]; exact Gr.refl _⟩
 unfold cmpO
 refine enter Tryz.func90 rfl rfl rfl ?_
 refine q0K (q1I ?_)
 refine q0U rfl rfl rfl rfl rfl fun b1 w1 g1 hb1 B1=>?_
 refine q0U rfl rfl rfl rfl rfl fun b2 w2 g2 hb2 B2=>?_
 have B1:=B1.ext g2.ext
 refine WL.ev rfl rfl (q1T rfl rfl) (WL.nil ?_)
 refine q0K (q0P (R:=Gr) 10 Gr.refl Gr.trans Gr.draw hmix (by kernel_rfl) ?_)
 refine QC.ev rfl rfl (fun w hw=>q0t rfl j5j rfl) ?_
 refine QC.ev rfl rfl (fun w hw=>q0u rfl ag3 rfl ((B1.ext hw.ext).cell rfl)) ?_
 refine QC.ev rfl rfl (fun w hw=>q0t rfl j5j rfl) ?_
 refine QC.ev rfl rfl (fun w hw=>q0u rfl ag3 rfl ((B2.ext hw.ext).cell rfl)) ?_
 refine q0M rfl rfl rfl rfl rfl j7o rfl (fun w hw=>hI w) ?_
 refine QC.ev rfl rfl (fun w hw=>q0t rfl j5k rfl) ?_
 refine QC.ev rfl rfl (fun w hw=>q0u rfl ag9 rfl ((B1.ext hw.ext).cell rfl)) ?_
 refine QC.ev rfl rfl (fun w hw=>q0t rfl j5k rfl) ?_
 refine QC.ev rfl rfl (fun w hw=>q0u rfl ag9 rfl ((B2.ext hw.ext).cell rfl)) ?_
 refine q0M rfl rfl rfl rfl rfl j7p rfl (fun w hw=>hS w) ?_
 refine QC.nil fun w3 g3=>?_
 refine q1C rfl rfl rfl el30 sz3 ze3 rfl (j6E rfl (j6E rfl j7k)) rfl rfl rfl fun g w4 g4 B4=>?_
 refine q2d rfl rfl rfl rfl rfl j7n rfl (M:=fun _=>False) (R:=fun v w'=>v = .int .i64 (if cmpI a.Pos b.Pos≠0 then cmpI a.Pos b.Pos else cmpS a.Name b.Name)∧w'=w4) ((j6S _ _ g w4 (B4.cell rfl) (B4.cell rfl)).mono fun e w' ⟨h1,h2⟩=>⟨_,h1,by rw [h2]; exact Ext.refl _,rfl,h2⟩) ?_
 rintro _ w5 hE ⟨rfl,rfl⟩
 refine WL.ev rfl rfl (q1T rfl rfl) (WL.nil ?_)
 refine q1H ?_
 have g:=((g1.trans g2).trans g3).trans g4
 exact⟨_,res1 rfl rfl rfl,g.ext,rfl,g⟩
end Go.Proofs.YtaholdflpgcndaaGreat
namespace Go.Proofs.YtaholdflpgcndaaGreat
open Go Go.E Go.RowKit
theorem j5l:∀ x:List UInt8,Op.bytesLess x x=false
 | []=>rfl
 | a :: x=>by simp [Op.bytesLess,j5l x]
theorem z6M:∀ x y z:List UInt8,Op.bytesLess x y=true→Op.bytesLess y z=true→Op.bytesLess x z=true
 | _,[],_,h,_=>by simp [Op.bytesLess] at h
 | _,_ :: _,[],_,h=>by simp [Op.bytesLess] at h
 | [],_ :: _,_ :: _,_,_=>rfl
 | a :: x,b :: y,c :: z,h1,h2=>by
  simp only [Op.bytesLess,Bool.or_eq_true,Bool.and_eq_true,decide_eq_true_eq,beq_iff_eq] at *
  rcases h1 with h1 | ⟨rfl,h1⟩
  ·rcases h2 with h2 | ⟨rfl,h2⟩
   ·exact .inl (by rw [UInt8.lt_iff_toNat_lt] at *; omega)
   ·exact .inl h1
  ·rcases h2 with h2 | ⟨rfl,h2⟩
   ·exact .inl h2
   ·exact .inr ⟨rfl,z6M x y z h1 h2⟩
theorem z6N:∀ x y:List UInt8,Op.bytesLess x y=false→Op.bytesLess y x=false→x=y
 | [],[],_,_=>rfl
 | [],_ :: _,h,_=>by simp [Op.bytesLess] at h
 | _ :: _,[],_,h=>by simp [Op.bytesLess] at h
 | a :: x,b :: y,h1,h2=>by
  simp only [Op.bytesLess,Bool.or_eq_false_iff,Bool.and_eq_false_iff,decide_eq_false_iff_not,beq_eq_false_iff_ne] at *
  have hab:a=b:=by
   have h3:=h1.1; have h4:=h2.1
   rw [UInt8.lt_iff_toNat_lt] at h3 h4
   exact UInt8.toNat_inj.1 (by omega)
  subst hab
  simp at h1 h2
  rw [z6N x y h1 h2]
theorem j1p {x y:ByteArray}(h:x.toList=y.toList):x=y:=by
 rw [ByteArray.toList_eq,ByteArray.toList_eq] at h
 cases x; cases y; simp at h; simp [h]
theorem j3M (x y:ByteArray):cmpS x y < 0↔Op.bytesLess x.toList y.toList=true:=by
 unfold cmpS
 by_cases h:Op.bytesLess x.toList y.toList=true
 ·simp [h]
 ·rw [if_neg h]
  constructor
  ·intro h0; split at h0<;>simp at h0
  ·intro h0; exact absurd h0 h
def q8k (a b:Occurrence):Bool:=decide (a.Pos < b.Pos)||(decide (a.Pos=b.Pos)&&Op.bytesLess a.Name.toList b.Name.toList)
theorem j3N (a b:Occurrence):decide (cmpO a b < 0)=q8k a b:=by
 unfold cmpO q8k cmpI
 by_cases h1:a.Pos < b.Pos
 ·simp [h1]
 ·by_cases h2:b.Pos < a.Pos
  ·have:¬ a.Pos=b.Pos:=by omega
   simp [h1,h2,this]
  ·have:a.Pos=b.Pos:=by omega
   simp only [h1,h2,if_false,ne_eq,not_true_eq_false,this,decide_true,Bool.true_and,Int.lt_irrefl,decide_false,Bool.false_or]
   rw [Bool.eq_iff_iff,decide_eq_true_eq]
   exact j3M _ _
theorem lessO_swo:Sort.SWO q8k where
 irrefl x:=by simp [q8k,j5l]
 trans x y z h1 h2:=by
  simp only [q8k,Bool.or_eq_true,Bool.and_eq_true,decide_eq_true_eq] at *
  rcases h1 with h1 | ⟨e1,h1⟩
  ·rcases h2 with h2 | ⟨e2,h2⟩
   ·exact .inl (by omega)
   ·exact .inl (by omega)
  ·rcases h2 with h2 | ⟨e2,h2⟩
   ·exact .inl (by omega)
   ·exact .inr ⟨by omega,z6M _ _ _ h1 h2⟩
 ntrans x y z h1 h2:=by
  simp only [q8k,Bool.or_eq_false_iff,Bool.and_eq_false_iff,decide_eq_false_iff_not] at *
  refine⟨by omega,?_⟩
  by_cases e:x.Pos=z.Pos
  ·have e1:x.Pos=y.Pos:=by omega
   have e2:y.Pos=z.Pos:=by omega
   right
   have a1:=h1.2.resolve_left (by simpa using e1)
   have a2:=h2.2.resolve_left (by simpa using e2)
   cases hb:Op.bytesLess x.Name.toList z.Name.toList with
   | false=>rfl
   | true=>
    -- x < z, not x < y, not y < z
    by_cases hyx:Op.bytesLess y.Name.toList x.Name.toList=true
    ·rw [z6M _ _ _ hyx hb] at a2; cases a2
    ·have:=z6N _ _ a1 (by simpa using hyx)
     rw [this,a2] at hb; cases hb
  ·exact .inl (by simpa using e)
theorem z1w (x y:Occurrence)(h1:q8k x y=false)(h2:q8k y x=false):x=y:=by
 simp only [q8k,Bool.or_eq_false_iff,Bool.and_eq_false_iff,decide_eq_false_iff_not] at *
 have e:x.Pos=y.Pos:=by omega
 have a1:=h1.2.resolve_left (by simpa using e)
 have a2:=h2.2.resolve_left (by simpa using e.symm)
 have:=j1p (z6N _ _ a1 a2)
 cases x; cases y; simp_all
end Go.Proofs.YtaholdflpgcndaaGreat
namespace Go.Proofs.YtaholdflpgcndaaGreat
open Go Go.E Go.RowKit
end Go.Proofs.YtaholdflpgcndaaGreat
namespace Go.Proofs
open Go.Shelf
namespace YtaholdflpgcndaaGreat
def z9l:Go.Shelf.Ren:=⟨fun | 6=>89 | 15=>137 | 14=>136 | 28=>174 | 29=>175 | 20=>166 | 21=>167 | 22=>168 | 23=>169 | 24=>170 | 25=>171 | 26=>172 | 27=>173 | 46=>195 | 47=>196 | 48=>197 | 49=>198 | 50=>199 | 57=>210 | n=>n,fun | 22=>84 | 24=>89 | 25=>153 | 3=>3 | 39=>194 | 0=>0 | 53=>236 | 55=>238 | 4=>4 | 46=>229 | 45=>228 | 50=>233 | 5=>5 | 9=>9 | 66=>249 | 70=>253 | 76=>258 | 77=>259 | n=>n,fun | n=>n⟩
theorem j2s:Go.Proofs.SlLaysF0.n6 Tryz.prog z9l:={
 mixed:=by kernel_rfl,
 f6:=⟨Tryz.f89.name,by decide,Tryz.func89.trans (congrArg some (by kernel_rfl))⟩,
 f14:=⟨Tryz.f136.name,by decide,Tryz.func136.trans (congrArg some (by kernel_rfl))⟩,
 f15:=Tryz.func137.trans (congrArg some (by kernel_rfl)),
 f20:=⟨Tryz.f166.name,by decide,Tryz.func166.trans (congrArg some (by kernel_rfl))⟩,
 f21:=⟨Tryz.f167.name,by decide,Tryz.func167.trans (congrArg some (by kernel_rfl))⟩,
 f22:=⟨Tryz.f168.name,by decide,Tryz.func168.trans (congrArg some (by kernel_rfl))⟩,
 f23:=⟨Tryz.f169.name,by decide,Tryz.func169.trans (congrArg some (by kernel_rfl))⟩,
 f24:=⟨Tryz.f170.name,by decide,Tryz.func170.trans (congrArg some (by kernel_rfl))⟩,
 f25:=⟨Tryz.f171.name,by decide,Tryz.func171.trans (congrArg some (by kernel_rfl))⟩,
 f26:=⟨Tryz.f172.name,by decide,Tryz.func172.trans (congrArg some (by kernel_rfl))⟩,
 f27:=⟨Tryz.f173.name,by decide,Tryz.func173.trans (congrArg some (by kernel_rfl))⟩,
 f28:=Tryz.func174.trans (congrArg some (by kernel_rfl)),
 f29:=Tryz.func175.trans (congrArg some (by kernel_rfl)),
 f46:=⟨Tryz.f195.name,by decide,Tryz.func195.trans (congrArg some (by kernel_rfl))⟩,
 f47:=Tryz.func196.trans (congrArg some (by kernel_rfl)),
 f48:=Tryz.func197.trans (congrArg some (by kernel_rfl)),
 f49:=⟨Tryz.f198.name,by decide,Tryz.func198.trans (congrArg some (by kernel_rfl))⟩,
 f50:=⟨Tryz.f199.name,by decide,Tryz.func199.trans (congrArg some (by kernel_rfl))⟩,
 f57:=⟨Tryz.f210.name,by decide,Tryz.func210.trans (congrArg some (by kernel_rfl))⟩,
 t0:=Tryz.underlying0,
 a0:=Tryz.isAgg0,
 z0:=Tryz.sizeOf0,
 v0:=Tryz.zeroValue0,
 t3:=Tryz.underlying3,
 a3:=Tryz.isAgg3,
 z3:=Tryz.sizeOf3,
 v3:=Tryz.zeroValue3,
 t4:=Tryz.underlying4,
 a4:=Tryz.isAgg4,
 z4:=Tryz.sizeOf4,
 v4:=Tryz.zeroValue4,
 t5:=Tryz.underlying5,
 a5:=Tryz.isAgg5,
 z5:=Tryz.sizeOf5,
 v5:=Tryz.zeroValue5,
 t9:=Tryz.underlying9,
 a9:=Tryz.isAgg9,
 z9:=Tryz.sizeOf9,
 v9:=Tryz.zeroValue9,
 t22:=Tryz.underlying84,
 a22:=Tryz.isAgg84,
 z22:=Tryz.sizeOf84,
 v22:=Tryz.zeroValue84,
 t25:=Tryz.underlying153,
 a25:=Tryz.isAgg153,
 z25:=Tryz.sizeOf153,
 v25:=Tryz.zeroValue153,
 t39:=Tryz.underlying194,
 a39:=Tryz.isAgg194,
 z39:=Tryz.sizeOf194,
 v39:=Tryz.zeroValue194,
 t45:=Tryz.underlying228,
 a45:=Tryz.isAgg228,
 z45:=Tryz.sizeOf228,
 v45:=Tryz.zeroValue228,
 t46:=Tryz.underlying229,
 a46:=Tryz.isAgg229,
 z46:=Tryz.sizeOf229,
 v46:=Tryz.zeroValue229,
 t50:=Tryz.underlying233,
 a50:=Tryz.isAgg233,
 z50:=Tryz.sizeOf233,
 v50:=Tryz.zeroValue233,
 t53:=Tryz.underlying236,
 a53:=Tryz.isAgg236,
 z53:=Tryz.sizeOf236,
 v53:=Tryz.zeroValue236,
 t55:=Tryz.underlying238,
 a55:=Tryz.isAgg238,
 z55:=Tryz.sizeOf238,
 v55:=Tryz.zeroValue238,
 t66:=Tryz.underlying249,
 a66:=Tryz.isAgg249,
 z66:=Tryz.sizeOf249,
 v66:=Tryz.zeroValue249,
 t70:=Tryz.underlying253,
 a70:=Tryz.isAgg253,
 z70:=Tryz.sizeOf253,
 v70:=Tryz.zeroValue253,
 t76:=Tryz.underlying258,
 a76:=Tryz.isAgg258,
 z76:=Tryz.sizeOf258,
 v76:=Tryz.zeroValue258,
 t77:=Tryz.underlying259,
 a77:=Tryz.isAgg259,
 z77:=Tryz.sizeOf259,
 v77:=Tryz.zeroValue259 }
end YtaholdflpgcndaaGreat
end Go.Proofs
namespace Go.Proofs.YtaholdflpgcndaaGreat
open Go Go.E Go.RowKit
instance:Inhabited Occurrence:=⟨⟨0,⟨#[]⟩⟩⟩
def encO (x:Occurrence):List Value:=[.int .i64 x.Pos,.string x.Name]
theorem j3O (blk off size:Nat)(w:World):CmpLays Tryz.prog 90 #[] encO 2 cmpO blk off size w:=fun _ _ _ _ x y=>
 Calls.mono (j3L x y _) fun e w' ⟨v,h1,_,h2,h3⟩=>⟨by rw [h1,h2],h3⟩
theorem z4F:ltOf cmpO=q8k:=by funext x y; exact j3N x y
def z8f (l:List Occurrence):List Occurrence:=l.mergeSort fun x y=>!q8k y x
theorem j2t {S1:Nat→Prop}{w:World}{x:Occurrence}{c:List Value}(h:A.rd1 S1 w (Occurrence.D x) c):c=encO x∧∀ (S2:Nat→Prop) (w2:World),A.rd1 S2 w2 (Occurrence.D x) c:=by
 have h' : A.rdCs S1 w [.i .i64 x.Pos,.s x.Name] c:=h
 simp only [A.rdCs,A.rdC] at h'
 obtain⟨v,r,rfl,⟨rfl,h1⟩,v2,r2,rfl,⟨rfl,h2⟩,rfl⟩:=h'
 refine⟨rfl,fun S2 w2=>?_⟩
 show A.rdCs S2 w2 [.i .i64 x.Pos,.s x.Name] _
 simp only [A.rdCs,A.rdC]
 exact⟨_,_,rfl,⟨rfl,h1⟩,_,_,rfl,⟨rfl,h2⟩,rfl⟩
theorem j3P {m:A.Md}{a0:List Occurrence}(hbig:a0.length < 4611686018427387904):A.Ok Tryz.prog 89 [.ref 0 none,.fn 90 []] [.row m 2 (a0.map Occurrence.D)] (.tu []) [.row m 2 ((z8f a0).map Occurrence.D)]:=by
 have eg:∀ args w,(callFunc 90 args).run Tryz.prog w = .ok (.enter 90 args) w:=enters_of Tryz.func90 (by kernel_rfl) rfl
 refine A.sortOk (enc:=encO) (fun h=>(j2t h).1) (fun h=>(j2t h).2 _ _) (fun _=>rfl) (fun l=>List.length_mergeSort l) (fun l y hy=>List.mem_mergeSort.1 hy) (fun A0 c w=>?_) (fun g cap d w hH hblk hbig=>?_) hbig
 ·have hc:=AnyF.slices_SortFunc_none j2s A0 c (.func (.func 90) #[] #[]) w
  change Calls Tryz.prog 89 _ _ _ at hc
  exact hc
 ·have hc:=AnyQ.slices_SortFunc_total j2s 2 Tryz.isAgg89 Tryz.sizeOf89 encO (fun _=>rfl) (fun x v hv=>by simp [encO] at hv; rcases hv with rfl | rfl<;>rfl) cmpO (by rw [z4F]; exact lessO_swo) 90 #[] g 0 cap d w eg (j3O _ _ _ _) hH hblk hbig (by rw [z4F]; exact z1w)
  change Calls Tryz.prog 89 _ _ _ at hc
  rw [z4F] at hc
  exact hc
end Go.Proofs.YtaholdflpgcndaaGreat
