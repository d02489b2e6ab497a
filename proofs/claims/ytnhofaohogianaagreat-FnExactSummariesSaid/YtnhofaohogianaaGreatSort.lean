/- What slices.SortFunc does by the order of the occurrences: each lemma bears its conditions in its statement. -/
import Derived.Test.YtnhofaohogianaaGreatAb13
import Derived.Deep.Quiet
import Derived.Deep.QuietTactic
import Derived.Shelf.SlSortCmp.NoneTotal
import Derived.Sort.Grow
import Derived.Sort.Statements
import Derived.StillTailTactics
import Derived.Test.YtnhofaohogianaaGreatRows
import Derived.WalkKit
import Derived.WalkLawsBesides
import Derived.WalkSpells
set_option linter.unusedVariables false
set_option linter.unusedSimpArgs false
set_option linter.ambiguousOpen false
set_option linter.unusedSectionVars false
set_option linter.unnecessarySimpa false
open Bool renaming or_eq_false_iff→Djz,and_eq_false_iff→Dkz
namespace Go.Proofs.YtnhofaohogianaaGreat
open Go Go.RowKit
set_option maxHeartbeats 1000000
set_option maxRecDepth 100000
theorem k4Q (x:Int)(W:World):Calls Tryz.prog 256 #[.int .i64 x] W fun e w'=>e=.returned (.bool false)∧w'=W:=by
 go_enter Tryz.func256,Tryz.ntmps256
 go_wp2
 go_ret
 simp
theorem k4R (x:BA_)(W:World):Calls Tryz.prog 257 #[.string x] W fun e w'=>e=.returned (.bool false)∧w'=W:=by
 go_enter Tryz.func257,Tryz.ntmps257
 go_wp2
 go_ret
 simp
def cmpI (x y:Int):Int:=if x<y then -1 else if y<x then 1 else 0
def cmpS (x y:BA_):Int:=if Op.bytesLess x.toList y.toList=true then -1 else if (x.toList == y.toList)=true then 0 else 1
theorem k4S (x y:Int)(W:World):Calls Tryz.prog 237 #[.int .i64 x,.int .i64 y] W fun e w'=>e=.returned (.int .i64 (cmpI x y))∧w'=W:=by
 unfold cmpI
 go_enter Tryz.func237,Tryz.ntmps237
 go_wp2_with (go_at_call 256;refine (k4Q _ _).mono ?_;rintro e w' ⟨rfl,rfl⟩)
 all_goals (go_ret;simp_all)
theorem k4T (x y:BA_)(W:World):Calls Tryz.prog 238 #[.string x,.string y] W fun e w'=>e=.returned (.int .i64 (cmpS x y))∧w'=W:=by
 unfold cmpS
 go_enter Tryz.func238,Tryz.ntmps238
 go_wp2_with (go_at_call 257;refine (k4R _ _).mono ?_;rintro e w' ⟨rfl,rfl⟩)
 all_goals (first|go_ret|skip)
 all_goals (simp_all)
theorem k4U (x y:Int)(hx:x≠0)(g:Nat)(W:World)(h0:W.cell? ⟨g,0,none⟩=some (.int .i64 x)):Calls Tryz.prog 236 #[.slice (some ⟨g,0,none⟩) 2 2] W fun e w'=>e=.returned (.int .i64 x)∧w'=W:=by
 have hb:(x != 0)=true:=by simpa using hx
 go_enter Tryz.func236,Tryz.ntmps236
 go_wp2
 refine wp_loop_rounds 1 ?_
 simp only[rounds_succ]
 go_wp2
 all_goals (first|(go_ret;simp_all;done)|simp_all)
theorem k4V (y:Int)(hy:y≠0)(g:Nat)(W:World)(h0:W.cell? ⟨g,0,none⟩=some (.int .i64 0))(h1:W.cell? ⟨g,1,none⟩=some (.int .i64 y)):Calls Tryz.prog 236 #[.slice (some ⟨g,0,none⟩) 2 2] W fun e w'=>e=.returned (.int .i64 y)∧w'=W:=by
 have hb:(y != 0)=true:=by simpa using hy
 go_enter Tryz.func236,Tryz.ntmps236
 go_wp2
 refine wp_loop_rounds 2 ?_
 simp only[rounds_succ]
 go_wp2
 simp only[rounds_succ]
 go_wp2
 all_goals (first|(go_ret;simp_all;done)|simp_all)
theorem k4W (g:Nat)(W:World)(h0:W.cell? ⟨g,0,none⟩=some (.int .i64 0))(h1:W.cell? ⟨g,1,none⟩=some (.int .i64 0)):Calls Tryz.prog 236 #[.slice (some ⟨g,0,none⟩) 2 2] W fun e w'=>e=.returned (.int .i64 0)∧w'=W:=by
 go_enter Tryz.func236,Tryz.ntmps236
 go_wp2
 refine wp_loop_rounds 3 ?_
 simp only[rounds_succ]
 go_wp2
 simp only[rounds_succ]
 go_wp2
 simp only[rounds_succ]
 go_wp2
 all_goals (first|(go_ret;simp_all;done)|simp_all)
theorem k6A (x y:Int)(g:Nat)(W:World)(h0:W.cell? ⟨g,0,none⟩=some (.int .i64 x))(h1:W.cell? ⟨g,1,none⟩=some (.int .i64 y)):Calls Tryz.prog 236 #[.slice (some ⟨g,0,none⟩) 2 2] W fun e w'=>e=.returned (.int .i64 (if x≠0 then x else y))∧w'=W:=by
 by_cases hx:x=0
 ·subst hx
  by_cases hy:y=0
  ·subst hy;exact k4W g W h0 h1
  ·exact k4V y hy g W h0 h1
 ·rw[ifP hx];exact k4U x y hx g W h0
def cmpO (a b:Oc):Int:=if cmpI a.Pos b.Pos≠0 then cmpI a.Pos b.Pos else cmpS a.Name b.Name
open Go.E
theorem ag3:aggT Tryz.prog 3=some false:=by kernel_rfl
theorem ag9:aggT Tryz.prog 9=some false:=by kernel_rfl
theorem sz3:szT Tryz.prog 3=some 1:=by kernel_rfl
theorem ze3:z2M Tryz.prog 3=some [.int .i64 0]:=by kernel_rfl
theorem el50:q7i Tryz.prog 50=some 3:=by kernel_rfl
theorem k0k:z7p Tryz.prog 140 0=some 0:=by kernel_rfl
theorem k0l:z7p Tryz.prog 140 1=some 1:=by kernel_rfl
theorem k7d:q9d Tryz.prog 236=true:=by kernel_rfl
theorem k7e:q9d Tryz.prog 237=true:=by kernel_rfl
theorem k7f:q9d Tryz.prog 238=true:=by kernel_rfl
theorem hmix:Tryz.prog.follows .mixedOrders=true:=by kernel_rfl
theorem k2D (a b:Oc)(W:World):Ret Tryz.prog 216 #[.agg #[.int .i64 a.Pos,.string a.Name],.agg #[.int .i64 b.Pos,.string b.Name]] W (fun _=>False) fun v w'=>v=.int .i64 (cmpO a b)∧Gr W w':=by
 have hI:∀ W',Ret Tryz.prog 237 #[.int .i64 a.Pos,.int .i64 b.Pos] W' (fun _=>False) fun v w'=>v=.int .i64 (cmpI a.Pos b.Pos)∧Gr W' w':=fun W'=>(k4S a.Pos b.Pos W').mono fun e w' ⟨h1,h2⟩=>⟨_,h1,by rw[h2];exact Ext.refl _,rfl,by rw[h2];exact Gr.refl _⟩
 have hS:∀ W',Ret Tryz.prog 238 #[.string a.Name,.string b.Name] W' (fun _=>False) fun v w'=>v=.int .i64 (cmpS a.Name b.Name)∧Gr W' w':=fun W'=>(k4T a.Name b.Name W').mono fun e w' ⟨h1,h2⟩=>⟨_,h1,by rw[h2];exact Ext.refl _,rfl,by rw[h2];exact Gr.refl _⟩
 unfold cmpO
 refine enter Tryz.func216 rfl rfl rfl ?_
 refine CW.seq (q0Z ?_)
 refine q1k rfl rfl rfl rfl rfl fun b1 w1 g1 hb1 B1=>?_
 refine q1k rfl rfl rfl rfl rfl fun b2 w2 g2 hb2 B2=>?_
 have B1:=B1.ext g2.ext
 refine WL.ev rfl rfl (q2p rfl rfl) (WL.nil ?_)
 refine CW.seq (q1f (R:=Gr) 10 Gr.refl Gr.trans Gr.draw hmix (by kernel_rfl) ?_)
 refine QC.ev rfl rfl (fun w hw=>q0H rfl k0k rfl) ?_
 refine QC.ev rfl rfl (fun w hw=>q0B rfl ag3 rfl ((B1.ext hw.ext).cell rfl)) ?_
 refine QC.ev rfl rfl (fun w hw=>q0H rfl k0k rfl) ?_
 refine QC.ev rfl rfl (fun w hw=>q0B rfl ag3 rfl ((B2.ext hw.ext).cell rfl)) ?_
 refine q1c rfl rfl rfl rfl rfl k7e rfl (fun w hw=>hI w) ?_
 refine QC.ev rfl rfl (fun w hw=>q0H rfl k0l rfl) ?_
 refine QC.ev rfl rfl (fun w hw=>q0B rfl ag9 rfl ((B1.ext hw.ext).cell rfl)) ?_
 refine QC.ev rfl rfl (fun w hw=>q0H rfl k0l rfl) ?_
 refine QC.ev rfl rfl (fun w hw=>q0B rfl ag9 rfl ((B2.ext hw.ext).cell rfl)) ?_
 refine q1c rfl rfl rfl rfl rfl k7f rfl (fun w hw=>hS w) ?_
 refine QC.nil fun w3 g3=>?_
 refine q1Y rfl rfl rfl el50 sz3 ze3 rfl (k6n rfl (k6n rfl k6W)) rfl rfl rfl fun g w4 g4 B4=>?_
 refine q2y rfl rfl rfl rfl rfl k7d rfl (M:=fun _=>False) (R:=fun v w'=>v=.int .i64 (if cmpI a.Pos b.Pos≠0 then cmpI a.Pos b.Pos else cmpS a.Name b.Name)∧w'=w4) ((k6A _ _ g w4 (B4.cell rfl) (B4.cell rfl)).mono fun e w' ⟨h1,h2⟩=>⟨_,h1,by rw[h2];exact Ext.refl _,rfl,h2⟩) ?_
 rintro _ w5 hE ⟨rfl,rfl⟩
 refine WL.ev rfl rfl (q2p rfl rfl) (WL.nil ?_)
 refine q0X ?_
 have g:=((g1.trans g2).trans g3).trans g4
 exact⟨_,res1 rfl rfl rfl,g.ext,rfl,g⟩
end Go.Proofs.YtnhofaohogianaaGreat
namespace Go.Proofs.YtnhofaohogianaaGreat
open Go Go.E Go.RowKit
theorem k4o:∀ x:List UInt8,Op.bytesLess x x=false
 | []=>rfl
 | a::x=>by simp[Op.bytesLess,k4o x]
theorem j3m:∀ x y z:List UInt8,Op.bytesLess x y=true→Op.bytesLess y z=true→Op.bytesLess x z=true
 | _,[],_,h,_=>by simp[Op.bytesLess] at h
 | _,_::_,[],_,h=>by simp[Op.bytesLess] at h
 | [],_::_,_::_,_,_=>rfl
 | a::x,b::y,c::z,h1,h2=>by
  simp only[Op.bytesLess,Bool.or_eq_true,Bool.and_eq_true,decide_eq_true_eq,beq_iff_eq] at *
  rcases h1 with h1|⟨rfl,h1⟩
  ·rcases h2 with h2|⟨rfl,h2⟩
   ·exact .inl (by rw[UInt8.lt_iff_toNat_lt] at *;omega)
   ·exact .inl h1
  ·rcases h2 with h2|⟨rfl,h2⟩
   ·exact .inl h2
   ·exact .inr ⟨rfl,j3m x y z h1 h2⟩
theorem j3n:∀ x y:List UInt8,Op.bytesLess x y=false→Op.bytesLess y x=false→x=y
 | [],[],_,_=>rfl
 | [],_::_,h,_=>by simp[Op.bytesLess] at h
 | _::_,[],_,h=>by simp[Op.bytesLess] at h
 | a::x,b::y,h1,h2=>by
  simp only[Op.bytesLess,Djz,Dkz,decide_eq_false_iff_not,beq_eq_false_iff_ne] at *
  have hab:a=b:=by
   have h3:=h1.1;have h4:=h2.1
   rw[UInt8.lt_iff_toNat_lt] at h3 h4
   exact UInt8.toNat_inj.1 (by omega)
  subst hab
  simp at h1 h2
  rw[j3n x y h1 h2]
theorem j8F {x y:BA_}(h:x.toList=y.toList):x=y:=by
 rw[ByteArray.toList_eq,ByteArray.toList_eq] at h
 cases x;cases y;simp at h;simp[h]
theorem k2E (x y:BA_):cmpS x y<0↔Op.bytesLess x.toList y.toList=true:=by
 unfold cmpS
 by_cases h:Op.bytesLess x.toList y.toList=true
 ·simp[h]
 ·rw[ifN h]
  constructor
  ·intro h0;split at h0<;>simp at h0
  ·intro h0;exact absurd h0 h
def z2g (a b:Oc):Bool:=decide (a.Pos<b.Pos)||(decide (a.Pos=b.Pos)&&Op.bytesLess a.Name.toList b.Name.toList)
theorem k2F (a b:Oc):decide (cmpO a b<0)=z2g a b:=by
 unfold cmpO z2g cmpI
 by_cases h1:a.Pos<b.Pos
 ·simp[h1]
 ·by_cases h2:b.Pos<a.Pos
  ·have:¬ a.Pos=b.Pos:=by omega
   simp[h1,h2,this]
  ·have:a.Pos=b.Pos:=by omega
   simp only[h1,h2,if_false,ne_eq,not_true_eq_false,this,decide_true,Bool.true_and,Int.lt_irrefl,decide_false,Bool.false_or]
   rw[Bool.eq_iff_iff,decide_eq_true_eq]
   exact k2E _ _
theorem lessO_swo:Sort.SWO z2g where
 irrefl x:=by simp[z2g,k4o]
 trans x y z h1 h2:=by
  simp only[z2g,Bool.or_eq_true,Bool.and_eq_true,decide_eq_true_eq] at *
  rcases h1 with h1|⟨e1,h1⟩
  ·rcases h2 with h2|⟨e2,h2⟩
   ·exact .inl (by omega)
   ·exact .inl (by omega)
  ·rcases h2 with h2|⟨e2,h2⟩
   ·exact .inl (by omega)
   ·exact .inr ⟨by omega,j3m _ _ _ h1 h2⟩
 ntrans x y z h1 h2:=by
  simp only[z2g,Djz,Dkz,decide_eq_false_iff_not] at *
  refine⟨by omega,?_⟩
  by_cases e:x.Pos=z.Pos
  ·have e1:x.Pos=y.Pos:=by omega
   have e2:y.Pos=z.Pos:=by omega
   right
   have a1:=h1.2.resolve_left (by simpa using e1)
   have a2:=h2.2.resolve_left (by simpa using e2)
   cases hb:Op.bytesLess x.Name.toList z.Name.toList with
   | false=>rfl
   | true=>
    -- x < z, not x < y, not y < z
    by_cases hyx:Op.bytesLess y.Name.toList x.Name.toList=true
    ·rw[j3m _ _ _ hyx hb] at a2;cases a2
    ·have:=j3n _ _ a1 (by simpa using hyx)
     rw[this,a2] at hb;cases hb
  ·exact .inl (by simpa using e)
theorem z6L (x y:Oc)(h1:z2g x y=false)(h2:z2g y x=false):x=y:=by
 simp only[z2g,Djz,Dkz,decide_eq_false_iff_not] at *
 have e:x.Pos=y.Pos:=by omega
 have a1:=h1.2.resolve_left (by simpa using e)
 have a2:=h2.2.resolve_left (by simpa using e.symm)
 have:=j8F (j3n _ _ a1 a2)
 cases x;cases y;simp_all
end Go.Proofs.YtnhofaohogianaaGreat
namespace Go.Proofs
open Go.Shelf
namespace YtnhofaohogianaaGreat
def j6g:Go.Shelf.Ren:=⟨fun|6=>215|15=>235|14=>234|28=>254|29=>255|20=>246|21=>247|22=>248|23=>249|24=>250|25=>251|26=>252|27=>253|46=>261|47=>262|48=>263|49=>264|50=>265|57=>269|n=>n,fun|22=>117|24=>140|25=>229|3=>3|39=>171|0=>0|53=>250|55=>252|4=>4|46=>243|45=>242|50=>247|5=>5|9=>9|66=>254|70=>258|76=>260|77=>75|n=>n,fun|n=>n⟩
theorem k0m:Go.Proofs.SlLaysF0.n6 Tryz.prog j6g:={
 mixed:=by kernel_rfl,
 f6:=⟨Tryz.f215.name,by decide,Tryz.func215.trans (congrArg some (by kernel_rfl))⟩,
 f14:=⟨Tryz.f234.name,by decide,Tryz.func234.trans (congrArg some (by kernel_rfl))⟩,
 f15:=Tryz.func235.trans (congrArg some (by kernel_rfl)),
 f20:=⟨Tryz.f246.name,by decide,Tryz.func246.trans (congrArg some (by kernel_rfl))⟩,
 f21:=⟨Tryz.f247.name,by decide,Tryz.func247.trans (congrArg some (by kernel_rfl))⟩,
 f22:=⟨Tryz.f248.name,by decide,Tryz.func248.trans (congrArg some (by kernel_rfl))⟩,
 f23:=⟨Tryz.f249.name,by decide,Tryz.func249.trans (congrArg some (by kernel_rfl))⟩,
 f24:=⟨Tryz.f250.name,by decide,Tryz.func250.trans (congrArg some (by kernel_rfl))⟩,
 f25:=⟨Tryz.f251.name,by decide,Tryz.func251.trans (congrArg some (by kernel_rfl))⟩,
 f26:=⟨Tryz.f252.name,by decide,Tryz.func252.trans (congrArg some (by kernel_rfl))⟩,
 f27:=⟨Tryz.f253.name,by decide,Tryz.func253.trans (congrArg some (by kernel_rfl))⟩,
 f28:=Tryz.func254.trans (congrArg some (by kernel_rfl)),
 f29:=Tryz.func255.trans (congrArg some (by kernel_rfl)),
 f46:=⟨Tryz.f261.name,by decide,Tryz.func261.trans (congrArg some (by kernel_rfl))⟩,
 f47:=Tryz.func262.trans (congrArg some (by kernel_rfl)),
 f48:=Tryz.func263.trans (congrArg some (by kernel_rfl)),
 f49:=⟨Tryz.f264.name,by decide,Tryz.func264.trans (congrArg some (by kernel_rfl))⟩,
 f50:=⟨Tryz.f265.name,by decide,Tryz.func265.trans (congrArg some (by kernel_rfl))⟩,
 f57:=⟨Tryz.f269.name,by decide,Tryz.func269.trans (congrArg some (by kernel_rfl))⟩,
 t0:=Tryz.underlying0,
 a0:=Tryz.isAgg0,
 z0:=Tryz.sizeOf0,
 v0:=Tryz.zeroValue0,
 t3:=Tryz.underlying3,
 a3:=Tryz.isAgg3,
 z3:=Tryz.sizeOf3,
 v3:=Tryz.zeroValue3,
 t4:=Tryz.underlying4,
 a4:=Tryz.isAgg4,
 z4:=Tryz.sizeOf4,
 v4:=Tryz.zeroValue4,
 t5:=Tryz.underlying5,
 a5:=Tryz.isAgg5,
 z5:=Tryz.sizeOf5,
 v5:=Tryz.zeroValue5,
 t9:=Tryz.underlying9,
 a9:=Tryz.isAgg9,
 z9:=Tryz.sizeOf9,
 v9:=Tryz.zeroValue9,
 t22:=Tryz.underlying117,
 a22:=Tryz.isAgg117,
 z22:=Tryz.sizeOf117,
 v22:=Tryz.zeroValue117,
 t25:=Tryz.underlying229,
 a25:=Tryz.isAgg229,
 z25:=Tryz.sizeOf229,
 v25:=Tryz.zeroValue229,
 t39:=Tryz.underlying171,
 a39:=Tryz.isAgg171,
 z39:=Tryz.sizeOf171,
 v39:=Tryz.zeroValue171,
 t45:=Tryz.underlying242,
 a45:=Tryz.isAgg242,
 z45:=Tryz.sizeOf242,
 v45:=Tryz.zeroValue242,
 t46:=Tryz.underlying243,
 a46:=Tryz.isAgg243,
 z46:=Tryz.sizeOf243,
 v46:=Tryz.zeroValue243,
 t50:=Tryz.underlying247,
 a50:=Tryz.isAgg247,
 z50:=Tryz.sizeOf247,
 v50:=Tryz.zeroValue247,
 t53:=Tryz.underlying250,
 a53:=Tryz.isAgg250,
 z53:=Tryz.sizeOf250,
 v53:=Tryz.zeroValue250,
 t55:=Tryz.underlying252,
 a55:=Tryz.isAgg252,
 z55:=Tryz.sizeOf252,
 v55:=Tryz.zeroValue252,
 t66:=Tryz.underlying254,
 a66:=Tryz.isAgg254,
 z66:=Tryz.sizeOf254,
 v66:=Tryz.zeroValue254,
 t70:=Tryz.underlying258,
 a70:=Tryz.isAgg258,
 z70:=Tryz.sizeOf258,
 v70:=Tryz.zeroValue258,
 t76:=Tryz.underlying260,
 a76:=Tryz.isAgg260,
 z76:=Tryz.sizeOf260,
 v76:=Tryz.zeroValue260,
 t77:=Tryz.underlying75,
 a77:=Tryz.isAgg75,
 z77:=Tryz.sizeOf75,
 v77:=Tryz.zeroValue75 }
end YtnhofaohogianaaGreat
end Go.Proofs
namespace Go.Proofs.YtnhofaohogianaaGreat
open Go Go.E Go.RowKit
instance:Inhabited Oc:=⟨⟨0,⟨#[]⟩⟩⟩
def encO (x:Oc):List Value:=[.int .i64 x.Pos,.string x.Name]
theorem k2G (blk off size:Nat)(w:World):CmpLays Tryz.prog 216 #[] encO 2 cmpO blk off size w:=fun _ _ _ _ x y=>
 Calls.mono (k2D x y _) fun e w' ⟨v,h1,_,h2,h3⟩=>⟨by rw[h1,h2],h3⟩
theorem j0B:ltOf cmpO=z2g:=by funext x y;exact k2F x y
def j4S (l:List Oc):List Oc:=l.mergeSort fun x y=>!z2g y x
theorem k0n {S1:Nat→Prop}{w:World}{x:Oc}{c:List Value}(h:A.rd1 S1 w (Oc.D x) c):c=encO x∧∀ (S2:Nat→Prop) (w2:World),A.rd1 S2 w2 (Oc.D x) c:=by
 have h' : A.rdCs S1 w [.i .i64 x.Pos,.s x.Name] c:=h
 simp only[A.rdCs,A.rdC] at h'
 obtain⟨v,r,rfl,⟨rfl,h1⟩,v2,r2,rfl,⟨rfl,h2⟩,rfl⟩:=h'
 refine⟨rfl,fun S2 w2=>?_⟩
 show A.rdCs S2 w2 [.i .i64 x.Pos,.s x.Name] _
 simp only[A.rdCs,A.rdC]
 exact⟨_,_,rfl,⟨rfl,h1⟩,_,_,rfl,⟨rfl,h2⟩,rfl⟩
theorem k2H {m:A.Md}{a0:List Oc}(hbig:a0.length<4611686018427387904):A.Ok Tryz.prog 215 [.ref 0 none,.fn 216 []] [.row m 2 (a0.map Oc.D)] (.tu []) [.row m 2 ((j4S a0).map Oc.D)]:=by
 have eg:∀ args w,(callFunc 216 args).run Tryz.prog w=.ok (.enter 216 args) w:=enters_of Tryz.func216 (by kernel_rfl) rfl
 refine A.sortOk (enc:=encO) (fun h=>(k0n h).1) (fun h=>(k0n h).2 _ _) (fun _=>rfl) (fun l=>List.length_mergeSort l) (fun l y hy=>List.mem_mergeSort.1 hy) (fun A0 c w=>?_) (fun g cap d w hH hblk hbig=>?_) hbig
 ·have hc:=AnyF.slices_SortFunc_none k0m A0 c (.func (.func 216) #[] #[]) w
  change Calls Tryz.prog 215 _ _ _ at hc
  exact hc
 ·have hc:=AnyQ.slices_SortFunc_total k0m 2 Tryz.isAgg140 Tryz.sizeOf140 encO (fun _=>rfl) (fun x v hv=>by simp[encO] at hv;rcases hv with rfl|rfl<;>rfl) cmpO (by rw[j0B];exact lessO_swo) 216 #[] g 0 cap d w eg (k2G _ _ _ _) hH hblk hbig (by rw[j0B];exact z6L)
  change Calls Tryz.prog 215 _ _ _ at hc
  rw[j0B] at hc
  exact hc
end Go.Proofs.YtnhofaohogianaaGreat
