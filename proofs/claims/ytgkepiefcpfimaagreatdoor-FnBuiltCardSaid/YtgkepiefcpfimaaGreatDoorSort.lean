/- What slices.SortFunc does by the order of the occurrences: each lemma bears its conditions in its statement. -/
import Derived.Test.YtgkepiefcpfimaaGreatDoorAb12
import Derived.Deep.Quiet
import Derived.Deep.QuietTactic
import Derived.Lib.ItoaNum
import Derived.Shelf.LaysM
import Derived.Shelf.SlSortCmp.NoneTotal
import Derived.Shelf.Strconv.Itoa3
import Derived.Sort.Grow
import Derived.Sort.Statements
import Derived.StillTailTactics
import Derived.Test.YtgkepiefcpfimaaGreatDoorRows
import Derived.WalkKit
import Derived.WalkLawsBesides
import Derived.WalkSpells
set_option linter.unusedVariables false
set_option linter.unusedSimpArgs false
set_option linter.ambiguousOpen false
set_option linter.unusedSectionVars false
set_option linter.unnecessarySimpa false
open Bool renaming or_eq_false_iff→Dmz,and_eq_false_iff→Dnz
namespace Go.Proofs.YtgkepiefcpfimaaGreatDoor
open Go Go.RowKit
set_option maxHeartbeats 1000000
set_option maxRecDepth 100000
theorem k7J (x:Int)(W:World):Calls Tryz.prog 231 #[.int .i64 x] W fun e w'=>e=.returned (.bool false)∧w'=W:=by
 go_enter Tryz.func231,Tryz.ntmps231
 go_wp2
 go_ret
 simp
theorem k7K (x:BA_)(W:World):Calls Tryz.prog 232 #[.string x] W fun e w'=>e=.returned (.bool false)∧w'=W:=by
 go_enter Tryz.func232,Tryz.ntmps232
 go_wp2
 go_ret
 simp
def cmpI (x y:Int):Int:=if x<y then -1 else if y<x then 1 else 0
def cmpS (x y:BA_):Int:=if Op.bytesLess x.toList y.toList=true then -1 else if (x.toList == y.toList)=true then 0 else 1
theorem k7L (x y:Int)(W:World):Calls Tryz.prog 196 #[.int .i64 x,.int .i64 y] W fun e w'=>e=.returned (.int .i64 (cmpI x y))∧w'=W:=by
 unfold cmpI
 go_enter Tryz.func196,Tryz.ntmps196
 go_wp2_with (go_at_call 231;refine (k7J _ _).mono ?_;rintro e w' ⟨rfl,rfl⟩)
 all_goals (go_ret;simp_all)
theorem k7M (x y:BA_)(W:World):Calls Tryz.prog 197 #[.string x,.string y] W fun e w'=>e=.returned (.int .i64 (cmpS x y))∧w'=W:=by
 unfold cmpS
 go_enter Tryz.func197,Tryz.ntmps197
 go_wp2_with (go_at_call 232;refine (k7K _ _).mono ?_;rintro e w' ⟨rfl,rfl⟩)
 all_goals (first|go_ret|skip)
 all_goals (simp_all)
theorem k7N (x y:Int)(hx:x≠0)(g:Nat)(W:World)(h0:W.cell? ⟨g,0,none⟩=some (.int .i64 x)):Calls Tryz.prog 195 #[.slice (some ⟨g,0,none⟩) 2 2] W fun e w'=>e=.returned (.int .i64 x)∧w'=W:=by
 have hb:(x != 0)=true:=by simpa using hx
 go_enter Tryz.func195,Tryz.ntmps195
 go_wp2
 refine wp_loop_rounds 1 ?_
 simp only[rounds_succ]
 go_wp2
 all_goals (first|(go_ret;simp_all;done)|simp_all)
theorem k7O (y:Int)(hy:y≠0)(g:Nat)(W:World)(h0:W.cell? ⟨g,0,none⟩=some (.int .i64 0))(h1:W.cell? ⟨g,1,none⟩=some (.int .i64 y)):Calls Tryz.prog 195 #[.slice (some ⟨g,0,none⟩) 2 2] W fun e w'=>e=.returned (.int .i64 y)∧w'=W:=by
 have hb:(y != 0)=true:=by simpa using hy
 go_enter Tryz.func195,Tryz.ntmps195
 go_wp2
 refine wp_loop_rounds 2 ?_
 simp only[rounds_succ]
 go_wp2
 simp only[rounds_succ]
 go_wp2
 all_goals (first|(go_ret;simp_all;done)|simp_all)
theorem k7P (g:Nat)(W:World)(h0:W.cell? ⟨g,0,none⟩=some (.int .i64 0))(h1:W.cell? ⟨g,1,none⟩=some (.int .i64 0)):Calls Tryz.prog 195 #[.slice (some ⟨g,0,none⟩) 2 2] W fun e w'=>e=.returned (.int .i64 0)∧w'=W:=by
 go_enter Tryz.func195,Tryz.ntmps195
 go_wp2
 refine wp_loop_rounds 3 ?_
 simp only[rounds_succ]
 go_wp2
 simp only[rounds_succ]
 go_wp2
 simp only[rounds_succ]
 go_wp2
 all_goals (first|(go_ret;simp_all;done)|simp_all)
theorem k9e (x y:Int)(g:Nat)(W:World)(h0:W.cell? ⟨g,0,none⟩=some (.int .i64 x))(h1:W.cell? ⟨g,1,none⟩=some (.int .i64 y)):Calls Tryz.prog 195 #[.slice (some ⟨g,0,none⟩) 2 2] W fun e w'=>e=.returned (.int .i64 (if x≠0 then x else y))∧w'=W:=by
 by_cases hx:x=0
 ·subst hx
  by_cases hy:y=0
  ·subst hy;exact k7P g W h0 h1
  ·exact k7O y hy g W h0 h1
 ·rw[ifP hx];exact k7N x y hx g W h0
def cmpO (a b:Oc):Int:=if cmpI a.Pos b.Pos≠0 then cmpI a.Pos b.Pos else cmpS a.Name b.Name
open Go.E
theorem ag3:aggT Tryz.prog 3=some false:=by kernel_rfl
theorem ag9:aggT Tryz.prog 9=some false:=by kernel_rfl
theorem sz3:szT Tryz.prog 3=some 1:=by kernel_rfl
theorem ze3:z5t Tryz.prog 3=some [.int .i64 0]:=by kernel_rfl
theorem el63:q9n Tryz.prog 63=some 3:=by kernel_rfl
theorem k2Y:z9u Tryz.prog 113 0=some 0:=by kernel_rfl
theorem k2Z:z9u Tryz.prog 113 1=some 1:=by kernel_rfl
theorem k9I:q8C Tryz.prog 195=true:=by kernel_rfl
theorem k9J:q8C Tryz.prog 196=true:=by kernel_rfl
theorem k9K:q8C Tryz.prog 197=true:=by kernel_rfl
theorem hmix:Tryz.prog.follows .mixedOrders=true:=by kernel_rfl
theorem k5u (a b:Oc)(W:World):Ret Tryz.prog 170 #[.agg #[.int .i64 a.Pos,.string a.Name],.agg #[.int .i64 b.Pos,.string b.Name]] W (fun _=>False) fun v w'=>v=.int .i64 (cmpO a b)∧Gr W w':=by
 have hI:∀ W',Ret Tryz.prog 196 #[.int .i64 a.Pos,.int .i64 b.Pos] W' (fun _=>False) fun v w'=>v=.int .i64 (cmpI a.Pos b.Pos)∧Gr W' w':=fun W'=>(k7L a.Pos b.Pos W').mono fun e w' ⟨h1,h2⟩=>⟨_,h1,by rw[h2];exact Ext.refl _,rfl,by rw[h2];exact Gr.refl _⟩
 have hS:∀ W',Ret Tryz.prog 197 #[.string a.Name,.string b.Name] W' (fun _=>False) fun v w'=>v=.int .i64 (cmpS a.Name b.Name)∧Gr W' w':=fun W'=>(k7M a.Name b.Name W').mono fun e w' ⟨h1,h2⟩=>⟨_,h1,by rw[h2];exact Ext.refl _,rfl,by rw[h2];exact Gr.refl _⟩
 unfold cmpO
 refine enter Tryz.func170 rfl rfl rfl ?_
 refine q1l (q1m ?_)
 refine q1w rfl rfl rfl rfl rfl fun b1 w1 g1 hb1 B1=>?_
 refine q1w rfl rfl rfl rfl rfl fun b2 w2 g2 hb2 B2=>?_
 have B1:=B1.ext g2.ext
 refine WL.ev rfl rfl (q2v rfl rfl) (WL.nil ?_)
 refine q1l (q1s (R:=Gr) 10 Gr.refl Gr.trans Gr.draw hmix (by kernel_rfl) ?_)
 refine QC.ev rfl rfl (fun w hw=>q0Q rfl k2Y rfl) ?_
 refine QC.ev rfl rfl (fun w hw=>q0R rfl ag3 rfl ((B1.ext hw.ext).cell rfl)) ?_
 refine QC.ev rfl rfl (fun w hw=>q0Q rfl k2Y rfl) ?_
 refine QC.ev rfl rfl (fun w hw=>q0R rfl ag3 rfl ((B2.ext hw.ext).cell rfl)) ?_
 refine q1p rfl rfl rfl rfl rfl k9J rfl (fun w hw=>hI w) ?_
 refine QC.ev rfl rfl (fun w hw=>q0Q rfl k2Z rfl) ?_
 refine QC.ev rfl rfl (fun w hw=>q0R rfl ag9 rfl ((B1.ext hw.ext).cell rfl)) ?_
 refine QC.ev rfl rfl (fun w hw=>q0Q rfl k2Z rfl) ?_
 refine QC.ev rfl rfl (fun w hw=>q0R rfl ag9 rfl ((B2.ext hw.ext).cell rfl)) ?_
 refine q1p rfl rfl rfl rfl rfl k9K rfl (fun w hw=>hS w) ?_
 refine QC.nil fun w3 g3=>?_
 refine q2i rfl rfl rfl el63 sz3 ze3 rfl (k8T rfl (k8T rfl k9D)) rfl rfl rfl fun g w4 g4 B4=>?_
 refine q2F rfl rfl rfl rfl rfl k9I rfl (M:=fun _=>False) (R:=fun v w'=>v=.int .i64 (if cmpI a.Pos b.Pos≠0 then cmpI a.Pos b.Pos else cmpS a.Name b.Name)∧w'=w4) ((k9e _ _ g w4 (B4.cell rfl) (B4.cell rfl)).mono fun e w' ⟨h1,h2⟩=>⟨_,h1,by rw[h2];exact Ext.refl _,rfl,h2⟩) ?_
 rintro _ w5 hE ⟨rfl,rfl⟩
 refine WL.ev rfl rfl (q2v rfl rfl) (WL.nil ?_)
 refine CW.ret ?_
 have g:=((g1.trans g2).trans g3).trans g4
 exact⟨_,res1 rfl rfl rfl,g.ext,rfl,g⟩
end Go.Proofs.YtgkepiefcpfimaaGreatDoor
namespace Go.Proofs.YtgkepiefcpfimaaGreatDoor
open Go Go.E Go.RowKit
theorem k6W:∀ x:List UInt8,Op.bytesLess x x=false
 | []=>rfl
 | a::x=>by simp[Op.bytesLess,k6W x]
theorem j5R:∀ x y z:List UInt8,Op.bytesLess x y=true→Op.bytesLess y z=true→Op.bytesLess x z=true
 | _,[],_,h,_=>by simp[Op.bytesLess] at h
 | _,_::_,[],_,h=>by simp[Op.bytesLess] at h
 | [],_::_,_::_,_,_=>rfl
 | a::x,b::y,c::z,h1,h2=>by
  simp only[Op.bytesLess,Bool.or_eq_true,Bool.and_eq_true,decide_eq_true_eq,beq_iff_eq] at *
  rcases h1 with h1|⟨rfl,h1⟩
  ·rcases h2 with h2|⟨rfl,h2⟩
   ·exact .inl (by rw[UInt8.lt_iff_toNat_lt] at *;omega)
   ·exact .inl h1
  ·rcases h2 with h2|⟨rfl,h2⟩
   ·exact .inl h2
   ·exact .inr ⟨rfl,j5R x y z h1 h2⟩
theorem j5S:∀ x y:List UInt8,Op.bytesLess x y=false→Op.bytesLess y x=false→x=y
 | [],[],_,_=>rfl
 | [],_::_,h,_=>by simp[Op.bytesLess] at h
 | _::_,[],_,h=>by simp[Op.bytesLess] at h
 | a::x,b::y,h1,h2=>by
  simp only[Op.bytesLess,Dmz,Dnz,decide_eq_false_iff_not,beq_eq_false_iff_ne] at *
  have hab:a=b:=by
   have h3:=h1.1;have h4:=h2.1
   rw[UInt8.lt_iff_toNat_lt] at h3 h4
   exact UInt8.toNat_inj.1 (by omega)
  subst hab
  simp at h1 h2
  rw[j5S x y h1 h2]
theorem k1t {x y:BA_}(h:x.toList=y.toList):x=y:=by
 rw[ByteArray.toList_eq,ByteArray.toList_eq] at h
 cases x;cases y;simp at h;simp[h]
theorem k5v (x y:BA_):cmpS x y<0↔Op.bytesLess x.toList y.toList=true:=by
 unfold cmpS
 by_cases h:Op.bytesLess x.toList y.toList=true
 ·simp[h]
 ·rw[ifN h]
  constructor
  ·intro h0;split at h0<;>simp at h0
  ·intro h0;exact absurd h0 h
def z4s (a b:Oc):Bool:=decide (a.Pos<b.Pos)||(decide (a.Pos=b.Pos)&&Op.bytesLess a.Name.toList b.Name.toList)
theorem k5w (a b:Oc):decide (cmpO a b<0)=z4s a b:=by
 unfold cmpO z4s cmpI
 by_cases h1:a.Pos<b.Pos
 ·simp[h1]
 ·by_cases h2:b.Pos<a.Pos
  ·have:¬ a.Pos=b.Pos:=by omega
   simp[h1,h2,this]
  ·have:a.Pos=b.Pos:=by omega
   simp only[h1,h2,if_false,ne_eq,not_true_eq_false,this,decide_true,Bool.true_and,Int.lt_irrefl,decide_false,Bool.false_or]
   rw[Bool.eq_iff_iff,decide_eq_true_eq]
   exact k5v _ _
theorem lessO_swo:Sort.SWO z4s where
 irrefl x:=by simp[z4s,k6W]
 trans x y z h1 h2:=by
  simp only[z4s,Bool.or_eq_true,Bool.and_eq_true,decide_eq_true_eq] at *
  rcases h1 with h1|⟨e1,h1⟩
  ·rcases h2 with h2|⟨e2,h2⟩
   ·exact .inl (by omega)
   ·exact .inl (by omega)
  ·rcases h2 with h2|⟨e2,h2⟩
   ·exact .inl (by omega)
   ·exact .inr ⟨by omega,j5R _ _ _ h1 h2⟩
 ntrans x y z h1 h2:=by
  simp only[z4s,Dmz,Dnz,decide_eq_false_iff_not] at *
  refine⟨by omega,?_⟩
  by_cases e:x.Pos=z.Pos
  ·have e1:x.Pos=y.Pos:=by omega
   have e2:y.Pos=z.Pos:=by omega
   right
   have a1:=h1.2.resolve_left (by simpa using e1)
   have a2:=h2.2.resolve_left (by simpa using e2)
   cases hb:Op.bytesLess x.Name.toList z.Name.toList with
   | false=>rfl
   | true=>
    -- x < z, not x < y, not y < z
    by_cases hyx:Op.bytesLess y.Name.toList x.Name.toList=true
    ·rw[j5R _ _ _ hyx hb] at a2;cases a2
    ·have:=j5S _ _ a1 (by simpa using hyx)
     rw[this,a2] at hb;cases hb
  ·exact .inl (by simpa using e)
theorem z8V (x y:Oc)(h1:z4s x y=false)(h2:z4s y x=false):x=y:=by
 simp only[z4s,Dmz,Dnz,decide_eq_false_iff_not] at *
 have e:x.Pos=y.Pos:=by omega
 have a1:=h1.2.resolve_left (by simpa using e)
 have a2:=h2.2.resolve_left (by simpa using e.symm)
 have:=k1t (j5S _ _ a1 a2)
 cases x;cases y;simp_all
end Go.Proofs.YtgkepiefcpfimaaGreatDoor
namespace Go.Proofs
open Go.Shelf
namespace YtgkepiefcpfimaaGreatDoor
def j8U:Go.Shelf.Ren:=⟨fun|6=>169|15=>194|14=>193|28=>230|29=>205|20=>222|21=>223|22=>224|23=>225|24=>226|25=>227|26=>228|27=>229|46=>261|47=>262|48=>263|49=>264|50=>265|57=>278|n=>n,fun|22=>84|24=>113|25=>192|3=>3|39=>146|0=>0|53=>221|55=>200|4=>4|46=>228|45=>227|50=>232|5=>5|9=>9|66=>240|70=>244|76=>253|77=>173|n=>n,fun|n=>n⟩
theorem k3a:Go.Proofs.SlLaysF0.n6 Tryz.prog j8U:={
 mixed:=by kernel_rfl,
 f6:=⟨Tryz.f169.name,by decide,Tryz.func169.trans (congrArg some (by kernel_rfl))⟩,
 f14:=⟨Tryz.f193.name,by decide,Tryz.func193.trans (congrArg some (by kernel_rfl))⟩,
 f15:=Tryz.func194.trans (congrArg some (by kernel_rfl)),
 f20:=⟨Tryz.f222.name,by decide,Tryz.func222.trans (congrArg some (by kernel_rfl))⟩,
 f21:=⟨Tryz.f223.name,by decide,Tryz.func223.trans (congrArg some (by kernel_rfl))⟩,
 f22:=⟨Tryz.f224.name,by decide,Tryz.func224.trans (congrArg some (by kernel_rfl))⟩,
 f23:=⟨Tryz.f225.name,by decide,Tryz.func225.trans (congrArg some (by kernel_rfl))⟩,
 f24:=⟨Tryz.f226.name,by decide,Tryz.func226.trans (congrArg some (by kernel_rfl))⟩,
 f25:=⟨Tryz.f227.name,by decide,Tryz.func227.trans (congrArg some (by kernel_rfl))⟩,
 f26:=⟨Tryz.f228.name,by decide,Tryz.func228.trans (congrArg some (by kernel_rfl))⟩,
 f27:=⟨Tryz.f229.name,by decide,Tryz.func229.trans (congrArg some (by kernel_rfl))⟩,
 f28:=Tryz.func230.trans (congrArg some (by kernel_rfl)),
 f29:=Tryz.func205.trans (congrArg some (by kernel_rfl)),
 f46:=⟨Tryz.f261.name,by decide,Tryz.func261.trans (congrArg some (by kernel_rfl))⟩,
 f47:=Tryz.func262.trans (congrArg some (by kernel_rfl)),
 f48:=Tryz.func263.trans (congrArg some (by kernel_rfl)),
 f49:=⟨Tryz.f264.name,by decide,Tryz.func264.trans (congrArg some (by kernel_rfl))⟩,
 f50:=⟨Tryz.f265.name,by decide,Tryz.func265.trans (congrArg some (by kernel_rfl))⟩,
 f57:=⟨Tryz.f278.name,by decide,Tryz.func278.trans (congrArg some (by kernel_rfl))⟩,
 t0:=Tryz.underlying0,
 a0:=Tryz.isAgg0,
 z0:=Tryz.sizeOf0,
 v0:=Tryz.zeroValue0,
 t3:=Tryz.underlying3,
 a3:=Tryz.isAgg3,
 z3:=Tryz.sizeOf3,
 v3:=Tryz.zeroValue3,
 t4:=Tryz.underlying4,
 a4:=Tryz.isAgg4,
 z4:=Tryz.sizeOf4,
 v4:=Tryz.zeroValue4,
 t5:=Tryz.underlying5,
 a5:=Tryz.isAgg5,
 z5:=Tryz.sizeOf5,
 v5:=Tryz.zeroValue5,
 t9:=Tryz.underlying9,
 a9:=Tryz.isAgg9,
 z9:=Tryz.sizeOf9,
 v9:=Tryz.zeroValue9,
 t22:=Tryz.underlying84,
 a22:=Tryz.isAgg84,
 z22:=Tryz.sizeOf84,
 v22:=Tryz.zeroValue84,
 t25:=Tryz.underlying192,
 a25:=Tryz.isAgg192,
 z25:=Tryz.sizeOf192,
 v25:=Tryz.zeroValue192,
 t39:=Tryz.underlying146,
 a39:=Tryz.isAgg146,
 z39:=Tryz.sizeOf146,
 v39:=Tryz.zeroValue146,
 t45:=Tryz.underlying227,
 a45:=Tryz.isAgg227,
 z45:=Tryz.sizeOf227,
 v45:=Tryz.zeroValue227,
 t46:=Tryz.underlying228,
 a46:=Tryz.isAgg228,
 z46:=Tryz.sizeOf228,
 v46:=Tryz.zeroValue228,
 t50:=Tryz.underlying232,
 a50:=Tryz.isAgg232,
 z50:=Tryz.sizeOf232,
 v50:=Tryz.zeroValue232,
 t53:=Tryz.underlying221,
 a53:=Tryz.isAgg221,
 z53:=Tryz.sizeOf221,
 v53:=Tryz.zeroValue221,
 t55:=Tryz.underlying200,
 a55:=Tryz.isAgg200,
 z55:=Tryz.sizeOf200,
 v55:=Tryz.zeroValue200,
 t66:=Tryz.underlying240,
 a66:=Tryz.isAgg240,
 z66:=Tryz.sizeOf240,
 v66:=Tryz.zeroValue240,
 t70:=Tryz.underlying244,
 a70:=Tryz.isAgg244,
 z70:=Tryz.sizeOf244,
 v70:=Tryz.zeroValue244,
 t76:=Tryz.underlying253,
 a76:=Tryz.isAgg253,
 z76:=Tryz.sizeOf253,
 v76:=Tryz.zeroValue253,
 t77:=Tryz.underlying173,
 a77:=Tryz.isAgg173,
 z77:=Tryz.sizeOf173,
 v77:=Tryz.zeroValue173 }
end YtgkepiefcpfimaaGreatDoor
end Go.Proofs
namespace Go.Proofs.YtgkepiefcpfimaaGreatDoor
open Go Go.E Go.RowKit
instance:Inhabited Oc:=⟨⟨0,⟨#[]⟩⟩⟩
def encO (x:Oc):List Value:=[.int .i64 x.Pos,.string x.Name]
theorem k5x (blk off size:Nat)(w:World):CmpLays Tryz.prog 170 #[] encO 2 cmpO blk off size w:=fun _ _ _ _ x y=>
 Calls.mono (k5u x y _) fun e w' ⟨v,h1,_,h2,h3⟩=>⟨by rw[h1,h2],h3⟩
theorem j2N:ltOf cmpO=z4s:=by funext x y;exact k5w x y
def j7y (l:List Oc):List Oc:=l.mergeSort fun x y=>!z4s y x
theorem k3b {S1:Nat→Prop}{w:World}{x:Oc}{c:List Value}(h:A.rd1 S1 w (Oc.D x) c):c=encO x∧∀ (S2:Nat→Prop) (w2:World),A.rd1 S2 w2 (Oc.D x) c:=by
 have h' : A.rdCs S1 w [.i .i64 x.Pos,.s x.Name] c:=h
 simp only[A.rdCs,A.rdC] at h'
 obtain⟨v,r,rfl,⟨rfl,h1⟩,v2,r2,rfl,⟨rfl,h2⟩,rfl⟩:=h'
 refine⟨rfl,fun S2 w2=>?_⟩
 show A.rdCs S2 w2 [.i .i64 x.Pos,.s x.Name] _
 simp only[A.rdCs,A.rdC]
 exact⟨_,_,rfl,⟨rfl,h1⟩,_,_,rfl,⟨rfl,h2⟩,rfl⟩
theorem k5y {m:A.Md}{a0:List Oc}(hbig:a0.length<4611686018427387904):A.Ok Tryz.prog 169 [.ref 0 none,.fn 170 []] [.row m 2 (a0.map Oc.D)] (.tu []) [.row m 2 ((j7y a0).map Oc.D)]:=by
 have eg:∀ args w,(callFunc 170 args).run Tryz.prog w=.ok (.enter 170 args) w:=enters_of Tryz.func170 (by kernel_rfl) rfl
 refine A.sortOk (enc:=encO) (fun h=>(k3b h).1) (fun h=>(k3b h).2 _ _) (fun _=>rfl) (fun l=>List.length_mergeSort l) (fun l y hy=>List.mem_mergeSort.1 hy) (fun A0 c w=>?_) (fun g cap d w hH hblk hbig=>?_) hbig
 ·have hc:=AnyF.slices_SortFunc_none k3a A0 c (.func (.func 170) #[] #[]) w
  change Calls Tryz.prog 169 _ _ _ at hc
  exact hc
 ·have hc:=AnyQ.slices_SortFunc_total k3a 2 Tryz.isAgg113 Tryz.sizeOf113 encO (fun _=>rfl) (fun x v hv=>by simp[encO] at hv;rcases hv with rfl|rfl<;>rfl) cmpO (by rw[j2N];exact lessO_swo) 170 #[] g 0 cap d w eg (k5x _ _ _ _) hH hblk hbig (by rw[j2N];exact z8V)
  change Calls Tryz.prog 169 _ _ _ at hc
  rw[j2N] at hc
  exact hc
end Go.Proofs.YtgkepiefcpfimaaGreatDoor
set_option maxRecDepth 100000
namespace Go.Proofs.YtgkepiefcpfimaaGreatDoor
open Go Go.E
theorem p20:(10:Nat) ^ (19+1)=100000000000000000000:=by decide
theorem p19:(10:Nat) ^ 19=10000000000000000000:=by decide
theorem j4U:∀ (k u:Nat),u<10 ^ (k+1)→(Lib.decDigits u).length≤k+1
 | 0,u,h=>by rw[Lib.decDigits,dif_pos (by omega)];simp
 | k+1,u,h=>by
  rw[Lib.decDigits]
  by_cases h1:u<10
  ·rw[dif_pos h1];simp
  ·rw[dif_neg h1,List.length_append]
   have:=j4U k (u / 10) (Nat.div_lt_of_lt_mul (by rw[Nat.pow_succ,Nat.mul_comm] at h;exact h))
   simp;omega
def bl (l:List UInt8):BA_:=⟨l.toArray⟩
theorem j5T (l:List UInt8):(bl l).size=l.length:=by simp[bl,ByteArray.size]
theorem j8V (b:UInt8)(l:List UInt8):(⟨#[b]⟩:BA_)++bl l=bl (b::l):=by
 apply ByteArray.ext
 rw[ByteArray.data_append]
 simp[bl]
theorem k3c (n:Int)(h0:-9223372036854775808≤n)(h1:n≤9223372036854775807):(⟨(Lib.itoa n).toArray⟩:BA_).size≤9223372036854775807:=by
 have e:(⟨(Lib.itoa n).toArray⟩:BA_).size=(Lib.itoa n).length:=j5T _
 rw[e,Lib.itoa]
 have:=j4U 19 n.natAbs (by rw[p20];omega)
 have h2:=j4U 19 n.toNat (by rw[p20];omega)
 by_cases h:n<0
 ·rw[ifP h,lnC];omega
 ·rw[ifN h];omega
def dz (u:Nat):List UInt8:=if u=0 then [] else Lib.decDigits u
theorem k7Q {u:Nat}(h:u≠0):dz u=dz (u / 10)++[UInt8.ofNat (48+u % 10)]:=by
 rw[dz,ifN h,Lib.decDigits]
 by_cases h1:u<10
 ·rw[dif_pos h1,dz,ifP (by omega),Nat.mod_eq_of_lt h1];rfl
 ·rw[dif_neg h1,dz,ifN (by omega)]
end Go.Proofs.YtgkepiefcpfimaaGreatDoor
namespace Go.Proofs.YtgkepiefcpfimaaGreatDoor
open Go.Shelf
def j7z:Go.Shelf.Ren:=⟨fun|171=>57|243=>110|246=>148|283=>179|284=>180|285=>181|286=>182|129=>205|317=>204|318=>206|319=>207|320=>208|337=>244|338=>245|n=>n,fun|3=>3|9=>9|2=>2|4=>4|171=>199|0=>0|53=>200|37=>22|5=>5|173=>203|212=>220|51=>221|20=>20|213=>222|46=>146|232=>249|233=>250|n=>n,fun|17=>0|18=>1|19=>2|n=>n⟩
theorem k5z:Go.Proofs.LaysM.n171 Tryz.prog j7z:={
 mixed:=by kernel_rfl
 f129:=Tryz.func205.trans (congrArg some (by kernel_rfl))
 f171:=Tryz.func57.trans (congrArg some (by kernel_rfl))
 f243:=Tryz.func110.trans (congrArg some (by kernel_rfl))
 f246:=Tryz.func148.trans (congrArg some (by kernel_rfl))
 f283:=Tryz.func179.trans (congrArg some (by kernel_rfl))
 f284:=Tryz.func180.trans (congrArg some (by kernel_rfl))
 f285:=Tryz.func181.trans (congrArg some (by kernel_rfl))
 f286:=Tryz.func182.trans (congrArg some (by kernel_rfl))
 f317:=Tryz.func204.trans (congrArg some (by kernel_rfl))
 f318:=Tryz.func206.trans (congrArg some (by kernel_rfl))
 f319:=Tryz.func207.trans (congrArg some (by kernel_rfl))
 f320:=Tryz.func208.trans (congrArg some (by kernel_rfl))
 f337:=Tryz.func244.trans (congrArg some (by kernel_rfl))
 f338:=Tryz.func245.trans (congrArg some (by kernel_rfl))
 t0:=Tryz.underlying0
 a0:=Tryz.isAgg0
 z0:=Tryz.sizeOf0
 v0:=Tryz.zeroValue0
 t2:=Tryz.underlying2
 a2:=Tryz.isAgg2
 z2:=Tryz.sizeOf2
 v2:=Tryz.zeroValue2
 t3:=Tryz.underlying3
 a3:=Tryz.isAgg3
 z3:=Tryz.sizeOf3
 v3:=Tryz.zeroValue3
 t4:=Tryz.underlying4
 a4:=Tryz.isAgg4
 z4:=Tryz.sizeOf4
 v4:=Tryz.zeroValue4
 t5:=Tryz.underlying5
 a5:=Tryz.isAgg5
 z5:=Tryz.sizeOf5
 v5:=Tryz.zeroValue5
 t9:=Tryz.underlying9
 a9:=Tryz.isAgg9
 z9:=Tryz.sizeOf9
 v9:=Tryz.zeroValue9
 t20:=Tryz.underlying20
 a20:=Tryz.isAgg20
 z20:=Tryz.sizeOf20
 v20:=Tryz.zeroValue20
 t37:=Tryz.underlying22
 a37:=Tryz.isAgg22
 z37:=Tryz.sizeOf22
 v37:=Tryz.zeroValue22
 t46:=Tryz.underlying146
 a46:=Tryz.isAgg146
 z46:=Tryz.sizeOf146
 v46:=Tryz.zeroValue146
 t51:=Tryz.underlying221
 a51:=Tryz.isAgg221
 z51:=Tryz.sizeOf221
 v51:=Tryz.zeroValue221
 t53:=Tryz.underlying200
 a53:=Tryz.isAgg200
 z53:=Tryz.sizeOf200
 v53:=Tryz.zeroValue200
 t171:=Tryz.underlying199
 a171:=Tryz.isAgg199
 z171:=Tryz.sizeOf199
 v171:=Tryz.zeroValue199
 t173:=Tryz.underlying203
 a173:=Tryz.isAgg203
 z173:=Tryz.sizeOf203
 v173:=Tryz.zeroValue203
 t212:=Tryz.underlying220
 a212:=Tryz.isAgg220
 z212:=Tryz.sizeOf220
 v212:=Tryz.zeroValue220
 t213:=Tryz.underlying222
 a213:=Tryz.isAgg222
 z213:=Tryz.sizeOf222
 t232:=Tryz.underlying249
 a232:=Tryz.isAgg249
 z232:=Tryz.sizeOf249
 v232:=Tryz.zeroValue249
 t233:=Tryz.underlying250
 a233:=Tryz.isAgg250
 z233:=Tryz.sizeOf250
 v233:=Tryz.zeroValue250
 g17:=by kernel_rfl
 g18:=by kernel_rfl
 g19:=by kernel_rfl
 i0:=by kernel_rfl
 i2:=by kernel_rfl
 i3:=by kernel_rfl
 i4:=by kernel_rfl
 i5:=by kernel_rfl
 i9:=by kernel_rfl
 i20:=by kernel_rfl
 i37:=by kernel_rfl
 i46:=by kernel_rfl
 i51:=by kernel_rfl
 i53:=by kernel_rfl
 i171:=by kernel_rfl
 i173:=by kernel_rfl
 i212:=by kernel_rfl
 i232:=by kernel_rfl
 i233:=by kernel_rfl
 m17:=by kernel_rfl
 m18:=by kernel_rfl
 m19:=by kernel_rfl }
open Go.RowKit Go.Sort Go.Lib in
theorem z9F (n:Int)(h0:-9223372036854775808≤n)(h1:n≤9223372036854775807)(w:World)(htab:Lib.TabIs Tryz.prog w "internal/strconv.uint64pow10" .u64 Lib.pow10Tab) :
  Calls Tryz.prog 57 #[.int .i64 n] w fun e w'=>e=.returned (.string ⟨(Lib.itoa n).toArray⟩)∧∃ k os,w'=grow (w.drewN k) os:=Any.strconv_Itoa k5z n h0 h1 w htab
section
open Go Go.E Go.A
def KT (w:World):Prop:=Lib.TabIs Tryz.prog w "internal/strconv.uint64pow10" .u64 Lib.pow10Tab
theorem j2O:Stb KT:=by
 intro w w' h hc
 unfold KT Lib.TabIs World.var? at h ⊢
 cases hg:Tryz.prog.globalNamed "internal/strconv.uint64pow10" with
 | none=>rw[hg] at h;cases h
 | some g=>
  rw[hg] at h
  simp only[bsS] at h ⊢
  have hlt:g<w.heap.size:=by
   rcases Nat.lt_or_ge g w.heap.size with h1|h1
   ·exact h1
   ·rw[Array.getElem?_eq_none h1] at h;cases h
  rw[hc.block g hlt id];exact h
def z8L (a0:Int):Option BA_:=some ⟨(Lib.itoa a0).toArray⟩
theorem j2P {a0:Int}{r:BA_}(hr:z8L a0=some r):OkK KT Tryz.prog 57 [.d .fz (.i .i64 a0)] (.d .fz (.s r)):=by
 cases hr
 intro w hK F B g vs hsim hvs
 rw[vrs] at hvs
 obtain⟨v,vs',rfl,hv,hn⟩:=hvs
 rw[vrs] at hn
 subst hn
 rw[vr,rdC] at hv
 obtain⟨rfl,h0,h1⟩:=hv
 refine Calls.mono (z9F a0 h0 h1 w hK) fun e w' ⟨he,hg⟩=>?_
 have hx:Ext w w':=Gr.ext hg
 obtain⟨k1,_⟩:=hsim.ext hx (F':=F) (fun _ h=>h) (fun b hb=>⟨Nat.lt_of_lt_of_le (hsim.flt b hb) hx.size,.inl hb⟩)
 exact⟨_,he,.of_ext hx,F,g,k1,by rw[vr,rdC];exact⟨rfl,k3c a0 h0 h1⟩⟩
end
end Go.Proofs.YtgkepiefcpfimaaGreatDoor
