/- What slices.SortFunc does by the order of the occurrences: each lemma bears its conditions in its statement. -/
import Derived.Test.YtodhafdaelcnlaaGreatAb13
import Derived.Deep.Quiet
import Derived.Deep.QuietTactic
import Derived.Shelf.SlSortCmp.NoneTotal
import Derived.Sort.Grow
import Derived.Sort.Statements
import Derived.StillTailTactics
import Derived.Test.YtodhafdaelcnlaaGreatRows
import Derived.WalkKit
import Derived.WalkLawsBesides
import Derived.WalkSpells
set_option linter.unusedVariables false
set_option linter.unusedSimpArgs false
set_option linter.ambiguousOpen false
set_option linter.unusedSectionVars false
set_option linter.unnecessarySimpa false
open Bool renaming or_eq_false_iff->Dlz,and_eq_false_iff->Dmz
namespace Go.Proofs.YtodhafdaelcnlaaGreat
open Go Go.RowKit
set_option maxHeartbeats 1000000
set_option maxRecDepth 100000
theorem TY (x:Int)(W:World):Calls Tryz.prog 276 #[.int .i64 x] W λe w'=>e=.returned (.bool false)/\w'=W:=by
 go_enter Tryz.func276,Tryz.ntmps276
 go_wp2
 go_ret
 simp
theorem TX (x:an)(W:World):Calls Tryz.prog 277 #[.string x] W λe w'=>e=.returned (.bool false)/\w'=W:=by
 go_enter Tryz.func277,Tryz.ntmps277
 go_wp2
 go_ret
 simp
def fK (x y:Int):Int:=if x<y then -1 else if y<x then 1 else 0
def gf (x y:an):Int:=if Op.bytesLess x.toList y.toList=true then -1 else if (x.toList == y.toList)=true then 0 else 1
theorem TW (x y:Int)(W:World):Calls Tryz.prog 260 #[.int .i64 x,.int .i64 y] W λe w'=>e=.returned (.int .i64 (fK x y))/\w'=W:=by
 unfold fK
 go_enter Tryz.func260,Tryz.ntmps260
 go_wp2_with (go_at_call 276;refine (TY _ _).mono ?_;rintro e w' ⟨rfl,rfl⟩)
 all_goals (go_ret;simp_all)
theorem TV (x y:an)(W:World):Calls Tryz.prog 261 #[.string x,.string y] W λe w'=>e=.returned (.int .i64 (gf x y))/\w'=W:=by
 unfold gf
 go_enter Tryz.func261,Tryz.ntmps261
 go_wp2_with (go_at_call 277;refine (TX _ _).mono ?_;rintro e w' ⟨rfl,rfl⟩)
 all_goals (first|go_ret|skip)
 all_goals (simp_all)
theorem TU (x y:Int)(hx:x≠0)(g:Nat)(W:World)(h0:W.cell? ⟨g,0,none⟩=some (.int .i64 x)):Calls Tryz.prog 259 #[.slice (some ⟨g,0,none⟩) 2 2] W λe w'=>e=.returned (.int .i64 x)/\w'=W:=by
 have hb:(x != 0)=true:=by simpa using hx
 go_enter Tryz.func259,Tryz.ntmps259
 go_wp2
 refine wp_loop_rounds 1 ?_;simp only[rounds_succ]
 go_wp2
 all_goals (first|(go_ret;simp_all;done)|simp_all)
theorem TS (y:Int)(hy:y≠0)(g:Nat)(W:World)(h0:W.cell? ⟨g,0,none⟩=some (.int .i64 0))(h1:W.cell? ⟨g,1,none⟩=some (.int .i64 y)):Calls Tryz.prog 259 #[.slice (some ⟨g,0,none⟩) 2 2] W λe w'=>e=.returned (.int .i64 y)/\w'=W:=by
 have hb:(y != 0)=true:=by simpa using hy
 go_enter Tryz.func259,Tryz.ntmps259
 go_wp2
 refine wp_loop_rounds 2 ?_;simp only[rounds_succ]
 go_wp2
 simp only[rounds_succ]
 go_wp2
 all_goals (first|(go_ret;simp_all;done)|simp_all)
theorem TR (g:Nat)(W:World)(h0:W.cell? ⟨g,0,none⟩=some (.int .i64 0))(h1:W.cell? ⟨g,1,none⟩=some (.int .i64 0)):Calls Tryz.prog 259 #[.slice (some ⟨g,0,none⟩) 2 2] W λe w'=>e=.returned (.int .i64 0)/\w'=W:=by
 go_enter Tryz.func259,Tryz.ntmps259
 go_wp2
 refine wp_loop_rounds 3 ?_;simp only[rounds_succ]
 go_wp2
 simp only[rounds_succ]
 go_wp2
 simp only[rounds_succ]
 go_wp2
 all_goals (first|(go_ret;simp_all;done)|simp_all)
theorem Sc (x y:Int)(g:Nat)(W:World)(h0:W.cell? ⟨g,0,none⟩=some (.int .i64 x))(h1:W.cell? ⟨g,1,none⟩=some (.int .i64 y)):Calls Tryz.prog 259 #[.slice (some ⟨g,0,none⟩) 2 2] W λe w'=>e=.returned (.int .i64 (if x≠0 then x else y))/\w'=W:=by
 by_cases hx:x=0;subst hx;by_cases hy:y=0;subst hy;exact TR g W h0 h1;exact TS y hy g W h0 h1;rw[ao hx];exact TU x y hx g W h0
def jj (a b:Oc):Int:=if fK a.Pos b.Pos≠0 then fK a.Pos b.Pos else gf a.Name b.Name
open Go.E
theorem NK:cT Tryz.prog 3=some false:=by kernel_rfl
theorem NJ:cT Tryz.prog 9=some false:=by kernel_rfl
theorem Pg:cn Tryz.prog 3=some 1:=by kernel_rfl
theorem NT:fO Tryz.prog 3=some [.int .i64 0]:=by kernel_rfl
theorem FP:cY Tryz.prog 28=some 3:=by kernel_rfl
theorem JM:mo Tryz.prog 155 0=some 0:=by kernel_rfl
theorem JL:mo Tryz.prog 155 1=some 1:=by kernel_rfl
theorem O5:iC Tryz.prog 259=true:=by kernel_rfl
theorem O4:iC Tryz.prog 260=true:=by kernel_rfl
theorem O3:iC Tryz.prog 261=true:=by kernel_rfl
theorem FL:Tryz.prog.follows .mixedOrders=true:=by kernel_rfl
theorem UN (a b:Oc)(W:World):nv Tryz.prog 241 #[.agg #[.int .i64 a.Pos,.string a.Name],.agg #[.int .i64 b.Pos,.string b.Name]] W (λ_=>False) λv w'=>v=.int .i64 (jj a b)/\Gr W w':=by
 have hI:∀ W',nv Tryz.prog 260 #[.int .i64 a.Pos,.int .i64 b.Pos] W' (λ_=>False) λv w'=>v=.int .i64 (fK a.Pos b.Pos)/\Gr W' w':=λW'=>(TW a.Pos b.Pos W').mono λe w' ⟨h1,h2⟩=>⟨_,h1,by rw[h2];exact cd.refl _,rfl,by rw[h2];exact Gr.refl _⟩
 have hS:∀ W',nv Tryz.prog 261 #[.string a.Name,.string b.Name] W' (λ_=>False) λv w'=>v=.int .i64 (gf a.Name b.Name)/\Gr W' w':=λW'=>(TV a.Name b.Name W').mono λe w' ⟨h1,h2⟩=>⟨_,h1,by rw[h2];exact cd.refl _,rfl,by rw[h2];exact Gr.refl _⟩
 unfold jj;refine enter Tryz.func241 rfl rfl rfl ?_;refine CU (CS ?_);refine HQ rfl rfl rfl rfl rfl λb1 w1 g1 hb1 B1=>?_;refine HQ rfl rfl rfl rfl rfl λb2 w2 g2 hb2 B2=>?_;have B1:=B1.ext g2.ext;refine WL.ev rfl rfl (CP rfl rfl) (WL.nil ?_);refine CU (Rr (R:=Gr) 10 Gr.refl Gr.trans Gr.draw FL (by kernel_rfl) ?_);refine QC.ev rfl rfl (λw hw=>pS rfl JM rfl) ?_;refine QC.ev rfl rfl (λw hw=>pR rfl NK rfl ((B1.ext hw.ext).cell rfl)) ?_;refine QC.ev rfl rfl (λw hw=>pS rfl JM rfl) ?_;refine QC.ev rfl rfl (λw hw=>pR rfl NK rfl ((B2.ext hw.ext).cell rfl)) ?_;refine HS rfl rfl rfl rfl rfl O4 rfl (λw hw=>hI w) ?_;refine QC.ev rfl rfl (λw hw=>pS rfl JL rfl) ?_;refine QC.ev rfl rfl (λw hw=>pR rfl NJ rfl ((B1.ext hw.ext).cell rfl)) ?_;refine QC.ev rfl rfl (λw hw=>pS rfl JL rfl) ?_;refine QC.ev rfl rfl (λw hw=>pR rfl NJ rfl ((B2.ext hw.ext).cell rfl)) ?_;refine HS rfl rfl rfl rfl rfl O3 rfl (λw hw=>hS w) ?_;refine QC.nil λw3 g3=>?_;refine QM rfl rfl rfl FP Pg NT rfl (Io rfl (Io rfl Pb)) rfl rfl rfl λg w4 g4 B4=>?_;refine Rh rfl rfl rfl rfl rfl O5 rfl (M:=λ_=>False) (R:=λv w'=>v=.int .i64 (if fK a.Pos b.Pos≠0 then fK a.Pos b.Pos else gf a.Name b.Name)/\w'=w4) ((Sc _ _ g w4 (B4.cell rfl) (B4.cell rfl)).mono λe w' ⟨h1,h2⟩=>⟨_,h1,by rw[h2];exact cd.refl _,rfl,h2⟩) ?_;rintro _ w5 hE ⟨rfl,rfl⟩;refine WL.ev rfl rfl (CP rfl rfl) (WL.nil ?_);refine CW.ret ?_;have g:=((g1.trans g2).trans g3).trans g4;exact⟨_,CG rfl rfl rfl,g.ext,rfl,g⟩
end Go.Proofs.YtodhafdaelcnlaaGreat
namespace Go.Proofs.YtodhafdaelcnlaaGreat
open Go Go.E Go.RowKit
theorem IM:∀ x:List UInt8,Op.bytesLess x x=false
 | []=>rfl
 | a::x=>by simp[Op.bytesLess,IM x]
theorem ET:∀ x y z:List UInt8,Op.bytesLess x y=true->Op.bytesLess y z=true->Op.bytesLess x z=true
 | _,[],_,h,_=>by simp[Op.bytesLess] at h
 | _,_::_,[],_,h=>by simp[Op.bytesLess] at h
 | [],_::_,_::_,_,_=>rfl
 | a::x,b::y,c::z,h1,h2=>by
  simp only[Op.bytesLess,Bool.or_eq_true,Bool.and_eq_true,decide_eq_true_eq,beq_iff_eq] at *;rcases h1 with h1|⟨rfl,h1⟩
  rcases h2 with h2|⟨rfl,h2⟩
  exact .inl (by rw[UInt8.lt_iff_toNat_lt] at *;omega);exact .inl h1;rcases h2 with h2|⟨rfl,h2⟩
  exact .inl h2;exact .inr ⟨rfl,ET x y z h1 h2⟩
theorem ES:∀ x y:List UInt8,Op.bytesLess x y=false->Op.bytesLess y x=false->x=y
 | [],[],_,_=>rfl
 | [],_::_,h,_=>by simp[Op.bytesLess] at h
 | _::_,[],_,h=>by simp[Op.bytesLess] at h
 | a::x,b::y,h1,h2=>by
  simp only[Op.bytesLess,Dlz,Dmz,decide_eq_false_iff_not,beq_eq_false_iff_ne] at *;have hab:a=b:=by
   have h3:=h1.1;have h4:=h2.1;rw[UInt8.lt_iff_toNat_lt] at h3 h4;exact UInt8.toNat_inj.1 (by omega)
  subst hab;simp at h1 h2;rw[ES x y h1 h2]
theorem WW {x y:an}(h:x.toList=y.toList):x=y:=by
 rw[ByteArray.toList_eq,ByteArray.toList_eq] at h;cases x;cases y;simp at h;simp[h]
theorem UM (x y:an):gf x y<0↔Op.bytesLess x.toList y.toList=true:=by
 unfold gf;by_cases h:Op.bytesLess x.toList y.toList=true;simp[h];rw[al h];constructor;intro h0;split at h0<;>simp at h0;intro h0;exact absurd h0 h
def fD (a b:Oc):Bool:=decide (a.Pos<b.Pos)||(decide (a.Pos=b.Pos)&&Op.bytesLess a.Name.toList b.Name.toList)
theorem UL (a b:Oc):decide (jj a b<0)=fD a b:=by
 unfold jj fD fK;by_cases h1:a.Pos<b.Pos;simp[h1];by_cases h2:b.Pos<a.Pos;have:¬ a.Pos=b.Pos:=by omega
 simp[h1,h2,this];have:a.Pos=b.Pos:=by omega
 simp only[h1,h2,if_false,ne_eq,not_true_eq_false,this,decide_true,Bool.true_and,Int.lt_irrefl,decide_false,Bool.false_or];rw[Bool.eq_iff_iff,decide_eq_true_eq];exact UM _ _
theorem bZ:Sort.SWO fD where
 irrefl x:=by simp[fD,IM]
 trans x y z h1 h2:=by
  simp only[fD,Bool.or_eq_true,Bool.and_eq_true,decide_eq_true_eq] at *;rcases h1 with h1|⟨e1,h1⟩
  rcases h2 with h2|⟨e2,h2⟩
  exact .inl (by omega);exact .inl (by omega);rcases h2 with h2|⟨e2,h2⟩
  exact .inl (by omega);exact .inr ⟨by omega,ET _ _ _ h1 h2⟩
 ntrans x y z h1 h2:=by
  simp only[fD,Dlz,Dmz,decide_eq_false_iff_not] at *;refine⟨by omega,?_⟩;by_cases e:x.Pos=z.Pos;have e1:x.Pos=y.Pos:=by omega
  have e2:y.Pos=z.Pos:=by omega
  right;have a1:=h1.2.resolve_left (by simpa using e1);have a2:=h2.2.resolve_left (by simpa using e2);cases hb:Op.bytesLess x.Name.toList z.Name.toList with
  | false=>rfl
  | true=>
   -- x < z, not x < y, not y < z
   by_cases hyx:Op.bytesLess y.Name.toList x.Name.toList=true;rw[ET _ _ _ hyx hb] at a2;cases a2;have:=ES _ _ a1 (by simpa using hyx);rw[this,a2] at hb;cases hb
  exact .inl (by simpa using e)
theorem BH (x y:Oc)(h1:fD x y=false)(h2:fD y x=false):x=y:=by
 simp only[fD,Dlz,Dmz,decide_eq_false_iff_not] at *;have e:x.Pos=y.Pos:=by omega
 have a1:=h1.2.resolve_left (by simpa using e);have a2:=h2.2.resolve_left (by simpa using e.symm);have:=WW (ES _ _ a1 a2);cases x;cases y;simp_all
end Go.Proofs.YtodhafdaelcnlaaGreat
namespace Go.Proofs
open Go.Shelf
namespace YtodhafdaelcnlaaGreat
def XR:Go.Shelf.Ren:=⟨λ|6=>240|15=>258|14=>257|28=>274|29=>275|20=>266|21=>267|22=>268|23=>269|24=>270|25=>271|26=>272|27=>273|46=>280|47=>281|48=>282|49=>283|50=>284|57=>286|n=>n,λ|22=>145|24=>155|25=>244|3=>3|39=>103|0=>0|53=>263|55=>265|4=>4|46=>256|45=>255|50=>260|5=>5|9=>9|66=>267|70=>271|76=>273|77=>111|n=>n,λ|n=>n⟩
theorem JK:Go.Proofs.SlLaysF0.n6 Tryz.prog XR:={
 mixed:=by kernel_rfl,
 f6:=⟨Tryz.f240.name,by decide,Tryz.func240.trans (congrArg some (by kernel_rfl))⟩,
 f14:=⟨Tryz.f257.name,by decide,Tryz.func257.trans (congrArg some (by kernel_rfl))⟩,
 f15:=Tryz.func258.trans (congrArg some (by kernel_rfl)),
 f20:=⟨Tryz.f266.name,by decide,Tryz.func266.trans (congrArg some (by kernel_rfl))⟩,
 f21:=⟨Tryz.f267.name,by decide,Tryz.func267.trans (congrArg some (by kernel_rfl))⟩,
 f22:=⟨Tryz.f268.name,by decide,Tryz.func268.trans (congrArg some (by kernel_rfl))⟩,
 f23:=⟨Tryz.f269.name,by decide,Tryz.func269.trans (congrArg some (by kernel_rfl))⟩,
 f24:=⟨Tryz.f270.name,by decide,Tryz.func270.trans (congrArg some (by kernel_rfl))⟩,
 f25:=⟨Tryz.f271.name,by decide,Tryz.func271.trans (congrArg some (by kernel_rfl))⟩,
 f26:=⟨Tryz.f272.name,by decide,Tryz.func272.trans (congrArg some (by kernel_rfl))⟩,
 f27:=⟨Tryz.f273.name,by decide,Tryz.func273.trans (congrArg some (by kernel_rfl))⟩,
 f28:=Tryz.func274.trans (congrArg some (by kernel_rfl)),
 f29:=Tryz.func275.trans (congrArg some (by kernel_rfl)),
 f46:=⟨Tryz.f280.name,by decide,Tryz.func280.trans (congrArg some (by kernel_rfl))⟩,
 f47:=Tryz.func281.trans (congrArg some (by kernel_rfl)),
 f48:=Tryz.func282.trans (congrArg some (by kernel_rfl)),
 f49:=⟨Tryz.f283.name,by decide,Tryz.func283.trans (congrArg some (by kernel_rfl))⟩,
 f50:=⟨Tryz.f284.name,by decide,Tryz.func284.trans (congrArg some (by kernel_rfl))⟩,
 f57:=⟨Tryz.f286.name,by decide,Tryz.func286.trans (congrArg some (by kernel_rfl))⟩,
 t0:=Tryz.underlying0,
 a0:=Tryz.isAgg0,
 z0:=Tryz.sizeOf0,
 v0:=Tryz.zeroValue0,
 t3:=Tryz.underlying3,
 a3:=Tryz.isAgg3,
 z3:=Tryz.sizeOf3,
 v3:=Tryz.zeroValue3,
 t4:=Tryz.underlying4,
 a4:=Tryz.isAgg4,
 z4:=Tryz.sizeOf4,
 v4:=Tryz.zeroValue4,
 t5:=Tryz.underlying5,
 a5:=Tryz.isAgg5,
 z5:=Tryz.sizeOf5,
 v5:=Tryz.zeroValue5,
 t9:=Tryz.underlying9,
 a9:=Tryz.isAgg9,
 z9:=Tryz.sizeOf9,
 v9:=Tryz.zeroValue9,
 t22:=Tryz.underlying145,
 a22:=Tryz.isAgg145,
 z22:=Tryz.sizeOf145,
 v22:=Tryz.zeroValue145,
 t25:=Tryz.underlying244,
 a25:=Tryz.isAgg244,
 z25:=Tryz.sizeOf244,
 v25:=Tryz.zeroValue244,
 t39:=Tryz.underlying103,
 a39:=Tryz.isAgg103,
 z39:=Tryz.sizeOf103,
 v39:=Tryz.zeroValue103,
 t45:=Tryz.underlying255,
 a45:=Tryz.isAgg255,
 z45:=Tryz.sizeOf255,
 v45:=Tryz.zeroValue255,
 t46:=Tryz.underlying256,
 a46:=Tryz.isAgg256,
 z46:=Tryz.sizeOf256,
 v46:=Tryz.zeroValue256,
 t50:=Tryz.underlying260,
 a50:=Tryz.isAgg260,
 z50:=Tryz.sizeOf260,
 v50:=Tryz.zeroValue260,
 t53:=Tryz.underlying263,
 a53:=Tryz.isAgg263,
 z53:=Tryz.sizeOf263,
 v53:=Tryz.zeroValue263,
 t55:=Tryz.underlying265,
 a55:=Tryz.isAgg265,
 z55:=Tryz.sizeOf265,
 v55:=Tryz.zeroValue265,
 t66:=Tryz.underlying267,
 a66:=Tryz.isAgg267,
 z66:=Tryz.sizeOf267,
 v66:=Tryz.zeroValue267,
 t70:=Tryz.underlying271,
 a70:=Tryz.isAgg271,
 z70:=Tryz.sizeOf271,
 v70:=Tryz.zeroValue271,
 t76:=Tryz.underlying273,
 a76:=Tryz.isAgg273,
 z76:=Tryz.sizeOf273,
 v76:=Tryz.zeroValue273,
 t77:=Tryz.underlying111,
 a77:=Tryz.isAgg111,
 z77:=Tryz.sizeOf111,
 v77:=Tryz.zeroValue111 }
end YtodhafdaelcnlaaGreat
end Go.Proofs
namespace Go.Proofs.YtodhafdaelcnlaaGreat
open Go Go.E Go.RowKit
instance:Inhabited Oc:=⟨⟨0,⟨#[]⟩⟩⟩
def lu (x:Oc):List Value:=[.int .i64 x.Pos,.string x.Name]
theorem UK (blk off size:Nat)(w:World):CmpLays Tryz.prog 241 #[] lu 2 jj blk off size w:=λ_ _ _ _ x y=>
 Calls.mono (UN x y _) λe w' ⟨v,h1,_,h2,h3⟩=>⟨by rw[h1,h2],h3⟩
theorem Fq:ltOf jj=fD:=by funext x y;exact UL x y
def nk (l:List Oc):List Oc:=l.mergeSort λx y=>!fD y x
theorem JJ {S1:Nat->Prop}{w:World}{x:Oc}{c:List Value}(h:A.rd1 S1 w (Oc.D x) c):c=lu x/\∀ (S2:Nat->Prop) (w2:World),A.rd1 S2 w2 (Oc.D x) c:=by
 have h' : A.rdCs S1 w [.i .i64 x.Pos,.s x.Name] c:=h;simp only[A.rdCs,A.rdC] at h';obtain⟨v,r,rfl,⟨rfl,h1⟩,v2,r2,rfl,⟨rfl,h2⟩,rfl⟩:=h';refine⟨rfl,λS2 w2=>?_⟩;show A.rdCs S2 w2 [.i .i64 x.Pos,.s x.Name] _;simp only[A.rdCs,A.rdC];exact⟨_,_,rfl,⟨rfl,h1⟩,_,_,rfl,⟨rfl,h2⟩,rfl⟩
theorem UJ {m:A.Md}{a0:List Oc}(hbig:a0.length<4611686018427387904):A.Ok Tryz.prog 240 [.ref 0 none,.fn 241 []] [.row m 2 (a0.map Oc.D)] (.tu []) [.row m 2 ((nk a0).map Oc.D)]:=by
 have eg:∀ args w,(callFunc 241 args).run Tryz.prog w=.ok (.enter 241 args) w:=enters_of Tryz.func241 (by kernel_rfl) rfl;refine A.sortOk (enc:=lu) (λh=>(JJ h).1) (λh=>(JJ h).2 _ _) (λ_=>rfl) (λl=>List.length_mergeSort l) (λl y hy=>List.mem_mergeSort.1 hy) (λA0 c w=>?_) (λg cap d w hH hblk hbig=>?_) hbig;have hc:=AnyF.slices_SortFunc_none JK A0 c (.func (.func 241) #[] #[]) w;change Calls Tryz.prog 240 _ _ _ at hc;exact hc;have hc:=AnyQ.slices_SortFunc_total JK 2 Tryz.isAgg155 Tryz.sizeOf155 lu (λ_=>rfl) (λx v hv=>by simp[lu] at hv;rcases hv with rfl|rfl<;>rfl) jj (by rw[Fq];exact bZ) 241 #[] g 0 cap d w eg (UK _ _ _ _) hH hblk hbig (by rw[Fq];exact BH);change Calls Tryz.prog 240 _ _ _ at hc;rw[Fq] at hc;exact hc
end Go.Proofs.YtodhafdaelcnlaaGreat
