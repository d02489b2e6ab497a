/- What the helpers of the laws do (sizes, copies, tests, marks): each lemma bears its conditions in its statement. -/
import Derived.Test.YtmblndlpkpaobaaGreatRows
import Derived.Test.YtmblndlpkpaobaaGreatEngD
import Derived.Test.YtmblndlpkpaobaaGreatLift
set_option linter.unusedVariables false
set_option linter.unusedSimpArgs false
set_option linter.ambiguousOpen false
set_option linter.unusedSectionVars false
set_option linter.unnecessarySimpa false
set_option linter.unusedVariables false
set_option linter.unusedSimpArgs false
set_option maxRecDepth 100000
set_option maxHeartbeats 1000000
namespace Go.Proofs.YtmblndlpkpaobaaGreat
open Go Go.E
open Go.E.Rep (rd)
open Go.E.Sep (own)
theorem ag22:aggT Tryz.prog 22=some false:=by kernel_rfl
theorem ag68:aggT Tryz.prog 68=some true:=by kernel_rfl
theorem ag71:aggT Tryz.prog 71=some false:=by kernel_rfl
theorem ag73:aggT Tryz.prog 73=some true:=by kernel_rfl
theorem ag125:aggT Tryz.prog 125=some true:=by kernel_rfl
theorem ag127:aggT Tryz.prog 127=some true:=by kernel_rfl
theorem ag130:aggT Tryz.prog 130=some true:=by kernel_rfl
theorem ag132:aggT Tryz.prog 132=some true:=by kernel_rfl
theorem ag135:aggT Tryz.prog 135=some true:=by kernel_rfl
theorem sz4:szT Tryz.prog 4=some 1:=by kernel_rfl
theorem sz28:szT Tryz.prog 28=some 1:=by kernel_rfl
theorem sz29:szT Tryz.prog 29=some 1:=by kernel_rfl
theorem sz37:szT Tryz.prog 37=some 1:=by kernel_rfl
theorem sz43:szT Tryz.prog 43=some 1:=by kernel_rfl
theorem sz44:szT Tryz.prog 44=some 1:=by kernel_rfl
theorem sz45:szT Tryz.prog 45=some 1:=by kernel_rfl
theorem sz68:szT Tryz.prog 68=some 2:=by kernel_rfl
theorem sz73:szT Tryz.prog 73=some 6:=by kernel_rfl
theorem sz125:szT Tryz.prog 125=some 4:=by kernel_rfl
theorem sz127:szT Tryz.prog 127=some 2:=by kernel_rfl
theorem sz130:szT Tryz.prog 130=some 7:=by kernel_rfl
theorem sz132:szT Tryz.prog 132=some 9:=by kernel_rfl
theorem sz135:szT Tryz.prog 135=some 16:=by kernel_rfl
theorem by39:byT Tryz.prog 39=some 40:=by kernel_rfl
theorem by47:byT Tryz.prog 47=some 112:=by kernel_rfl
theorem by60:byT Tryz.prog 60=some 112:=by kernel_rfl
theorem by111:byT Tryz.prog 111=some 208:=by kernel_rfl
theorem ze31:zeroT Tryz.prog 31=some [.slice none 0 0,.slice none 0 0]:=by kernel_rfl
theorem el22:elemT Tryz.prog 22=some 68:=by kernel_rfl
theorem el23:elemT Tryz.prog 23=some 73:=by kernel_rfl
theorem el66:elemT Tryz.prog 66=some 125:=by kernel_rfl
theorem el70:elemT Tryz.prog 70=some 132:=by kernel_rfl
theorem el71:elemT Tryz.prog 71=some 135:=by kernel_rfl
theorem el128:elemT Tryz.prog 128=some 130:=by kernel_rfl
theorem ok9:q0a Tryz.prog 9=true:=by kernel_rfl
theorem ok10:q0a Tryz.prog 10=true:=by kernel_rfl
theorem ok13:q0a Tryz.prog 13=true:=by kernel_rfl
theorem ok14:q0a Tryz.prog 14=true:=by kernel_rfl
theorem ok22:q0a Tryz.prog 22=true:=by kernel_rfl
theorem ok23:q0a Tryz.prog 23=true:=by kernel_rfl
theorem ok24:q0a Tryz.prog 24=true:=by kernel_rfl
theorem ok25:q0a Tryz.prog 25=true:=by kernel_rfl
theorem ok31:q0a Tryz.prog 31=true:=by kernel_rfl
theorem ok32:q0a Tryz.prog 32=true:=by kernel_rfl
theorem ok48:q0a Tryz.prog 48=true:=by kernel_rfl
theorem ok49:q0a Tryz.prog 49=true:=by kernel_rfl
theorem ok50:q0a Tryz.prog 50=true:=by kernel_rfl
theorem ok51:q0a Tryz.prog 51=true:=by kernel_rfl
theorem ok52:q0a Tryz.prog 52=true:=by kernel_rfl
theorem ok53:q0a Tryz.prog 53=true:=by kernel_rfl
theorem ok63:q0a Tryz.prog 63=true:=by kernel_rfl
theorem ok64:q0a Tryz.prog 64=true:=by kernel_rfl
theorem ok65:q0a Tryz.prog 65=true:=by kernel_rfl
theorem ok66:q0a Tryz.prog 66=true:=by kernel_rfl
theorem ok85:q0a Tryz.prog 85=true:=by kernel_rfl
theorem ok86:q0a Tryz.prog 86=true:=by kernel_rfl
theorem ok87:q0a Tryz.prog 87=true:=by kernel_rfl
theorem ok88:q0a Tryz.prog 88=true:=by kernel_rfl
theorem ok89:q0a Tryz.prog 89=true:=by kernel_rfl
theorem ok90:q0a Tryz.prog 90=true:=by kernel_rfl
theorem ok91:q0a Tryz.prog 91=true:=by kernel_rfl
theorem ok100:q0a Tryz.prog 100=true:=by kernel_rfl
theorem ok101:q0a Tryz.prog 101=true:=by kernel_rfl
theorem ok102:q0a Tryz.prog 102=true:=by kernel_rfl
theorem ok116:q0a Tryz.prog 116=true:=by kernel_rfl
theorem ok117:q0a Tryz.prog 117=true:=by kernel_rfl
theorem ok118:q0a Tryz.prog 118=true:=by kernel_rfl
theorem ok119:q0a Tryz.prog 119=true:=by kernel_rfl
theorem ok120:q0a Tryz.prog 120=true:=by kernel_rfl
theorem ok132:q0a Tryz.prog 132=true:=by kernel_rfl
theorem ok133:q0a Tryz.prog 133=true:=by kernel_rfl
theorem ok152:q0a Tryz.prog 152=true:=by kernel_rfl
theorem ok153:q0a Tryz.prog 153=true:=by kernel_rfl
theorem ok154:q0a Tryz.prog 154=true:=by kernel_rfl
theorem ok164:q0a Tryz.prog 164=true:=by kernel_rfl
theorem ok182:q0a Tryz.prog 182=true:=by kernel_rfl
theorem z1F (w:World){S:Nat→Prop}(x:Attribute){cs:List Value}(hx:rd S w x cs)(left:Int)(h0:0≤left)(h1:left≤1048576):Ret Tryz.prog 89 #[.agg cs.toArray,.int .i64 left] w (fun _=>False) fun v _=>∃ r,v = .int .i64 r∧(((Sz.szd x:Nat):Int)≤left∧r=left - (Sz.szd x:Nat)∨left < (Sz.szd x:Nat)∧r = -1):=by
 refine (En Tryz.func89) ?_
 have hK1:=hx
 obtain⟨rfl,hr1,hr2,hr3⟩:=hx
 have hsz:=q7U x
 refine R ?_
 refine WL.box rfl rfl rfl rfl rfl fun b1 w1 hEb1 hbb1 hBb1=>(A) (Z (R ((V) ((D 0) ((LD hBb1) ?_)))))
 refine WL.ev rfl rfl (Ev.lenB rfl Tryz.underlying9 rfl) ((BO) ((A) (Z (Y (R ((V) ((B) (Z ?_))))))))
 refine CW.condD rfl (fun h1=>?_) (fun h1=>?_)
 ·refine R ((A) (Z (CR ?_)))
  refine⟨_,res1 rfl rfl rfl,hEb1,_,rfl,?_⟩
  try simp only [szfold] at *
  first | omega | (right; exact⟨by omega,by first | rfl | trivial⟩)
 ·refine K (R ((V) ((A) (Z (CR ?_)))))
  refine⟨_,res1 rfl rfl rfl,hEb1,_,rfl,?_⟩
  try simp only [szfold] at *
  first | omega | (right; exact⟨by omega,by first | rfl | trivial⟩)
theorem z0V (w:World){S:Nat→Prop}(x:List Attribute){z:Value}(hx:rdS S w x z)(left:Int)(h0:0≤left)(h1:left≤1048576):Ret Tryz.prog 50 #[z,.int .i64 left] w (fun _=>False) fun v _=>∃ r,v = .int .i64 r∧(((Sz.szd x:Nat):Int)≤left∧r=left - (Sz.szd x:Nat)∨left < (Sz.szd x:Nat)∧r = -1):=by
 refine (En Tryz.func50) ?_
 obtain⟨A1,c1,rfl,hc1,hm1⟩:=hx.form
 have hl1:x.length≤9223372036854775807:=Nat.le_trans hc1 hm1
 have hsz:Sz.szd x=szL x:=rfl
 have hlen:=q0O x
 refine R ((A) (Z (R ((V) ((V) ((NS) ((BO) ((A) (Z (Y (R ((V) ((B) (Z ?_))))))))))))))
 refine CW.condD rfl (fun h1=>?_) (fun h1=>?_)
 ·refine R ((A) (Z (CR ?_)))
  refine⟨_,res1 rfl rfl rfl,(Ext.refl _),_,rfl,?_⟩
  try have hall:=q1A (x:=x) (k:=k) (by omega)
  try simp only [szfold] at *
  first | omega | (right; exact⟨by omega,by first | rfl | trivial⟩)
 ·refine K (Y (R ((A) (Z ?_))))
  refine CW.block (CW.loop (α:=Nat × Int) (fun q=>[(0,.slice A1 x.length c1),(1,.int .i64 q.2),(5,.int .i64 (q.1:Int))]) (fun q wr=>Ext w wr∧q.1≤x.length∧0≤q.2∧q.2+x.length+szL (x.take q.1)=left+q.1) (fun q=>x.length - q.1) (0,left - x.length) ⟨rfl,rfl,rfl,trivial⟩ ⟨Ext.refl _,by simp,by simp only; omega,by simp [szL]⟩ ?_)
  rintro⟨k,l⟩ σ wr1 ⟨hEwr1,hk,hl0,hle⟩
  simp only at hk hl0 hle
  have hmn0:=q0L x k
  refine Y (R ((V) ((V) ((NS) ((B) (Z ?_))))))
  refine CW.condD rfl (fun h2=>?_) (fun h2=>?_)
  ·refine K (Y ?_)
   refine CW.block (R ((V) ((V) ?_)))
   obtain⟨xe1,be1,oe1,cse1,hxe1,hAe1,hSe1,hre1,hAte1⟩:=rdS.el hx (i:=k) (by omega)
   have hK1:=hre1
   obtain⟨rfl,hr1,hr2,hr3⟩:=hre1
   refine WL.ev rfl rfl (Ev.ixA rfl el66 sz125 rfl hAe1 rfl (by omega)) ?_
   refine WL.ev rfl rfl (Ev.lda rfl ag125 sz125 rfl (hAte1.ext hEwr1) rfl) ((V) ?_)
   refine WL.call rfl rfl rfl rfl rfl ok89 rfl (z1F _ xe1 (rd_ext hK1 hEwr1) _ (by omega) (by omega)) ?_
   rintro _ w1 hEw1 ⟨r1,rfl,hr4⟩
   have hq1:=q7U xe1
   refine (A) (Z (R ((V) ((B) (Z ?_)))))
   refine CW.condD rfl (fun h3=>?_) (fun h3=>?_)
   ·refine R ((A) (Z (CR ?_)))
    refine⟨_,res1 rfl rfl rfl,(hEwr1.trans hEw1),_,rfl,?_⟩
    have htk:=q1g hxe1
    have hmn:=q0L x (k+1)
    try simp only [szfold] at *
    first | omega | (right; exact⟨by omega,by first | rfl | trivial⟩)
   ·refine K (X ((V) ((BO) ((A) (Z ?_)))))
    have htk:=q1g hxe1
    have hmn:=q0L x (k+1)
    exact⟨(k+1,r1),⟨rfl,rfl,rfl,trivial⟩,⟨(hEwr1.trans hEw1),by simp only; omega,by simp only; omega,by simp only; omega⟩,by simp only; omega⟩
  ·refine CE (R ((V) ((A) (Z (CR ?_)))))
   refine⟨_,res1 rfl rfl rfl,hEwr1,_,rfl,?_⟩
   try have hall:=q1A (x:=x) (k:=k) (by omega)
   try simp only [szfold] at *
   first | omega | (right; exact⟨by omega,by first | rfl | trivial⟩)
theorem z4i (w:World){S:Nat→Prop}(x:Symbol){cs:List Value}(hx:rd S w x cs)(left:Int)(h0:0≤left)(h1:left≤1048576):Ret Tryz.prog 24 #[.agg cs.toArray,.int .i64 left] w (fun _=>False) fun v _=>∃ r,v = .int .i64 r∧(((Sz.szd x:Nat):Int)≤left∧r=left - (Sz.szd x:Nat)∨left < (Sz.szd x:Nat)∧r = -1):=by
 refine (En Tryz.func24) ?_
 have hK1:=hx
 obtain⟨v1,rfl,hr1,hs1⟩:=hx
 obtain⟨A1,c1,rfl,hc1,hm1⟩:=hs1.form
 have hsz:=q9e x
 refine R ?_
 refine WL.box rfl rfl rfl rfl rfl fun b1 w1 hEb1 hbb1 hBb1=>(A) (Z (R ((V) ((D 0) ((LD hBb1) ?_)))))
 refine WL.ev rfl rfl (Ev.lenB rfl Tryz.underlying9 rfl) ((BO) ((A) (Z (Y (R ((V) ((B) (Z ?_))))))))
 refine CW.condD rfl (fun h1=>?_) (fun h1=>?_)
 ·refine R ((A) (Z (CR ?_)))
  refine⟨_,res1 rfl rfl rfl,hEb1,_,rfl,?_⟩
  try simp only [szfold] at *
  first | omega | (right; exact⟨by omega,by first | rfl | trivial⟩)
 ·refine K (R ((D 1) ((LD hBb1) ((V) ?_))))
  refine WL.call rfl rfl rfl rfl rfl ok50 rfl (z0V _ x.Attributes (hs1.ext hEb1) _ (by omega) (by omega)) ?_
  rintro _ w2 hEw2 ⟨r1,rfl,hr2⟩
  have hq1:=szfold x.Attributes
  refine (A) (Z (Y (R ((V) ((B) (Z ?_))))))
  refine CW.condD rfl (fun h2=>?_) (fun h2=>?_)
  ·refine R ((A) (Z (CR ?_)))
   refine⟨_,res1 rfl rfl rfl,(hEb1.trans hEw2),_,rfl,?_⟩
   try simp only [szfold] at *
   first | omega | (right; exact⟨by omega,by first | rfl | trivial⟩)
  ·refine K (R ((V) ((A) (Z (CR ?_)))))
   refine⟨_,res1 rfl rfl rfl,(hEb1.trans hEw2),_,rfl,?_⟩
   try simp only [szfold] at *
   first | omega | (right; exact⟨by omega,by first | rfl | trivial⟩)
theorem z3n (w:World){S:Nat→Prop}(x:List Symbol){z:Value}(hx:rdS S w x z)(left:Int)(h0:0≤left)(h1:left≤1048576):Ret Tryz.prog 9 #[z,.int .i64 left] w (fun _=>False) fun v _=>∃ r,v = .int .i64 r∧(((Sz.szd x:Nat):Int)≤left∧r=left - (Sz.szd x:Nat)∨left < (Sz.szd x:Nat)∧r = -1):=by
 refine (En Tryz.func9) ?_
 obtain⟨A1,c1,rfl,hc1,hm1⟩:=hx.form
 have hl1:x.length≤9223372036854775807:=Nat.le_trans hc1 hm1
 have hsz:Sz.szd x=szL x:=rfl
 have hlen:=q0O x
 refine R ((A) (Z (R ((V) ((V) ((NS) ((BO) ((A) (Z (Y (R ((V) ((B) (Z ?_))))))))))))))
 refine CW.condD rfl (fun h1=>?_) (fun h1=>?_)
 ·refine R ((A) (Z (CR ?_)))
  refine⟨_,res1 rfl rfl rfl,(Ext.refl _),_,rfl,?_⟩
  try have hall:=q1A (x:=x) (k:=k) (by omega)
  try simp only [szfold] at *
  first | omega | (right; exact⟨by omega,by first | rfl | trivial⟩)
 ·refine K (Y (R ((A) (Z ?_))))
  refine CW.block (CW.loop (α:=Nat × Int) (fun q=>[(0,.slice A1 x.length c1),(1,.int .i64 q.2),(5,.int .i64 (q.1:Int))]) (fun q wr=>Ext w wr∧q.1≤x.length∧0≤q.2∧q.2+x.length+szL (x.take q.1)=left+q.1) (fun q=>x.length - q.1) (0,left - x.length) ⟨rfl,rfl,rfl,trivial⟩ ⟨Ext.refl _,by simp,by simp only; omega,by simp [szL]⟩ ?_)
  rintro⟨k,l⟩ σ wr1 ⟨hEwr1,hk,hl0,hle⟩
  simp only at hk hl0 hle
  have hmn0:=q0L x k
  refine Y (R ((V) ((V) ((NS) ((B) (Z ?_))))))
  refine CW.condD rfl (fun h2=>?_) (fun h2=>?_)
  ·refine K (Y ?_)
   refine CW.block (R ((V) ((V) ?_)))
   obtain⟨xe1,be1,oe1,cse1,hxe1,hAe1,hSe1,hre1,hAte1⟩:=rdS.el hx (i:=k) (by omega)
   have hK1:=hre1
   obtain⟨v1,rfl,hr1,hs1⟩:=hre1
   obtain⟨A2,c2,rfl,hc2,hm2⟩:=hs1.form
   refine WL.ev rfl rfl (Ev.ixA rfl el22 sz68 rfl hAe1 rfl (by omega)) ?_
   refine WL.ev rfl rfl (Ev.lda rfl ag68 sz68 rfl (hAte1.ext hEwr1) rfl) ((V) ?_)
   refine WL.call rfl rfl rfl rfl rfl ok24 rfl (z4i _ xe1 (rd_ext hK1 hEwr1) _ (by omega) (by omega)) ?_
   rintro _ w1 hEw1 ⟨r1,rfl,hr2⟩
   have hq1:=q9e xe1
   refine (A) (Z (R ((V) ((B) (Z ?_)))))
   refine CW.condD rfl (fun h3=>?_) (fun h3=>?_)
   ·refine R ((A) (Z (CR ?_)))
    refine⟨_,res1 rfl rfl rfl,(hEwr1.trans hEw1),_,rfl,?_⟩
    have htk:=q1g hxe1
    have hmn:=q0L x (k+1)
    try simp only [szfold] at *
    first | omega | (right; exact⟨by omega,by first | rfl | trivial⟩)
   ·refine K (X ((V) ((BO) ((A) (Z ?_)))))
    have htk:=q1g hxe1
    have hmn:=q0L x (k+1)
    exact⟨(k+1,r1),⟨rfl,rfl,rfl,trivial⟩,⟨(hEwr1.trans hEw1),by simp only; omega,by simp only; omega,by simp only; omega⟩,by simp only; omega⟩
  ·refine CE (R ((V) ((A) (Z (CR ?_)))))
   refine⟨_,res1 rfl rfl rfl,hEwr1,_,rfl,?_⟩
   try have hall:=q1A (x:=x) (k:=k) (by omega)
   try simp only [szfold] at *
   first | omega | (right; exact⟨by omega,by first | rfl | trivial⟩)
theorem z3o (w:World){S:Nat→Prop}(x:List ByteArray){z:Value}(hx:rdS S w x z)(left:Int)(h0:0≤left)(h1:left≤1048576):Ret Tryz.prog 51 #[z,.int .i64 left] w (fun _=>False) fun v _=>∃ r,v = .int .i64 r∧(((Sz.szd x:Nat):Int)≤left∧r=left - (Sz.szd x:Nat)∨left < (Sz.szd x:Nat)∧r = -1):=by
 refine (En Tryz.func51) ?_
 obtain⟨A1,c1,rfl,hc1,hm1⟩:=hx.form
 have hl1:x.length≤9223372036854775807:=Nat.le_trans hc1 hm1
 have hsz:Sz.szd x=szL x:=rfl
 have hlen:=q0O x
 refine R ((A) (Z (R ((V) ((V) ((NS) ((BO) ((A) (Z (Y (R ((V) ((B) (Z ?_))))))))))))))
 refine CW.condD rfl (fun h1=>?_) (fun h1=>?_)
 ·refine R ((A) (Z (CR ?_)))
  refine⟨_,res1 rfl rfl rfl,(Ext.refl _),_,rfl,?_⟩
  try have hall:=q1A (x:=x) (k:=k) (by omega)
  try simp only [szfold] at *
  first | omega | (right; exact⟨by omega,by first | rfl | trivial⟩)
 ·refine K (Y (R ((A) (Z ?_))))
  refine CW.block (CW.loop (α:=Nat × Int) (fun q=>[(0,.slice A1 x.length c1),(1,.int .i64 q.2),(5,.int .i64 (q.1:Int))]) (fun q wr=>Ext w wr∧q.1≤x.length∧0≤q.2∧q.2+x.length+szL (x.take q.1)=left+q.1) (fun q=>x.length - q.1) (0,left - x.length) ⟨rfl,rfl,rfl,trivial⟩ ⟨Ext.refl _,by simp,by simp only; omega,by simp [szL]⟩ ?_)
  rintro⟨k,l⟩ σ wr1 ⟨hEwr1,hk,hl0,hle⟩
  simp only at hk hl0 hle
  have hmn0:=q0L x k
  refine Y (R ((V) ((V) ((NS) ((B) (Z ?_))))))
  refine CW.condD rfl (fun h2=>?_) (fun h2=>?_)
  ·refine K (Y ?_)
   refine CW.block (R ((V) ((V) ((V) ?_))))
   obtain⟨xe1,be1,oe1,cse1,hxe1,hAe1,hSe1,hre1,hAte1⟩:=rdS.el hx (i:=k) (by omega)
   have hK1:=hre1
   obtain⟨rfl,hr1⟩:=hre1
   refine WL.ev rfl rfl (Ev.ixA rfl el43 sz9 rfl hAe1 rfl (by omega)) ?_
   refine WL.ev rfl rfl (Ev.ld rfl ag9 rfl ((hAte1.ext hEwr1).cell0 rfl)) ?_
   refine WL.ev rfl rfl (Ev.lenB rfl Tryz.underlying9 rfl) ((BO) ((A) (Z (R ((V) ((B) (Z ?_)))))))
   refine CW.condD rfl (fun h3=>?_) (fun h3=>?_)
   ·refine R ((A) (Z (CR ?_)))
    refine⟨_,res1 rfl rfl rfl,hEwr1,_,rfl,?_⟩
    have htk:=q1g hxe1
    have hmn:=q0L x (k+1)
    have hsd:Sz.szd xe1=xe1.size:=rfl
    try simp only [szfold] at *
    first | omega | (right; exact⟨by omega,by first | rfl | trivial⟩)
   ·refine K (X ((V) ((BO) ((A) (Z ?_)))))
    have htk:=q1g hxe1
    have hmn:=q0L x (k+1)
    have hsd:Sz.szd xe1=xe1.size:=rfl
    exact⟨(k+1,l - xe1.size),⟨rfl,rfl,rfl,trivial⟩,⟨hEwr1,by simp only; omega,by simp only; omega,by simp only; omega⟩,by simp only; omega⟩
  ·refine CE (R ((V) ((A) (Z (CR ?_)))))
   refine⟨_,res1 rfl rfl rfl,hEwr1,_,rfl,?_⟩
   try have hall:=q1A (x:=x) (k:=k) (by omega)
   try simp only [szfold] at *
   first | omega | (right; exact⟨by omega,by first | rfl | trivial⟩)
theorem z0W (w:World){S:Nat→Prop}(x:Occurrence){cs:List Value}(hx:rd S w x cs)(left:Int)(h0:0≤left)(h1:left≤1048576):Ret Tryz.prog 119 #[.agg cs.toArray,.int .i64 left] w (fun _=>False) fun v _=>∃ r,v = .int .i64 r∧(((Sz.szd x:Nat):Int)≤left∧r=left - (Sz.szd x:Nat)∨left < (Sz.szd x:Nat)∧r = -1):=by
 refine (En Tryz.func119) ?_
 have hK1:=hx
 obtain⟨rfl,hr1,hr2⟩:=hx
 have hsz:=q4K x
 refine R ?_
 refine WL.box rfl rfl rfl rfl rfl fun b1 w1 hEb1 hbb1 hBb1=>(A) (Z (R ((V) ((D 1) ((LD hBb1) ?_)))))
 refine WL.ev rfl rfl (Ev.lenB rfl Tryz.underlying9 rfl) ((BO) ((A) (Z (Y (R ((V) ((B) (Z ?_))))))))
 refine CW.condD rfl (fun h1=>?_) (fun h1=>?_)
 ·refine R ((A) (Z (CR ?_)))
  refine⟨_,res1 rfl rfl rfl,hEb1,_,rfl,?_⟩
  try simp only [szfold] at *
  first | omega | (right; exact⟨by omega,by first | rfl | trivial⟩)
 ·refine K (R ((V) ((A) (Z (CR ?_)))))
  refine⟨_,res1 rfl rfl rfl,hEb1,_,rfl,?_⟩
  try simp only [szfold] at *
  first | omega | (right; exact⟨by omega,by first | rfl | trivial⟩)
theorem z4U (w:World){S:Nat→Prop}(x:List Expr){z:Value}(hx:rdS S w x z)(left:Int)(h0:0≤left)(h1:left≤1048576)(ih:∀ x0∈x,∀ (w:World){S:Nat→Prop}{cs:List Value}(hx:rd S w x0 cs)(left:Int)(h0:0≤left)(h1:left≤1048576),Ret Tryz.prog 120 #[.agg cs.toArray,.int .i64 left] w (fun _=>False) fun v _=>∃ r,v = .int .i64 r∧(((Sz.szd x0:Nat):Int)≤left∧r=left - (Sz.szd x0:Nat)∨left < (Sz.szd x0:Nat)∧r = -1)):Ret Tryz.prog 154 #[z,.int .i64 left] w (fun _=>False) fun v _=>∃ r,v = .int .i64 r∧(((Sz.szd x:Nat):Int)≤left∧r=left - (Sz.szd x:Nat)∨left < (Sz.szd x:Nat)∧r = -1):=by
 refine (En Tryz.func154) ?_
 obtain⟨A1,c1,rfl,hc1,hm1⟩:=hx.form
 have hl1:x.length≤9223372036854775807:=Nat.le_trans hc1 hm1
 have hsz:Sz.szd x=szL x:=rfl
 have hlen:=q0O x
 refine R ((A) (Z (R ((V) ((V) ((NS) ((BO) ((A) (Z (Y (R ((V) ((B) (Z ?_))))))))))))))
 refine CW.condD rfl (fun h1=>?_) (fun h1=>?_)
 ·refine R ((A) (Z (CR ?_)))
  refine⟨_,res1 rfl rfl rfl,(Ext.refl _),_,rfl,?_⟩
  try have hall:=q1A (x:=x) (k:=k) (by omega)
  try simp only [szfold] at *
  first | omega | (right; exact⟨by omega,by first | rfl | trivial⟩)
 ·refine K (Y (R ((A) (Z ?_))))
  refine CW.block (CW.loop (α:=Nat × Int) (fun q=>[(0,.slice A1 x.length c1),(1,.int .i64 q.2),(5,.int .i64 (q.1:Int))]) (fun q wr=>Ext w wr∧q.1≤x.length∧0≤q.2∧q.2+x.length+szL (x.take q.1)=left+q.1) (fun q=>x.length - q.1) (0,left - x.length) ⟨rfl,rfl,rfl,trivial⟩ ⟨Ext.refl _,by simp,by simp only; omega,by simp [szL]⟩ ?_)
  rintro⟨k,l⟩ σ wr1 ⟨hEwr1,hk,hl0,hle⟩
  simp only at hk hl0 hle
  have hmn0:=q0L x k
  refine Y (R ((V) ((V) ((NS) ((B) (Z ?_))))))
  refine CW.condD rfl (fun h2=>?_) (fun h2=>?_)
  ·refine K (Y ?_)
   refine CW.block (R ((V) ((V) ?_)))
   obtain⟨xe1,be1,oe1,cse1,hxe1,hAe1,hSe1,hre1,hAte1⟩:=rdS.el hx (i:=k) (by omega)
   have hK1:=hre1
   obtain⟨v1,rfl,hr1,hr2,hr3,hr4,hr5,hr6,hs1⟩:=q0b.1 hre1
   obtain⟨A2,c2,rfl,hc2,hm2⟩:=hs1.form
   refine WL.ev rfl rfl (Ev.ixA rfl el128 sz130 rfl hAe1 rfl (by omega)) ?_
   refine WL.ev rfl rfl (Ev.lda rfl ag130 sz130 rfl (hAte1.ext hEwr1) rfl) ((V) ?_)
   refine WL.call rfl rfl rfl rfl rfl ok120 rfl (ih xe1 (List.mem_of_getElem? hxe1) _ (rd_ext hK1 hEwr1) _ (by omega) (by omega)) ?_
   rintro _ w1 hEw1 ⟨r1,rfl,hr7⟩
   have hq1:=q2L xe1
   refine (A) (Z (R ((V) ((B) (Z ?_)))))
   refine CW.condD rfl (fun h3=>?_) (fun h3=>?_)
   ·refine R ((A) (Z (CR ?_)))
    refine⟨_,res1 rfl rfl rfl,(hEwr1.trans hEw1),_,rfl,?_⟩
    have htk:=q1g hxe1
    have hmn:=q0L x (k+1)
    try simp only [szfold] at *
    first | omega | (right; exact⟨by omega,by first | rfl | trivial⟩)
   ·refine K (X ((V) ((BO) ((A) (Z ?_)))))
    have htk:=q1g hxe1
    have hmn:=q0L x (k+1)
    exact⟨(k+1,r1),⟨rfl,rfl,rfl,trivial⟩,⟨(hEwr1.trans hEw1),by simp only; omega,by simp only; omega,by simp only; omega⟩,by simp only; omega⟩
  ·refine CE (R ((V) ((A) (Z (CR ?_)))))
   refine⟨_,res1 rfl rfl rfl,hEwr1,_,rfl,?_⟩
   try have hall:=q1A (x:=x) (k:=k) (by omega)
   try simp only [szfold] at *
   first | omega | (right; exact⟨by omega,by first | rfl | trivial⟩)
theorem z5P (w:World){S:Nat→Prop}(x:Expr){cs:List Value}(hx:rd S w x cs)(left:Int)(h0:0≤left)(h1:left≤1048576)(ih:∀ x0∈x.Args,∀ (w:World){S:Nat→Prop}{cs:List Value}(hx:rd S w x0 cs)(left:Int)(h0:0≤left)(h1:left≤1048576),Ret Tryz.prog 120 #[.agg cs.toArray,.int .i64 left] w (fun _=>False) fun v _=>∃ r,v = .int .i64 r∧(((Sz.szd x0:Nat):Int)≤left∧r=left - (Sz.szd x0:Nat)∨left < (Sz.szd x0:Nat)∧r = -1)):Ret Tryz.prog 120 #[.agg cs.toArray,.int .i64 left] w (fun _=>False) fun v _=>∃ r,v = .int .i64 r∧(((Sz.szd x:Nat):Int)≤left∧r=left - (Sz.szd x:Nat)∨left < (Sz.szd x:Nat)∧r = -1):=by
 refine (En Tryz.func120) ?_
 have hK1:=hx
 obtain⟨v1,rfl,hr1,hr2,hr3,hr4,hr5,hr6,hs1⟩:=q0b.1 hx
 obtain⟨A1,c1,rfl,hc1,hm1⟩:=hs1.form
 have hsz:=q2L x
 refine R ?_
 refine WL.box rfl rfl rfl rfl rfl fun b1 w1 hEb1 hbb1 hBb1=>(A) (Z (R ((V) ((D 4) ((LD hBb1) ?_)))))
 refine WL.ev rfl rfl (Ev.lenB rfl Tryz.underlying9 rfl) ((BO) ((A) (Z (Y (R ((V) ((B) (Z ?_))))))))
 refine CW.condD rfl (fun h1=>?_) (fun h1=>?_)
 ·refine R ((A) (Z (CR ?_)))
  refine⟨_,res1 rfl rfl rfl,hEb1,_,rfl,?_⟩
  try simp only [szfold] at *
  first | omega | (right; exact⟨by omega,by first | rfl | trivial⟩)
 ·refine K (R ((V) ((D 5) ((LD hBb1) ?_))))
  refine WL.ev rfl rfl (Ev.lenB rfl Tryz.underlying9 rfl) ((BO) ((A) (Z (Y (R ((V) ((B) (Z ?_))))))))
  refine CW.condD rfl (fun h2=>?_) (fun h2=>?_)
  ·refine R ((A) (Z (CR ?_)))
   refine⟨_,res1 rfl rfl rfl,hEb1,_,rfl,?_⟩
   try simp only [szfold] at *
   first | omega | (right; exact⟨by omega,by first | rfl | trivial⟩)
  ·refine K (R ((D 6) ((LD hBb1) ((V) ?_))))
   refine WL.call rfl rfl rfl rfl rfl ok154 rfl (z4U _ x.Args (hs1.ext hEb1) _ (by omega) (by omega) ih) ?_
   rintro _ w2 hEw2 ⟨r1,rfl,hr7⟩
   have hq1:=szfold x.Args
   refine (A) (Z (Y (R ((V) ((B) (Z ?_))))))
   refine CW.condD rfl (fun h3=>?_) (fun h3=>?_)
   ·refine R ((A) (Z (CR ?_)))
    refine⟨_,res1 rfl rfl rfl,(hEb1.trans hEw2),_,rfl,?_⟩
    try simp only [szfold] at *
    first | omega | (right; exact⟨by omega,by first | rfl | trivial⟩)
   ·refine K (R ((V) ((A) (Z (CR ?_)))))
    refine⟨_,res1 rfl rfl rfl,(hEb1.trans hEw2),_,rfl,?_⟩
    try simp only [szfold] at *
    first | omega | (right; exact⟨by omega,by first | rfl | trivial⟩)
theorem q9N (w:World){S:Nat→Prop}(x:Expr){cs:List Value}(hx:rd S w x cs)(left:Int)(h0:0≤left)(h1:left≤1048576) :
    Ret Tryz.prog 120 #[.agg cs.toArray,.int .i64 left] w (fun _=>False) fun v _=>∃ r,v = .int .i64 r∧(((Sz.szd x:Nat):Int)≤left∧r=left - (Sz.szd x:Nat)∨left < (Sz.szd x:Nat)∧r = -1):=
  z3L (P:=fun x=>∀ (w:World) {S:Nat→Prop} {cs:List Value} (hx:rd S w x cs) (left:Int) (h0:0≤left) (h1:left≤1048576),Ret Tryz.prog 120 #[.agg cs.toArray,.int .i64 left] w (fun _=>False) fun v _=>∃ r,v = .int .i64 r∧(((Sz.szd x:Nat):Int)≤left∧r=left - (Sz.szd x:Nat)∨left < (Sz.szd x:Nat)∧r = -1)) (fun x ih=>by intros; exact z5P _ x (by assumption) _ (by assumption) (by assumption) ih) x w hx left h0 h1

theorem z2I (w:World){S:Nat→Prop}(x:Equation){cs:List Value}(hx:rd S w x cs)(left:Int)(h0:0≤left)(h1:left≤1048576):Ret Tryz.prog 90 #[.agg cs.toArray,.int .i64 left] w (fun _=>False) fun v _=>∃ r,v = .int .i64 r∧(((Sz.szd x:Nat):Int)≤left∧r=left - (Sz.szd x:Nat)∨left < (Sz.szd x:Nat)∧r = -1):=by
 refine (En Tryz.func90) ?_
 have hK1:=hx
 obtain⟨v1,rfl,hr1,hr2,hr3,hr4,hr5,hr6,hr7,hr8,hs1⟩:=hx
 obtain⟨A1,c1,rfl,hc1,hm1⟩:=hs1.form
 have hsz:=q7f x
 refine R ?_
 refine WL.box rfl rfl rfl rfl rfl fun b1 w1 hEb1 hbb1 hBb1=>(A) (Z (R ((D 0) ?_)))
 refine WL.ev rfl rfl (Ev.lda rfl ag127 sz127 rfl (Blk.part hBb1 0 2) rfl) ((V) ?_)
 refine WL.call rfl rfl rfl rfl rfl ok119 rfl (z0W _ x.At (rd_ext (q5P hK1) hEb1) _ (by omega) (by omega)) ?_
 rintro _ w2 hEw2 ⟨r1,rfl,hr9⟩
 have hq1:=q4K x.At
 refine (A) (Z (Y (R ((V) ((B) (Z ?_))))))
 refine CW.condD rfl (fun h1=>?_) (fun h1=>?_)
 ·refine R ((A) (Z (CR ?_)))
  refine⟨_,res1 rfl rfl rfl,(hEb1.trans hEw2),_,rfl,?_⟩
  try simp only [szfold] at *
  first | omega | (right; exact⟨by omega,by first | rfl | trivial⟩)
 ·refine K (R ((D 2) ?_))
  refine WL.ev rfl rfl (Ev.lda rfl ag130 sz130 rfl (Blk.part (hBb1.ext hEw2) 2 7) rfl) ((V) ?_)
  refine WL.call rfl rfl rfl rfl rfl ok120 rfl (q9N _ x.Expr (rd_ext (q4U hK1) (hEb1.trans hEw2)) _ (by omega) (by omega)) ?_
  rintro _ w3 hEw3 ⟨r2,rfl,hr10⟩
  have hq2:=q2L x.Expr
  refine (A) (Z (Y (R ((V) ((B) (Z ?_))))))
  refine CW.condD rfl (fun h2=>?_) (fun h2=>?_)
  ·refine R ((A) (Z (CR ?_)))
   refine⟨_,res1 rfl rfl rfl,((hEb1.trans hEw2).trans hEw3),_,rfl,?_⟩
   try simp only [szfold] at *
   first | omega | (right; exact⟨by omega,by first | rfl | trivial⟩)
  ·refine K (R ((V) ((A) (Z (CR ?_)))))
   refine⟨_,res1 rfl rfl rfl,((hEb1.trans hEw2).trans hEw3),_,rfl,?_⟩
   try simp only [szfold] at *
   first | omega | (right; exact⟨by omega,by first | rfl | trivial⟩)
theorem z1G (w:World){S:Nat→Prop}(x:List Equation){z:Value}(hx:rdS S w x z)(left:Int)(h0:0≤left)(h1:left≤1048576):Ret Tryz.prog 52 #[z,.int .i64 left] w (fun _=>False) fun v _=>∃ r,v = .int .i64 r∧(((Sz.szd x:Nat):Int)≤left∧r=left - (Sz.szd x:Nat)∨left < (Sz.szd x:Nat)∧r = -1):=by
 refine (En Tryz.func52) ?_
 obtain⟨A1,c1,rfl,hc1,hm1⟩:=hx.form
 have hl1:x.length≤9223372036854775807:=Nat.le_trans hc1 hm1
 have hsz:Sz.szd x=szL x:=rfl
 have hlen:=q0O x
 refine R ((A) (Z (R ((V) ((V) ((NS) ((BO) ((A) (Z (Y (R ((V) ((B) (Z ?_))))))))))))))
 refine CW.condD rfl (fun h1=>?_) (fun h1=>?_)
 ·refine R ((A) (Z (CR ?_)))
  refine⟨_,res1 rfl rfl rfl,(Ext.refl _),_,rfl,?_⟩
  try have hall:=q1A (x:=x) (k:=k) (by omega)
  try simp only [szfold] at *
  first | omega | (right; exact⟨by omega,by first | rfl | trivial⟩)
 ·refine K (Y (R ((A) (Z ?_))))
  refine CW.block (CW.loop (α:=Nat × Int) (fun q=>[(0,.slice A1 x.length c1),(1,.int .i64 q.2),(5,.int .i64 (q.1:Int))]) (fun q wr=>Ext w wr∧q.1≤x.length∧0≤q.2∧q.2+x.length+szL (x.take q.1)=left+q.1) (fun q=>x.length - q.1) (0,left - x.length) ⟨rfl,rfl,rfl,trivial⟩ ⟨Ext.refl _,by simp,by simp only; omega,by simp [szL]⟩ ?_)
  rintro⟨k,l⟩ σ wr1 ⟨hEwr1,hk,hl0,hle⟩
  simp only at hk hl0 hle
  have hmn0:=q0L x k
  refine Y (R ((V) ((V) ((NS) ((B) (Z ?_))))))
  refine CW.condD rfl (fun h2=>?_) (fun h2=>?_)
  ·refine K (Y ?_)
   refine CW.block (R ((V) ((V) ?_)))
   obtain⟨xe1,be1,oe1,cse1,hxe1,hAe1,hSe1,hre1,hAte1⟩:=rdS.el hx (i:=k) (by omega)
   have hK1:=hre1
   obtain⟨v1,rfl,hr1,hr2,hr3,hr4,hr5,hr6,hr7,hr8,hs1⟩:=hre1
   obtain⟨A2,c2,rfl,hc2,hm2⟩:=hs1.form
   refine WL.ev rfl rfl (Ev.ixA rfl el70 sz132 rfl hAe1 rfl (by omega)) ?_
   refine WL.ev rfl rfl (Ev.lda rfl ag132 sz132 rfl (hAte1.ext hEwr1) rfl) ((V) ?_)
   refine WL.call rfl rfl rfl rfl rfl ok90 rfl (z2I _ xe1 (rd_ext hK1 hEwr1) _ (by omega) (by omega)) ?_
   rintro _ w1 hEw1 ⟨r1,rfl,hr9⟩
   have hq1:=q7f xe1
   refine (A) (Z (R ((V) ((B) (Z ?_)))))
   refine CW.condD rfl (fun h3=>?_) (fun h3=>?_)
   ·refine R ((A) (Z (CR ?_)))
    refine⟨_,res1 rfl rfl rfl,(hEwr1.trans hEw1),_,rfl,?_⟩
    have htk:=q1g hxe1
    have hmn:=q0L x (k+1)
    try simp only [szfold] at *
    first | omega | (right; exact⟨by omega,by first | rfl | trivial⟩)
   ·refine K (X ((V) ((BO) ((A) (Z ?_)))))
    have htk:=q1g hxe1
    have hmn:=q0L x (k+1)
    exact⟨(k+1,r1),⟨rfl,rfl,rfl,trivial⟩,⟨(hEwr1.trans hEw1),by simp only; omega,by simp only; omega,by simp only; omega⟩,by simp only; omega⟩
  ·refine CE (R ((V) ((A) (Z (CR ?_)))))
   refine⟨_,res1 rfl rfl rfl,hEwr1,_,rfl,?_⟩
   try have hall:=q1A (x:=x) (k:=k) (by omega)
   try simp only [szfold] at *
   first | omega | (right; exact⟨by omega,by first | rfl | trivial⟩)
theorem q9O (w:World){S:Nat→Prop}(x:Contribution){cs:List Value}(hx:rd S w x cs)(left:Int)(h0:0≤left)(h1:left≤1048576):Ret Tryz.prog 91 #[.agg cs.toArray,.int .i64 left] w (fun _=>False) fun v _=>∃ r,v = .int .i64 r∧(((Sz.szd x:Nat):Int)≤left∧r=left - (Sz.szd x:Nat)∨left < (Sz.szd x:Nat)∧r = -1):=by
 refine (En Tryz.func91) ?_
 have hK1:=hx
 obtain⟨v1,v2,rfl,hr1,hr2,hr3,hr4,hr5,hr6,hr7,hr8,hr9,hr10,hr11,hr12,hr13,hr14,hs1,hs2⟩:=hx
 obtain⟨A1,c1,rfl,hc1,hm1⟩:=hs1.form
 obtain⟨A2,c2,rfl,hc2,hm2⟩:=hs2.form
 have hsz:=q4V x
 refine R ?_
 refine WL.box rfl rfl rfl rfl rfl fun b1 w1 hEb1 hbb1 hBb1=>(A) (Z (R ((V) ((D 0) ((LD hBb1) ?_)))))
 refine WL.ev rfl rfl (Ev.lenB rfl Tryz.underlying9 rfl) ((BO) ((A) (Z (Y (R ((V) ((B) (Z ?_))))))))
 refine CW.condD rfl (fun h1=>?_) (fun h1=>?_)
 ·refine R ((A) (Z (CR ?_)))
  refine⟨_,res1 rfl rfl rfl,hEb1,_,rfl,?_⟩
  try simp only [szfold] at *
  first | omega | (right; exact⟨by omega,by first | rfl | trivial⟩)
 ·refine K (R ((V) ((D 1) ((LD hBb1) ?_))))
  refine WL.ev rfl rfl (Ev.lenB rfl Tryz.underlying9 rfl) ((BO) ((A) (Z (Y (R ((V) ((B) (Z ?_))))))))
  refine CW.condD rfl (fun h2=>?_) (fun h2=>?_)
  ·refine R ((A) (Z (CR ?_)))
   refine⟨_,res1 rfl rfl rfl,hEb1,_,rfl,?_⟩
   try simp only [szfold] at *
   first | omega | (right; exact⟨by omega,by first | rfl | trivial⟩)
  ·refine K (R ((D 2) ?_))
   refine WL.ev rfl rfl (Ev.lda rfl ag130 sz130 rfl (Blk.part hBb1 2 7) rfl) ((V) ?_)
   refine WL.call rfl rfl rfl rfl rfl ok120 rfl (q9N _ x.Target (rd_ext (q3c hK1) hEb1) _ (by omega) (by omega)) ?_
   rintro _ w2 hEw2 ⟨r1,rfl,hr15⟩
   have hq1:=q2L x.Target
   refine (A) (Z (Y (R ((V) ((B) (Z ?_))))))
   refine CW.condD rfl (fun h3=>?_) (fun h3=>?_)
   ·refine R ((A) (Z (CR ?_)))
    refine⟨_,res1 rfl rfl rfl,(hEb1.trans hEw2),_,rfl,?_⟩
    try simp only [szfold] at *
    first | omega | (right; exact⟨by omega,by first | rfl | trivial⟩)
   ·refine K (R ((D 9) ?_))
    refine WL.ev rfl rfl (Ev.lda rfl ag130 sz130 rfl (Blk.part (hBb1.ext hEw2) 9 7) rfl) ((V) ?_)
    refine WL.call rfl rfl rfl rfl rfl ok120 rfl (q9N _ x.Value (rd_ext (q3l hK1) (hEb1.trans hEw2)) _ (by omega) (by omega)) ?_
    rintro _ w3 hEw3 ⟨r2,rfl,hr16⟩
    have hq2:=q2L x.Value
    refine (A) (Z (Y (R ((V) ((B) (Z ?_))))))
    refine CW.condD rfl (fun h4=>?_) (fun h4=>?_)
    ·refine R ((A) (Z (CR ?_)))
     refine⟨_,res1 rfl rfl rfl,((hEb1.trans hEw2).trans hEw3),_,rfl,?_⟩
     try simp only [szfold] at *
     first | omega | (right; exact⟨by omega,by first | rfl | trivial⟩)
    ·refine K (R ((V) ((A) (Z (CR ?_)))))
     refine⟨_,res1 rfl rfl rfl,((hEb1.trans hEw2).trans hEw3),_,rfl,?_⟩
     try simp only [szfold] at *
     first | omega | (right; exact⟨by omega,by first | rfl | trivial⟩)
theorem q9t (w:World){S:Nat→Prop}(x:List Contribution){z:Value}(hx:rdS S w x z)(left:Int)(h0:0≤left)(h1:left≤1048576):Ret Tryz.prog 53 #[z,.int .i64 left] w (fun _=>False) fun v _=>∃ r,v = .int .i64 r∧(((Sz.szd x:Nat):Int)≤left∧r=left - (Sz.szd x:Nat)∨left < (Sz.szd x:Nat)∧r = -1):=by
 refine (En Tryz.func53) ?_
 obtain⟨A1,c1,rfl,hc1,hm1⟩:=hx.form
 have hl1:x.length≤9223372036854775807:=Nat.le_trans hc1 hm1
 have hsz:Sz.szd x=szL x:=rfl
 have hlen:=q0O x
 refine R ((A) (Z (R ((V) ((V) ((NS) ((BO) ((A) (Z (Y (R ((V) ((B) (Z ?_))))))))))))))
 refine CW.condD rfl (fun h1=>?_) (fun h1=>?_)
 ·refine R ((A) (Z (CR ?_)))
  refine⟨_,res1 rfl rfl rfl,(Ext.refl _),_,rfl,?_⟩
  try have hall:=q1A (x:=x) (k:=k) (by omega)
  try simp only [szfold] at *
  first | omega | (right; exact⟨by omega,by first | rfl | trivial⟩)
 ·refine K (Y (R ((A) (Z ?_))))
  refine CW.block (CW.loop (α:=Nat × Int) (fun q=>[(0,.slice A1 x.length c1),(1,.int .i64 q.2),(5,.int .i64 (q.1:Int))]) (fun q wr=>Ext w wr∧q.1≤x.length∧0≤q.2∧q.2+x.length+szL (x.take q.1)=left+q.1) (fun q=>x.length - q.1) (0,left - x.length) ⟨rfl,rfl,rfl,trivial⟩ ⟨Ext.refl _,by simp,by simp only; omega,by simp [szL]⟩ ?_)
  rintro⟨k,l⟩ σ wr1 ⟨hEwr1,hk,hl0,hle⟩
  simp only at hk hl0 hle
  have hmn0:=q0L x k
  refine Y (R ((V) ((V) ((NS) ((B) (Z ?_))))))
  refine CW.condD rfl (fun h2=>?_) (fun h2=>?_)
  ·refine K (Y ?_)
   refine CW.block (R ((V) ((V) ?_)))
   obtain⟨xe1,be1,oe1,cse1,hxe1,hAe1,hSe1,hre1,hAte1⟩:=rdS.el hx (i:=k) (by omega)
   have hK1:=hre1
   obtain⟨v1,v2,rfl,hr1,hr2,hr3,hr4,hr5,hr6,hr7,hr8,hr9,hr10,hr11,hr12,hr13,hr14,hs1,hs2⟩:=hre1
   obtain⟨A2,c2,rfl,hc2,hm2⟩:=hs1.form
   obtain⟨A3,c3,rfl,hc3,hm3⟩:=hs2.form
   refine WL.ev rfl rfl (Ev.ixA rfl el71 sz135 rfl hAe1 rfl (by omega)) ?_
   refine WL.ev rfl rfl (Ev.lda rfl ag135 sz135 rfl (hAte1.ext hEwr1) rfl) ((V) ?_)
   refine WL.call rfl rfl rfl rfl rfl ok91 rfl (q9O _ xe1 (rd_ext hK1 hEwr1) _ (by omega) (by omega)) ?_
   rintro _ w1 hEw1 ⟨r1,rfl,hr15⟩
   have hq1:=q4V xe1
   refine (A) (Z (R ((V) ((B) (Z ?_)))))
   refine CW.condD rfl (fun h3=>?_) (fun h3=>?_)
   ·refine R ((A) (Z (CR ?_)))
    refine⟨_,res1 rfl rfl rfl,(hEwr1.trans hEw1),_,rfl,?_⟩
    have htk:=q1g hxe1
    have hmn:=q0L x (k+1)
    try simp only [szfold] at *
    first | omega | (right; exact⟨by omega,by first | rfl | trivial⟩)
   ·refine K (X ((V) ((BO) ((A) (Z ?_)))))
    have htk:=q1g hxe1
    have hmn:=q0L x (k+1)
    exact⟨(k+1,r1),⟨rfl,rfl,rfl,trivial⟩,⟨(hEwr1.trans hEw1),by simp only; omega,by simp only; omega,by simp only; omega⟩,by simp only; omega⟩
  ·refine CE (R ((V) ((A) (Z (CR ?_)))))
   refine⟨_,res1 rfl rfl rfl,hEwr1,_,rfl,?_⟩
   try have hall:=q1A (x:=x) (k:=k) (by omega)
   try simp only [szfold] at *
   first | omega | (right; exact⟨by omega,by first | rfl | trivial⟩)
theorem z5Q (w:World){S:Nat→Prop}(x:Rule){cs:List Value}(hx:rd S w x cs)(left:Int)(h0:0≤left)(h1:left≤1048576):Ret Tryz.prog 25 #[.agg cs.toArray,.int .i64 left] w (fun _=>False) fun v _=>∃ r,v = .int .i64 r∧(((Sz.szd x:Nat):Int)≤left∧r=left - (Sz.szd x:Nat)∨left < (Sz.szd x:Nat)∧r = -1):=by
 refine (En Tryz.func25) ?_
 have hK1:=hx
 obtain⟨v1,v2,v3,rfl,hr1,hr2,hs1,hs2,hs3⟩:=hx
 obtain⟨A1,c1,rfl,hc1,hm1⟩:=hs1.form
 obtain⟨A2,c2,rfl,hc2,hm2⟩:=hs2.form
 obtain⟨A3,c3,rfl,hc3,hm3⟩:=hs3.form
 have hsz:=q7W x
 refine R ?_
 refine WL.box rfl rfl rfl rfl rfl fun b1 w1 hEb1 hbb1 hBb1=>(A) (Z (R ((V) ((D 0) ((LD hBb1) ?_)))))
 refine WL.ev rfl rfl (Ev.lenB rfl Tryz.underlying9 rfl) ((BO) ((A) (Z (Y (R ((V) ((B) (Z ?_))))))))
 refine CW.condD rfl (fun h1=>?_) (fun h1=>?_)
 ·refine R ((A) (Z (CR ?_)))
  refine⟨_,res1 rfl rfl rfl,hEb1,_,rfl,?_⟩
  try simp only [szfold] at *
  first | omega | (right; exact⟨by omega,by first | rfl | trivial⟩)
 ·refine K (R ((V) ((D 1) ((LD hBb1) ?_))))
  refine WL.ev rfl rfl (Ev.lenB rfl Tryz.underlying9 rfl) ((BO) ((A) (Z (Y (R ((V) ((B) (Z ?_))))))))
  refine CW.condD rfl (fun h2=>?_) (fun h2=>?_)
  ·refine R ((A) (Z (CR ?_)))
   refine⟨_,res1 rfl rfl rfl,hEb1,_,rfl,?_⟩
   try simp only [szfold] at *
   first | omega | (right; exact⟨by omega,by first | rfl | trivial⟩)
  ·refine K (R ((D 2) ((LD hBb1) ((V) ?_))))
   refine WL.call rfl rfl rfl rfl rfl ok51 rfl (z3o _ x.Right (hs1.ext hEb1) _ (by omega) (by omega)) ?_
   rintro _ w2 hEw2 ⟨r1,rfl,hr3⟩
   have hq1:=szfold x.Right
   refine (A) (Z (Y (R ((V) ((B) (Z ?_))))))
   refine CW.condD rfl (fun h3=>?_) (fun h3=>?_)
   ·refine R ((A) (Z (CR ?_)))
    refine⟨_,res1 rfl rfl rfl,(hEb1.trans hEw2),_,rfl,?_⟩
    try simp only [szfold] at *
    first | omega | (right; exact⟨by omega,by first | rfl | trivial⟩)
   ·refine K (R ((D 4) ((LD (hBb1.ext hEw2)) ((V) ?_))))
    refine WL.call rfl rfl rfl rfl rfl ok52 rfl (z1G _ x.Equations (hs2.ext (hEb1.trans hEw2)) _ (by omega) (by omega)) ?_
    rintro _ w3 hEw3 ⟨r2,rfl,hr4⟩
    have hq2:=szfold x.Equations
    refine (A) (Z (Y (R ((V) ((B) (Z ?_))))))
    refine CW.condD rfl (fun h4=>?_) (fun h4=>?_)
    ·refine R ((A) (Z (CR ?_)))
     refine⟨_,res1 rfl rfl rfl,((hEb1.trans hEw2).trans hEw3),_,rfl,?_⟩
     try simp only [szfold] at *
     first | omega | (right; exact⟨by omega,by first | rfl | trivial⟩)
    ·refine K (R ((D 5) ?_))
     refine WL.ev rfl rfl (Ev.ld rfl ag71 rfl ((hBb1.ext (hEw2.trans hEw3)).cell rfl)) ((V) ?_)
     refine WL.call rfl rfl rfl rfl rfl ok53 rfl (q9t _ x.Contributions (hs3.ext ((hEb1.trans hEw2).trans hEw3)) _ (by omega) (by omega)) ?_
     rintro _ w4 hEw4 ⟨r3,rfl,hr5⟩
     have hq3:=szfold x.Contributions
     refine (A) (Z (Y (R ((V) ((B) (Z ?_))))))
     refine CW.condD rfl (fun h5=>?_) (fun h5=>?_)
     ·refine R ((A) (Z (CR ?_)))
      refine⟨_,res1 rfl rfl rfl,(((hEb1.trans hEw2).trans hEw3).trans hEw4),_,rfl,?_⟩
      try simp only [szfold] at *
      first | omega | (right; exact⟨by omega,by first | rfl | trivial⟩)
     ·refine K (R ((V) ((A) (Z (CR ?_)))))
      refine⟨_,res1 rfl rfl rfl,(((hEb1.trans hEw2).trans hEw3).trans hEw4),_,rfl,?_⟩
      try simp only [szfold] at *
      first | omega | (right; exact⟨by omega,by first | rfl | trivial⟩)
theorem z4V (w:World){S:Nat→Prop}(x:List Rule){z:Value}(hx:rdS S w x z)(left:Int)(h0:0≤left)(h1:left≤1048576):Ret Tryz.prog 10 #[z,.int .i64 left] w (fun _=>False) fun v _=>∃ r,v = .int .i64 r∧(((Sz.szd x:Nat):Int)≤left∧r=left - (Sz.szd x:Nat)∨left < (Sz.szd x:Nat)∧r = -1):=by
 refine (En Tryz.func10) ?_
 obtain⟨A1,c1,rfl,hc1,hm1⟩:=hx.form
 have hl1:x.length≤9223372036854775807:=Nat.le_trans hc1 hm1
 have hsz:Sz.szd x=szL x:=rfl
 have hlen:=q0O x
 refine R ((A) (Z (R ((V) ((V) ((NS) ((BO) ((A) (Z (Y (R ((V) ((B) (Z ?_))))))))))))))
 refine CW.condD rfl (fun h1=>?_) (fun h1=>?_)
 ·refine R ((A) (Z (CR ?_)))
  refine⟨_,res1 rfl rfl rfl,(Ext.refl _),_,rfl,?_⟩
  try have hall:=q1A (x:=x) (k:=k) (by omega)
  try simp only [szfold] at *
  first | omega | (right; exact⟨by omega,by first | rfl | trivial⟩)
 ·refine K (Y (R ((A) (Z ?_))))
  refine CW.block (CW.loop (α:=Nat × Int) (fun q=>[(0,.slice A1 x.length c1),(1,.int .i64 q.2),(5,.int .i64 (q.1:Int))]) (fun q wr=>Ext w wr∧q.1≤x.length∧0≤q.2∧q.2+x.length+szL (x.take q.1)=left+q.1) (fun q=>x.length - q.1) (0,left - x.length) ⟨rfl,rfl,rfl,trivial⟩ ⟨Ext.refl _,by simp,by simp only; omega,by simp [szL]⟩ ?_)
  rintro⟨k,l⟩ σ wr1 ⟨hEwr1,hk,hl0,hle⟩
  simp only at hk hl0 hle
  have hmn0:=q0L x k
  refine Y (R ((V) ((V) ((NS) ((B) (Z ?_))))))
  refine CW.condD rfl (fun h2=>?_) (fun h2=>?_)
  ·refine K (Y ?_)
   refine CW.block (R ((V) ((V) ?_)))
   obtain⟨xe1,be1,oe1,cse1,hxe1,hAe1,hSe1,hre1,hAte1⟩:=rdS.el hx (i:=k) (by omega)
   have hK1:=hre1
   obtain⟨v1,v2,v3,rfl,hr1,hr2,hs1,hs2,hs3⟩:=hre1
   obtain⟨A2,c2,rfl,hc2,hm2⟩:=hs1.form
   obtain⟨A3,c3,rfl,hc3,hm3⟩:=hs2.form
   obtain⟨A4,c4,rfl,hc4,hm4⟩:=hs3.form
   refine WL.ev rfl rfl (Ev.ixA rfl el23 sz73 rfl hAe1 rfl (by omega)) ?_
   refine WL.ev rfl rfl (Ev.lda rfl ag73 sz73 rfl (hAte1.ext hEwr1) rfl) ((V) ?_)
   refine WL.call rfl rfl rfl rfl rfl ok25 rfl (z5Q _ xe1 (rd_ext hK1 hEwr1) _ (by omega) (by omega)) ?_
   rintro _ w1 hEw1 ⟨r1,rfl,hr3⟩
   have hq1:=q7W xe1
   refine (A) (Z (R ((V) ((B) (Z ?_)))))
   refine CW.condD rfl (fun h3=>?_) (fun h3=>?_)
   ·refine R ((A) (Z (CR ?_)))
    refine⟨_,res1 rfl rfl rfl,(hEwr1.trans hEw1),_,rfl,?_⟩
    have htk:=q1g hxe1
    have hmn:=q0L x (k+1)
    try simp only [szfold] at *
    first | omega | (right; exact⟨by omega,by first | rfl | trivial⟩)
   ·refine K (X ((V) ((BO) ((A) (Z ?_)))))
    have htk:=q1g hxe1
    have hmn:=q0L x (k+1)
    exact⟨(k+1,r1),⟨rfl,rfl,rfl,trivial⟩,⟨(hEwr1.trans hEw1),by simp only; omega,by simp only; omega,by simp only; omega⟩,by simp only; omega⟩
  ·refine CE (R ((V) ((A) (Z (CR ?_)))))
   refine⟨_,res1 rfl rfl rfl,hEwr1,_,rfl,?_⟩
   try have hall:=q1A (x:=x) (k:=k) (by omega)
   try simp only [szfold] at *
   first | omega | (right; exact⟨by omega,by first | rfl | trivial⟩)
theorem z3p (w:World){S:Nat→Prop}(x:Grammar){cs:List Value}(hx:rd S w x cs)(left:Int)(h0:0≤left)(h1:left≤1048576):Ret Tryz.prog 4 #[.agg cs.toArray,.int .i64 left] w (fun _=>False) fun v _=>∃ r,v = .int .i64 r∧(((Sz.szd x:Nat):Int)≤left∧r=left - (Sz.szd x:Nat)∨left < (Sz.szd x:Nat)∧r = -1):=by
 refine (En Tryz.func4) ?_
 have hK1:=hx
 obtain⟨v1,v2,rfl,hs1,hs2⟩:=hx
 obtain⟨A1,c1,rfl,hc1,hm1⟩:=hs1.form
 obtain⟨A2,c2,rfl,hc2,hm2⟩:=hs2.form
 have hsz:=q5e x
 refine R ?_
 refine WL.box rfl rfl rfl rfl rfl fun b1 w1 hEb1 hbb1 hBb1=>(A) (Z (R ((D 0) ((LD hBb1) ((V) ?_)))))
 refine WL.call rfl rfl rfl rfl rfl ok9 rfl (z3n _ x.Symbols (hs1.ext hEb1) _ (by omega) (by omega)) ?_
 rintro _ w2 hEw2 ⟨r1,rfl,hr1⟩
 have hq1:=szfold x.Symbols
 refine (A) (Z (Y (R ((V) ((B) (Z ?_))))))
 refine CW.condD rfl (fun h1=>?_) (fun h1=>?_)
 ·refine R ((A) (Z (CR ?_)))
  refine⟨_,res1 rfl rfl rfl,(hEb1.trans hEw2),_,rfl,?_⟩
  try simp only [szfold] at *
  first | omega | (right; exact⟨by omega,by first | rfl | trivial⟩)
 ·refine K (R ((D 1) ((LD (hBb1.ext hEw2)) ((V) ?_))))
  refine WL.call rfl rfl rfl rfl rfl ok10 rfl (z4V _ x.Rules (hs2.ext (hEb1.trans hEw2)) _ (by omega) (by omega)) ?_
  rintro _ w3 hEw3 ⟨r2,rfl,hr2⟩
  have hq2:=szfold x.Rules
  refine (A) (Z (Y (R ((V) ((B) (Z ?_))))))
  refine CW.condD rfl (fun h2=>?_) (fun h2=>?_)
  ·refine R ((A) (Z (CR ?_)))
   refine⟨_,res1 rfl rfl rfl,((hEb1.trans hEw2).trans hEw3),_,rfl,?_⟩
   try simp only [szfold] at *
   first | omega | (right; exact⟨by omega,by first | rfl | trivial⟩)
  ·refine K (R ((V) ((A) (Z (CR ?_)))))
   refine⟨_,res1 rfl rfl rfl,((hEb1.trans hEw2).trans hEw3),_,rfl,?_⟩
   try simp only [szfold] at *
   first | omega | (right; exact⟨by omega,by first | rfl | trivial⟩)
theorem z1H (w:World){S:Nat→Prop}(x:Attribute){cs:List Value}(hx:rd S w x cs)(hlen:Sz.szd x≤1048576):Ret Tryz.prog 100 #[.agg cs.toArray] w (fun _=>False) fun v w'=>∃ cs,v = .agg cs.toArray∧New w w' x cs:=by
 refine (En Tryz.func100) ?_
 have hK1:=hx
 obtain⟨rfl,hr1,hr2,hr3⟩:=hx
 rw [q7U] at hlen
 refine R ?_
 refine WL.box rfl rfl rfl rfl rfl fun b1 w1 hEb1 hbb1 hBb1=>?_
 refine WL.alloc rfl rfl rfl ze41 fun b2 w2 hEb2 hbb2 hBb2=>Z (R ?_)
 refine WL.alloc rfl rfl rfl ze41 fun b3 w3 hEb3 hbb3 hBb3=>Z (R ((D 0) ?_))
 refine WL.ev rfl rfl (Ev.ld rfl ag9 rfl ((hBb1.ext (hEb2.trans hEb3)).cell rfl)) ((D 0) ?_)
 refine WL.st rfl rfl rfl sz9 rfl rfl rfl rfl (all1 rfl all0) hBb3 (Nat.le_of_ble_eq_true rfl) fun w4 hCw4 hB_1=>?_
 have hB_1:Blk _ _ _ [_,_,_,_]:=hB_1
 have hz1:=hBb3.lt
 have hB_2:=Blk.chg1 (hBb1.ext (hEb2.trans hEb3)) hCw4 (by have:=hBb1.lt; have:=hbb3; have:=hEb2.size; omega)
 have hB_3:=Blk.chg1 (hBb2.ext hEb3) hCw4 (by have:=hBb2.lt; have:=hbb3; omega)
 have hX1:=Ext.chg1 ((hEb1.trans hEb2).trans hEb3) hCw4 (by have:=hbb3; have:=hEb1.size; have:=hEb2.size; omega)
 refine Z ?_
 refine CW.fresh [(1,pB b1),(2,pB b2),(3,pB b3)] ⟨rfl,rfl,rfl,trivial⟩ fun σ=>R ((D 1) ((LD hB_2) ((D 1) ?_)))
 refine WL.st rfl rfl rfl sz3 rfl rfl rfl rfl (all1 rfl all0) hB_1 (Nat.le_of_ble_eq_true rfl) fun w5 hCw5 hB_4=>?_
 have hB_4:Blk _ _ _ [_,_,_,_]:=hB_4
 have hz2:=hB_1.lt
 have hB_5:=Blk.chg1 hB_2 hCw5 (by have:=hBb1.lt; have:=hbb3; have:=hEb2.size; omega)
 have hB_6:=Blk.chg1 hB_3 hCw5 (by have:=hBb2.lt; have:=hbb3; omega)
 have hX2:=Ext.chg1 hX1 hCw5 (by have:=hbb3; have:=hEb1.size; have:=hEb2.size; omega)
 refine Z ?_
 refine CW.fresh [(1,pB b1),(2,pB b2),(3,pB b3)] ⟨rfl,rfl,rfl,trivial⟩ fun σ=>R ((D 2) ((LD hB_5) ((D 2) ?_)))
 refine WL.st rfl rfl rfl sz3 rfl rfl rfl rfl (all1 rfl all0) hB_4 (Nat.le_of_ble_eq_true rfl) fun w6 hCw6 hB_7=>?_
 have hB_7:Blk _ _ _ [_,_,_,_]:=hB_7
 have hz3:=hB_4.lt
 have hB_8:=Blk.chg1 hB_5 hCw6 (by have:=hBb1.lt; have:=hbb3; have:=hEb2.size; omega)
 have hB_9:=Blk.chg1 hB_6 hCw6 (by have:=hBb2.lt; have:=hbb3; omega)
 have hX3:=Ext.chg1 hX2 hCw6 (by have:=hbb3; have:=hEb1.size; have:=hEb2.size; omega)
 refine Z ?_
 refine CW.fresh [(1,pB b1),(2,pB b2),(3,pB b3)] ⟨rfl,rfl,rfl,trivial⟩ fun σ=>R ((D 3) ((LD hB_8) ((D 3) ?_)))
 refine WL.st rfl rfl rfl sz4 rfl rfl rfl rfl (all1 rfl all0) hB_7 (Nat.le_of_ble_eq_true rfl) fun w7 hCw7 hB_10=>?_
 have hB_10:Blk _ _ _ [_,_,_,_]:=hB_10
 have hz4:=hB_7.lt
 have hB_11:=Blk.chg1 hB_8 hCw7 (by have:=hBb1.lt; have:=hbb3; have:=hEb2.size; omega)
 have hB_12:=Blk.chg1 hB_9 hCw7 (by have:=hBb2.lt; have:=hbb3; omega)
 have hX4:=Ext.chg1 hX3 hCw7 (by have:=hbb3; have:=hEb1.size; have:=hEb2.size; omega)
 refine Z ?_
 refine CW.fresh [(2,pB b2),(3,pB b3)] ⟨rfl,rfl,trivial⟩ fun σ=>R ?_
 refine WL.ev rfl rfl (Ev.lda rfl ag41 sz41 rfl (At.blk hB_10) rfl) ?_
 refine WL.st rfl rfl rfl sz41 rfl rfl rfl rfl (all1 rfl (all1 rfl (all1 rfl (all1 rfl all0)))) hB_12 (Nat.le_of_ble_eq_true rfl) fun w8 hCw8 hB_13=>?_
 have hB_13:Blk _ _ _ [_,_,_,_]:=hB_13
 have hz5:=hB_12.lt
 have hB_14:=Blk.chg1 hB_11 hCw8 (by have:=hBb1.lt; have:=hbb2; omega)
 have hB_15:=Blk.chg1 hB_10 hCw8 (by have:=hBb2.lt; have:=hbb3; omega)
 have hX5:=Ext.chg1 hX4 hCw8 (by have:=hbb2; have:=hEb1.size; omega)
 refine Z (CR ?_)
 exact⟨_,resC rfl ag41 sz41 rfl rfl (At.blk hB_13) rfl,hX5,_,rfl,_,⟨rfl,by first | assumption | omega,by first | assumption | omega,by first | assumption | omega,rfl⟩,List.nodup_nil,by simp⟩
theorem z0X (w:World){S:Nat→Prop}(x:List Attribute){z:Value}(hx:rdS S w x z)(hlen:szL x≤1048576):Ret Tryz.prog 63 #[z] w (fun _=>False) fun v w'=>NewS w w' x v:=by
 refine (En Tryz.func63) ?_
 obtain⟨A1,c1,rfl,hc1,hm1⟩:=hx.form
 have hl1:x.length≤9223372036854775807:=Nat.le_trans hc1 hm1
 have hln:=q0O x
 refine R ((A) (Z (R ((V) ((NS) ?_)))))
 refine WL.mk rfl rfl rfl el37 sz41 by41 ze41 rfl rfl rfl (by omega) (by omega) fun g w1 hE1 hg hBg=>(A) (Z (Y (R ((A) (Z ?_)))))
 refine CW.block (CW.loop (α:=Nat × List Value × List Nat) (fun q=>[(0,.slice A1 x.length c1),(3,.slice (some ⟨g,0,none⟩) x.length x.length),(4,.int .i64 (q.1:Int))]) (fun q wr=>Ext w wr∧ToInv wr g 41 [.string ⟨#[]⟩,.int .i64 0,.int .i64 0,.bool false] x q.1 q.2.1 q.2.2) (fun q=>x.length - q.1) (0,[],[]) ⟨rfl,rfl,rfl,trivial⟩ ⟨hE1,ToInv.init hBg⟩ ?_)
 rintro⟨k,cs,L⟩ σ wr1 ⟨hEwr1,hI⟩
 simp only at hI
 have hk:=hI.le
 refine Y (R ((V) ((V) ((NS) ((B) (Z ?_))))))
 refine CW.condD rfl (fun h1=>?_) (fun h1=>?_)
 ·refine K (Y ?_)
  refine CW.block (X ((V) ((V) ((V) ((V) ?_)))))
  obtain⟨xe1,be1,oe1,cse1,hxe1,hAe1,hSe1,hre1,hAte1⟩:=rdS.el hx (i:=k) (by omega)
  have hK1:=hre1
  obtain⟨rfl,hr1,hr2,hr3⟩:=hre1
  refine WL.ev rfl rfl (Ev.ixA rfl el66 sz125 rfl hAe1 rfl (by omega)) (WL.ev rfl rfl (Ev.lda rfl ag125 sz125 rfl (hAte1.ext hEwr1) rfl) ?_)
  refine WL.call rfl rfl rfl rfl rfl ok100 rfl (z1H _ xe1 (rd_ext hK1 hEwr1) (by have:=z0G hxe1; (try simp only [szfold] at *); omega)) ?_
  rintro _ w1 hEw1 ⟨cs1,rfl,L1,hO1,hN1,hF1⟩
  refine WL.ev rfl rfl (Ev.ix rfl el37 sz41 rfl rfl (by omega)) ?_
  refine WL.stTo rfl rfl rfl sz41 rfl rfl rfl (hI.ext hEw1) hxe1 hO1 hN1 (hI.fresh hF1) rfl fun w2 hCw2 hI2=>?_
  have hX1:=Ext.chg1 (hEwr1.trans hEw1) hCw2 (by have:=hE1.size; omega)
  refine Z (X ((V) ((BO) ((A) (Z ?_)))))
  exact⟨(k+1,_,_),⟨rfl,rfl,rfl,trivial⟩,⟨hX1,hI2⟩,by simp only; omega⟩
 ·refine CE (R ((V) ((A) (Z (CR ?_)))))
  exact⟨_,res1 rfl rfl rfl,hEwr1,hI.new (by omega) (by unfold maxLen; omega) hg⟩
theorem z4j (w:World){S:Nat→Prop}(x:Symbol){cs:List Value}(hx:rd S w x cs)(hlen:Sz.szd x≤1048576):Ret Tryz.prog 31 #[.agg cs.toArray] w (fun _=>False) fun v w'=>∃ cs,v = .agg cs.toArray∧New w w' x cs:=by
 refine (En Tryz.func31) ?_
 have hK1:=hx
 obtain⟨v1,rfl,hr1,hs1⟩:=hx
 obtain⟨A1,c1,rfl,hc1,hm1⟩:=hs1.form
 rw [q9e] at hlen
 refine R ?_
 refine WL.box rfl rfl rfl rfl rfl fun b1 w1 hEb1 hbb1 hBb1=>?_
 refine WL.alloc rfl rfl rfl ze39 fun b2 w2 hEb2 hbb2 hBb2=>Z (R ?_)
 refine WL.alloc rfl rfl rfl ze39 fun b3 w3 hEb3 hbb3 hBb3=>Z (R ((D 0) ?_))
 refine WL.ev rfl rfl (Ev.ld rfl ag9 rfl ((hBb1.ext (hEb2.trans hEb3)).cell rfl)) ((D 0) ?_)
 refine WL.st rfl rfl rfl sz9 rfl rfl rfl rfl (all1 rfl all0) hBb3 (Nat.le_of_ble_eq_true rfl) fun w4 hCw4 hB_1=>?_
 have hB_1:Blk _ _ _ [_,_]:=hB_1
 have hz1:=hBb3.lt
 have hB_2:=Blk.chg1 (hBb1.ext (hEb2.trans hEb3)) hCw4 (by have:=hBb1.lt; have:=hbb3; have:=hEb2.size; omega)
 have hB_3:=Blk.chg1 (hBb2.ext hEb3) hCw4 (by have:=hBb2.lt; have:=hbb3; omega)
 have hX1:=Ext.chg1 ((hEb1.trans hEb2).trans hEb3) hCw4 (by have:=hbb3; have:=hEb1.size; have:=hEb2.size; omega)
 refine Z ?_
 refine CW.fresh [(1,pB b1),(2,pB b2),(3,pB b3)] ⟨rfl,rfl,rfl,trivial⟩ fun σ=>R ((D 1) ((LD hB_2) ?_))
 refine WL.call rfl rfl rfl rfl rfl ok63 rfl (z0X _ x.Attributes (hs1.ext hX1) (by omega)) ?_
 rintro v2 w5 hEw5 ⟨L1,hO1,hN1,hF1⟩
 obtain⟨A2,c2,rfl,hc2,hm2⟩:=hO1.form
 refine (D 1) ?_
 refine WL.st rfl rfl rfl sz37 rfl rfl rfl rfl (all1 rfl all0) (hB_1.ext hEw5) (Nat.le_of_ble_eq_true rfl) fun w6 hCw6 hB_4=>?_
 have hB_4:Blk _ _ _ [_,_]:=hB_4
 have hz2:=(hB_1.ext hEw5).lt
 have hB_5:=Blk.chg1 (hB_2.ext hEw5) hCw6 (by have:=hBb1.lt; have:=hbb3; have:=hEb2.size; omega)
 have hB_6:=Blk.chg1 (hB_3.ext hEw5) hCw6 (by have:=hBb2.lt; have:=hbb3; omega)
 have hO_1:=ownS.chg1 hO1 hCw6 (fun q hq e=>by subst e; have:=hF1 _ hq; have:=hBb3.lt; have:=hCw4.size; omega)
 have hX2:=Ext.chg1 (hX1.trans hEw5) hCw6 (by have:=hbb3; have:=hEb1.size; have:=hEb2.size; omega)
 refine Z ?_
 refine CW.fresh [(2,pB b2),(3,pB b3)] ⟨rfl,rfl,trivial⟩ fun σ=>R ?_
 refine WL.ev rfl rfl (Ev.lda rfl ag39 sz39 rfl (At.blk hB_4) rfl) ?_
 refine WL.st rfl rfl rfl sz39 rfl rfl rfl rfl (all1 rfl (all1 rfl all0)) hB_6 (Nat.le_of_ble_eq_true rfl) fun w7 hCw7 hB_7=>?_
 have hB_7:Blk _ _ _ [_,_]:=hB_7
 have hz3:=hB_6.lt
 have hB_8:=Blk.chg1 hB_5 hCw7 (by have:=hBb1.lt; have:=hbb2; omega)
 have hB_9:=Blk.chg1 hB_4 hCw7 (by have:=hBb2.lt; have:=hbb3; omega)
 have hO_2:=ownS.chg1 hO_1 hCw7 (fun q hq e=>by subst e; have:=hF1 _ hq; have:=hBb2.lt; have:=hEb3.size; have:=hCw4.size; omega)
 have hX3:=Ext.chg1 hX2 hCw7 (by have:=hbb2; have:=hEb1.size; omega)
 refine Z (CR ?_)
 exact⟨_,resC rfl ag39 sz39 rfl rfl (At.blk hB_7) rfl,hX3,_,rfl,_,⟨_,_,rfl,by first | assumption | omega,rfl,hO_2⟩,hN1,fun q hq=>by first | (have:=hF1 _ hq; have:=hEb1.size; have:=hEb2.size; have:=hEb3.size; have:=hCw4.size; omega)⟩
theorem z3q (w:World){S:Nat→Prop}(x:List Symbol){z:Value}(hx:rdS S w x z)(hlen:szL x≤1048576):Ret Tryz.prog 13 #[z] w (fun _=>False) fun v w'=>NewS w w' x v:=by
 refine (En Tryz.func13) ?_
 obtain⟨A1,c1,rfl,hc1,hm1⟩:=hx.form
 have hl1:x.length≤9223372036854775807:=Nat.le_trans hc1 hm1
 have hln:=q0O x
 refine R ((A) (Z (R ((V) ((NS) ?_)))))
 refine WL.mk rfl rfl rfl el28 sz39 by39 ze39 rfl rfl rfl (by omega) (by omega) fun g w1 hE1 hg hBg=>(A) (Z (Y (R ((A) (Z ?_)))))
 refine CW.block (CW.loop (α:=Nat × List Value × List Nat) (fun q=>[(0,.slice A1 x.length c1),(3,.slice (some ⟨g,0,none⟩) x.length x.length),(4,.int .i64 (q.1:Int))]) (fun q wr=>Ext w wr∧ToInv wr g 39 [.string ⟨#[]⟩,.slice none 0 0] x q.1 q.2.1 q.2.2) (fun q=>x.length - q.1) (0,[],[]) ⟨rfl,rfl,rfl,trivial⟩ ⟨hE1,ToInv.init hBg⟩ ?_)
 rintro⟨k,cs,L⟩ σ wr1 ⟨hEwr1,hI⟩
 simp only at hI
 have hk:=hI.le
 refine Y (R ((V) ((V) ((NS) ((B) (Z ?_))))))
 refine CW.condD rfl (fun h1=>?_) (fun h1=>?_)
 ·refine K (Y ?_)
  refine CW.block (X ((V) ((V) ((V) ((V) ?_)))))
  obtain⟨xe1,be1,oe1,cse1,hxe1,hAe1,hSe1,hre1,hAte1⟩:=rdS.el hx (i:=k) (by omega)
  have hK1:=hre1
  obtain⟨v1,rfl,hr1,hs1⟩:=hre1
  obtain⟨A2,c2,rfl,hc2,hm2⟩:=hs1.form
  refine WL.ev rfl rfl (Ev.ixA rfl el22 sz68 rfl hAe1 rfl (by omega)) (WL.ev rfl rfl (Ev.lda rfl ag68 sz68 rfl (hAte1.ext hEwr1) rfl) ?_)
  refine WL.call rfl rfl rfl rfl rfl ok31 rfl (z4j _ xe1 (rd_ext hK1 hEwr1) (by have:=z0G hxe1; (try simp only [szfold] at *); omega)) ?_
  rintro _ w1 hEw1 ⟨cs1,rfl,L1,hO1,hN1,hF1⟩
  refine WL.ev rfl rfl (Ev.ix rfl el28 sz39 rfl rfl (by omega)) ?_
  refine WL.stTo rfl rfl rfl sz39 rfl rfl rfl (hI.ext hEw1) hxe1 hO1 hN1 (hI.fresh hF1) rfl fun w2 hCw2 hI2=>?_
  have hX1:=Ext.chg1 (hEwr1.trans hEw1) hCw2 (by have:=hE1.size; omega)
  refine Z (X ((V) ((BO) ((A) (Z ?_)))))
  exact⟨(k+1,_,_),⟨rfl,rfl,rfl,trivial⟩,⟨hX1,hI2⟩,by simp only; omega⟩
 ·refine CE (R ((V) ((A) (Z (CR ?_)))))
  exact⟨_,res1 rfl rfl rfl,hEwr1,hI.new (by omega) (by unfold maxLen; omega) hg⟩
theorem z3r (w:World){S:Nat→Prop}(x:List ByteArray){z:Value}(hx:rdS S w x z)(hlen:szL x≤1048576):Ret Tryz.prog 64 #[z] w (fun _=>False) fun v w'=>NewS w w' x v:=by
 refine (En Tryz.func64) ?_
 obtain⟨A1,c1,rfl,hc1,hm1⟩:=hx.form
 have hl1:x.length≤9223372036854775807:=Nat.le_trans hc1 hm1
 have hln:=q0O x
 refine R ((A) (Z (R ((V) ((NS) ?_)))))
 refine WL.mk rfl rfl rfl el43 sz9 by9 ze9 rfl rfl rfl (by omega) (by omega) fun g w1 hE1 hg hBg=>(A) (Z (Y (R ((A) (Z ?_)))))
 refine CW.block (CW.loop (α:=Nat × List Value × List Nat) (fun q=>[(0,.slice A1 x.length c1),(3,.slice (some ⟨g,0,none⟩) x.length x.length),(4,.int .i64 (q.1:Int))]) (fun q wr=>Ext w wr∧ToInv wr g 9 [.string ⟨#[]⟩] x q.1 q.2.1 q.2.2) (fun q=>x.length - q.1) (0,[],[]) ⟨rfl,rfl,rfl,trivial⟩ ⟨hE1,ToInv.init hBg⟩ ?_)
 rintro⟨k,cs,L⟩ σ wr1 ⟨hEwr1,hI⟩
 simp only at hI
 have hk:=hI.le
 refine Y (R ((V) ((V) ((NS) ((B) (Z ?_))))))
 refine CW.condD rfl (fun h1=>?_) (fun h1=>?_)
 ·refine K (Y ?_)
  refine CW.block (X ((V) ((V) ((V) ((V) ?_)))))
  obtain⟨xe1,be1,oe1,cse1,hxe1,hAe1,hSe1,hre1,hAte1⟩:=rdS.el hx (i:=k) (by omega)
  have hK1:=hre1
  obtain⟨rfl,hr1⟩:=hre1
  refine WL.ev rfl rfl (Ev.ixA rfl el43 sz9 rfl hAe1 rfl (by omega)) (WL.ev rfl rfl (Ev.ld rfl ag9 rfl ((hAte1.ext hEwr1).cell0 rfl)) (WL.ev rfl rfl (Ev.ix rfl el43 sz9 rfl rfl (by omega)) ?_))
  refine WL.stTo rfl rfl rfl sz9 rfl rfl rfl hI hxe1 (New.str hr1) List.nodup_nil (by simp) rfl fun w1 hCw1 hI2=>?_
  have hX1:=Ext.chg1 hEwr1 hCw1 (by have:=hE1.size; omega)
  refine Z (X ((V) ((BO) ((A) (Z ?_)))))
  exact⟨(k+1,_,_),⟨rfl,rfl,rfl,trivial⟩,⟨hX1,hI2⟩,by simp only; omega⟩
 ·refine CE (R ((V) ((A) (Z (CR ?_)))))
  exact⟨_,res1 rfl rfl rfl,hEwr1,hI.new (by omega) (by unfold maxLen; omega) hg⟩
theorem z0Y (w:World){S:Nat→Prop}(x:Occurrence){cs:List Value}(hx:rd S w x cs)(hlen:Sz.szd x≤1048576):Ret Tryz.prog 132 #[.agg cs.toArray] w (fun _=>False) fun v w'=>∃ cs,v = .agg cs.toArray∧New w w' x cs:=by
 refine (En Tryz.func132) ?_
 have hK1:=hx
 obtain⟨rfl,hr1,hr2⟩:=hx
 rw [q4K] at hlen
 refine R ?_
 refine WL.box rfl rfl rfl rfl rfl fun b1 w1 hEb1 hbb1 hBb1=>?_
 refine WL.alloc rfl rfl rfl ze55 fun b2 w2 hEb2 hbb2 hBb2=>Z (R ?_)
 refine WL.alloc rfl rfl rfl ze55 fun b3 w3 hEb3 hbb3 hBb3=>Z (R ((D 0) ?_))
 refine WL.ev rfl rfl (Ev.ld rfl ag3 rfl ((hBb1.ext (hEb2.trans hEb3)).cell rfl)) ((D 0) ?_)
 refine WL.st rfl rfl rfl sz3 rfl rfl rfl rfl (all1 rfl all0) hBb3 (Nat.le_of_ble_eq_true rfl) fun w4 hCw4 hB_1=>?_
 have hB_1:Blk _ _ _ [_,_]:=hB_1
 have hz1:=hBb3.lt
 have hB_2:=Blk.chg1 (hBb1.ext (hEb2.trans hEb3)) hCw4 (by have:=hBb1.lt; have:=hbb3; have:=hEb2.size; omega)
 have hB_3:=Blk.chg1 (hBb2.ext hEb3) hCw4 (by have:=hBb2.lt; have:=hbb3; omega)
 have hX1:=Ext.chg1 ((hEb1.trans hEb2).trans hEb3) hCw4 (by have:=hbb3; have:=hEb1.size; have:=hEb2.size; omega)
 refine Z ?_
 refine CW.fresh [(1,pB b1),(2,pB b2),(3,pB b3)] ⟨rfl,rfl,rfl,trivial⟩ fun σ=>R ((D 1) ((LD hB_2) ((D 1) ?_)))
 refine WL.st rfl rfl rfl sz9 rfl rfl rfl rfl (all1 rfl all0) hB_1 (Nat.le_of_ble_eq_true rfl) fun w5 hCw5 hB_4=>?_
 have hB_4:Blk _ _ _ [_,_]:=hB_4
 have hz2:=hB_1.lt
 have hB_5:=Blk.chg1 hB_2 hCw5 (by have:=hBb1.lt; have:=hbb3; have:=hEb2.size; omega)
 have hB_6:=Blk.chg1 hB_3 hCw5 (by have:=hBb2.lt; have:=hbb3; omega)
 have hX2:=Ext.chg1 hX1 hCw5 (by have:=hbb3; have:=hEb1.size; have:=hEb2.size; omega)
 refine Z ?_
 refine CW.fresh [(2,pB b2),(3,pB b3)] ⟨rfl,rfl,trivial⟩ fun σ=>R ?_
 refine WL.ev rfl rfl (Ev.lda rfl ag55 sz55 rfl (At.blk hB_4) rfl) ?_
 refine WL.st rfl rfl rfl sz55 rfl rfl rfl rfl (all1 rfl (all1 rfl all0)) hB_6 (Nat.le_of_ble_eq_true rfl) fun w6 hCw6 hB_7=>?_
 have hB_7:Blk _ _ _ [_,_]:=hB_7
 have hz3:=hB_6.lt
 have hB_8:=Blk.chg1 hB_5 hCw6 (by have:=hBb1.lt; have:=hbb2; omega)
 have hB_9:=Blk.chg1 hB_4 hCw6 (by have:=hBb2.lt; have:=hbb3; omega)
 have hX3:=Ext.chg1 hX2 hCw6 (by have:=hbb2; have:=hEb1.size; omega)
 refine Z (CR ?_)
 exact⟨_,resC rfl ag55 sz55 rfl rfl (At.blk hB_7) rfl,hX3,_,rfl,_,⟨rfl,by first | assumption | omega,by first | assumption | omega,rfl⟩,List.nodup_nil,by simp⟩
theorem z4W (w:World){S:Nat→Prop}(x:List Expr){z:Value}(hx:rdS S w x z)(hlen:szL x≤1048576)(ih:∀ x0∈x,∀ (w:World){S:Nat→Prop}{cs:List Value}(hx:rd S w x0 cs)(hlen:Sz.szd x0≤1048576),Ret Tryz.prog 133 #[.agg cs.toArray] w (fun _=>False) fun v w'=>∃ cs,v = .agg cs.toArray∧New w w' x0 cs):Ret Tryz.prog 164 #[z] w (fun _=>False) fun v w'=>NewS w w' x v:=by
 refine (En Tryz.func164) ?_
 obtain⟨A1,c1,rfl,hc1,hm1⟩:=hx.form
 have hl1:x.length≤9223372036854775807:=Nat.le_trans hc1 hm1
 have hln:=q0O x
 refine R ((A) (Z (R ((V) ((NS) ?_)))))
 refine WL.mk rfl rfl rfl el56 sz58 by58 ze58 rfl rfl rfl (by omega) (by omega) fun g w1 hE1 hg hBg=>(A) (Z (Y (R ((A) (Z ?_)))))
 refine CW.block (CW.loop (α:=Nat × List Value × List Nat) (fun q=>[(0,.slice A1 x.length c1),(3,.slice (some ⟨g,0,none⟩) x.length x.length),(4,.int .i64 (q.1:Int))]) (fun q wr=>Ext w wr∧ToInv wr g 58 [.int .i64 0,.int .i64 0,.int .i64 0,.int .i64 0,.string ⟨#[]⟩,.string ⟨#[]⟩,.slice none 0 0] x q.1 q.2.1 q.2.2) (fun q=>x.length - q.1) (0,[],[]) ⟨rfl,rfl,rfl,trivial⟩ ⟨hE1,ToInv.init hBg⟩ ?_)
 rintro⟨k,cs,L⟩ σ wr1 ⟨hEwr1,hI⟩
 simp only at hI
 have hk:=hI.le
 refine Y (R ((V) ((V) ((NS) ((B) (Z ?_))))))
 refine CW.condD rfl (fun h1=>?_) (fun h1=>?_)
 ·refine K (Y ?_)
  refine CW.block (X ((V) ((V) ((V) ((V) ?_)))))
  obtain⟨xe1,be1,oe1,cse1,hxe1,hAe1,hSe1,hre1,hAte1⟩:=rdS.el hx (i:=k) (by omega)
  have hK1:=hre1
  obtain⟨v1,rfl,hr1,hr2,hr3,hr4,hr5,hr6,hs1⟩:=q0b.1 hre1
  obtain⟨A2,c2,rfl,hc2,hm2⟩:=hs1.form
  refine WL.ev rfl rfl (Ev.ixA rfl el128 sz130 rfl hAe1 rfl (by omega)) (WL.ev rfl rfl (Ev.lda rfl ag130 sz130 rfl (hAte1.ext hEwr1) rfl) ?_)
  refine WL.call rfl rfl rfl rfl rfl ok133 rfl (ih xe1 (List.mem_of_getElem? hxe1) _ (rd_ext hK1 hEwr1) (by have:=z0G hxe1; (try simp only [szfold] at *); omega)) ?_
  rintro _ w1 hEw1 ⟨cs1,rfl,L1,hO1,hN1,hF1⟩
  refine WL.ev rfl rfl (Ev.ix rfl el56 sz58 rfl rfl (by omega)) ?_
  refine WL.stTo rfl rfl rfl sz58 rfl rfl rfl (hI.ext hEw1) hxe1 hO1 hN1 (hI.fresh hF1) rfl fun w2 hCw2 hI2=>?_
  have hX1:=Ext.chg1 (hEwr1.trans hEw1) hCw2 (by have:=hE1.size; omega)
  refine Z (X ((V) ((BO) ((A) (Z ?_)))))
  exact⟨(k+1,_,_),⟨rfl,rfl,rfl,trivial⟩,⟨hX1,hI2⟩,by simp only; omega⟩
 ·refine CE (R ((V) ((A) (Z (CR ?_)))))
  exact⟨_,res1 rfl rfl rfl,hEwr1,hI.new (by omega) (by unfold maxLen; omega) hg⟩
theorem z5R (w:World){S:Nat→Prop}(x:Expr){cs:List Value}(hx:rd S w x cs)(hlen:Sz.szd x≤1048576)(ih:∀ x0∈x.Args,∀ (w:World){S:Nat→Prop}{cs:List Value}(hx:rd S w x0 cs)(hlen:Sz.szd x0≤1048576),Ret Tryz.prog 133 #[.agg cs.toArray] w (fun _=>False) fun v w'=>∃ cs,v = .agg cs.toArray∧New w w' x0 cs):Ret Tryz.prog 133 #[.agg cs.toArray] w (fun _=>False) fun v w'=>∃ cs,v = .agg cs.toArray∧New w w' x cs:=by
 refine (En Tryz.func133) ?_
 have hK1:=hx
 obtain⟨v1,rfl,hr1,hr2,hr3,hr4,hr5,hr6,hs1⟩:=q0b.1 hx
 obtain⟨A1,c1,rfl,hc1,hm1⟩:=hs1.form
 rw [q2L] at hlen
 refine R ?_
 refine WL.box rfl rfl rfl rfl rfl fun b1 w1 hEb1 hbb1 hBb1=>?_
 refine WL.alloc rfl rfl rfl ze58 fun b2 w2 hEb2 hbb2 hBb2=>Z (R ?_)
 refine WL.alloc rfl rfl rfl ze58 fun b3 w3 hEb3 hbb3 hBb3=>Z (R ((D 0) ?_))
 refine WL.ev rfl rfl (Ev.ld rfl ag3 rfl ((hBb1.ext (hEb2.trans hEb3)).cell rfl)) ((D 0) ?_)
 refine WL.st rfl rfl rfl sz3 rfl rfl rfl rfl (all1 rfl all0) hBb3 (Nat.le_of_ble_eq_true rfl) fun w4 hCw4 hB_1=>?_
 have hB_1:Blk _ _ _ [_,_,_,_,_,_,_]:=hB_1
 have hz1:=hBb3.lt
 have hB_2:=Blk.chg1 (hBb1.ext (hEb2.trans hEb3)) hCw4 (by have:=hBb1.lt; have:=hbb3; have:=hEb2.size; omega)
 have hB_3:=Blk.chg1 (hBb2.ext hEb3) hCw4 (by have:=hBb2.lt; have:=hbb3; omega)
 have hX1:=Ext.chg1 ((hEb1.trans hEb2).trans hEb3) hCw4 (by have:=hbb3; have:=hEb1.size; have:=hEb2.size; omega)
 refine Z ?_
 refine CW.fresh [(1,pB b1),(2,pB b2),(3,pB b3)] ⟨rfl,rfl,rfl,trivial⟩ fun σ=>R ((D 1) ((LD hB_2) ((D 1) ?_)))
 refine WL.st rfl rfl rfl sz3 rfl rfl rfl rfl (all1 rfl all0) hB_1 (Nat.le_of_ble_eq_true rfl) fun w5 hCw5 hB_4=>?_
 have hB_4:Blk _ _ _ [_,_,_,_,_,_,_]:=hB_4
 have hz2:=hB_1.lt
 have hB_5:=Blk.chg1 hB_2 hCw5 (by have:=hBb1.lt; have:=hbb3; have:=hEb2.size; omega)
 have hB_6:=Blk.chg1 hB_3 hCw5 (by have:=hBb2.lt; have:=hbb3; omega)
 have hX2:=Ext.chg1 hX1 hCw5 (by have:=hbb3; have:=hEb1.size; have:=hEb2.size; omega)
 refine Z ?_
 refine CW.fresh [(1,pB b1),(2,pB b2),(3,pB b3)] ⟨rfl,rfl,rfl,trivial⟩ fun σ=>R ((D 2) ((LD hB_5) ((D 2) ?_)))
 refine WL.st rfl rfl rfl sz3 rfl rfl rfl rfl (all1 rfl all0) hB_4 (Nat.le_of_ble_eq_true rfl) fun w6 hCw6 hB_7=>?_
 have hB_7:Blk _ _ _ [_,_,_,_,_,_,_]:=hB_7
 have hz3:=hB_4.lt
 have hB_8:=Blk.chg1 hB_5 hCw6 (by have:=hBb1.lt; have:=hbb3; have:=hEb2.size; omega)
 have hB_9:=Blk.chg1 hB_6 hCw6 (by have:=hBb2.lt; have:=hbb3; omega)
 have hX3:=Ext.chg1 hX2 hCw6 (by have:=hbb3; have:=hEb1.size; have:=hEb2.size; omega)
 refine Z ?_
 refine CW.fresh [(1,pB b1),(2,pB b2),(3,pB b3)] ⟨rfl,rfl,rfl,trivial⟩ fun σ=>R ((D 3) ((LD hB_8) ((D 3) ?_)))
 refine WL.st rfl rfl rfl sz3 rfl rfl rfl rfl (all1 rfl all0) hB_7 (Nat.le_of_ble_eq_true rfl) fun w7 hCw7 hB_10=>?_
 have hB_10:Blk _ _ _ [_,_,_,_,_,_,_]:=hB_10
 have hz4:=hB_7.lt
 have hB_11:=Blk.chg1 hB_8 hCw7 (by have:=hBb1.lt; have:=hbb3; have:=hEb2.size; omega)
 have hB_12:=Blk.chg1 hB_9 hCw7 (by have:=hBb2.lt; have:=hbb3; omega)
 have hX4:=Ext.chg1 hX3 hCw7 (by have:=hbb3; have:=hEb1.size; have:=hEb2.size; omega)
 refine Z ?_
 refine CW.fresh [(1,pB b1),(2,pB b2),(3,pB b3)] ⟨rfl,rfl,rfl,trivial⟩ fun σ=>R ((D 4) ((LD hB_11) ((D 4) ?_)))
 refine WL.st rfl rfl rfl sz9 rfl rfl rfl rfl (all1 rfl all0) hB_10 (Nat.le_of_ble_eq_true rfl) fun w8 hCw8 hB_13=>?_
 have hB_13:Blk _ _ _ [_,_,_,_,_,_,_]:=hB_13
 have hz5:=hB_10.lt
 have hB_14:=Blk.chg1 hB_11 hCw8 (by have:=hBb1.lt; have:=hbb3; have:=hEb2.size; omega)
 have hB_15:=Blk.chg1 hB_12 hCw8 (by have:=hBb2.lt; have:=hbb3; omega)
 have hX5:=Ext.chg1 hX4 hCw8 (by have:=hbb3; have:=hEb1.size; have:=hEb2.size; omega)
 refine Z ?_
 refine CW.fresh [(1,pB b1),(2,pB b2),(3,pB b3)] ⟨rfl,rfl,rfl,trivial⟩ fun σ=>R ((D 5) ((LD hB_14) ((D 5) ?_)))
 refine WL.st rfl rfl rfl sz9 rfl rfl rfl rfl (all1 rfl all0) hB_13 (Nat.le_of_ble_eq_true rfl) fun w9 hCw9 hB_16=>?_
 have hB_16:Blk _ _ _ [_,_,_,_,_,_,_]:=hB_16
 have hz6:=hB_13.lt
 have hB_17:=Blk.chg1 hB_14 hCw9 (by have:=hBb1.lt; have:=hbb3; have:=hEb2.size; omega)
 have hB_18:=Blk.chg1 hB_15 hCw9 (by have:=hBb2.lt; have:=hbb3; omega)
 have hX6:=Ext.chg1 hX5 hCw9 (by have:=hbb3; have:=hEb1.size; have:=hEb2.size; omega)
 refine Z ?_
 refine CW.fresh [(1,pB b1),(2,pB b2),(3,pB b3)] ⟨rfl,rfl,rfl,trivial⟩ fun σ=>R ((D 6) ((LD hB_17) ?_))
 refine WL.call rfl rfl rfl rfl rfl ok164 rfl (z4W _ x.Args (hs1.ext hX6) (by omega) ih) ?_
 rintro v2 w10 hEw10 ⟨L1,hO1,hN1,hF1⟩
 obtain⟨A2,c2,rfl,hc2,hm2⟩:=hO1.form
 refine (D 6) ?_
 refine WL.st rfl rfl rfl sz56 rfl rfl rfl rfl (all1 rfl all0) (hB_16.ext hEw10) (Nat.le_of_ble_eq_true rfl) fun w11 hCw11 hB_19=>?_
 have hB_19:Blk _ _ _ [_,_,_,_,_,_,_]:=hB_19
 have hz7:=(hB_16.ext hEw10).lt
 have hB_20:=Blk.chg1 (hB_17.ext hEw10) hCw11 (by have:=hBb1.lt; have:=hbb3; have:=hEb2.size; omega)
 have hB_21:=Blk.chg1 (hB_18.ext hEw10) hCw11 (by have:=hBb2.lt; have:=hbb3; omega)
 have hO_1:=ownS.chg1 hO1 hCw11 (fun q hq e=>by subst e; have:=hF1 _ hq; have:=hBb3.lt; have:=hCw4.size; have:=hCw5.size; have:=hCw6.size; have:=hCw7.size; have:=hCw8.size; have:=hCw9.size; omega)
 have hX7:=Ext.chg1 (hX6.trans hEw10) hCw11 (by have:=hbb3; have:=hEb1.size; have:=hEb2.size; omega)
 refine Z ?_
 refine CW.fresh [(2,pB b2),(3,pB b3)] ⟨rfl,rfl,trivial⟩ fun σ=>R ?_
 refine WL.ev rfl rfl (Ev.lda rfl ag58 sz58 rfl (At.blk hB_19) rfl) ?_
 refine WL.st rfl rfl rfl sz58 rfl rfl rfl rfl (all1 rfl (all1 rfl (all1 rfl (all1 rfl (all1 rfl (all1 rfl (all1 rfl all0))))))) hB_21 (Nat.le_of_ble_eq_true rfl) fun w12 hCw12 hB_22=>?_
 have hB_22:Blk _ _ _ [_,_,_,_,_,_,_]:=hB_22
 have hz8:=hB_21.lt
 have hB_23:=Blk.chg1 hB_20 hCw12 (by have:=hBb1.lt; have:=hbb2; omega)
 have hB_24:=Blk.chg1 hB_19 hCw12 (by have:=hBb2.lt; have:=hbb3; omega)
 have hO_2:=ownS.chg1 hO_1 hCw12 (fun q hq e=>by subst e; have:=hF1 _ hq; have:=hBb2.lt; have:=hEb3.size; have:=hCw4.size; have:=hCw5.size; have:=hCw6.size; have:=hCw7.size; have:=hCw8.size; have:=hCw9.size; omega)
 have hX8:=Ext.chg1 hX7 hCw12 (by have:=hbb2; have:=hEb1.size; omega)
 refine Z (CR ?_)
 exact⟨_,resC rfl ag58 sz58 rfl rfl (At.blk hB_22) rfl,hX8,_,rfl,_,z1N.2 ⟨_,_,rfl,by first | assumption | omega,by first | assumption | omega,by first | assumption | omega,by first | assumption | omega,by first | assumption | omega,by first | assumption | omega,rfl,hO_2⟩,hN1,fun q hq=>by first | (have:=hF1 _ hq; have:=hEb1.size; have:=hEb2.size; have:=hEb3.size; have:=hCw4.size; have:=hCw5.size; have:=hCw6.size; have:=hCw7.size; have:=hCw8.size; have:=hCw9.size; omega)⟩
theorem q9P (w:World){S:Nat→Prop}(x:Expr){cs:List Value}(hx:rd S w x cs)(hlen:Sz.szd x≤1048576) :
    Ret Tryz.prog 133 #[.agg cs.toArray] w (fun _=>False) fun v w'=>∃ cs,v = .agg cs.toArray∧New w w' x cs:=
  z3L (P:=fun x=>∀ (w:World) {S:Nat→Prop} {cs:List Value} (hx:rd S w x cs) (hlen:Sz.szd x≤1048576),Ret Tryz.prog 133 #[.agg cs.toArray] w (fun _=>False) fun v w'=>∃ cs,v = .agg cs.toArray∧New w w' x cs) (fun x ih=>by intros; exact z5R _ x (by assumption) (by assumption) ih) x w hx hlen

theorem z2J (w:World){S:Nat→Prop}(x:Equation){cs:List Value}(hx:rd S w x cs)(hlen:Sz.szd x≤1048576):Ret Tryz.prog 101 #[.agg cs.toArray] w (fun _=>False) fun v w'=>∃ cs,v = .agg cs.toArray∧New w w' x cs:=by
 refine (En Tryz.func101) ?_
 have hK1:=hx
 obtain⟨v1,rfl,hr1,hr2,hr3,hr4,hr5,hr6,hr7,hr8,hs1⟩:=hx
 obtain⟨A1,c1,rfl,hc1,hm1⟩:=hs1.form
 rw [q7f] at hlen
 refine R ?_
 refine WL.box rfl rfl rfl rfl rfl fun b1 w1 hEb1 hbb1 hBb1=>?_
 refine WL.alloc rfl rfl rfl ze60 fun b2 w2 hEb2 hbb2 hBb2=>Z (R ?_)
 refine WL.alloc rfl rfl rfl ze60 fun b3 w3 hEb3 hbb3 hBb3=>Z (R ((D 0) ?_))
 refine WL.ev rfl rfl (Ev.lda rfl ag127 sz127 rfl (Blk.part (hBb1.ext (hEb2.trans hEb3)) 0 2) rfl) ?_
 refine WL.call rfl rfl rfl rfl rfl ok132 rfl (z0Y _ x.At (rd_ext (q5P hK1) ((hEb1.trans hEb2).trans hEb3)) (by (try simp only [szfold] at *); (try simp only [q4K,q2L] at *); omega)) ?_
 rintro _ w4 hEw4 ⟨_,rfl,_,⟨rfl,hr9,hr10,rfl⟩,hN1,hF1⟩
 refine (D 0) ?_
 refine WL.st rfl rfl rfl sz55 rfl rfl rfl rfl (all1 rfl (all1 rfl all0)) (hBb3.ext hEw4) (Nat.le_of_ble_eq_true rfl) fun w5 hCw5 hB_1=>?_
 have hB_1:Blk _ _ _ [_,_,_,_,_,_,_,_,_]:=hB_1
 have hz1:=(hBb3.ext hEw4).lt
 have hB_2:=Blk.chg1 (hBb1.ext ((hEb2.trans hEb3).trans hEw4)) hCw5 (by have:=hBb1.lt; have:=hbb3; have:=hEb2.size; omega)
 have hB_3:=Blk.chg1 (hBb2.ext (hEb3.trans hEw4)) hCw5 (by have:=hBb2.lt; have:=hbb3; omega)
 have hX1:=Ext.chg1 (((hEb1.trans hEb2).trans hEb3).trans hEw4) hCw5 (by have:=hbb3; have:=hEb1.size; have:=hEb2.size; omega)
 refine Z ?_
 refine CW.fresh [(1,pB b1),(2,pB b2),(3,pB b3)] ⟨rfl,rfl,rfl,trivial⟩ fun σ=>R ((D 2) ?_)
 refine WL.ev rfl rfl (Ev.lda rfl ag130 sz130 rfl (Blk.part hB_2 2 7) rfl) ?_
 refine WL.call rfl rfl rfl rfl rfl ok133 rfl (q9P _ x.Expr (rd_ext (q4U hK1) hX1) (by (try simp only [szfold] at *); (try simp only [q4K,q2L] at *); omega)) ?_
 rintro _ w6 hEw6 ⟨_,rfl,_,hE02,hN2,hF2⟩
 obtain⟨v2,L3,rfl,hr11,hr12,hr13,hr14,hr15,hr16,rfl,hO3⟩:=z1N.1 hE02
 obtain⟨A2,c2,rfl,hc2,hm2⟩:=hO3.form
 refine (D 2) ?_
 refine WL.st rfl rfl rfl sz58 rfl rfl rfl rfl (all1 rfl (all1 rfl (all1 rfl (all1 rfl (all1 rfl (all1 rfl (all1 rfl all0))))))) (hB_1.ext hEw6) (Nat.le_of_ble_eq_true rfl) fun w7 hCw7 hB_4=>?_
 have hB_4:Blk _ _ _ [_,_,_,_,_,_,_,_,_]:=hB_4
 have hz2:=(hB_1.ext hEw6).lt
 have hB_5:=Blk.chg1 (hB_2.ext hEw6) hCw7 (by have:=hBb1.lt; have:=hbb3; have:=hEb2.size; omega)
 have hB_6:=Blk.chg1 (hB_3.ext hEw6) hCw7 (by have:=hBb2.lt; have:=hbb3; omega)
 have hO_1:=ownS.chg1 hO3 hCw7 (fun q hq e=>by subst e; have:=hF2 _ hq; have:=hBb3.lt; have:=hEw4.size; have:=hCw5.size; omega)
 have hX2:=Ext.chg1 (hX1.trans hEw6) hCw7 (by have:=hbb3; have:=hEb1.size; have:=hEb2.size; omega)
 refine Z ?_
 refine CW.fresh [(2,pB b2),(3,pB b3)] ⟨rfl,rfl,trivial⟩ fun σ=>R ?_
 refine WL.ev rfl rfl (Ev.lda rfl ag60 sz60 rfl (At.blk hB_4) rfl) ?_
 refine WL.st rfl rfl rfl sz60 rfl rfl rfl rfl (all1 rfl (all1 rfl (all1 rfl (all1 rfl (all1 rfl (all1 rfl (all1 rfl (all1 rfl (all1 rfl all0))))))))) hB_6 (Nat.le_of_ble_eq_true rfl) fun w8 hCw8 hB_7=>?_
 have hB_7:Blk _ _ _ [_,_,_,_,_,_,_,_,_]:=hB_7
 have hz3:=hB_6.lt
 have hB_8:=Blk.chg1 hB_5 hCw8 (by have:=hBb1.lt; have:=hbb2; omega)
 have hB_9:=Blk.chg1 hB_4 hCw8 (by have:=hBb2.lt; have:=hbb3; omega)
 have hO_2:=ownS.chg1 hO_1 hCw8 (fun q hq e=>by subst e; have:=hF2 _ hq; have:=hBb2.lt; have:=hEb3.size; have:=hEw4.size; have:=hCw5.size; omega)
 have hX3:=Ext.chg1 hX2 hCw8 (by have:=hbb2; have:=hEb1.size; omega)
 refine Z (CR ?_)
 exact⟨_,resC rfl ag60 sz60 rfl rfl (At.blk hB_7) rfl,hX3,_,rfl,_,⟨_,_,rfl,by first | assumption | omega,by first | assumption | omega,by first | assumption | omega,by first | assumption | omega,by first | assumption | omega,by first | assumption | omega,by first | assumption | omega,by first | assumption | omega,rfl,hO_2⟩,hN2,fun q hq=>by first | (have:=hF2 _ hq; have:=hEb1.size; have:=hEb2.size; have:=hEb3.size; have:=hEw4.size; have:=hCw5.size; omega)⟩
theorem z1I (w:World){S:Nat→Prop}(x:List Equation){z:Value}(hx:rdS S w x z)(hlen:szL x≤1048576):Ret Tryz.prog 65 #[z] w (fun _=>False) fun v w'=>NewS w w' x v:=by
 refine (En Tryz.func65) ?_
 obtain⟨A1,c1,rfl,hc1,hm1⟩:=hx.form
 have hl1:x.length≤9223372036854775807:=Nat.le_trans hc1 hm1
 have hln:=q0O x
 refine R ((A) (Z (R ((V) ((NS) ?_)))))
 refine WL.mk rfl rfl rfl el44 sz60 by60 ze60 rfl rfl rfl (by omega) (by omega) fun g w1 hE1 hg hBg=>(A) (Z (Y (R ((A) (Z ?_)))))
 refine CW.block (CW.loop (α:=Nat × List Value × List Nat) (fun q=>[(0,.slice A1 x.length c1),(3,.slice (some ⟨g,0,none⟩) x.length x.length),(4,.int .i64 (q.1:Int))]) (fun q wr=>Ext w wr∧ToInv wr g 60 [.int .i64 0,.string ⟨#[]⟩,.int .i64 0,.int .i64 0,.int .i64 0,.int .i64 0,.string ⟨#[]⟩,.string ⟨#[]⟩,.slice none 0 0] x q.1 q.2.1 q.2.2) (fun q=>x.length - q.1) (0,[],[]) ⟨rfl,rfl,rfl,trivial⟩ ⟨hE1,ToInv.init hBg⟩ ?_)
 rintro⟨k,cs,L⟩ σ wr1 ⟨hEwr1,hI⟩
 simp only at hI
 have hk:=hI.le
 refine Y (R ((V) ((V) ((NS) ((B) (Z ?_))))))
 refine CW.condD rfl (fun h1=>?_) (fun h1=>?_)
 ·refine K (Y ?_)
  refine CW.block (X ((V) ((V) ((V) ((V) ?_)))))
  obtain⟨xe1,be1,oe1,cse1,hxe1,hAe1,hSe1,hre1,hAte1⟩:=rdS.el hx (i:=k) (by omega)
  have hK1:=hre1
  obtain⟨v1,rfl,hr1,hr2,hr3,hr4,hr5,hr6,hr7,hr8,hs1⟩:=hre1
  obtain⟨A2,c2,rfl,hc2,hm2⟩:=hs1.form
  refine WL.ev rfl rfl (Ev.ixA rfl el70 sz132 rfl hAe1 rfl (by omega)) (WL.ev rfl rfl (Ev.lda rfl ag132 sz132 rfl (hAte1.ext hEwr1) rfl) ?_)
  refine WL.call rfl rfl rfl rfl rfl ok101 rfl (z2J _ xe1 (rd_ext hK1 hEwr1) (by have:=z0G hxe1; (try simp only [szfold] at *); omega)) ?_
  rintro _ w1 hEw1 ⟨cs1,rfl,L1,hO1,hN1,hF1⟩
  refine WL.ev rfl rfl (Ev.ix rfl el44 sz60 rfl rfl (by omega)) ?_
  refine WL.stTo rfl rfl rfl sz60 rfl rfl rfl (hI.ext hEw1) hxe1 hO1 hN1 (hI.fresh hF1) rfl fun w2 hCw2 hI2=>?_
  have hX1:=Ext.chg1 (hEwr1.trans hEw1) hCw2 (by have:=hE1.size; omega)
  refine Z (X ((V) ((BO) ((A) (Z ?_)))))
  exact⟨(k+1,_,_),⟨rfl,rfl,rfl,trivial⟩,⟨hX1,hI2⟩,by simp only; omega⟩
 ·refine CE (R ((V) ((A) (Z (CR ?_)))))
  exact⟨_,res1 rfl rfl rfl,hEwr1,hI.new (by omega) (by unfold maxLen; omega) hg⟩
theorem q9Q (w:World){S:Nat→Prop}(x:Contribution){cs:List Value}(hx:rd S w x cs)(hlen:Sz.szd x≤1048576):Ret Tryz.prog 102 #[.agg cs.toArray] w (fun _=>False) fun v w'=>∃ cs,v = .agg cs.toArray∧New w w' x cs:=by
 refine (En Tryz.func102) ?_
 have hK1:=hx
 obtain⟨v1,v2,rfl,hr1,hr2,hr3,hr4,hr5,hr6,hr7,hr8,hr9,hr10,hr11,hr12,hr13,hr14,hs1,hs2⟩:=hx
 obtain⟨A1,c1,rfl,hc1,hm1⟩:=hs1.form
 obtain⟨A2,c2,rfl,hc2,hm2⟩:=hs2.form
 rw [q4V] at hlen
 refine R ?_
 refine WL.box rfl rfl rfl rfl rfl fun b1 w1 hEb1 hbb1 hBb1=>?_
 refine WL.alloc rfl rfl rfl ze111 fun b2 w2 hEb2 hbb2 hBb2=>Z (R ?_)
 refine WL.alloc rfl rfl rfl ze111 fun b3 w3 hEb3 hbb3 hBb3=>Z (R ((D 0) ?_))
 refine WL.ev rfl rfl (Ev.ld rfl ag9 rfl ((hBb1.ext (hEb2.trans hEb3)).cell rfl)) ((D 0) ?_)
 refine WL.st rfl rfl rfl sz9 rfl rfl rfl rfl (all1 rfl all0) hBb3 (Nat.le_of_ble_eq_true rfl) fun w4 hCw4 hB_1=>?_
 have hB_1:Blk _ _ _ [_,_,_,_,_,_,_,_,_,_,_,_,_,_,_,_]:=hB_1
 have hz1:=hBb3.lt
 have hB_2:=Blk.chg1 (hBb1.ext (hEb2.trans hEb3)) hCw4 (by have:=hBb1.lt; have:=hbb3; have:=hEb2.size; omega)
 have hB_3:=Blk.chg1 (hBb2.ext hEb3) hCw4 (by have:=hBb2.lt; have:=hbb3; omega)
 have hX1:=Ext.chg1 ((hEb1.trans hEb2).trans hEb3) hCw4 (by have:=hbb3; have:=hEb1.size; have:=hEb2.size; omega)
 refine Z ?_
 refine CW.fresh [(1,pB b1),(2,pB b2),(3,pB b3)] ⟨rfl,rfl,rfl,trivial⟩ fun σ=>R ((D 1) ((LD hB_2) ((D 1) ?_)))
 refine WL.st rfl rfl rfl sz9 rfl rfl rfl rfl (all1 rfl all0) hB_1 (Nat.le_of_ble_eq_true rfl) fun w5 hCw5 hB_4=>?_
 have hB_4:Blk _ _ _ [_,_,_,_,_,_,_,_,_,_,_,_,_,_,_,_]:=hB_4
 have hz2:=hB_1.lt
 have hB_5:=Blk.chg1 hB_2 hCw5 (by have:=hBb1.lt; have:=hbb3; have:=hEb2.size; omega)
 have hB_6:=Blk.chg1 hB_3 hCw5 (by have:=hBb2.lt; have:=hbb3; omega)
 have hX2:=Ext.chg1 hX1 hCw5 (by have:=hbb3; have:=hEb1.size; have:=hEb2.size; omega)
 refine Z ?_
 refine CW.fresh [(1,pB b1),(2,pB b2),(3,pB b3)] ⟨rfl,rfl,rfl,trivial⟩ fun σ=>R ((D 2) ?_)
 refine WL.ev rfl rfl (Ev.lda rfl ag130 sz130 rfl (Blk.part hB_5 2 7) rfl) ?_
 refine WL.call rfl rfl rfl rfl rfl ok133 rfl (q9P _ x.Target (rd_ext (q3c hK1) hX2) (by (try simp only [szfold] at *); (try simp only [q2L,q2L] at *); omega)) ?_
 rintro _ w6 hEw6 ⟨_,rfl,_,hE01,hN1,hF1⟩
 obtain⟨v3,L2,rfl,hr15,hr16,hr17,hr18,hr19,hr20,rfl,hO2⟩:=z1N.1 hE01
 obtain⟨A3,c3,rfl,hc3,hm3⟩:=hO2.form
 refine (D 2) ?_
 refine WL.st rfl rfl rfl sz58 rfl rfl rfl rfl (all1 rfl (all1 rfl (all1 rfl (all1 rfl (all1 rfl (all1 rfl (all1 rfl all0))))))) (hB_4.ext hEw6) (Nat.le_of_ble_eq_true rfl) fun w7 hCw7 hB_7=>?_
 have hB_7:Blk _ _ _ [_,_,_,_,_,_,_,_,_,_,_,_,_,_,_,_]:=hB_7
 have hz3:=(hB_4.ext hEw6).lt
 have hB_8:=Blk.chg1 (hB_5.ext hEw6) hCw7 (by have:=hBb1.lt; have:=hbb3; have:=hEb2.size; omega)
 have hB_9:=Blk.chg1 (hB_6.ext hEw6) hCw7 (by have:=hBb2.lt; have:=hbb3; omega)
 have hO_1:=ownS.chg1 hO2 hCw7 (fun q hq e=>by subst e; have:=hF1 _ hq; have:=hBb3.lt; have:=hCw4.size; have:=hCw5.size; omega)
 have hX3:=Ext.chg1 (hX2.trans hEw6) hCw7 (by have:=hbb3; have:=hEb1.size; have:=hEb2.size; omega)
 refine Z ?_
 refine CW.fresh [(1,pB b1),(2,pB b2),(3,pB b3)] ⟨rfl,rfl,rfl,trivial⟩ fun σ=>R ((D 9) ?_)
 refine WL.ev rfl rfl (Ev.lda rfl ag130 sz130 rfl (Blk.part hB_8 9 7) rfl) ?_
 refine WL.call rfl rfl rfl rfl rfl ok133 rfl (q9P _ x.Value (rd_ext (q3l hK1) hX3) (by (try simp only [szfold] at *); (try simp only [q2L,q2L] at *); omega)) ?_
 rintro _ w8 hEw8 ⟨_,rfl,_,hE02,hN2,hF2⟩
 obtain⟨v4,L4,rfl,hr21,hr22,hr23,hr24,hr25,hr26,rfl,hO4⟩:=z1N.1 hE02
 obtain⟨A4,c4,rfl,hc4,hm4⟩:=hO4.form
 refine (D 9) ?_
 refine WL.st rfl rfl rfl sz58 rfl rfl rfl rfl (all1 rfl (all1 rfl (all1 rfl (all1 rfl (all1 rfl (all1 rfl (all1 rfl all0))))))) (hB_7.ext hEw8) (Nat.le_of_ble_eq_true rfl) fun w9 hCw9 hB_10=>?_
 have hB_10:Blk _ _ _ [_,_,_,_,_,_,_,_,_,_,_,_,_,_,_,_]:=hB_10
 have hz4:=(hB_7.ext hEw8).lt
 have hB_11:=Blk.chg1 (hB_8.ext hEw8) hCw9 (by have:=hBb1.lt; have:=hbb3; have:=hEb2.size; omega)
 have hB_12:=Blk.chg1 (hB_9.ext hEw8) hCw9 (by have:=hBb2.lt; have:=hbb3; omega)
 have hO_2:=ownS.chg1 (hO_1.ext hEw8) hCw9 (fun q hq e=>by subst e; have:=hF1 _ hq; have:=hBb3.lt; have:=hCw4.size; have:=hCw5.size; omega)
 have hO_3:=ownS.chg1 hO4 hCw9 (fun q hq e=>by subst e; have:=hF2 _ hq; have:=hBb3.lt; have:=hCw4.size; have:=hCw5.size; have:=hEw6.size; have:=hCw7.size; omega)
 have hX4:=Ext.chg1 (hX3.trans hEw8) hCw9 (by have:=hbb3; have:=hEb1.size; have:=hEb2.size; omega)
 refine Z ?_
 refine CW.fresh [(2,pB b2),(3,pB b3)] ⟨rfl,rfl,trivial⟩ fun σ=>R ?_
 refine WL.ev rfl rfl (Ev.lda rfl ag111 sz111 rfl (At.blk hB_10) rfl) ?_
 refine WL.st rfl rfl rfl sz111 rfl rfl rfl rfl (all1 rfl (all1 rfl (all1 rfl (all1 rfl (all1 rfl (all1 rfl (all1 rfl (all1 rfl (all1 rfl (all1 rfl (all1 rfl (all1 rfl (all1 rfl (all1 rfl (all1 rfl (all1 rfl all0)))))))))))))))) hB_12 (Nat.le_of_ble_eq_true rfl) fun w10 hCw10 hB_13=>?_
 have hB_13:Blk _ _ _ [_,_,_,_,_,_,_,_,_,_,_,_,_,_,_,_]:=hB_13
 have hz5:=hB_12.lt
 have hB_14:=Blk.chg1 hB_11 hCw10 (by have:=hBb1.lt; have:=hbb2; omega)
 have hB_15:=Blk.chg1 hB_10 hCw10 (by have:=hBb2.lt; have:=hbb3; omega)
 have hO_4:=ownS.chg1 hO_2 hCw10 (fun q hq e=>by subst e; have:=hF1 _ hq; have:=hBb2.lt; have:=hEb3.size; have:=hCw4.size; have:=hCw5.size; omega)
 have hO_5:=ownS.chg1 hO_3 hCw10 (fun q hq e=>by subst e; have:=hF2 _ hq; have:=hBb2.lt; have:=hEb3.size; have:=hCw4.size; have:=hCw5.size; have:=hEw6.size; have:=hCw7.size; omega)
 have hX5:=Ext.chg1 hX4 hCw10 (by have:=hbb2; have:=hEb1.size; omega)
 refine Z (CR ?_)
 exact⟨_,resC rfl ag111 sz111 rfl rfl (At.blk hB_13) rfl,hX5,_,rfl,_,⟨_,_,_,_,rfl,by first | assumption | omega,by first | assumption | omega,by first | assumption | omega,by first | assumption | omega,by first | assumption | omega,by first | assumption | omega,by first | assumption | omega,by first | assumption | omega,by first | assumption | omega,by first | assumption | omega,by first | assumption | omega,by first | assumption | omega,by first | assumption | omega,by first | assumption | omega,rfl,hO_4,hO_5⟩,(q9Y hN1 hN2 (k:=w7.heap.size) (fun q hq=>by first | (have:=hO2.lt _ hq; have:=hCw7.size; omega)) hF2),fun q hq=>by simp only [List.mem_append] at hq; rcases hq with hq | hq<;>first | (have:=hF1 _ hq; have:=hEb1.size; have:=hEb2.size; have:=hEb3.size; have:=hCw4.size; have:=hCw5.size; omega) | (have:=hF2 _ hq; have:=hEb1.size; have:=hEb2.size; have:=hEb3.size; have:=hCw4.size; have:=hCw5.size; have:=hEw6.size; have:=hCw7.size; omega)⟩
theorem q9u (w:World){S:Nat→Prop}(x:List Contribution){z:Value}(hx:rdS S w x z)(hlen:szL x≤1048576):Ret Tryz.prog 66 #[z] w (fun _=>False) fun v w'=>NewS w w' x v:=by
 refine (En Tryz.func66) ?_
 obtain⟨A1,c1,rfl,hc1,hm1⟩:=hx.form
 have hl1:x.length≤9223372036854775807:=Nat.le_trans hc1 hm1
 have hln:=q0O x
 refine R ((A) (Z (R ((V) ((NS) ?_)))))
 refine WL.mk rfl rfl rfl el45 sz111 by111 ze111 rfl rfl rfl (by omega) (by omega) fun g w1 hE1 hg hBg=>(A) (Z (Y (R ((A) (Z ?_)))))
 refine CW.block (CW.loop (α:=Nat × List Value × List Nat) (fun q=>[(0,.slice A1 x.length c1),(3,.slice (some ⟨g,0,none⟩) x.length x.length),(4,.int .i64 (q.1:Int))]) (fun q wr=>Ext w wr∧ToInv wr g 111 [.string ⟨#[]⟩,.string ⟨#[]⟩,.int .i64 0,.int .i64 0,.int .i64 0,.int .i64 0,.string ⟨#[]⟩,.string ⟨#[]⟩,.slice none 0 0,.int .i64 0,.int .i64 0,.int .i64 0,.int .i64 0,.string ⟨#[]⟩,.string ⟨#[]⟩,.slice none 0 0] x q.1 q.2.1 q.2.2) (fun q=>x.length - q.1) (0,[],[]) ⟨rfl,rfl,rfl,trivial⟩ ⟨hE1,ToInv.init hBg⟩ ?_)
 rintro⟨k,cs,L⟩ σ wr1 ⟨hEwr1,hI⟩
 simp only at hI
 have hk:=hI.le
 refine Y (R ((V) ((V) ((NS) ((B) (Z ?_))))))
 refine CW.condD rfl (fun h1=>?_) (fun h1=>?_)
 ·refine K (Y ?_)
  refine CW.block (X ((V) ((V) ((V) ((V) ?_)))))
  obtain⟨xe1,be1,oe1,cse1,hxe1,hAe1,hSe1,hre1,hAte1⟩:=rdS.el hx (i:=k) (by omega)
  have hK1:=hre1
  obtain⟨v1,v2,rfl,hr1,hr2,hr3,hr4,hr5,hr6,hr7,hr8,hr9,hr10,hr11,hr12,hr13,hr14,hs1,hs2⟩:=hre1
  obtain⟨A2,c2,rfl,hc2,hm2⟩:=hs1.form
  obtain⟨A3,c3,rfl,hc3,hm3⟩:=hs2.form
  refine WL.ev rfl rfl (Ev.ixA rfl el71 sz135 rfl hAe1 rfl (by omega)) (WL.ev rfl rfl (Ev.lda rfl ag135 sz135 rfl (hAte1.ext hEwr1) rfl) ?_)
  refine WL.call rfl rfl rfl rfl rfl ok102 rfl (q9Q _ xe1 (rd_ext hK1 hEwr1) (by have:=z0G hxe1; (try simp only [szfold] at *); omega)) ?_
  rintro _ w1 hEw1 ⟨cs1,rfl,L1,hO1,hN1,hF1⟩
  refine WL.ev rfl rfl (Ev.ix rfl el45 sz111 rfl rfl (by omega)) ?_
  refine WL.stTo rfl rfl rfl sz111 rfl rfl rfl (hI.ext hEw1) hxe1 hO1 hN1 (hI.fresh hF1) rfl fun w2 hCw2 hI2=>?_
  have hX1:=Ext.chg1 (hEwr1.trans hEw1) hCw2 (by have:=hE1.size; omega)
  refine Z (X ((V) ((BO) ((A) (Z ?_)))))
  exact⟨(k+1,_,_),⟨rfl,rfl,rfl,trivial⟩,⟨hX1,hI2⟩,by simp only; omega⟩
 ·refine CE (R ((V) ((A) (Z (CR ?_)))))
  exact⟨_,res1 rfl rfl rfl,hEwr1,hI.new (by omega) (by unfold maxLen; omega) hg⟩
theorem z5S (w:World){S:Nat→Prop}(x:Rule){cs:List Value}(hx:rd S w x cs)(hlen:Sz.szd x≤1048576):Ret Tryz.prog 32 #[.agg cs.toArray] w (fun _=>False) fun v w'=>∃ cs,v = .agg cs.toArray∧New w w' x cs:=by
 refine (En Tryz.func32) ?_
 have hK1:=hx
 obtain⟨v1,v2,v3,rfl,hr1,hr2,hs1,hs2,hs3⟩:=hx
 obtain⟨A1,c1,rfl,hc1,hm1⟩:=hs1.form
 obtain⟨A2,c2,rfl,hc2,hm2⟩:=hs2.form
 obtain⟨A3,c3,rfl,hc3,hm3⟩:=hs3.form
 rw [q7W] at hlen
 refine R ?_
 refine WL.box rfl rfl rfl rfl rfl fun b1 w1 hEb1 hbb1 hBb1=>?_
 refine WL.alloc rfl rfl rfl ze47 fun b2 w2 hEb2 hbb2 hBb2=>Z (R ?_)
 refine WL.alloc rfl rfl rfl ze47 fun b3 w3 hEb3 hbb3 hBb3=>Z (R ((D 0) ?_))
 refine WL.ev rfl rfl (Ev.ld rfl ag9 rfl ((hBb1.ext (hEb2.trans hEb3)).cell rfl)) ((D 0) ?_)
 refine WL.st rfl rfl rfl sz9 rfl rfl rfl rfl (all1 rfl all0) hBb3 (Nat.le_of_ble_eq_true rfl) fun w4 hCw4 hB_1=>?_
 have hB_1:Blk _ _ _ [_,_,_,_,_,_]:=hB_1
 have hz1:=hBb3.lt
 have hB_2:=Blk.chg1 (hBb1.ext (hEb2.trans hEb3)) hCw4 (by have:=hBb1.lt; have:=hbb3; have:=hEb2.size; omega)
 have hB_3:=Blk.chg1 (hBb2.ext hEb3) hCw4 (by have:=hBb2.lt; have:=hbb3; omega)
 have hX1:=Ext.chg1 ((hEb1.trans hEb2).trans hEb3) hCw4 (by have:=hbb3; have:=hEb1.size; have:=hEb2.size; omega)
 refine Z ?_
 refine CW.fresh [(1,pB b1),(2,pB b2),(3,pB b3)] ⟨rfl,rfl,rfl,trivial⟩ fun σ=>R ((D 1) ((LD hB_2) ((D 1) ?_)))
 refine WL.st rfl rfl rfl sz9 rfl rfl rfl rfl (all1 rfl all0) hB_1 (Nat.le_of_ble_eq_true rfl) fun w5 hCw5 hB_4=>?_
 have hB_4:Blk _ _ _ [_,_,_,_,_,_]:=hB_4
 have hz2:=hB_1.lt
 have hB_5:=Blk.chg1 hB_2 hCw5 (by have:=hBb1.lt; have:=hbb3; have:=hEb2.size; omega)
 have hB_6:=Blk.chg1 hB_3 hCw5 (by have:=hBb2.lt; have:=hbb3; omega)
 have hX2:=Ext.chg1 hX1 hCw5 (by have:=hbb3; have:=hEb1.size; have:=hEb2.size; omega)
 refine Z ?_
 refine CW.fresh [(1,pB b1),(2,pB b2),(3,pB b3)] ⟨rfl,rfl,rfl,trivial⟩ fun σ=>R ((D 2) ((LD hB_5) ?_))
 refine WL.call rfl rfl rfl rfl rfl ok64 rfl (z3r _ x.Right (hs1.ext hX2) (by omega)) ?_
 rintro v4 w6 hEw6 ⟨L1,hO1,hN1,hF1⟩
 obtain⟨A4,c4,rfl,hc4,hm4⟩:=hO1.form
 refine (D 2) ?_
 refine WL.st rfl rfl rfl sz43 rfl rfl rfl rfl (all1 rfl all0) (hB_4.ext hEw6) (Nat.le_of_ble_eq_true rfl) fun w7 hCw7 hB_7=>?_
 have hB_7:Blk _ _ _ [_,_,_,_,_,_]:=hB_7
 have hz3:=(hB_4.ext hEw6).lt
 have hB_8:=Blk.chg1 (hB_5.ext hEw6) hCw7 (by have:=hBb1.lt; have:=hbb3; have:=hEb2.size; omega)
 have hB_9:=Blk.chg1 (hB_6.ext hEw6) hCw7 (by have:=hBb2.lt; have:=hbb3; omega)
 have hO_1:=ownS.chg1 hO1 hCw7 (fun q hq e=>by subst e; have:=hF1 _ hq; have:=hBb3.lt; have:=hCw4.size; have:=hCw5.size; omega)
 have hX3:=Ext.chg1 (hX2.trans hEw6) hCw7 (by have:=hbb3; have:=hEb1.size; have:=hEb2.size; omega)
 refine Z ?_
 refine CW.fresh [(1,pB b1),(2,pB b2),(3,pB b3)] ⟨rfl,rfl,rfl,trivial⟩ fun σ=>R ((D 3) ((LD hB_8) ((D 3) ?_)))
 refine WL.st rfl rfl rfl sz4 rfl rfl rfl rfl (all1 rfl all0) hB_7 (Nat.le_of_ble_eq_true rfl) fun w8 hCw8 hB_10=>?_
 have hB_10:Blk _ _ _ [_,_,_,_,_,_]:=hB_10
 have hz4:=hB_7.lt
 have hB_11:=Blk.chg1 hB_8 hCw8 (by have:=hBb1.lt; have:=hbb3; have:=hEb2.size; omega)
 have hB_12:=Blk.chg1 hB_9 hCw8 (by have:=hBb2.lt; have:=hbb3; omega)
 have hO_2:=ownS.chg1 hO_1 hCw8 (fun q hq e=>by subst e; have:=hF1 _ hq; have:=hBb3.lt; have:=hCw4.size; have:=hCw5.size; omega)
 have hX4:=Ext.chg1 hX3 hCw8 (by have:=hbb3; have:=hEb1.size; have:=hEb2.size; omega)
 refine Z ?_
 refine CW.fresh [(1,pB b1),(2,pB b2),(3,pB b3)] ⟨rfl,rfl,rfl,trivial⟩ fun σ=>R ((D 4) ((LD hB_11) ?_))
 refine WL.call rfl rfl rfl rfl rfl ok65 rfl (z1I _ x.Equations (hs2.ext hX4) (by omega)) ?_
 rintro v5 w9 hEw9 ⟨L2,hO2,hN2,hF2⟩
 obtain⟨A5,c5,rfl,hc5,hm5⟩:=hO2.form
 refine (D 4) ?_
 refine WL.st rfl rfl rfl sz44 rfl rfl rfl rfl (all1 rfl all0) (hB_10.ext hEw9) (Nat.le_of_ble_eq_true rfl) fun w10 hCw10 hB_13=>?_
 have hB_13:Blk _ _ _ [_,_,_,_,_,_]:=hB_13
 have hz5:=(hB_10.ext hEw9).lt
 have hB_14:=Blk.chg1 (hB_11.ext hEw9) hCw10 (by have:=hBb1.lt; have:=hbb3; have:=hEb2.size; omega)
 have hB_15:=Blk.chg1 (hB_12.ext hEw9) hCw10 (by have:=hBb2.lt; have:=hbb3; omega)
 have hO_3:=ownS.chg1 (hO_2.ext hEw9) hCw10 (fun q hq e=>by subst e; have:=hF1 _ hq; have:=hBb3.lt; have:=hCw4.size; have:=hCw5.size; omega)
 have hO_4:=ownS.chg1 hO2 hCw10 (fun q hq e=>by subst e; have:=hF2 _ hq; have:=hBb3.lt; have:=hCw4.size; have:=hCw5.size; have:=hEw6.size; have:=hCw7.size; have:=hCw8.size; omega)
 have hX5:=Ext.chg1 (hX4.trans hEw9) hCw10 (by have:=hbb3; have:=hEb1.size; have:=hEb2.size; omega)
 refine Z ?_
 refine CW.fresh [(1,pB b1),(2,pB b2),(3,pB b3)] ⟨rfl,rfl,rfl,trivial⟩ fun σ=>R ((D 5) ((LD hB_14) ?_))
 refine WL.call rfl rfl rfl rfl rfl ok66 rfl (q9u _ x.Contributions (hs3.ext hX5) (by omega)) ?_
 rintro v6 w11 hEw11 ⟨L3,hO3,hN3,hF3⟩
 obtain⟨A6,c6,rfl,hc6,hm6⟩:=hO3.form
 refine (D 5) ?_
 refine WL.st rfl rfl rfl sz45 rfl rfl rfl rfl (all1 rfl all0) (hB_13.ext hEw11) (Nat.le_of_ble_eq_true rfl) fun w12 hCw12 hB_16=>?_
 have hB_16:Blk _ _ _ [_,_,_,_,_,_]:=hB_16
 have hz6:=(hB_13.ext hEw11).lt
 have hB_17:=Blk.chg1 (hB_14.ext hEw11) hCw12 (by have:=hBb1.lt; have:=hbb3; have:=hEb2.size; omega)
 have hB_18:=Blk.chg1 (hB_15.ext hEw11) hCw12 (by have:=hBb2.lt; have:=hbb3; omega)
 have hO_5:=ownS.chg1 (hO_3.ext hEw11) hCw12 (fun q hq e=>by subst e; have:=hF1 _ hq; have:=hBb3.lt; have:=hCw4.size; have:=hCw5.size; omega)
 have hO_6:=ownS.chg1 (hO_4.ext hEw11) hCw12 (fun q hq e=>by subst e; have:=hF2 _ hq; have:=hBb3.lt; have:=hCw4.size; have:=hCw5.size; have:=hEw6.size; have:=hCw7.size; have:=hCw8.size; omega)
 have hO_7:=ownS.chg1 hO3 hCw12 (fun q hq e=>by subst e; have:=hF3 _ hq; have:=hBb3.lt; have:=hCw4.size; have:=hCw5.size; have:=hEw6.size; have:=hCw7.size; have:=hCw8.size; have:=hEw9.size; have:=hCw10.size; omega)
 have hX6:=Ext.chg1 (hX5.trans hEw11) hCw12 (by have:=hbb3; have:=hEb1.size; have:=hEb2.size; omega)
 refine Z ?_
 refine CW.fresh [(2,pB b2),(3,pB b3)] ⟨rfl,rfl,trivial⟩ fun σ=>R ?_
 refine WL.ev rfl rfl (Ev.lda rfl ag47 sz47 rfl (At.blk hB_16) rfl) ?_
 refine WL.st rfl rfl rfl sz47 rfl rfl rfl rfl (all1 rfl (all1 rfl (all1 rfl (all1 rfl (all1 rfl (all1 rfl all0)))))) hB_18 (Nat.le_of_ble_eq_true rfl) fun w13 hCw13 hB_19=>?_
 have hB_19:Blk _ _ _ [_,_,_,_,_,_]:=hB_19
 have hz7:=hB_18.lt
 have hB_20:=Blk.chg1 hB_17 hCw13 (by have:=hBb1.lt; have:=hbb2; omega)
 have hB_21:=Blk.chg1 hB_16 hCw13 (by have:=hBb2.lt; have:=hbb3; omega)
 have hO_8:=ownS.chg1 hO_5 hCw13 (fun q hq e=>by subst e; have:=hF1 _ hq; have:=hBb2.lt; have:=hEb3.size; have:=hCw4.size; have:=hCw5.size; omega)
 have hO_9:=ownS.chg1 hO_6 hCw13 (fun q hq e=>by subst e; have:=hF2 _ hq; have:=hBb2.lt; have:=hEb3.size; have:=hCw4.size; have:=hCw5.size; have:=hEw6.size; have:=hCw7.size; have:=hCw8.size; omega)
 have hO_10:=ownS.chg1 hO_7 hCw13 (fun q hq e=>by subst e; have:=hF3 _ hq; have:=hBb2.lt; have:=hEb3.size; have:=hCw4.size; have:=hCw5.size; have:=hEw6.size; have:=hCw7.size; have:=hCw8.size; have:=hEw9.size; have:=hCw10.size; omega)
 have hX7:=Ext.chg1 hX6 hCw13 (by have:=hbb2; have:=hEb1.size; omega)
 refine Z (CR ?_)
 exact⟨_,resC rfl ag47 sz47 rfl rfl (At.blk hB_19) rfl,hX7,_,rfl,_,⟨_,_,_,_,_,_,rfl,by first | assumption | omega,by first | assumption | omega,rfl,hO_8,hO_9,hO_10⟩,(q9Y (q9Y hN1 hN2 (k:=w8.heap.size) (fun q hq=>by first | (have:=hO1.lt _ hq; have:=hCw7.size; have:=hCw8.size; omega)) hF2) hN3 (k:=w10.heap.size) (fun q hq=>by simp only [List.mem_append] at hq; rcases hq with hq | hq<;>first | (have:=hO1.lt _ hq; have:=hCw7.size; have:=hCw8.size; have:=hEw9.size; have:=hCw10.size; omega) | (have:=hO2.lt _ hq; have:=hCw10.size; omega)) hF3),fun q hq=>by simp only [List.mem_append] at hq; rcases hq with (hq | hq) | hq<;>first | (have:=hF1 _ hq; have:=hEb1.size; have:=hEb2.size; have:=hEb3.size; have:=hCw4.size; have:=hCw5.size; omega) | (have:=hF2 _ hq; have:=hEb1.size; have:=hEb2.size; have:=hEb3.size; have:=hCw4.size; have:=hCw5.size; have:=hEw6.size; have:=hCw7.size; have:=hCw8.size; omega) | (have:=hF3 _ hq; have:=hEb1.size; have:=hEb2.size; have:=hEb3.size; have:=hCw4.size; have:=hCw5.size; have:=hEw6.size; have:=hCw7.size; have:=hCw8.size; have:=hEw9.size; have:=hCw10.size; omega)⟩
theorem z4X (w:World){S:Nat→Prop}(x:List Rule){z:Value}(hx:rdS S w x z)(hlen:szL x≤1048576):Ret Tryz.prog 14 #[z] w (fun _=>False) fun v w'=>NewS w w' x v:=by
 refine (En Tryz.func14) ?_
 obtain⟨A1,c1,rfl,hc1,hm1⟩:=hx.form
 have hl1:x.length≤9223372036854775807:=Nat.le_trans hc1 hm1
 have hln:=q0O x
 refine R ((A) (Z (R ((V) ((NS) ?_)))))
 refine WL.mk rfl rfl rfl el29 sz47 by47 ze47 rfl rfl rfl (by omega) (by omega) fun g w1 hE1 hg hBg=>(A) (Z (Y (R ((A) (Z ?_)))))
 refine CW.block (CW.loop (α:=Nat × List Value × List Nat) (fun q=>[(0,.slice A1 x.length c1),(3,.slice (some ⟨g,0,none⟩) x.length x.length),(4,.int .i64 (q.1:Int))]) (fun q wr=>Ext w wr∧ToInv wr g 47 [.string ⟨#[]⟩,.string ⟨#[]⟩,.slice none 0 0,.bool false,.slice none 0 0,.slice none 0 0] x q.1 q.2.1 q.2.2) (fun q=>x.length - q.1) (0,[],[]) ⟨rfl,rfl,rfl,trivial⟩ ⟨hE1,ToInv.init hBg⟩ ?_)
 rintro⟨k,cs,L⟩ σ wr1 ⟨hEwr1,hI⟩
 simp only at hI
 have hk:=hI.le
 refine Y (R ((V) ((V) ((NS) ((B) (Z ?_))))))
 refine CW.condD rfl (fun h1=>?_) (fun h1=>?_)
 ·refine K (Y ?_)
  refine CW.block (X ((V) ((V) ((V) ((V) ?_)))))
  obtain⟨xe1,be1,oe1,cse1,hxe1,hAe1,hSe1,hre1,hAte1⟩:=rdS.el hx (i:=k) (by omega)
  have hK1:=hre1
  obtain⟨v1,v2,v3,rfl,hr1,hr2,hs1,hs2,hs3⟩:=hre1
  obtain⟨A2,c2,rfl,hc2,hm2⟩:=hs1.form
  obtain⟨A3,c3,rfl,hc3,hm3⟩:=hs2.form
  obtain⟨A4,c4,rfl,hc4,hm4⟩:=hs3.form
  refine WL.ev rfl rfl (Ev.ixA rfl el23 sz73 rfl hAe1 rfl (by omega)) (WL.ev rfl rfl (Ev.lda rfl ag73 sz73 rfl (hAte1.ext hEwr1) rfl) ?_)
  refine WL.call rfl rfl rfl rfl rfl ok32 rfl (z5S _ xe1 (rd_ext hK1 hEwr1) (by have:=z0G hxe1; (try simp only [szfold] at *); omega)) ?_
  rintro _ w1 hEw1 ⟨cs1,rfl,L1,hO1,hN1,hF1⟩
  refine WL.ev rfl rfl (Ev.ix rfl el29 sz47 rfl rfl (by omega)) ?_
  refine WL.stTo rfl rfl rfl sz47 rfl rfl rfl (hI.ext hEw1) hxe1 hO1 hN1 (hI.fresh hF1) rfl fun w2 hCw2 hI2=>?_
  have hX1:=Ext.chg1 (hEwr1.trans hEw1) hCw2 (by have:=hE1.size; omega)
  refine Z (X ((V) ((BO) ((A) (Z ?_)))))
  exact⟨(k+1,_,_),⟨rfl,rfl,rfl,trivial⟩,⟨hX1,hI2⟩,by simp only; omega⟩
 ·refine CE (R ((V) ((A) (Z (CR ?_)))))
  exact⟨_,res1 rfl rfl rfl,hEwr1,hI.new (by omega) (by unfold maxLen; omega) hg⟩
theorem q7F (w:World){S:Nat→Prop}(x:Grammar){cs:List Value}(hx:rd S w x cs)(hlen:Sz.szd x≤1048576):Ret Tryz.prog 6 #[.agg cs.toArray] w (fun _=>False) fun v w'=>∃ cs,v = .agg cs.toArray∧New w w' x cs:=by
 refine (En Tryz.func6) ?_
 have hK1:=hx
 obtain⟨v1,v2,rfl,hs1,hs2⟩:=hx
 obtain⟨A1,c1,rfl,hc1,hm1⟩:=hs1.form
 obtain⟨A2,c2,rfl,hc2,hm2⟩:=hs2.form
 rw [q5e] at hlen
 refine R ?_
 refine WL.box rfl rfl rfl rfl rfl fun b1 w1 hEb1 hbb1 hBb1=>?_
 refine WL.alloc rfl rfl rfl ze31 fun b2 w2 hEb2 hbb2 hBb2=>Z (R ?_)
 refine WL.alloc rfl rfl rfl ze31 fun b3 w3 hEb3 hbb3 hBb3=>Z (R ((D 0) ?_))
 refine WL.ev rfl rfl (Ev.ld rfl ag22 rfl ((hBb1.ext (hEb2.trans hEb3)).cell rfl)) ?_
 refine WL.call rfl rfl rfl rfl rfl ok13 rfl (z3q _ x.Symbols (hs1.ext ((hEb1.trans hEb2).trans hEb3)) (by omega)) ?_
 rintro v3 w4 hEw4 ⟨L1,hO1,hN1,hF1⟩
 obtain⟨A3,c3,rfl,hc3,hm3⟩:=hO1.form
 refine (D 0) ?_
 refine WL.st rfl rfl rfl sz28 rfl rfl rfl rfl (all1 rfl all0) (hBb3.ext hEw4) (Nat.le_of_ble_eq_true rfl) fun w5 hCw5 hB_1=>?_
 have hB_1:Blk _ _ _ [_,_]:=hB_1
 have hz1:=(hBb3.ext hEw4).lt
 have hB_2:=Blk.chg1 (hBb1.ext ((hEb2.trans hEb3).trans hEw4)) hCw5 (by have:=hBb1.lt; have:=hbb3; have:=hEb2.size; omega)
 have hB_3:=Blk.chg1 (hBb2.ext (hEb3.trans hEw4)) hCw5 (by have:=hBb2.lt; have:=hbb3; omega)
 have hO_1:=ownS.chg1 hO1 hCw5 (fun q hq e=>by subst e; have:=hF1 _ hq; have:=hBb3.lt; omega)
 have hX1:=Ext.chg1 (((hEb1.trans hEb2).trans hEb3).trans hEw4) hCw5 (by have:=hbb3; have:=hEb1.size; have:=hEb2.size; omega)
 refine Z ?_
 refine CW.fresh [(1,pB b1),(2,pB b2),(3,pB b3)] ⟨rfl,rfl,rfl,trivial⟩ fun σ=>R ((D 1) ((LD hB_2) ?_))
 refine WL.call rfl rfl rfl rfl rfl ok14 rfl (z4X _ x.Rules (hs2.ext hX1) (by omega)) ?_
 rintro v4 w6 hEw6 ⟨L2,hO2,hN2,hF2⟩
 obtain⟨A4,c4,rfl,hc4,hm4⟩:=hO2.form
 refine (D 1) ?_
 refine WL.st rfl rfl rfl sz29 rfl rfl rfl rfl (all1 rfl all0) (hB_1.ext hEw6) (Nat.le_of_ble_eq_true rfl) fun w7 hCw7 hB_4=>?_
 have hB_4:Blk _ _ _ [_,_]:=hB_4
 have hz2:=(hB_1.ext hEw6).lt
 have hB_5:=Blk.chg1 (hB_2.ext hEw6) hCw7 (by have:=hBb1.lt; have:=hbb3; have:=hEb2.size; omega)
 have hB_6:=Blk.chg1 (hB_3.ext hEw6) hCw7 (by have:=hBb2.lt; have:=hbb3; omega)
 have hO_2:=ownS.chg1 (hO_1.ext hEw6) hCw7 (fun q hq e=>by subst e; have:=hF1 _ hq; have:=hBb3.lt; omega)
 have hO_3:=ownS.chg1 hO2 hCw7 (fun q hq e=>by subst e; have:=hF2 _ hq; have:=hBb3.lt; have:=hEw4.size; have:=hCw5.size; omega)
 have hX2:=Ext.chg1 (hX1.trans hEw6) hCw7 (by have:=hbb3; have:=hEb1.size; have:=hEb2.size; omega)
 refine Z ?_
 refine CW.fresh [(2,pB b2),(3,pB b3)] ⟨rfl,rfl,trivial⟩ fun σ=>R ?_
 refine WL.ev rfl rfl (Ev.lda rfl ag31 sz31 rfl (At.blk hB_4) rfl) ?_
 refine WL.st rfl rfl rfl sz31 rfl rfl rfl rfl (all1 rfl (all1 rfl all0)) hB_6 (Nat.le_of_ble_eq_true rfl) fun w8 hCw8 hB_7=>?_
 have hB_7:Blk _ _ _ [_,_]:=hB_7
 have hz3:=hB_6.lt
 have hB_8:=Blk.chg1 hB_5 hCw8 (by have:=hBb1.lt; have:=hbb2; omega)
 have hB_9:=Blk.chg1 hB_4 hCw8 (by have:=hBb2.lt; have:=hbb3; omega)
 have hO_4:=ownS.chg1 hO_2 hCw8 (fun q hq e=>by subst e; have:=hF1 _ hq; have:=hBb2.lt; have:=hEb3.size; omega)
 have hO_5:=ownS.chg1 hO_3 hCw8 (fun q hq e=>by subst e; have:=hF2 _ hq; have:=hBb2.lt; have:=hEb3.size; have:=hEw4.size; have:=hCw5.size; omega)
 have hX3:=Ext.chg1 hX2 hCw8 (by have:=hbb2; have:=hEb1.size; omega)
 refine Z (CR ?_)
 exact⟨_,resC rfl ag31 sz31 rfl rfl (At.blk hB_7) rfl,hX3,_,rfl,_,⟨_,_,_,_,rfl,rfl,hO_4,hO_5⟩,(q9Y hN1 hN2 (k:=w5.heap.size) (fun q hq=>by first | (have:=hO1.lt _ hq; have:=hCw5.size; omega)) hF2),fun q hq=>by simp only [List.mem_append] at hq; rcases hq with hq | hq<;>first | (have:=hF1 _ hq; have:=hEb1.size; have:=hEb2.size; have:=hEb3.size; omega) | (have:=hF2 _ hq; have:=hEb1.size; have:=hEb2.size; have:=hEb3.size; have:=hEw4.size; have:=hCw5.size; omega)⟩
theorem z1J (w:World){S S2:Nat→Prop}(x y:Attribute){cs ds:List Value}(hx:rd S w x cs)(hy:rd S2 w y ds):Ret Tryz.prog 116 #[.agg cs.toArray,.agg ds.toArray] w (fun _=>False) fun v _=>v = .bool (decide (x=y)):=by
 refine (En Tryz.func116) ?_
 have hK1:=hx
 obtain⟨rfl,hr1,hr2,hr3⟩:=hx
 have hK2:=hy
 obtain⟨rfl,hr4,hr5,hr6⟩:=hy
 refine R ?_
 refine WL.box rfl rfl rfl rfl rfl fun b1 w1 hEb1 hbb1 hBb1=>?_
 refine WL.box rfl rfl rfl rfl rfl fun b2 w2 hEb2 hbb2 hBb2=>(A) (Z (Y (R ((D 0) ((LD (hBb1.ext hEb2)) ((D 0) ((LD hBb2) ((B) (Z ?_)))))))))
 refine CW.condN rfl (fun h1=>?_) (fun h1=>?_)
 ·refine R ((A) (Z (CR ?_)))
  have e:x≠y:=by rintro rfl; exact h1 rfl
  exact⟨_,res1 rfl rfl rfl,(hEb1.trans hEb2),vB (by simp [e])⟩
 ·refine K (Y (R ((D 1) ((LD (hBb1.ext hEb2)) ((D 1) ((LD hBb2) ((B) (Z ?_))))))))
  refine CW.condN rfl (fun h2=>?_) (fun h2=>?_)
  ·refine R ((A) (Z (CR ?_)))
   have e:x≠y:=by rintro rfl; exact h2 rfl
   exact⟨_,res1 rfl rfl rfl,(hEb1.trans hEb2),vB (by simp [e])⟩
  ·refine K (Y (R ((D 2) ((LD (hBb1.ext hEb2)) ((D 2) ((LD hBb2) ((B) (Z ?_))))))))
   refine CW.condN rfl (fun h3=>?_) (fun h3=>?_)
   ·refine R ((A) (Z (CR ?_)))
    have e:x≠y:=by rintro rfl; exact h3 rfl
    exact⟨_,res1 rfl rfl rfl,(hEb1.trans hEb2),vB (by simp [e])⟩
   ·refine K (Y (R ((D 3) ((LD (hBb1.ext hEb2)) ((D 3) ((LD hBb2) ((BN (Bin.neqBo Tryz.underlying4)) (Z ?_))))))))
    refine CW.condN rfl (fun h4=>?_) (fun h4=>?_)
    ·refine R ((A) (Z (CR ?_)))
     have e:x≠y:=by rintro rfl; exact h4 rfl
     exact⟨_,res1 rfl rfl rfl,(hEb1.trans hEb2),vB (by simp [e])⟩
    ·refine K (R ((A) (Z (CR ?_))))
     have e:x=y:=by cases x; cases y; simp_all
     exact⟨_,res1 rfl rfl rfl,(hEb1.trans hEb2),vB (by simp [e])⟩
theorem z0Z (w:World){S S2:Nat→Prop}(x y:List Attribute){z z2:Value}(hx:rdS S w x z)(hy:rdS S2 w y z2):Ret Tryz.prog 85 #[z,z2] w (fun _=>False) fun v _=>v = .bool (decide (x=y)):=by
 refine (En Tryz.func85) ?_
 obtain⟨A1,c1,rfl,hc1,hm1⟩:=hx.form
 have hl1:x.length≤9223372036854775807:=Nat.le_trans hc1 hm1
 obtain⟨A2,c2,rfl,hc2,hm2⟩:=hy.form
 have hl2:y.length≤9223372036854775807:=Nat.le_trans hc2 hm2
 refine R ((A) (Z (Y (R ((V) ((NS) ((V) ((NS) ((B) (Z ?_))))))))))
 refine CW.condN rfl (fun h1=>?_) (fun h1=>?_)
 ·refine R ((A) (Z (CR ?_)))
  have e:x≠y:=fun e=>h1 (by rw [e])
  exact⟨_,res1 rfl rfl rfl,(Ext.refl _),vB (by simp [e])⟩
 ·refine K (Y (R ((A) (Z ?_))))
  refine CW.block (CW.loop (α:=Nat) (fun q=>[(0,.slice A1 x.length c1),(1,.slice A2 y.length c2),(5,.int .i64 (q:Int))]) (fun q wr=>Ext w wr∧q≤x.length∧x.take q=y.take q) (fun q=>x.length - q) 0 ⟨rfl,rfl,rfl,trivial⟩ ⟨Ext.refl _,by omega,rfl⟩ ?_)
  rintro k σ wr1 ⟨hEwr1,hk,hpre⟩
  refine Y (R ((V) ((V) ((NS) ((B) (Z ?_))))))
  refine CW.condD rfl (fun h2=>?_) (fun h2=>?_)
  ·refine K (Y ?_)
   refine CW.block (Y ?_)
   refine CW.quiet hmix (by kernel_rfl) ?_
   refine (qV) ((qV) ?_)
   obtain⟨xe1,be1,oe1,cse1,hxe1,hAe1,hSe1,hre1,hAte1⟩:=rdS.el hx (i:=k) (by omega)
   have hK1:=hre1
   obtain⟨rfl,hr1,hr2,hr3⟩:=hre1
   refine QL.ev rfl rfl (fun _ _=>Ev.ixA rfl el37 sz41 rfl hAe1 rfl (by omega)) ?_
   refine QL.ev rfl rfl (fun _ hq=>Ev.lda rfl ag41 sz41 rfl (hAte1.ext (hEwr1.trans hq)) rfl) ?_
   refine (qV) ((qV) ?_)
   obtain⟨xe2,be2,oe2,cse2,hxe2,hAe2,hSe2,hre2,hAte2⟩:=rdS.el hy (i:=k) (by omega)
   have hK2:=hre2
   obtain⟨rfl,hr4,hr5,hr6⟩:=hre2
   refine QL.ev rfl rfl (fun _ _=>Ev.ixA rfl el37 sz41 rfl hAe2 rfl (by omega)) ?_
   refine QL.ev rfl rfl (fun _ hq=>Ev.lda rfl ag41 sz41 rfl (hAte2.ext (hEwr1.trans hq)) rfl) ?_
   refine QL.call rfl rfl rfl rfl rfl ok116 rfl (fun _ hq=>z1J _ xe1 xe2 (rd_ext hK1 (hEwr1.trans hq)) (rd_ext hK2 (hEwr1.trans hq))) ?_
   refine (qN) ?_
   refine QL.nil (fun w1 hEw1=>?_)
   refine CW.condN rfl (fun h3=>?_) (fun h3=>?_)
   ·refine R ((A) (Z (CR ?_)))
    have e:x≠y:=q7Q hxe1 hxe2 h3
    exact⟨_,res1 rfl rfl rfl,(hEwr1.trans hEw1),vB (by simp [e])⟩
   ·refine K (X ((V) ((BO) ((A) (Z ?_)))))
    exact⟨k+1,⟨rfl,rfl,rfl,trivial⟩,⟨(hEwr1.trans hEw1),by omega,q4p hpre hxe1 hxe2 h3⟩,by omega⟩
  ·refine CE (R ((A) (Z (CR ?_))))
   have e:x=y:=q5C (by omega) (by omega) hpre
   exact⟨_,res1 rfl rfl rfl,hEwr1,vB (by simp [e])⟩
theorem z4k (w:World){S S2:Nat→Prop}(x y:Symbol){cs ds:List Value}(hx:rd S w x cs)(hy:rd S2 w y ds):Ret Tryz.prog 48 #[.agg cs.toArray,.agg ds.toArray] w (fun _=>False) fun v _=>v = .bool (decide (x=y)):=by
 refine (En Tryz.func48) ?_
 have hK1:=hx
 obtain⟨v1,rfl,hr1,hs1⟩:=hx
 obtain⟨A1,c1,rfl,hc1,hm1⟩:=hs1.form
 have hK2:=hy
 obtain⟨v2,rfl,hr2,hs2⟩:=hy
 obtain⟨A2,c2,rfl,hc2,hm2⟩:=hs2.form
 refine R ?_
 refine WL.box rfl rfl rfl rfl rfl fun b1 w1 hEb1 hbb1 hBb1=>?_
 refine WL.box rfl rfl rfl rfl rfl fun b2 w2 hEb2 hbb2 hBb2=>(A) (Z (Y (R ((D 0) ((LD (hBb1.ext hEb2)) ((D 0) ((LD hBb2) ((B) (Z ?_)))))))))
 refine CW.condN rfl (fun h1=>?_) (fun h1=>?_)
 ·refine R ((A) (Z (CR ?_)))
  have e:x≠y:=by rintro rfl; exact h1 rfl
  exact⟨_,res1 rfl rfl rfl,(hEb1.trans hEb2),vB (by simp [e])⟩
 ·refine K (Y (R ((D 1) ((LD (hBb1.ext hEb2)) ((D 1) ((LD hBb2) ?_))))))
  refine (CA ok85 (z0Z _ x.Attributes y.Attributes (hs1.ext (hEb1.trans hEb2)) (hs2.ext (hEb1.trans hEb2)))) ?_
  rintro _ w3 hEw3 rfl
  refine (N) (Z ?_)
  refine CW.condN rfl (fun h2=>?_) (fun h2=>?_)
  ·refine R ((A) (Z (CR ?_)))
   have e:x≠y:=by rintro rfl; exact h2 rfl
   exact⟨_,res1 rfl rfl rfl,((hEb1.trans hEb2).trans hEw3),vB (by simp [e])⟩
  ·refine K (R ((A) (Z (CR ?_))))
   have e:x=y:=by cases x; cases y; simp_all
   exact⟨_,res1 rfl rfl rfl,((hEb1.trans hEb2).trans hEw3),vB (by simp [e])⟩
theorem z3s (w:World){S S2:Nat→Prop}(x y:List Symbol){z z2:Value}(hx:rdS S w x z)(hy:rdS S2 w y z2):Ret Tryz.prog 22 #[z,z2] w (fun _=>False) fun v _=>v = .bool (decide (x=y)):=by
 refine (En Tryz.func22) ?_
 obtain⟨A1,c1,rfl,hc1,hm1⟩:=hx.form
 have hl1:x.length≤9223372036854775807:=Nat.le_trans hc1 hm1
 obtain⟨A2,c2,rfl,hc2,hm2⟩:=hy.form
 have hl2:y.length≤9223372036854775807:=Nat.le_trans hc2 hm2
 refine R ((A) (Z (Y (R ((V) ((NS) ((V) ((NS) ((B) (Z ?_))))))))))
 refine CW.condN rfl (fun h1=>?_) (fun h1=>?_)
 ·refine R ((A) (Z (CR ?_)))
  have e:x≠y:=fun e=>h1 (by rw [e])
  exact⟨_,res1 rfl rfl rfl,(Ext.refl _),vB (by simp [e])⟩
 ·refine K (Y (R ((A) (Z ?_))))
  refine CW.block (CW.loop (α:=Nat) (fun q=>[(0,.slice A1 x.length c1),(1,.slice A2 y.length c2),(5,.int .i64 (q:Int))]) (fun q wr=>Ext w wr∧q≤x.length∧x.take q=y.take q) (fun q=>x.length - q) 0 ⟨rfl,rfl,rfl,trivial⟩ ⟨Ext.refl _,by omega,rfl⟩ ?_)
  rintro k σ wr1 ⟨hEwr1,hk,hpre⟩
  refine Y (R ((V) ((V) ((NS) ((B) (Z ?_))))))
  refine CW.condD rfl (fun h2=>?_) (fun h2=>?_)
  ·refine K (Y ?_)
   refine CW.block (Y ?_)
   refine CW.quiet hmix (by kernel_rfl) ?_
   refine (qV) ((qV) ?_)
   obtain⟨xe1,be1,oe1,cse1,hxe1,hAe1,hSe1,hre1,hAte1⟩:=rdS.el hx (i:=k) (by omega)
   have hK1:=hre1
   obtain⟨v1,rfl,hr1,hs1⟩:=hre1
   obtain⟨A3,c3,rfl,hc3,hm3⟩:=hs1.form
   refine QL.ev rfl rfl (fun _ _=>Ev.ixA rfl el28 sz39 rfl hAe1 rfl (by omega)) ?_
   refine QL.ev rfl rfl (fun _ hq=>Ev.lda rfl ag39 sz39 rfl (hAte1.ext (hEwr1.trans hq)) rfl) ?_
   refine (qV) ((qV) ?_)
   obtain⟨xe2,be2,oe2,cse2,hxe2,hAe2,hSe2,hre2,hAte2⟩:=rdS.el hy (i:=k) (by omega)
   have hK2:=hre2
   obtain⟨v2,rfl,hr2,hs2⟩:=hre2
   obtain⟨A4,c4,rfl,hc4,hm4⟩:=hs2.form
   refine QL.ev rfl rfl (fun _ _=>Ev.ixA rfl el28 sz39 rfl hAe2 rfl (by omega)) ?_
   refine QL.ev rfl rfl (fun _ hq=>Ev.lda rfl ag39 sz39 rfl (hAte2.ext (hEwr1.trans hq)) rfl) ?_
   refine QL.call rfl rfl rfl rfl rfl ok48 rfl (fun _ hq=>z4k _ xe1 xe2 (rd_ext hK1 (hEwr1.trans hq)) (rd_ext hK2 (hEwr1.trans hq))) ?_
   refine (qN) ?_
   refine QL.nil (fun w1 hEw1=>?_)
   refine CW.condN rfl (fun h3=>?_) (fun h3=>?_)
   ·refine R ((A) (Z (CR ?_)))
    have e:x≠y:=q7Q hxe1 hxe2 h3
    exact⟨_,res1 rfl rfl rfl,(hEwr1.trans hEw1),vB (by simp [e])⟩
   ·refine K (X ((V) ((BO) ((A) (Z ?_)))))
    exact⟨k+1,⟨rfl,rfl,rfl,trivial⟩,⟨(hEwr1.trans hEw1),by omega,q4p hpre hxe1 hxe2 h3⟩,by omega⟩
  ·refine CE (R ((A) (Z (CR ?_))))
   have e:x=y:=q5C (by omega) (by omega) hpre
   exact⟨_,res1 rfl rfl rfl,hEwr1,vB (by simp [e])⟩
theorem z3t (w:World){S S2:Nat→Prop}(x y:List ByteArray){z z2:Value}(hx:rdS S w x z)(hy:rdS S2 w y z2):Ret Tryz.prog 86 #[z,z2] w (fun _=>False) fun v _=>v = .bool (decide (x=y)):=by
 refine (En Tryz.func86) ?_
 obtain⟨A1,c1,rfl,hc1,hm1⟩:=hx.form
 have hl1:x.length≤9223372036854775807:=Nat.le_trans hc1 hm1
 obtain⟨A2,c2,rfl,hc2,hm2⟩:=hy.form
 have hl2:y.length≤9223372036854775807:=Nat.le_trans hc2 hm2
 refine R ((A) (Z (Y (R ((V) ((NS) ((V) ((NS) ((B) (Z ?_))))))))))
 refine CW.condN rfl (fun h1=>?_) (fun h1=>?_)
 ·refine R ((A) (Z (CR ?_)))
  have e:x≠y:=fun e=>h1 (by rw [e])
  exact⟨_,res1 rfl rfl rfl,(Ext.refl _),vB (by simp [e])⟩
 ·refine K (Y (R ((A) (Z ?_))))
  refine CW.block (CW.loop (α:=Nat) (fun q=>[(0,.slice A1 x.length c1),(1,.slice A2 y.length c2),(5,.int .i64 (q:Int))]) (fun q wr=>Ext w wr∧q≤x.length∧x.take q=y.take q) (fun q=>x.length - q) 0 ⟨rfl,rfl,rfl,trivial⟩ ⟨Ext.refl _,by omega,rfl⟩ ?_)
  rintro k σ wr1 ⟨hEwr1,hk,hpre⟩
  refine Y (R ((V) ((V) ((NS) ((B) (Z ?_))))))
  refine CW.condD rfl (fun h2=>?_) (fun h2=>?_)
  ·refine K (Y ?_)
   refine CW.block (Y ?_)
   refine CW.quiet hmix (by kernel_rfl) ?_
   refine (qV) ((qV) ?_)
   obtain⟨xe1,be1,oe1,cse1,hxe1,hAe1,hSe1,hre1,hAte1⟩:=rdS.el hx (i:=k) (by omega)
   have hK1:=hre1
   obtain⟨rfl,hr1⟩:=hre1
   refine QL.ev rfl rfl (fun _ _=>Ev.ixA rfl el43 sz9 rfl hAe1 rfl (by omega)) ?_
   refine QL.ev rfl rfl (fun _ hq=>Ev.ld rfl ag9 rfl ((hAte1.ext (hEwr1.trans hq)).cell0 rfl)) ?_
   refine (qV) ((qV) ?_)
   obtain⟨xe2,be2,oe2,cse2,hxe2,hAe2,hSe2,hre2,hAte2⟩:=rdS.el hy (i:=k) (by omega)
   have hK2:=hre2
   obtain⟨rfl,hr2⟩:=hre2
   refine QL.ev rfl rfl (fun _ _=>Ev.ixA rfl el43 sz9 rfl hAe2 rfl (by omega)) ?_
   refine QL.ev rfl rfl (fun _ hq=>Ev.ld rfl ag9 rfl ((hAte2.ext (hEwr1.trans hq)).cell0 rfl)) ?_
   refine (qB) ?_
   refine QL.nil (fun w1 hEw1=>?_)
   refine CW.condN rfl (fun h3=>?_) (fun h3=>?_)
   ·refine R ((A) (Z (CR ?_)))
    have e:x≠y:=q7Q hxe1 hxe2 h3
    exact⟨_,res1 rfl rfl rfl,(hEwr1.trans hEw1),vB (by simp [e])⟩
   ·refine K (X ((V) ((BO) ((A) (Z ?_)))))
    exact⟨k+1,⟨rfl,rfl,rfl,trivial⟩,⟨(hEwr1.trans hEw1),by omega,q4p hpre hxe1 hxe2 h3⟩,by omega⟩
  ·refine CE (R ((A) (Z (CR ?_))))
   have e:x=y:=q5C (by omega) (by omega) hpre
   exact⟨_,res1 rfl rfl rfl,hEwr1,vB (by simp [e])⟩
theorem z1a (w:World){S S2:Nat→Prop}(x y:Occurrence){cs ds:List Value}(hx:rd S w x cs)(hy:rd S2 w y ds):Ret Tryz.prog 152 #[.agg cs.toArray,.agg ds.toArray] w (fun _=>False) fun v _=>v = .bool (decide (x=y)):=by
 refine (En Tryz.func152) ?_
 have hK1:=hx
 obtain⟨rfl,hr1,hr2⟩:=hx
 have hK2:=hy
 obtain⟨rfl,hr3,hr4⟩:=hy
 refine R ?_
 refine WL.box rfl rfl rfl rfl rfl fun b1 w1 hEb1 hbb1 hBb1=>?_
 refine WL.box rfl rfl rfl rfl rfl fun b2 w2 hEb2 hbb2 hBb2=>(A) (Z (Y (R ((D 0) ((LD (hBb1.ext hEb2)) ((D 0) ((LD hBb2) ((B) (Z ?_)))))))))
 refine CW.condN rfl (fun h1=>?_) (fun h1=>?_)
 ·refine R ((A) (Z (CR ?_)))
  have e:x≠y:=by rintro rfl; exact h1 rfl
  exact⟨_,res1 rfl rfl rfl,(hEb1.trans hEb2),vB (by simp [e])⟩
 ·refine K (Y (R ((D 1) ((LD (hBb1.ext hEb2)) ((D 1) ((LD hBb2) ((B) (Z ?_))))))))
  refine CW.condN rfl (fun h2=>?_) (fun h2=>?_)
  ·refine R ((A) (Z (CR ?_)))
   have e:x≠y:=by rintro rfl; exact h2 rfl
   exact⟨_,res1 rfl rfl rfl,(hEb1.trans hEb2),vB (by simp [e])⟩
  ·refine K (R ((A) (Z (CR ?_))))
   have e:x=y:=by cases x; cases y; simp_all
   exact⟨_,res1 rfl rfl rfl,(hEb1.trans hEb2),vB (by simp [e])⟩
theorem z4Y (w:World){S S2:Nat→Prop}(x y:List Expr){z z2:Value}(hx:rdS S w x z)(hy:rdS S2 w y z2)(ih:∀ x0∈x,∀ (w:World){S S2:Nat→Prop}(y:Expr){cs ds:List Value}(hx:rd S w x0 cs)(hy:rd S2 w y ds),Ret Tryz.prog 153 #[.agg cs.toArray,.agg ds.toArray] w (fun _=>False) fun v _=>v = .bool (decide (x0=y))):Ret Tryz.prog 182 #[z,z2] w (fun _=>False) fun v _=>v = .bool (decide (x=y)):=by
 refine (En Tryz.func182) ?_
 obtain⟨A1,c1,rfl,hc1,hm1⟩:=hx.form
 have hl1:x.length≤9223372036854775807:=Nat.le_trans hc1 hm1
 obtain⟨A2,c2,rfl,hc2,hm2⟩:=hy.form
 have hl2:y.length≤9223372036854775807:=Nat.le_trans hc2 hm2
 refine R ((A) (Z (Y (R ((V) ((NS) ((V) ((NS) ((B) (Z ?_))))))))))
 refine CW.condN rfl (fun h1=>?_) (fun h1=>?_)
 ·refine R ((A) (Z (CR ?_)))
  have e:x≠y:=fun e=>h1 (by rw [e])
  exact⟨_,res1 rfl rfl rfl,(Ext.refl _),vB (by simp [e])⟩
 ·refine K (Y (R ((A) (Z ?_))))
  refine CW.block (CW.loop (α:=Nat) (fun q=>[(0,.slice A1 x.length c1),(1,.slice A2 y.length c2),(5,.int .i64 (q:Int))]) (fun q wr=>Ext w wr∧q≤x.length∧x.take q=y.take q) (fun q=>x.length - q) 0 ⟨rfl,rfl,rfl,trivial⟩ ⟨Ext.refl _,by omega,rfl⟩ ?_)
  rintro k σ wr1 ⟨hEwr1,hk,hpre⟩
  refine Y (R ((V) ((V) ((NS) ((B) (Z ?_))))))
  refine CW.condD rfl (fun h2=>?_) (fun h2=>?_)
  ·refine K (Y ?_)
   refine CW.block (Y ?_)
   refine CW.quiet hmix (by kernel_rfl) ?_
   refine (qV) ((qV) ?_)
   obtain⟨xe1,be1,oe1,cse1,hxe1,hAe1,hSe1,hre1,hAte1⟩:=rdS.el hx (i:=k) (by omega)
   have hK1:=hre1
   obtain⟨v1,rfl,hr1,hr2,hr3,hr4,hr5,hr6,hs1⟩:=q0b.1 hre1
   obtain⟨A3,c3,rfl,hc3,hm3⟩:=hs1.form
   refine QL.ev rfl rfl (fun _ _=>Ev.ixA rfl el56 sz58 rfl hAe1 rfl (by omega)) ?_
   refine QL.ev rfl rfl (fun _ hq=>Ev.lda rfl ag58 sz58 rfl (hAte1.ext (hEwr1.trans hq)) rfl) ?_
   refine (qV) ((qV) ?_)
   obtain⟨xe2,be2,oe2,cse2,hxe2,hAe2,hSe2,hre2,hAte2⟩:=rdS.el hy (i:=k) (by omega)
   have hK2:=hre2
   obtain⟨v2,rfl,hr7,hr8,hr9,hr10,hr11,hr12,hs2⟩:=q0b.1 hre2
   obtain⟨A4,c4,rfl,hc4,hm4⟩:=hs2.form
   refine QL.ev rfl rfl (fun _ _=>Ev.ixA rfl el56 sz58 rfl hAe2 rfl (by omega)) ?_
   refine QL.ev rfl rfl (fun _ hq=>Ev.lda rfl ag58 sz58 rfl (hAte2.ext (hEwr1.trans hq)) rfl) ?_
   refine QL.call rfl rfl rfl rfl rfl ok153 rfl (fun _ hq=>ih xe1 (List.mem_of_getElem? hxe1) _ xe2 (rd_ext hK1 (hEwr1.trans hq)) (rd_ext hK2 (hEwr1.trans hq))) ?_
   refine (qN) ?_
   refine QL.nil (fun w1 hEw1=>?_)
   refine CW.condN rfl (fun h3=>?_) (fun h3=>?_)
   ·refine R ((A) (Z (CR ?_)))
    have e:x≠y:=q7Q hxe1 hxe2 h3
    exact⟨_,res1 rfl rfl rfl,(hEwr1.trans hEw1),vB (by simp [e])⟩
   ·refine K (X ((V) ((BO) ((A) (Z ?_)))))
    exact⟨k+1,⟨rfl,rfl,rfl,trivial⟩,⟨(hEwr1.trans hEw1),by omega,q4p hpre hxe1 hxe2 h3⟩,by omega⟩
  ·refine CE (R ((A) (Z (CR ?_))))
   have e:x=y:=q5C (by omega) (by omega) hpre
   exact⟨_,res1 rfl rfl rfl,hEwr1,vB (by simp [e])⟩
theorem z5T (w:World){S S2:Nat→Prop}(x y:Expr){cs ds:List Value}(hx:rd S w x cs)(hy:rd S2 w y ds)(ih:∀ x0∈x.Args,∀ (w:World){S S2:Nat→Prop}(y:Expr){cs ds:List Value}(hx:rd S w x0 cs)(hy:rd S2 w y ds),Ret Tryz.prog 153 #[.agg cs.toArray,.agg ds.toArray] w (fun _=>False) fun v _=>v = .bool (decide (x0=y))):Ret Tryz.prog 153 #[.agg cs.toArray,.agg ds.toArray] w (fun _=>False) fun v _=>v = .bool (decide (x=y)):=by
 refine (En Tryz.func153) ?_
 have hK1:=hx
 obtain⟨v1,rfl,hr1,hr2,hr3,hr4,hr5,hr6,hs1⟩:=q0b.1 hx
 obtain⟨A1,c1,rfl,hc1,hm1⟩:=hs1.form
 have hK2:=hy
 obtain⟨v2,rfl,hr7,hr8,hr9,hr10,hr11,hr12,hs2⟩:=q0b.1 hy
 obtain⟨A2,c2,rfl,hc2,hm2⟩:=hs2.form
 refine R ?_
 refine WL.box rfl rfl rfl rfl rfl fun b1 w1 hEb1 hbb1 hBb1=>?_
 refine WL.box rfl rfl rfl rfl rfl fun b2 w2 hEb2 hbb2 hBb2=>(A) (Z (Y (R ((D 0) ((LD (hBb1.ext hEb2)) ((D 0) ((LD hBb2) ((B) (Z ?_)))))))))
 refine CW.condN rfl (fun h1=>?_) (fun h1=>?_)
 ·refine R ((A) (Z (CR ?_)))
  have e:x≠y:=by rintro rfl; exact h1 rfl
  exact⟨_,res1 rfl rfl rfl,(hEb1.trans hEb2),vB (by simp [e])⟩
 ·refine K (Y (R ((D 1) ((LD (hBb1.ext hEb2)) ((D 1) ((LD hBb2) ((B) (Z ?_))))))))
  refine CW.condN rfl (fun h2=>?_) (fun h2=>?_)
  ·refine R ((A) (Z (CR ?_)))
   have e:x≠y:=by rintro rfl; exact h2 rfl
   exact⟨_,res1 rfl rfl rfl,(hEb1.trans hEb2),vB (by simp [e])⟩
  ·refine K (Y (R ((D 2) ((LD (hBb1.ext hEb2)) ((D 2) ((LD hBb2) ((B) (Z ?_))))))))
   refine CW.condN rfl (fun h3=>?_) (fun h3=>?_)
   ·refine R ((A) (Z (CR ?_)))
    have e:x≠y:=by rintro rfl; exact h3 rfl
    exact⟨_,res1 rfl rfl rfl,(hEb1.trans hEb2),vB (by simp [e])⟩
   ·refine K (Y (R ((D 3) ((LD (hBb1.ext hEb2)) ((D 3) ((LD hBb2) ((B) (Z ?_))))))))
    refine CW.condN rfl (fun h4=>?_) (fun h4=>?_)
    ·refine R ((A) (Z (CR ?_)))
     have e:x≠y:=by rintro rfl; exact h4 rfl
     exact⟨_,res1 rfl rfl rfl,(hEb1.trans hEb2),vB (by simp [e])⟩
    ·refine K (Y (R ((D 4) ((LD (hBb1.ext hEb2)) ((D 4) ((LD hBb2) ((B) (Z ?_))))))))
     refine CW.condN rfl (fun h5=>?_) (fun h5=>?_)
     ·refine R ((A) (Z (CR ?_)))
      have e:x≠y:=by rintro rfl; exact h5 rfl
      exact⟨_,res1 rfl rfl rfl,(hEb1.trans hEb2),vB (by simp [e])⟩
     ·refine K (Y (R ((D 5) ((LD (hBb1.ext hEb2)) ((D 5) ((LD hBb2) ((B) (Z ?_))))))))
      refine CW.condN rfl (fun h6=>?_) (fun h6=>?_)
      ·refine R ((A) (Z (CR ?_)))
       have e:x≠y:=by rintro rfl; exact h6 rfl
       exact⟨_,res1 rfl rfl rfl,(hEb1.trans hEb2),vB (by simp [e])⟩
      ·refine K (Y (R ((D 6) ((LD (hBb1.ext hEb2)) ((D 6) ((LD hBb2) ?_))))))
       refine (CA ok182 (z4Y _ x.Args y.Args (hs1.ext (hEb1.trans hEb2)) (hs2.ext (hEb1.trans hEb2)) ih)) ?_
       rintro _ w3 hEw3 rfl
       refine (N) (Z ?_)
       refine CW.condN rfl (fun h7=>?_) (fun h7=>?_)
       ·refine R ((A) (Z (CR ?_)))
        have e:x≠y:=by rintro rfl; exact h7 rfl
        exact⟨_,res1 rfl rfl rfl,((hEb1.trans hEb2).trans hEw3),vB (by simp [e])⟩
       ·refine K (R ((A) (Z (CR ?_))))
        have e:x=y:=by cases x; cases y; simp_all
        exact⟨_,res1 rfl rfl rfl,((hEb1.trans hEb2).trans hEw3),vB (by simp [e])⟩
theorem q9R (w:World){S S2:Nat→Prop}(x y:Expr){cs ds:List Value}(hx:rd S w x cs)(hy:rd S2 w y ds) :
    Ret Tryz.prog 153 #[.agg cs.toArray,.agg ds.toArray] w (fun _=>False) fun v _=>v = .bool (decide (x=y)):=
  z3L (P:=fun x=>∀ (w:World) {S S2:Nat→Prop} (y:Expr) {cs ds:List Value} (hx:rd S w x cs) (hy:rd S2 w y ds),Ret Tryz.prog 153 #[.agg cs.toArray,.agg ds.toArray] w (fun _=>False) fun v _=>v = .bool (decide (x=y))) (fun x ih=>by intros; exact z5T _ x _ (by assumption) (by assumption) ih) x w y hx hy

theorem z2K (w:World){S S2:Nat→Prop}(x y:Equation){cs ds:List Value}(hx:rd S w x cs)(hy:rd S2 w y ds):Ret Tryz.prog 117 #[.agg cs.toArray,.agg ds.toArray] w (fun _=>False) fun v _=>v = .bool (decide (x=y)):=by
 refine (En Tryz.func117) ?_
 have hK1:=hx
 obtain⟨v1,rfl,hr1,hr2,hr3,hr4,hr5,hr6,hr7,hr8,hs1⟩:=hx
 obtain⟨A1,c1,rfl,hc1,hm1⟩:=hs1.form
 have hK2:=hy
 obtain⟨v2,rfl,hr9,hr10,hr11,hr12,hr13,hr14,hr15,hr16,hs2⟩:=hy
 obtain⟨A2,c2,rfl,hc2,hm2⟩:=hs2.form
 refine R ?_
 refine WL.box rfl rfl rfl rfl rfl fun b1 w1 hEb1 hbb1 hBb1=>?_
 refine WL.box rfl rfl rfl rfl rfl fun b2 w2 hEb2 hbb2 hBb2=>(A) (Z (Y (R ((D 0) ?_))))
 refine WL.ev rfl rfl (Ev.lda rfl ag55 sz55 rfl (Blk.part (hBb1.ext hEb2) 0 2) rfl) ((D 0) ?_)
 refine WL.ev rfl rfl (Ev.lda rfl ag55 sz55 rfl (Blk.part hBb2 0 2) rfl) ?_
 refine (CA ok152 (z1a _ x.At y.At (rd_ext (q5P hK1) (hEb1.trans hEb2)) (rd_ext (q5P hK2) (hEb1.trans hEb2)))) ?_
 rintro _ w3 hEw3 rfl
 refine (N) (Z ?_)
 refine CW.condN rfl (fun h1=>?_) (fun h1=>?_)
 ·refine R ((A) (Z (CR ?_)))
  have e:x≠y:=by rintro rfl; exact h1 rfl
  exact⟨_,res1 rfl rfl rfl,((hEb1.trans hEb2).trans hEw3),vB (by simp [e])⟩
 ·refine K (Y (R ((D 2) ?_)))
  refine WL.ev rfl rfl (Ev.lda rfl ag58 sz58 rfl (Blk.part (hBb1.ext (hEb2.trans hEw3)) 2 7) rfl) ((D 2) ?_)
  refine WL.ev rfl rfl (Ev.lda rfl ag58 sz58 rfl (Blk.part (hBb2.ext hEw3) 2 7) rfl) ?_
  refine (CA ok153 (q9R _ x.Expr y.Expr (rd_ext (q4U hK1) ((hEb1.trans hEb2).trans hEw3)) (rd_ext (q4U hK2) ((hEb1.trans hEb2).trans hEw3)))) ?_
  rintro _ w4 hEw4 rfl
  refine (N) (Z ?_)
  refine CW.condN rfl (fun h2=>?_) (fun h2=>?_)
  ·refine R ((A) (Z (CR ?_)))
   have e:x≠y:=by rintro rfl; exact h2 rfl
   exact⟨_,res1 rfl rfl rfl,(((hEb1.trans hEb2).trans hEw3).trans hEw4),vB (by simp [e])⟩
  ·refine K (R ((A) (Z (CR ?_))))
   have e:x=y:=by cases x; cases y; simp_all
   exact⟨_,res1 rfl rfl rfl,(((hEb1.trans hEb2).trans hEw3).trans hEw4),vB (by simp [e])⟩
theorem z1K (w:World){S S2:Nat→Prop}(x y:List Equation){z z2:Value}(hx:rdS S w x z)(hy:rdS S2 w y z2):Ret Tryz.prog 87 #[z,z2] w (fun _=>False) fun v _=>v = .bool (decide (x=y)):=by
 refine (En Tryz.func87) ?_
 obtain⟨A1,c1,rfl,hc1,hm1⟩:=hx.form
 have hl1:x.length≤9223372036854775807:=Nat.le_trans hc1 hm1
 obtain⟨A2,c2,rfl,hc2,hm2⟩:=hy.form
 have hl2:y.length≤9223372036854775807:=Nat.le_trans hc2 hm2
 refine R ((A) (Z (Y (R ((V) ((NS) ((V) ((NS) ((B) (Z ?_))))))))))
 refine CW.condN rfl (fun h1=>?_) (fun h1=>?_)
 ·refine R ((A) (Z (CR ?_)))
  have e:x≠y:=fun e=>h1 (by rw [e])
  exact⟨_,res1 rfl rfl rfl,(Ext.refl _),vB (by simp [e])⟩
 ·refine K (Y (R ((A) (Z ?_))))
  refine CW.block (CW.loop (α:=Nat) (fun q=>[(0,.slice A1 x.length c1),(1,.slice A2 y.length c2),(5,.int .i64 (q:Int))]) (fun q wr=>Ext w wr∧q≤x.length∧x.take q=y.take q) (fun q=>x.length - q) 0 ⟨rfl,rfl,rfl,trivial⟩ ⟨Ext.refl _,by omega,rfl⟩ ?_)
  rintro k σ wr1 ⟨hEwr1,hk,hpre⟩
  refine Y (R ((V) ((V) ((NS) ((B) (Z ?_))))))
  refine CW.condD rfl (fun h2=>?_) (fun h2=>?_)
  ·refine K (Y ?_)
   refine CW.block (Y ?_)
   refine CW.quiet hmix (by kernel_rfl) ?_
   refine (qV) ((qV) ?_)
   obtain⟨xe1,be1,oe1,cse1,hxe1,hAe1,hSe1,hre1,hAte1⟩:=rdS.el hx (i:=k) (by omega)
   have hK1:=hre1
   obtain⟨v1,rfl,hr1,hr2,hr3,hr4,hr5,hr6,hr7,hr8,hs1⟩:=hre1
   obtain⟨A3,c3,rfl,hc3,hm3⟩:=hs1.form
   refine QL.ev rfl rfl (fun _ _=>Ev.ixA rfl el44 sz60 rfl hAe1 rfl (by omega)) ?_
   refine QL.ev rfl rfl (fun _ hq=>Ev.lda rfl ag60 sz60 rfl (hAte1.ext (hEwr1.trans hq)) rfl) ?_
   refine (qV) ((qV) ?_)
   obtain⟨xe2,be2,oe2,cse2,hxe2,hAe2,hSe2,hre2,hAte2⟩:=rdS.el hy (i:=k) (by omega)
   have hK2:=hre2
   obtain⟨v2,rfl,hr9,hr10,hr11,hr12,hr13,hr14,hr15,hr16,hs2⟩:=hre2
   obtain⟨A4,c4,rfl,hc4,hm4⟩:=hs2.form
   refine QL.ev rfl rfl (fun _ _=>Ev.ixA rfl el44 sz60 rfl hAe2 rfl (by omega)) ?_
   refine QL.ev rfl rfl (fun _ hq=>Ev.lda rfl ag60 sz60 rfl (hAte2.ext (hEwr1.trans hq)) rfl) ?_
   refine QL.call rfl rfl rfl rfl rfl ok117 rfl (fun _ hq=>z2K _ xe1 xe2 (rd_ext hK1 (hEwr1.trans hq)) (rd_ext hK2 (hEwr1.trans hq))) ?_
   refine (qN) ?_
   refine QL.nil (fun w1 hEw1=>?_)
   refine CW.condN rfl (fun h3=>?_) (fun h3=>?_)
   ·refine R ((A) (Z (CR ?_)))
    have e:x≠y:=q7Q hxe1 hxe2 h3
    exact⟨_,res1 rfl rfl rfl,(hEwr1.trans hEw1),vB (by simp [e])⟩
   ·refine K (X ((V) ((BO) ((A) (Z ?_)))))
    exact⟨k+1,⟨rfl,rfl,rfl,trivial⟩,⟨(hEwr1.trans hEw1),by omega,q4p hpre hxe1 hxe2 h3⟩,by omega⟩
  ·refine CE (R ((A) (Z (CR ?_))))
   have e:x=y:=q5C (by omega) (by omega) hpre
   exact⟨_,res1 rfl rfl rfl,hEwr1,vB (by simp [e])⟩
theorem q9S (w:World){S S2:Nat→Prop}(x y:Contribution){cs ds:List Value}(hx:rd S w x cs)(hy:rd S2 w y ds):Ret Tryz.prog 118 #[.agg cs.toArray,.agg ds.toArray] w (fun _=>False) fun v _=>v = .bool (decide (x=y)):=by
 refine (En Tryz.func118) ?_
 have hK1:=hx
 obtain⟨v1,v2,rfl,hr1,hr2,hr3,hr4,hr5,hr6,hr7,hr8,hr9,hr10,hr11,hr12,hr13,hr14,hs1,hs2⟩:=hx
 obtain⟨A1,c1,rfl,hc1,hm1⟩:=hs1.form
 obtain⟨A2,c2,rfl,hc2,hm2⟩:=hs2.form
 have hK2:=hy
 obtain⟨v3,v4,rfl,hr15,hr16,hr17,hr18,hr19,hr20,hr21,hr22,hr23,hr24,hr25,hr26,hr27,hr28,hs3,hs4⟩:=hy
 obtain⟨A3,c3,rfl,hc3,hm3⟩:=hs3.form
 obtain⟨A4,c4,rfl,hc4,hm4⟩:=hs4.form
 refine R ?_
 refine WL.box rfl rfl rfl rfl rfl fun b1 w1 hEb1 hbb1 hBb1=>?_
 refine WL.box rfl rfl rfl rfl rfl fun b2 w2 hEb2 hbb2 hBb2=>(A) (Z (Y (R ((D 0) ((LD (hBb1.ext hEb2)) ((D 0) ((LD hBb2) ((B) (Z ?_)))))))))
 refine CW.condN rfl (fun h1=>?_) (fun h1=>?_)
 ·refine R ((A) (Z (CR ?_)))
  have e:x≠y:=by rintro rfl; exact h1 rfl
  exact⟨_,res1 rfl rfl rfl,(hEb1.trans hEb2),vB (by simp [e])⟩
 ·refine K (Y (R ((D 1) ((LD (hBb1.ext hEb2)) ((D 1) ((LD hBb2) ((B) (Z ?_))))))))
  refine CW.condN rfl (fun h2=>?_) (fun h2=>?_)
  ·refine R ((A) (Z (CR ?_)))
   have e:x≠y:=by rintro rfl; exact h2 rfl
   exact⟨_,res1 rfl rfl rfl,(hEb1.trans hEb2),vB (by simp [e])⟩
  ·refine K (Y (R ((D 2) ?_)))
   refine WL.ev rfl rfl (Ev.lda rfl ag58 sz58 rfl (Blk.part (hBb1.ext hEb2) 2 7) rfl) ((D 2) ?_)
   refine WL.ev rfl rfl (Ev.lda rfl ag58 sz58 rfl (Blk.part hBb2 2 7) rfl) ?_
   refine (CA ok153 (q9R _ x.Target y.Target (rd_ext (q3c hK1) (hEb1.trans hEb2)) (rd_ext (q3c hK2) (hEb1.trans hEb2)))) ?_
   rintro _ w3 hEw3 rfl
   refine (N) (Z ?_)
   refine CW.condN rfl (fun h3=>?_) (fun h3=>?_)
   ·refine R ((A) (Z (CR ?_)))
    have e:x≠y:=by rintro rfl; exact h3 rfl
    exact⟨_,res1 rfl rfl rfl,((hEb1.trans hEb2).trans hEw3),vB (by simp [e])⟩
   ·refine K (Y (R ((D 9) ?_)))
    refine WL.ev rfl rfl (Ev.lda rfl ag58 sz58 rfl (Blk.part (hBb1.ext (hEb2.trans hEw3)) 9 7) rfl) ((D 9) ?_)
    refine WL.ev rfl rfl (Ev.lda rfl ag58 sz58 rfl (Blk.part (hBb2.ext hEw3) 9 7) rfl) ?_
    refine (CA ok153 (q9R _ x.Value y.Value (rd_ext (q3l hK1) ((hEb1.trans hEb2).trans hEw3)) (rd_ext (q3l hK2) ((hEb1.trans hEb2).trans hEw3)))) ?_
    rintro _ w4 hEw4 rfl
    refine (N) (Z ?_)
    refine CW.condN rfl (fun h4=>?_) (fun h4=>?_)
    ·refine R ((A) (Z (CR ?_)))
     have e:x≠y:=by rintro rfl; exact h4 rfl
     exact⟨_,res1 rfl rfl rfl,(((hEb1.trans hEb2).trans hEw3).trans hEw4),vB (by simp [e])⟩
    ·refine K (R ((A) (Z (CR ?_))))
     have e:x=y:=by cases x; cases y; simp_all
     exact⟨_,res1 rfl rfl rfl,(((hEb1.trans hEb2).trans hEw3).trans hEw4),vB (by simp [e])⟩
theorem q9v (w:World){S S2:Nat→Prop}(x y:List Contribution){z z2:Value}(hx:rdS S w x z)(hy:rdS S2 w y z2):Ret Tryz.prog 88 #[z,z2] w (fun _=>False) fun v _=>v = .bool (decide (x=y)):=by
 refine (En Tryz.func88) ?_
 obtain⟨A1,c1,rfl,hc1,hm1⟩:=hx.form
 have hl1:x.length≤9223372036854775807:=Nat.le_trans hc1 hm1
 obtain⟨A2,c2,rfl,hc2,hm2⟩:=hy.form
 have hl2:y.length≤9223372036854775807:=Nat.le_trans hc2 hm2
 refine R ((A) (Z (Y (R ((V) ((NS) ((V) ((NS) ((B) (Z ?_))))))))))
 refine CW.condN rfl (fun h1=>?_) (fun h1=>?_)
 ·refine R ((A) (Z (CR ?_)))
  have e:x≠y:=fun e=>h1 (by rw [e])
  exact⟨_,res1 rfl rfl rfl,(Ext.refl _),vB (by simp [e])⟩
 ·refine K (Y (R ((A) (Z ?_))))
  refine CW.block (CW.loop (α:=Nat) (fun q=>[(0,.slice A1 x.length c1),(1,.slice A2 y.length c2),(5,.int .i64 (q:Int))]) (fun q wr=>Ext w wr∧q≤x.length∧x.take q=y.take q) (fun q=>x.length - q) 0 ⟨rfl,rfl,rfl,trivial⟩ ⟨Ext.refl _,by omega,rfl⟩ ?_)
  rintro k σ wr1 ⟨hEwr1,hk,hpre⟩
  refine Y (R ((V) ((V) ((NS) ((B) (Z ?_))))))
  refine CW.condD rfl (fun h2=>?_) (fun h2=>?_)
  ·refine K (Y ?_)
   refine CW.block (Y ?_)
   refine CW.quiet hmix (by kernel_rfl) ?_
   refine (qV) ((qV) ?_)
   obtain⟨xe1,be1,oe1,cse1,hxe1,hAe1,hSe1,hre1,hAte1⟩:=rdS.el hx (i:=k) (by omega)
   have hK1:=hre1
   obtain⟨v1,v2,rfl,hr1,hr2,hr3,hr4,hr5,hr6,hr7,hr8,hr9,hr10,hr11,hr12,hr13,hr14,hs1,hs2⟩:=hre1
   obtain⟨A3,c3,rfl,hc3,hm3⟩:=hs1.form
   obtain⟨A4,c4,rfl,hc4,hm4⟩:=hs2.form
   refine QL.ev rfl rfl (fun _ _=>Ev.ixA rfl el45 sz111 rfl hAe1 rfl (by omega)) ?_
   refine QL.ev rfl rfl (fun _ hq=>Ev.lda rfl ag111 sz111 rfl (hAte1.ext (hEwr1.trans hq)) rfl) ?_
   refine (qV) ((qV) ?_)
   obtain⟨xe2,be2,oe2,cse2,hxe2,hAe2,hSe2,hre2,hAte2⟩:=rdS.el hy (i:=k) (by omega)
   have hK2:=hre2
   obtain⟨v3,v4,rfl,hr15,hr16,hr17,hr18,hr19,hr20,hr21,hr22,hr23,hr24,hr25,hr26,hr27,hr28,hs3,hs4⟩:=hre2
   obtain⟨A5,c5,rfl,hc5,hm5⟩:=hs3.form
   obtain⟨A6,c6,rfl,hc6,hm6⟩:=hs4.form
   refine QL.ev rfl rfl (fun _ _=>Ev.ixA rfl el45 sz111 rfl hAe2 rfl (by omega)) ?_
   refine QL.ev rfl rfl (fun _ hq=>Ev.lda rfl ag111 sz111 rfl (hAte2.ext (hEwr1.trans hq)) rfl) ?_
   refine QL.call rfl rfl rfl rfl rfl ok118 rfl (fun _ hq=>q9S _ xe1 xe2 (rd_ext hK1 (hEwr1.trans hq)) (rd_ext hK2 (hEwr1.trans hq))) ?_
   refine (qN) ?_
   refine QL.nil (fun w1 hEw1=>?_)
   refine CW.condN rfl (fun h3=>?_) (fun h3=>?_)
   ·refine R ((A) (Z (CR ?_)))
    have e:x≠y:=q7Q hxe1 hxe2 h3
    exact⟨_,res1 rfl rfl rfl,(hEwr1.trans hEw1),vB (by simp [e])⟩
   ·refine K (X ((V) ((BO) ((A) (Z ?_)))))
    exact⟨k+1,⟨rfl,rfl,rfl,trivial⟩,⟨(hEwr1.trans hEw1),by omega,q4p hpre hxe1 hxe2 h3⟩,by omega⟩
  ·refine CE (R ((A) (Z (CR ?_))))
   have e:x=y:=q5C (by omega) (by omega) hpre
   exact⟨_,res1 rfl rfl rfl,hEwr1,vB (by simp [e])⟩
theorem z5U (w:World){S S2:Nat→Prop}(x y:Rule){cs ds:List Value}(hx:rd S w x cs)(hy:rd S2 w y ds):Ret Tryz.prog 49 #[.agg cs.toArray,.agg ds.toArray] w (fun _=>False) fun v _=>v = .bool (decide (x=y)):=by
 refine (En Tryz.func49) ?_
 have hK1:=hx
 obtain⟨v1,v2,v3,rfl,hr1,hr2,hs1,hs2,hs3⟩:=hx
 obtain⟨A1,c1,rfl,hc1,hm1⟩:=hs1.form
 obtain⟨A2,c2,rfl,hc2,hm2⟩:=hs2.form
 obtain⟨A3,c3,rfl,hc3,hm3⟩:=hs3.form
 have hK2:=hy
 obtain⟨v4,v5,v6,rfl,hr3,hr4,hs4,hs5,hs6⟩:=hy
 obtain⟨A4,c4,rfl,hc4,hm4⟩:=hs4.form
 obtain⟨A5,c5,rfl,hc5,hm5⟩:=hs5.form
 obtain⟨A6,c6,rfl,hc6,hm6⟩:=hs6.form
 refine R ?_
 refine WL.box rfl rfl rfl rfl rfl fun b1 w1 hEb1 hbb1 hBb1=>?_
 refine WL.box rfl rfl rfl rfl rfl fun b2 w2 hEb2 hbb2 hBb2=>(A) (Z (Y (R ((D 0) ((LD (hBb1.ext hEb2)) ((D 0) ((LD hBb2) ((B) (Z ?_)))))))))
 refine CW.condN rfl (fun h1=>?_) (fun h1=>?_)
 ·refine R ((A) (Z (CR ?_)))
  have e:x≠y:=by rintro rfl; exact h1 rfl
  exact⟨_,res1 rfl rfl rfl,(hEb1.trans hEb2),vB (by simp [e])⟩
 ·refine K (Y (R ((D 1) ((LD (hBb1.ext hEb2)) ((D 1) ((LD hBb2) ((B) (Z ?_))))))))
  refine CW.condN rfl (fun h2=>?_) (fun h2=>?_)
  ·refine R ((A) (Z (CR ?_)))
   have e:x≠y:=by rintro rfl; exact h2 rfl
   exact⟨_,res1 rfl rfl rfl,(hEb1.trans hEb2),vB (by simp [e])⟩
  ·refine K (Y (R ((D 2) ((LD (hBb1.ext hEb2)) ((D 2) ((LD hBb2) ?_))))))
   refine (CA ok86 (z3t _ x.Right y.Right (hs1.ext (hEb1.trans hEb2)) (hs4.ext (hEb1.trans hEb2)))) ?_
   rintro _ w3 hEw3 rfl
   refine (N) (Z ?_)
   refine CW.condN rfl (fun h3=>?_) (fun h3=>?_)
   ·refine R ((A) (Z (CR ?_)))
    have e:x≠y:=by rintro rfl; exact h3 rfl
    exact⟨_,res1 rfl rfl rfl,((hEb1.trans hEb2).trans hEw3),vB (by simp [e])⟩
   ·refine K (Y (R ((D 3) ?_)))
    refine WL.ev rfl rfl (Ev.ld rfl ag4 rfl ((hBb1.ext (hEb2.trans hEw3)).cell rfl)) ((D 3) ((LD (hBb2.ext hEw3)) ((BN (Bin.neqBo Tryz.underlying4)) (Z ?_))))
    refine CW.condN rfl (fun h4=>?_) (fun h4=>?_)
    ·refine R ((A) (Z (CR ?_)))
     have e:x≠y:=by rintro rfl; exact h4 rfl
     exact⟨_,res1 rfl rfl rfl,((hEb1.trans hEb2).trans hEw3),vB (by simp [e])⟩
    ·refine K (Y (R ((D 4) ?_)))
     refine WL.ev rfl rfl (Ev.ld rfl ag44 rfl ((hBb1.ext (hEb2.trans hEw3)).cell rfl)) ((D 4) ((LD (hBb2.ext hEw3)) ?_))
     refine (CA ok87 (z1K _ x.Equations y.Equations (hs2.ext ((hEb1.trans hEb2).trans hEw3)) (hs5.ext ((hEb1.trans hEb2).trans hEw3)))) ?_
     rintro _ w4 hEw4 rfl
     refine (N) (Z ?_)
     refine CW.condN rfl (fun h5=>?_) (fun h5=>?_)
     ·refine R ((A) (Z (CR ?_)))
      have e:x≠y:=by rintro rfl; exact h5 rfl
      exact⟨_,res1 rfl rfl rfl,(((hEb1.trans hEb2).trans hEw3).trans hEw4),vB (by simp [e])⟩
     ·refine K (Y (R ((D 5) ?_)))
      refine WL.ev rfl rfl (Ev.ld rfl ag45 rfl ((hBb1.ext ((hEb2.trans hEw3).trans hEw4)).cell rfl)) ((D 5) ?_)
      refine WL.ev rfl rfl (Ev.ld rfl ag45 rfl ((hBb2.ext (hEw3.trans hEw4)).cell rfl)) ?_
      refine (CA ok88 (q9v _ x.Contributions y.Contributions (hs3.ext (((hEb1.trans hEb2).trans hEw3).trans hEw4)) (hs6.ext (((hEb1.trans hEb2).trans hEw3).trans hEw4)))) ?_
      rintro _ w5 hEw5 rfl
      refine (N) (Z ?_)
      refine CW.condN rfl (fun h6=>?_) (fun h6=>?_)
      ·refine R ((A) (Z (CR ?_)))
       have e:x≠y:=by rintro rfl; exact h6 rfl
       exact⟨_,res1 rfl rfl rfl,((((hEb1.trans hEb2).trans hEw3).trans hEw4).trans hEw5),vB (by simp [e])⟩
      ·refine K (R ((A) (Z (CR ?_))))
       have e:x=y:=by cases x; cases y; simp_all
       exact⟨_,res1 rfl rfl rfl,((((hEb1.trans hEb2).trans hEw3).trans hEw4).trans hEw5),vB (by simp [e])⟩
theorem z4Z (w:World){S S2:Nat→Prop}(x y:List Rule){z z2:Value}(hx:rdS S w x z)(hy:rdS S2 w y z2):Ret Tryz.prog 23 #[z,z2] w (fun _=>False) fun v _=>v = .bool (decide (x=y)):=by
 refine (En Tryz.func23) ?_
 obtain⟨A1,c1,rfl,hc1,hm1⟩:=hx.form
 have hl1:x.length≤9223372036854775807:=Nat.le_trans hc1 hm1
 obtain⟨A2,c2,rfl,hc2,hm2⟩:=hy.form
 have hl2:y.length≤9223372036854775807:=Nat.le_trans hc2 hm2
 refine R ((A) (Z (Y (R ((V) ((NS) ((V) ((NS) ((B) (Z ?_))))))))))
 refine CW.condN rfl (fun h1=>?_) (fun h1=>?_)
 ·refine R ((A) (Z (CR ?_)))
  have e:x≠y:=fun e=>h1 (by rw [e])
  exact⟨_,res1 rfl rfl rfl,(Ext.refl _),vB (by simp [e])⟩
 ·refine K (Y (R ((A) (Z ?_))))
  refine CW.block (CW.loop (α:=Nat) (fun q=>[(0,.slice A1 x.length c1),(1,.slice A2 y.length c2),(5,.int .i64 (q:Int))]) (fun q wr=>Ext w wr∧q≤x.length∧x.take q=y.take q) (fun q=>x.length - q) 0 ⟨rfl,rfl,rfl,trivial⟩ ⟨Ext.refl _,by omega,rfl⟩ ?_)
  rintro k σ wr1 ⟨hEwr1,hk,hpre⟩
  refine Y (R ((V) ((V) ((NS) ((B) (Z ?_))))))
  refine CW.condD rfl (fun h2=>?_) (fun h2=>?_)
  ·refine K (Y ?_)
   refine CW.block (Y ?_)
   refine CW.quiet hmix (by kernel_rfl) ?_
   refine (qV) ((qV) ?_)
   obtain⟨xe1,be1,oe1,cse1,hxe1,hAe1,hSe1,hre1,hAte1⟩:=rdS.el hx (i:=k) (by omega)
   have hK1:=hre1
   obtain⟨v1,v2,v3,rfl,hr1,hr2,hs1,hs2,hs3⟩:=hre1
   obtain⟨A3,c3,rfl,hc3,hm3⟩:=hs1.form
   obtain⟨A4,c4,rfl,hc4,hm4⟩:=hs2.form
   obtain⟨A5,c5,rfl,hc5,hm5⟩:=hs3.form
   refine QL.ev rfl rfl (fun _ _=>Ev.ixA rfl el29 sz47 rfl hAe1 rfl (by omega)) ?_
   refine QL.ev rfl rfl (fun _ hq=>Ev.lda rfl ag47 sz47 rfl (hAte1.ext (hEwr1.trans hq)) rfl) ?_
   refine (qV) ((qV) ?_)
   obtain⟨xe2,be2,oe2,cse2,hxe2,hAe2,hSe2,hre2,hAte2⟩:=rdS.el hy (i:=k) (by omega)
   have hK2:=hre2
   obtain⟨v4,v5,v6,rfl,hr3,hr4,hs4,hs5,hs6⟩:=hre2
   obtain⟨A6,c6,rfl,hc6,hm6⟩:=hs4.form
   obtain⟨A7,c7,rfl,hc7,hm7⟩:=hs5.form
   obtain⟨A8,c8,rfl,hc8,hm8⟩:=hs6.form
   refine QL.ev rfl rfl (fun _ _=>Ev.ixA rfl el29 sz47 rfl hAe2 rfl (by omega)) ?_
   refine QL.ev rfl rfl (fun _ hq=>Ev.lda rfl ag47 sz47 rfl (hAte2.ext (hEwr1.trans hq)) rfl) ?_
   refine QL.call rfl rfl rfl rfl rfl ok49 rfl (fun _ hq=>z5U _ xe1 xe2 (rd_ext hK1 (hEwr1.trans hq)) (rd_ext hK2 (hEwr1.trans hq))) ?_
   refine (qN) ?_
   refine QL.nil (fun w1 hEw1=>?_)
   refine CW.condN rfl (fun h3=>?_) (fun h3=>?_)
   ·refine R ((A) (Z (CR ?_)))
    have e:x≠y:=q7Q hxe1 hxe2 h3
    exact⟨_,res1 rfl rfl rfl,(hEwr1.trans hEw1),vB (by simp [e])⟩
   ·refine K (X ((V) ((BO) ((A) (Z ?_)))))
    exact⟨k+1,⟨rfl,rfl,rfl,trivial⟩,⟨(hEwr1.trans hEw1),by omega,q4p hpre hxe1 hxe2 h3⟩,by omega⟩
  ·refine CE (R ((A) (Z (CR ?_))))
   have e:x=y:=q5C (by omega) (by omega) hpre
   exact⟨_,res1 rfl rfl rfl,hEwr1,vB (by simp [e])⟩
theorem z3u (w:World){S S2:Nat→Prop}(x y:Grammar){cs ds:List Value}(hx:rd S w x cs)(hy:rd S2 w y ds):Ret Tryz.prog 8 #[.agg cs.toArray,.agg ds.toArray] w (fun _=>False) fun v _=>v = .bool (decide (x=y)):=by
 refine (En Tryz.func8) ?_
 have hK1:=hx
 obtain⟨v1,v2,rfl,hs1,hs2⟩:=hx
 obtain⟨A1,c1,rfl,hc1,hm1⟩:=hs1.form
 obtain⟨A2,c2,rfl,hc2,hm2⟩:=hs2.form
 have hK2:=hy
 obtain⟨v3,v4,rfl,hs3,hs4⟩:=hy
 obtain⟨A3,c3,rfl,hc3,hm3⟩:=hs3.form
 obtain⟨A4,c4,rfl,hc4,hm4⟩:=hs4.form
 refine R ?_
 refine WL.box rfl rfl rfl rfl rfl fun b1 w1 hEb1 hbb1 hBb1=>?_
 refine WL.box rfl rfl rfl rfl rfl fun b2 w2 hEb2 hbb2 hBb2=>(A) (Z (Y (R ((D 0) ((LD (hBb1.ext hEb2)) ((D 0) ((LD hBb2) ?_)))))))
 refine (CA ok22 (z3s _ x.Symbols y.Symbols (hs1.ext (hEb1.trans hEb2)) (hs3.ext (hEb1.trans hEb2)))) ?_
 rintro _ w3 hEw3 rfl
 refine (N) (Z ?_)
 refine CW.condN rfl (fun h1=>?_) (fun h1=>?_)
 ·refine R ((A) (Z (CR ?_)))
  have e:x≠y:=by rintro rfl; exact h1 rfl
  exact⟨_,res1 rfl rfl rfl,((hEb1.trans hEb2).trans hEw3),vB (by simp [e])⟩
 ·refine K (Y (R ((D 1) ?_)))
  refine WL.ev rfl rfl (Ev.ld rfl ag29 rfl ((hBb1.ext (hEb2.trans hEw3)).cell rfl)) ((D 1) ((LD (hBb2.ext hEw3)) ?_))
  refine (CA ok23 (z4Z _ x.Rules y.Rules (hs2.ext ((hEb1.trans hEb2).trans hEw3)) (hs4.ext ((hEb1.trans hEb2).trans hEw3)))) ?_
  rintro _ w4 hEw4 rfl
  refine (N) (Z ?_)
  refine CW.condN rfl (fun h2=>?_) (fun h2=>?_)
  ·refine R ((A) (Z (CR ?_)))
   have e:x≠y:=by rintro rfl; exact h2 rfl
   exact⟨_,res1 rfl rfl rfl,(((hEb1.trans hEb2).trans hEw3).trans hEw4),vB (by simp [e])⟩
  ·refine K (R ((A) (Z (CR ?_))))
   have e:x=y:=by cases x; cases y; simp_all
   exact⟨_,res1 rfl rfl rfl,(((hEb1.trans hEb2).trans hEw3).trans hEw4),vB (by simp [e])⟩
theorem open9:Opens Tryz.prog 9 ByteArray:=Opens.str (by kernel_rfl) Tryz.underlying9
theorem open3:Opens Tryz.prog 3 Int:=Opens.int (by kernel_rfl) Tryz.underlying3
theorem open4:Opens Tryz.prog 4 Bool:=Opens.bool (by kernel_rfl) Tryz.underlying4
theorem z9W:Opens Tryz.prog 125 Attribute:=by
 refine Opens.struct (k:=4) (by kernel_rfl) rfl Tryz.underlying125 fun H enc w base spare held n cs xs hl hx hf=>?_
 obtain⟨c0,t0,rfl,hl0⟩:=lenS hl
 obtain⟨c1,t1,rfl,hl1⟩:=lenS hl0
 obtain⟨c2,t2,rfl,hl2⟩:=lenS hl1
 obtain⟨c3,t3,rfl,hl3⟩:=lenS hl2
 obtain rfl:=len0 hl3
 obtain⟨a0,r0⟩:=Opens.fld (i:=0) (t:=9) (off:=0) (k:=1) open9 hf hx rfl rfl rfl rfl
 have q0:rd (fun _=>True) w a0 [c0]:=r0
 obtain⟨e0,h0_0⟩:=q0
 simp only [List.cons.injEq,and_true] at e0
 obtain rfl:=e0
 obtain⟨a1,r1⟩:=Opens.fld (i:=1) (t:=3) (off:=1) (k:=1) open3 hf hx rfl rfl rfl rfl
 have q1:rd (fun _=>True) w a1 [c1]:=r1
 obtain⟨e1,h1_0⟩:=q1
 simp only [List.cons.injEq,and_true] at e1
 obtain rfl:=e1
 obtain⟨a2,r2⟩:=Opens.fld (i:=2) (t:=3) (off:=2) (k:=1) open3 hf hx rfl rfl rfl rfl
 have q2:rd (fun _=>True) w a2 [c2]:=r2
 obtain⟨e2,h2_0⟩:=q2
 simp only [List.cons.injEq,and_true] at e2
 obtain rfl:=e2
 obtain⟨a3,r3⟩:=Opens.fld (i:=3) (t:=4) (off:=3) (k:=1) open4 hf hx rfl rfl rfl rfl
 have q3:rd (fun _=>True) w a3 [c3]:=r3
 have e3:[c3]=[.bool a3]:=q3
 simp only [List.cons.injEq,and_true] at e3
 obtain rfl:=e3
 exact⟨⟨a0,a1,a2,a3⟩,rfl,h0_0,h1_0,h2_0⟩
theorem open66:Opens Tryz.prog 66 (List Attribute):=Opens.slice (by kernel_rfl) Tryz.underlying66 z9W
theorem open68:Opens Tryz.prog 68 Symbol:=by
 refine Opens.struct (k:=2) (by kernel_rfl) rfl Tryz.underlying68 fun H enc w base spare held n cs xs hl hx hf=>?_
 obtain⟨c0,t0,rfl,hl0⟩:=lenS hl
 obtain⟨c1,t1,rfl,hl1⟩:=lenS hl0
 obtain rfl:=len0 hl1
 obtain⟨a0,r0⟩:=Opens.fld (i:=0) (t:=9) (off:=0) (k:=1) open9 hf hx rfl rfl rfl rfl
 have q0:rd (fun _=>True) w a0 [c0]:=r0
 obtain⟨e0,h0_0⟩:=q0
 simp only [List.cons.injEq,and_true] at e0
 obtain rfl:=e0
 obtain⟨a1,r1⟩:=Opens.fld (i:=1) (t:=66) (off:=1) (k:=1) open66 hf hx rfl rfl rfl rfl
 have q1:rd (fun _=>True) w a1 [c1]:=r1
 obtain⟨v1_0,e1,s1_0⟩:=q1
 simp only [List.cons.injEq,and_true] at e1
 obtain rfl:=e1
 exact⟨⟨a0,a1⟩,_,rfl,h0_0,s1_0⟩
theorem open22:Opens Tryz.prog 22 (List Symbol):=Opens.slice (by kernel_rfl) Tryz.underlying22 open68
theorem open43:Opens Tryz.prog 43 (List ByteArray):=Opens.slice (by kernel_rfl) Tryz.underlying43 open9
theorem z9X:Opens Tryz.prog 127 Occurrence:=by
 refine Opens.struct (k:=2) (by kernel_rfl) rfl Tryz.underlying127 fun H enc w base spare held n cs xs hl hx hf=>?_
 obtain⟨c0,t0,rfl,hl0⟩:=lenS hl
 obtain⟨c1,t1,rfl,hl1⟩:=lenS hl0
 obtain rfl:=len0 hl1
 obtain⟨a0,r0⟩:=Opens.fld (i:=0) (t:=3) (off:=0) (k:=1) open3 hf hx rfl rfl rfl rfl
 have q0:rd (fun _=>True) w a0 [c0]:=r0
 obtain⟨e0,h0_0⟩:=q0
 simp only [List.cons.injEq,and_true] at e0
 obtain rfl:=e0
 obtain⟨a1,r1⟩:=Opens.fld (i:=1) (t:=9) (off:=1) (k:=1) open9 hf hx rfl rfl rfl rfl
 have q1:rd (fun _=>True) w a1 [c1]:=r1
 obtain⟨e1,h1_0⟩:=q1
 simp only [List.cons.injEq,and_true] at e1
 obtain rfl:=e1
 exact⟨⟨a0,a1⟩,rfl,h0_0,h1_0⟩
theorem z6E:∀ N,OpensF Tryz.prog 130 Expr N
  | 0=>OpensF.zero (k:=7) (by kernel_rfl) rfl
  | N+1=>by
    have o128:OpensF Tryz.prog 128 (List Expr) N:=OpensF.slice (by kernel_rfl) Tryz.underlying128 (z6E N)
    refine OpensF.struct (k:=7) (by kernel_rfl) rfl Tryz.underlying130 fun H enc w base spare held n cs xs hN hl hx hf=>?_
    obtain⟨c0,t0,rfl,hl0⟩:=lenS hl
    obtain⟨c1,t1,rfl,hl1⟩:=lenS hl0
    obtain⟨c2,t2,rfl,hl2⟩:=lenS hl1
    obtain⟨c3,t3,rfl,hl3⟩:=lenS hl2
    obtain⟨c4,t4,rfl,hl4⟩:=lenS hl3
    obtain⟨c5,t5,rfl,hl5⟩:=lenS hl4
    obtain⟨c6,t6,rfl,hl6⟩:=lenS hl5
    obtain rfl:=len0 hl6
    obtain⟨a0,r0⟩:=OpensF.fld (i:=0) (t:=3) (off:=0) (k:=1) open3.toF hN hf hx rfl rfl rfl rfl
    have q0:rd (fun _=>True) w a0 [c0]:=r0
    obtain⟨e0,h0_0⟩:=q0
    simp only [List.cons.injEq,and_true] at e0
    obtain rfl:=e0
    obtain⟨a1,r1⟩:=OpensF.fld (i:=1) (t:=3) (off:=1) (k:=1) open3.toF hN hf hx rfl rfl rfl rfl
    have q1:rd (fun _=>True) w a1 [c1]:=r1
    obtain⟨e1,h1_0⟩:=q1
    simp only [List.cons.injEq,and_true] at e1
    obtain rfl:=e1
    obtain⟨a2,r2⟩:=OpensF.fld (i:=2) (t:=3) (off:=2) (k:=1) open3.toF hN hf hx rfl rfl rfl rfl
    have q2:rd (fun _=>True) w a2 [c2]:=r2
    obtain⟨e2,h2_0⟩:=q2
    simp only [List.cons.injEq,and_true] at e2
    obtain rfl:=e2
    obtain⟨a3,r3⟩:=OpensF.fld (i:=3) (t:=3) (off:=3) (k:=1) open3.toF hN hf hx rfl rfl rfl rfl
    have q3:rd (fun _=>True) w a3 [c3]:=r3
    obtain⟨e3,h3_0⟩:=q3
    simp only [List.cons.injEq,and_true] at e3
    obtain rfl:=e3
    obtain⟨a4,r4⟩:=OpensF.fld (i:=4) (t:=9) (off:=4) (k:=1) open9.toF hN hf hx rfl rfl rfl rfl
    have q4:rd (fun _=>True) w a4 [c4]:=r4
    obtain⟨e4,h4_0⟩:=q4
    simp only [List.cons.injEq,and_true] at e4
    obtain rfl:=e4
    obtain⟨a5,r5⟩:=OpensF.fld (i:=5) (t:=9) (off:=5) (k:=1) open9.toF hN hf hx rfl rfl rfl rfl
    have q5:rd (fun _=>True) w a5 [c5]:=r5
    obtain⟨e5,h5_0⟩:=q5
    simp only [List.cons.injEq,and_true] at e5
    obtain rfl:=e5
    obtain⟨a6,r6⟩:=OpensF.fld (i:=6) (t:=128) (off:=6) (k:=1) o128 hN hf hx rfl rfl rfl rfl
    have q6:rd (fun _=>True) w a6 [c6]:=r6
    obtain⟨v6_0,e6,s6_0⟩:=q6
    simp only [List.cons.injEq,and_true] at e6
    obtain rfl:=e6
    exact⟨⟨a0,a1,a2,a3,a4,a5,a6⟩,q0b.2 ⟨_,rfl,h0_0,h1_0,h2_0,h3_0,h4_0,h5_0,s6_0⟩⟩
theorem z5V:Opens Tryz.prog 130 Expr:=Opens.ofF z6E
theorem z9Y:Opens Tryz.prog 132 Equation:=by
 refine Opens.struct (k:=9) (by kernel_rfl) rfl Tryz.underlying132 fun H enc w base spare held n cs xs hl hx hf=>?_
 obtain⟨c0,t0,rfl,hl0⟩:=lenS hl
 obtain⟨c1,t1,rfl,hl1⟩:=lenS hl0
 obtain⟨c2,t2,rfl,hl2⟩:=lenS hl1
 obtain⟨c3,t3,rfl,hl3⟩:=lenS hl2
 obtain⟨c4,t4,rfl,hl4⟩:=lenS hl3
 obtain⟨c5,t5,rfl,hl5⟩:=lenS hl4
 obtain⟨c6,t6,rfl,hl6⟩:=lenS hl5
 obtain⟨c7,t7,rfl,hl7⟩:=lenS hl6
 obtain⟨c8,t8,rfl,hl8⟩:=lenS hl7
 obtain rfl:=len0 hl8
 obtain⟨a0,r0⟩:=Opens.fld (i:=0) (t:=127) (off:=0) (k:=2) z9X hf hx rfl rfl rfl rfl
 have q0:rd (fun _=>True) w a0 [c0,c1]:=r0
 obtain⟨e0,h0_0,h0_1⟩:=q0
 simp only [List.cons.injEq,and_true] at e0
 obtain⟨rfl,rfl⟩:=e0
 obtain⟨a1,r1⟩:=Opens.fld (i:=1) (t:=130) (off:=2) (k:=7) z5V hf hx rfl rfl rfl rfl
 have q1:rd (fun _=>True) w a1 [c2,c3,c4,c5,c6,c7,c8]:=r1
 obtain⟨v1_6,e1,h1_0,h1_1,h1_2,h1_3,h1_4,h1_5,s1_6⟩:=q0b.1 q1
 simp only [List.cons.injEq,and_true] at e1
 obtain⟨rfl,rfl,rfl,rfl,rfl,rfl,rfl⟩:=e1
 exact⟨⟨a0,a1⟩,_,rfl,h0_0,h0_1,h1_0,h1_1,h1_2,h1_3,h1_4,h1_5,s1_6⟩
theorem open70:Opens Tryz.prog 70 (List Equation):=Opens.slice (by kernel_rfl) Tryz.underlying70 z9Y
end Go.Proofs.YtmblndlpkpaobaaGreat

