/- What those partial functions come to: plain lemmas on data; each bears its conditions in its statement. -/
import Derived.Test.YtbgnnjmfmnkkaaaDoorDat
import Derived.Lib.ItoaNum
import Derived.Shelf.LaysM
import Derived.Shelf.Strconv.Itoa3
set_option linter.unusedVariables false
set_option linter.unusedSimpArgs false
set_option linter.ambiguousOpen false
set_option linter.unusedSectionVars false
set_option linter.unnecessarySimpa false
set_option maxRecDepth 100000
namespace Go.Proofs.YtbgnnjmfmnkkaaaDoor
open Go Go.E
theorem p20:(10:Nat) ^ (19+1)=100000000000000000000:=by decide
theorem p19:(10:Nat) ^ 19=10000000000000000000:=by decide
theorem q6i:∀ (k u:Nat),u < 10 ^ (k+1)→(Lib.decDigits u).length≤k+1
 | 0,u,h=>by rw [Lib.decDigits,dif_pos (by omega)]; simp
 | k+1,u,h=>by
  rw [Lib.decDigits]
  by_cases h1:u < 10
  ·rw [dif_pos h1]; simp
  ·rw [dif_neg h1,List.length_append]
   have:=q6i k (u / 10) (Nat.div_lt_of_lt_mul (by rw [Nat.pow_succ,Nat.mul_comm] at h; exact h))
   simp; omega
def bl (l:List UInt8):ByteArray:=⟨l.toArray⟩
theorem q6B (l:List UInt8):(bl l).size=l.length:=by simp [bl,ByteArray.size]
theorem q7v (b:UInt8)(l:List UInt8):(⟨#[b]⟩:ByteArray)++bl l=bl (b :: l):=by
 apply ByteArray.ext
 rw [ByteArray.data_append]
 simp [bl]
theorem q8K (n:Int)(h0:-9223372036854775808≤n)(h1:n≤9223372036854775807):(⟨(Lib.itoa n).toArray⟩:ByteArray).size≤9223372036854775807:=by
 have e:(⟨(Lib.itoa n).toArray⟩:ByteArray).size=(Lib.itoa n).length:=q6B _
 rw [e,Lib.itoa]
 have:=q6i 19 n.natAbs (by rw [p20]; omega)
 have h2:=q6i 19 n.toNat (by rw [p20]; omega)
 by_cases h:n < 0
 ·rw [if_pos h,List.length_cons]; omega
 ·rw [if_neg h]; omega
def dz (u:Nat):List UInt8:=if u=0 then [] else Lib.decDigits u
theorem q9P {u:Nat}(h:u≠0):dz u=dz (u / 10)++[UInt8.ofNat (48+u % 10)]:=by
 rw [dz,if_neg h,Lib.decDigits]
 by_cases h1:u < 10
 ·rw [dif_pos h1,dz,if_pos (by omega),Nat.mod_eq_of_lt h1]; rfl
 ·rw [dif_neg h1,dz,if_neg (by omega)]
end Go.Proofs.YtbgnnjmfmnkkaaaDoor
set_option maxRecDepth 100000
namespace Go.Proofs.YtbgnnjmfmnkkaaaDoor
open Go.Shelf
def q7e:Go.Shelf.Ren:=⟨fun | 171=>10 | 243=>11 | 246=>12 | 283=>13 | 284=>14 | 285=>15 | 286=>16 | 129=>18 | 317=>17 | 318=>19 | 319=>20 | 320=>21 | 337=>22 | 338=>23 | n=>n,fun | 3=>3 | 9=>9 | 2=>2 | 4=>4 | 171=>32 | 0=>0 | 53=>33 | 37=>30 | 5=>5 | 173=>36 | 212=>40 | 51=>41 | 20=>20 | 213=>42 | 46=>44 | 232=>47 | 233=>48 | n=>n,fun | 17=>0 | 18=>1 | 19=>2 | n=>n⟩
theorem q9c:Go.Proofs.LaysM.n171 Tryd.prog q7e:={
 mixed:=by kernel_rfl
 f129:=Tryd.func18.trans (congrArg some (by kernel_rfl))
 f171:=Tryd.func10.trans (congrArg some (by kernel_rfl))
 f243:=Tryd.func11.trans (congrArg some (by kernel_rfl))
 f246:=Tryd.func12.trans (congrArg some (by kernel_rfl))
 f283:=Tryd.func13.trans (congrArg some (by kernel_rfl))
 f284:=Tryd.func14.trans (congrArg some (by kernel_rfl))
 f285:=Tryd.func15.trans (congrArg some (by kernel_rfl))
 f286:=Tryd.func16.trans (congrArg some (by kernel_rfl))
 f317:=Tryd.func17.trans (congrArg some (by kernel_rfl))
 f318:=Tryd.func19.trans (congrArg some (by kernel_rfl))
 f319:=Tryd.func20.trans (congrArg some (by kernel_rfl))
 f320:=Tryd.func21.trans (congrArg some (by kernel_rfl))
 f337:=Tryd.func22.trans (congrArg some (by kernel_rfl))
 f338:=Tryd.func23.trans (congrArg some (by kernel_rfl))
 t0:=Tryd.underlying0
 a0:=Tryd.isAgg0
 z0:=Tryd.sizeOf0
 v0:=Tryd.zeroValue0
 t2:=Tryd.underlying2
 a2:=Tryd.isAgg2
 z2:=Tryd.sizeOf2
 v2:=Tryd.zeroValue2
 t3:=Tryd.underlying3
 a3:=Tryd.isAgg3
 z3:=Tryd.sizeOf3
 v3:=Tryd.zeroValue3
 t4:=Tryd.underlying4
 a4:=Tryd.isAgg4
 z4:=Tryd.sizeOf4
 v4:=Tryd.zeroValue4
 t5:=Tryd.underlying5
 a5:=Tryd.isAgg5
 z5:=Tryd.sizeOf5
 v5:=Tryd.zeroValue5
 t9:=Tryd.underlying9
 a9:=Tryd.isAgg9
 z9:=Tryd.sizeOf9
 v9:=Tryd.zeroValue9
 t20:=Tryd.underlying20
 a20:=Tryd.isAgg20
 z20:=Tryd.sizeOf20
 v20:=Tryd.zeroValue20
 t37:=Tryd.underlying30
 a37:=Tryd.isAgg30
 z37:=Tryd.sizeOf30
 v37:=Tryd.zeroValue30
 t46:=Tryd.underlying44
 a46:=Tryd.isAgg44
 z46:=Tryd.sizeOf44
 v46:=Tryd.zeroValue44
 t51:=Tryd.underlying41
 a51:=Tryd.isAgg41
 z51:=Tryd.sizeOf41
 v51:=Tryd.zeroValue41
 t53:=Tryd.underlying33
 a53:=Tryd.isAgg33
 z53:=Tryd.sizeOf33
 v53:=Tryd.zeroValue33
 t171:=Tryd.underlying32
 a171:=Tryd.isAgg32
 z171:=Tryd.sizeOf32
 v171:=Tryd.zeroValue32
 t173:=Tryd.underlying36
 a173:=Tryd.isAgg36
 z173:=Tryd.sizeOf36
 v173:=Tryd.zeroValue36
 t212:=Tryd.underlying40
 a212:=Tryd.isAgg40
 z212:=Tryd.sizeOf40
 v212:=Tryd.zeroValue40
 t213:=Tryd.underlying42
 a213:=Tryd.isAgg42
 z213:=Tryd.sizeOf42
 t232:=Tryd.underlying47
 a232:=Tryd.isAgg47
 z232:=Tryd.sizeOf47
 v232:=Tryd.zeroValue47
 t233:=Tryd.underlying48
 a233:=Tryd.isAgg48
 z233:=Tryd.sizeOf48
 v233:=Tryd.zeroValue48
 g17:=by kernel_rfl
 g18:=by kernel_rfl
 g19:=by kernel_rfl
 i0:=by kernel_rfl
 i2:=by kernel_rfl
 i3:=by kernel_rfl
 i4:=by kernel_rfl
 i5:=by kernel_rfl
 i9:=by kernel_rfl
 i20:=by kernel_rfl
 i37:=by kernel_rfl
 i46:=by kernel_rfl
 i51:=by kernel_rfl
 i53:=by kernel_rfl
 i171:=by kernel_rfl
 i173:=by kernel_rfl
 i212:=by kernel_rfl
 i232:=by kernel_rfl
 i233:=by kernel_rfl
 m17:=by kernel_rfl
 m18:=by kernel_rfl
 m19:=by kernel_rfl }
open Go.RowKit Go.Sort Go.Lib in
theorem q4S (n:Int)(h0:-9223372036854775808≤n)(h1:n≤9223372036854775807)(w:World)(htab:Lib.TabIs Tryd.prog w "internal/strconv.uint64pow10" .u64 Lib.pow10Tab) :
  Calls Tryd.prog 10 #[.int .i64 n] w fun e w'=>e = .returned (.string ⟨(Lib.itoa n).toArray⟩)∧∃ k os,w'=grow (w.drewN k) os:=Any.strconv_Itoa q9c n h0 h1 w htab
section
open Go Go.E Go.A
def KT (w:World):Prop:=Lib.TabIs Tryd.prog w "internal/strconv.uint64pow10" .u64 Lib.pow10Tab
theorem q6j:Stb KT:=by
 intro w w' h hc
 unfold KT Lib.TabIs World.var? at h ⊢
 cases hg:Tryd.prog.globalNamed "internal/strconv.uint64pow10" with
 | none=>rw [hg] at h; cases h
 | some g=>
  rw [hg] at h
  simp only [Option.bind_some] at h ⊢
  have hlt:g < w.heap.size:=by
   rcases Nat.lt_or_ge g w.heap.size with h1 | h1
   ·exact h1
   ·rw [Array.getElem?_eq_none h1] at h; cases h
  rw [hc.block g hlt id]; exact h
def q4H (a0:Int):Option ByteArray:=some ⟨(Lib.itoa a0).toArray⟩
theorem q5O {a0:Int}{r:ByteArray}(hr:q4H a0=some r):OkK KT Tryd.prog 10 [.d .fz (.i .i64 a0)] (.d .fz (.s r)):=by
 cases hr
 intro w hK F B g vs hsim hvs
 rw [vrs] at hvs
 obtain⟨v,vs',rfl,hv,hn⟩:=hvs
 rw [vrs] at hn
 subst hn
 rw [vr,rdC] at hv
 obtain⟨rfl,h0,h1⟩:=hv
 refine Calls.mono (q4S a0 h0 h1 w hK) fun e w' ⟨he,hg⟩=>?_
 have hx:Ext w w':=Gr.ext hg
 obtain⟨k1,_⟩:=hsim.ext hx (F':=F) (fun _ h=>h) (fun b hb=>⟨Nat.lt_of_lt_of_le (hsim.flt b hb) hx.size,.inl hb⟩)
 exact⟨_,he,.of_ext hx,F,g,k1,by rw [vr,rdC]; exact⟨rfl,q8K a0 h0 h1⟩⟩
end
end Go.Proofs.YtbgnnjmfmnkkaaaDoor
