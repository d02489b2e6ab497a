/- What those partial functions come to: plain lemmas on data; each bears its conditions in its statement. -/
import Derived.Test.YteefempppabmkacGreatMathMQc
set_option linter.unusedVariables false
set_option linter.unusedSimpArgs false
set_option linter.ambiguousOpen false
set_option linter.unusedSectionVars false
set_option linter.unnecessarySimpa false
set_option linter.unusedVariables false
set_option linter.unusedSimpArgs false
namespace Go.Proofs.YteefempppabmkacGreat
open Go Go.E
def oS (x:Step):Occurrence:=⟨x.Pos,x.Name⟩
def at0 (V:List Int)(k:Int):Int:=V.getD k.toNat 0
def zP:Phase:=⟨[],[]⟩
def addN (K:List Occurrence)(pos:Int)(names:List ByteArray):List Occurrence:=K++names.map fun n=>(⟨pos,n⟩:Occurrence)
noncomputable def j4e (r:Rule) (R K:List Occurrence) (x:Step):Bool:=decide (x.Visit=0)&&(decide (oS x∈R)&&(!decide (oS x∈K)&&z3g r K (oS x)))
noncomputable def phAt (g:Grammar) (ph:List (List Phase)) (r:Rule) (k v:Int):Phase:=(phP g ph r k).getD v.toNat zP
noncomputable def visB (g:Grammar) (ph:List (List Phase)) (r:Rule) (K:List Occurrence) (V:List Int) (x:Step):Bool:=
 decide (x.Name=(⟨#[]⟩:ByteArray))&&(decide (1≤x.Pos∧x.Pos≤(r.Right.length:Int))&&(decide (x.Visit=at0 V x.Pos+1)&&(decide (at0 V x.Pos < ((phP g ph r x.Pos).length:Int))&&z6I K x.Pos (phAt g ph r x.Pos (at0 V x.Pos)).Inherited)))
noncomputable def q9a (g:Grammar) (ph:List (List Phase)) (r:Rule) (K:List Occurrence) (V:List Int) (x:Step):Bool:=
 decide (x.Pos=0)&&(decide (x.Name=(⟨#[]⟩:ByteArray))&&(decide (at0 V 0 < ((phP g ph r 0).length:Int))&&(decide (x.Visit=at0 V 0+1)&&z6I K 0 (phAt g ph r 0 (at0 V 0)).Synthesized)))
noncomputable def z8k (g:Grammar) (ph:List (List Phase)) (r:Rule) (R K:List Occurrence) (V:List Int) (x:Step):Option (List Occurrence × List Int):=
 if x.Kind=1 then (if j4e r R K x=true then some (K++[oS x],V) else none)
 else if x.Kind=2 then (if visB g ph r K V x=true then some (addN K x.Pos (phAt g ph r x.Pos (at0 V x.Pos)).Synthesized,V.set x.Pos.toNat (at0 V x.Pos+1)) else none)
 else if x.Kind=3 then (if q9a g ph r K V x=true then some ((if at0 V 0+1 < ((phP g ph r 0).length:Int) then addN K 0 (phAt g ph r 0 (at0 V 0+1)).Inherited else K),V.set 0 (at0 V 0+1)) else none)
 else none
structure Iv (g:Grammar) (ph:List (List Phase)) (r:Rule) (K:List Occurrence) (V:List Int) (B:Nat):Prop where
 len:V.length=r.Right.length+1
 rng:∀ k:Nat,k≤r.Right.length→0≤V.getD k 0∧V.getD k 0≤((phP g ph r (k:Int)).length:Int)
 kn:K.length≤B
theorem j7k (g:Grammar)(ph:List (List Phase))(r:Rule)(k:Int):phP g ph r k=[]∨phP g ph r k∈ph:=(j2N g ph (symS r k)).2
theorem z9K {ph:List (List Phase)}(h:szL ph≤1048576)(g:Grammar)(r:Rule)(k:Int):(phP g ph r k).length≤1048576:=by
 rcases j7k g ph r k with e | e
 ·rw [e]; simp
 ·have h1:=q6u e
  have h2:Sz.szd (phP g ph r k)=szL (phP g ph r k):=rfl
  have h3:=q2R (phP g ph r k)
  omega
theorem z3h {ph:List (List Phase)}(h:szL ph≤1048576)(g:Grammar)(r:Rule)(k v:Int):(phAt g ph r k v).Inherited.length≤1048576∧(phAt g ph r k v).Synthesized.length≤1048576:=by
 unfold phAt
 rw [List.getD_eq_getElem?_getD]
 cases hx:(phP g ph r k)[v.toNat]? with
 | none=>exact⟨Nat.zero_le _,Nat.zero_le _⟩
 | some p=>
  show p.Inherited.length≤_∧p.Synthesized.length≤_
  have hm:=List.mem_of_getElem? hx
  rcases j7k g ph r k with e | e
  ·rw [e] at hm; simp at hm
  ·have h1:=q6u e
   have h2:Sz.szd (phP g ph r k)=szL (phP g ph r k):=rfl
   have h3:=q6u hm
   have h4:=z8z p
   have h5:=q2R p.Inherited
   have h6:=q2R p.Synthesized
   omega
theorem q9b {g:Grammar}{ph:List (List Phase)}{r:Rule}{k v:Int}(h0:0≤v)(h1:v < ((phP g ph r k).length:Int)):(phP g ph r k)[v.toNat]? = some (phAt g ph r k v):=by
 unfold phAt
 obtain⟨x,hx⟩:∃ x,(phP g ph r k)[v.toNat]? = some x:=⟨_,List.getElem?_eq_getElem (by omega)⟩
 rw [List.getD_eq_getElem?_getD,hx]; rfl
section
variable {g:Grammar}{ph:List (List Phase)}{r:Rule}{R K K' : List Occurrence}{V V' : List Int}{B:Nat}{x:Step}
theorem Iv.at' (H:Iv g ph r K V B){k:Int}(h0:0≤k)(h1:k≤(r.Right.length:Int)):0≤at0 V k∧at0 V k≤((phP g ph r k).length:Int)∧V[k.toNat]? = some (at0 V k):=by
 have h:=H.rng k.toNat (by omega)
 have e:((k.toNat:Nat):Int)=k:=by omega
 rw [e] at h
 refine⟨h.1,h.2,?_⟩
 unfold at0
 obtain⟨y,hy⟩:∃ y,V[k.toNat]? = some y:=⟨_,List.getElem?_eq_getElem (by rw [H.len]; omega)⟩
 rw [List.getD_eq_getElem?_getD,hy]; rfl
theorem j7l {k:Int}{y:Int}(hk:k.toNat < V.length)(j:Int):at0 (V.set k.toNat y) j=if k.toNat=j.toNat then y else at0 V j:=by
 unfold at0
 rw [List.getD_eq_getElem?_getD,List.getElem?_set,List.getD_eq_getElem?_getD]
 by_cases h:k.toNat=j.toNat
 ·rw [if_pos h,if_pos h,if_pos (by omega)]; rfl
 ·rw [if_neg h,if_neg h]
theorem Iv.set (H:Iv g ph r K V B){k:Int}{y:Int}(h0:0≤k)(h1:k≤(r.Right.length:Int))(y0:0≤y)(y1:y≤((phP g ph r k).length:Int)){K' : List Occurrence}{B' : Nat}(hK:K'.length≤B'):Iv g ph r K' (V.set k.toNat y) B':=by
 refine⟨by simp [H.len],fun j hj=>?_,hK⟩
 have hkl:k.toNat < V.length:=by rw [H.len]; omega
 have:=j7l (y:=y) hkl (j:Int)
 have hj' : at0 (V.set k.toNat y) (j:Int)=(V.set k.toNat y).getD j 0:=by unfold at0; rw [Int.toNat_natCast]
 rw [← hj',this]
 by_cases h:k.toNat=((j:Nat):Int).toNat
 ·rw [if_pos h]
  have e:((j:Nat):Int)=k:=by omega
  rw [e]; exact⟨y0,y1⟩
 ·rw [if_neg h]
  have:=H.rng j hj
  unfold at0; rw [Int.toNat_natCast]; exact this
theorem z8t (hph:szL ph≤1048576)(H:Iv g ph r K V B)(hs:z8k g ph r R K V x=some (K',V')):Iv g ph r K' V' (B+1048576):=by
 have hkn:=H.kn
 unfold z8k at hs
 by_cases k1:x.Kind=1
 ·rw [if_pos k1] at hs
  split at hs
  ·cases hs
   exact⟨H.len,H.rng,by simp; omega⟩
  ·cases hs
 rw [if_neg k1] at hs
 by_cases k2:x.Kind=2
 ·rw [if_pos k2] at hs
  split at hs
  ·rename_i hv
   cases hs
   unfold visB at hv
   simp only [Bool.and_eq_true,decide_eq_true_eq] at hv
   obtain⟨_,⟨p1,p2⟩,_,p3,_⟩:=hv
   obtain⟨a1,a2,_⟩:=H.at' (k:=x.Pos) (by omega) p2
   have:=(z3h hph g r x.Pos (at0 V x.Pos)).2
   exact H.set (by omega) p2 (by omega) (by omega) (by simp [addN]; omega)
  ·cases hs
 rw [if_neg k2] at hs
 by_cases k3:x.Kind=3
 ·rw [if_pos k3] at hs
  split at hs
  ·rename_i hv
   cases hs
   unfold q9a at hv
   simp only [Bool.and_eq_true,decide_eq_true_eq] at hv
   obtain⟨_,_,p3,_⟩:=hv
   obtain⟨a1,a2,_⟩:=H.at' (k:=0) (by omega) (by omega)
   have:=(z3h hph g r 0 (at0 V 0+1)).1
   refine H.set (k:=0) (by omega) (by omega) (by omega) (by omega) ?_
   split
   ·simp [addN]; omega
   ·omega
  ·cases hs
 ·rw [if_neg k3] at hs; cases hs
theorem j8Z (hr:Sz.szd r≤1048576)(hR:q2y g r=some R)(hK:K.length≤2199023255552)(vs:List Int):z4G x ⟨g,r,ph,K,vs,[]⟩=some (if j4e r R K x=true then (true,⟨g,r,ph,K++[oS x],vs,[]⟩) else (false,⟨g,r,ph,K,vs,[]⟩)):=by
 have hc:(if x.Visit=0 then (q2y g r).bind fun y1=>(q4y y1 (⟨x.Pos,x.Name⟩:Occurrence)).bind fun y2=>if y2=true then (q4y K (⟨x.Pos,x.Name⟩:Occurrence)).bind fun y3=>if y3=true then some true else (z0b ⟨g,r,ph,K,vs,[]⟩ (⟨x.Pos,x.Name⟩:Occurrence)).bind fun y4=>some (!y4) else some true else some true)=some (!j4e r R K x):=by
  unfold j4e oS
  by_cases h0:x.Visit=0
  ·rw [if_pos h0,hR,Option.bind_some,z6G,Option.bind_some]
   by_cases h1:(⟨x.Pos,x.Name⟩:Occurrence)∈R
   ·rw [if_pos (by simpa using h1),z6G,Option.bind_some]
    by_cases h2:(⟨x.Pos,x.Name⟩:Occurrence)∈K
    ·rw [if_pos (by simpa using h2)]; simp [h2]
    ·rw [if_neg (by simpa using h2),j5I hr,Option.bind_some]; simp [h0,h1,h2]
   ·rw [if_neg (by simpa using h1)]; simp [h1]
  ·rw [if_neg h0]; simp [h0]
 unfold z4G
 dsimp only at hc ⊢
 rw [hc,Option.bind_some]
 cases j4e r R K x with
 | true=>rw [if_neg (by simp),q2q (by constructor<;>omega)]; rfl
 | false=>rfl
theorem j7m (H:Iv g ph r K V B){k:Int}(h0:1≤k)(h1:k≤(r.Right.length:Int)):(V.drop 1)[(k - 1).toNat]? = some (at0 V k):=by
 rw [List.getElem?_drop,show 1+(k - 1).toNat=k.toNat by omega]
 exact (H.at' (by omega) h1).2.2
theorem j7n (hph:szL ph≤1048576)(hr:Sz.szd r≤1048576)(H:Iv g ph r K V B)(hB:B≤2199023255552):z2T x ⟨g,r,ph,K,V.drop 1,[]⟩=some (if visB g ph r K V x=true then (true,⟨g,r,ph,addN K x.Pos (phAt g ph r x.Pos (at0 V x.Pos)).Synthesized,(V.set x.Pos.toNat (at0 V x.Pos+1)).drop 1,[]⟩) else (false,⟨g,r,ph,K,V.drop 1,[]⟩)):=by
 have hl:=q5o hr
 have hkn:=H.kn
 unfold z2T
 dsimp only
 rw [z1n,Option.bind_some]
 by_cases hp:1≤x.Pos∧x.Pos≤(r.Right.length:Int)
 ·rw [if_pos (by simpa using hp)]
  by_cases hn:x.Name=(⟨#[]⟩:ByteArray)
  ·obtain⟨a1,a2,a3⟩:=H.at' (k:=x.Pos) (by omega) hp.2
   have hpl:=z9K hph g r x.Pos
   rw [if_pos hn,q2q (by constructor<;>omega),q2q (by omega),j0G hl hp.1 hp.2,Option.bind_some,(j2N g ph (symS r x.Pos)).1,Option.bind_some,q2q (by constructor<;>omega),q2q (by omega),j7m H hp.1 hp.2,Option.bind_some,q2q (by constructor<;>omega)]
   by_cases hv:x.Visit=at0 V x.Pos+1
   ·rw [if_pos hv]
    by_cases hc:at0 V x.Pos < ((phP g ph r x.Pos).length:Int)
    ·have hc' : ¬ ((phS g ph (symS r x.Pos)).length:Int)≤at0 V x.Pos:=by
      have:((phP g ph r x.Pos).length:Int)=((phS g ph (symS r x.Pos)).length:Int):=rfl
      omega
     have hx:(phS g ph (symS r x.Pos))[(at0 V x.Pos).toNat]? = some (phAt g ph r x.Pos (at0 V x.Pos)):=q9b a1 hc
     rw [if_neg hc',q2q a1,hx,Option.bind_some,j2O,Option.bind_some]
     dsimp only
     cases hk:z6I K x.Pos (phAt g ph r x.Pos (at0 V x.Pos)).Inherited with
     | true=>
      have hB:visB g ph r K V x=true:=by unfold visB; simp [hn,hp.1,hp.2,hv,hc,hk]
      have hlen:=(z3h hph g r x.Pos (at0 V x.Pos)).2
      rw [if_pos rfl,if_pos hB,q2q (by constructor<;>omega),q2q (by constructor<;>omega),z9I _ _ (by dsimp only; omega),Option.bind_some]
      dsimp only
      rw [List.set_drop,show 1+(x.Pos - 1).toNat=x.Pos.toNat by omega]; rfl
     | false=>
      have hB:visB g ph r K V x=false:=by unfold visB; simp [hk]
      rw [if_neg (by simp),hB,if_neg (by simp)]
    ·have hc' : ((phS g ph (symS r x.Pos)).length:Int)≤at0 V x.Pos:=by
      have:((phP g ph r x.Pos).length:Int)=((phS g ph (symS r x.Pos)).length:Int):=rfl
      omega
     have hB:visB g ph r K V x=false:=by unfold visB; simp [hc]
     rw [if_pos hc',hB,if_neg (by simp)]
   ·have hB:visB g ph r K V x=false:=by unfold visB; simp [hv]
    rw [if_neg hv,hB,if_neg (by simp)]
  ·have hB:visB g ph r K V x=false:=by unfold visB; simp [hn]
   rw [if_neg hn,hB,if_neg (by simp)]
 ·have hB:visB g ph r K V x=false:=by unfold visB; simp [hp]
  rw [if_neg (by simpa using hp),hB,if_neg (by simp)]
abbrev stS (r:Rule)(K:List Occurrence)(V:List Int):(List Int) × ByteArray × ByteArray × Bool × (List Occurrence) × (List Step) × Int:=(V.drop 1,r.Name,r.Left,r.Literal,K,[],at0 V 0)
theorem k4l (hph:szL ph≤1048576)(hr:Sz.szd r≤1048576)(hR:q2y g r=some R)(H:Iv g ph r K V B)(hB:B≤2199023255552)(k:Nat) :
  q6y g ph r (phP g ph r 0) k x (stS r K V)=some (if at0 V 0 < ((phP g ph r 0).length:Int) then (match z8k g ph r R K V x with | some (K',V')=>.inl (stS r K' V') | none=>.inr false) else .inr false):=by
 have hl:=q5o hr
 have hkn:=H.kn
 obtain⟨a1,a2,a3⟩:=H.at' (k:=0) (by omega) (by omega)
 have hpl:=z9K hph g r 0
 unfold q6y z8k
 dsimp only
 by_cases k1:x.Kind=1
 ·rw [if_pos k1,if_pos k1]
  by_cases hv:at0 V 0 < ((phP g ph r 0).length:Int)
  ·rw [if_pos hv,if_pos hv,j8Z hr hR (by omega),Option.bind_some]
   cases j4e r R K x with
   | true=>rfl
   | false=>rfl
  ·rw [if_neg hv,if_neg hv]; rfl
 rw [if_neg k1,if_neg k1]
 by_cases k2:x.Kind=2
 ·rw [if_pos k2,if_pos k2]
  by_cases hv:at0 V 0 < ((phP g ph r 0).length:Int)
  ·rw [if_pos hv,if_pos hv,j7n hph hr H hB,Option.bind_some]
   cases hb:visB g ph r K V x with
   | true=>
    have hp:1≤x.Pos∧x.Pos≤(r.Right.length:Int):=by
     unfold visB at hb; simp only [Bool.and_eq_true,decide_eq_true_eq] at hb; exact hb.2.1
    have e0:at0 (V.set x.Pos.toNat (at0 V x.Pos+1)) 0=at0 V 0:=by
     rw [j7l (by rw [H.len]; omega),if_neg (by omega)]
    rw [if_pos rfl,if_pos rfl,Option.bind_some]
    dsimp only
    rw [if_pos rfl]
    have:stS r (addN K x.Pos (phAt g ph r x.Pos (at0 V x.Pos)).Synthesized) (V.set x.Pos.toNat (at0 V x.Pos+1))=((V.set x.Pos.toNat (at0 V x.Pos+1)).drop 1,r.Name,r.Left,r.Literal,addN K x.Pos (phAt g ph r x.Pos (at0 V x.Pos)).Synthesized,[],at0 V 0):=by unfold stS; rw [e0]
    exact congrArg (fun s=>some (Sum.inl s)) this.symm
   | false=>rfl
  ·rw [if_neg hv,if_neg hv]; rfl
 rw [if_neg k2,if_neg k2]
 by_cases k3:x.Kind=3
 ·rw [if_pos k3,if_pos k3]
  have hc:((if at0 V 0 < ((phP g ph r 0).length:Int) then some (decide (x.Pos=0)) else some false).bind fun s22=>(if s22=true then some (decide (x.Name=(⟨#[]⟩:ByteArray))) else some false).bind fun s23=>(if s23=true then grd (I64 (at0 V 0+1)) <| some (decide (x.Visit=at0 V 0+1)) else some false).bind fun s24=>(if s24=true then grd (0≤at0 V 0) <| ((phP g ph r 0)[(at0 V 0).toNat]?).bind fun x3=>(q8q (⟨g,r,ph,K,V.drop 1,[]⟩:l28Work) 0 x3.Synthesized).bind fun y4=>some y4 else some false))=some (q9a g ph r K V x):=by
   unfold q9a
   by_cases hv:at0 V 0 < ((phP g ph r 0).length:Int)
   ·rw [if_pos hv,Option.bind_some]
    by_cases h1:x.Pos=0
    ·rw [if_pos (by simpa using h1),Option.bind_some]
     by_cases h2:x.Name=(⟨#[]⟩:ByteArray)
     ·rw [if_pos (by simpa using h2),q2q (by constructor<;>omega),Option.bind_some]
      by_cases h3:x.Visit=at0 V 0+1
      ·rw [if_pos (by simpa using h3),q2q a1,q9b a1 hv,Option.bind_some,j2O,Option.bind_some]
       simp [h1,h2,h3,hv]
      ·rw [if_neg (by simpa using h3)]; simp [h3]
     ·rw [if_neg (by simpa using h2)]; simp [h2]
    ·rw [if_neg (by simpa using h1)]; simp [h1]
   ·rw [if_neg hv]; simp [hv]
  have hsplit:∀ {γ:Type} (F:Bool→Option γ),(((if at0 V 0 < ((phP g ph r 0).length:Int) then some (decide (x.Pos=0)) else some false).bind fun s22=>(if s22=true then some (decide (x.Name=(⟨#[]⟩:ByteArray))) else some false).bind fun s23=>(if s23=true then grd (I64 (at0 V 0+1)) <| some (decide (x.Visit=at0 V 0+1)) else some false).bind fun s24=>(if s24=true then grd (0≤at0 V 0) <| ((phP g ph r 0)[(at0 V 0).toNat]?).bind fun x3=>(q8q (⟨g,r,ph,K,V.drop 1,[]⟩:l28Work) 0 x3.Synthesized).bind fun y4=>some y4 else some false).bind F):Option γ)=F (q9a g ph r K V x):=fun F=>by
   have:=congrArg (fun o=>Option.bind o F) hc
   simp only [Option.bind_assoc,Option.bind_some] at this
   exact this
  refine (hsplit _).trans ?_
  rw [q2q (by constructor<;>omega)]
  cases hb:q9a g ph r K V x with
  | true=>
   have hv:at0 V 0 < ((phP g ph r 0).length:Int):=by
    unfold q9a at hb; simp only [Bool.and_eq_true,decide_eq_true_eq] at hb; exact hb.2.2.1
   have e0:at0 (V.set 0 (at0 V 0+1)) 0=at0 V 0+1:=by
    have:=j7l (V:=V) (k:=0) (y:=at0 V 0+1) (by rw [H.len]; omega) 0
    rw [if_pos rfl] at this; exact this
   have e1:(V.set 0 (at0 V 0+1)).drop 1=V.drop 1:=by rw [List.drop_set,if_pos (by omega)]
   rw [if_pos hv,if_pos rfl,Option.bind_some]
   by_cases hw:at0 V 0+1 < ((phP g ph r 0).length:Int)
   ·have hlen:=(z3h hph g r 0 (at0 V 0+1)).1
    rw [if_pos (by simpa using hw),if_pos hw,q2q (by omega),q9b (by omega) hw,Option.bind_some,z9I _ _ (by dsimp only; omega),Option.bind_some,if_pos rfl]
    rw [if_pos rfl]
    have:stS r (addN K 0 (phAt g ph r 0 (at0 V 0+1)).Inherited) (V.set 0 (at0 V 0+1))=(V.drop 1,r.Name,r.Left,r.Literal,addN K 0 (phAt g ph r 0 (at0 V 0+1)).Inherited,[],at0 V 0+1):=by unfold stS; rw [e0,e1]
    exact congrArg (fun s=>some (Sum.inl s)) this.symm
   ·rw [if_neg (by simpa using hw),if_neg hw,if_pos rfl,if_pos rfl]
    have:stS r K (V.set 0 (at0 V 0+1))=(V.drop 1,r.Name,r.Left,r.Literal,K,[],at0 V 0+1):=by unfold stS; rw [e0,e1]
    exact congrArg (fun s=>some (Sum.inl s)) this.symm
  | false=>
   by_cases hv:at0 V 0 < ((phP g ph r 0).length:Int)
   ·rw [if_pos hv]; rfl
   ·rw [if_neg hv]; rfl
 ·rw [if_neg k3,if_neg k3]
  dsimp only
  split<;>rfl
end
end Go.Proofs.YteefempppabmkacGreat
