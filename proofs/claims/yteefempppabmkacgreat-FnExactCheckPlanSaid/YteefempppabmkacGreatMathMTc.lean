/- What those partial functions come to: plain lemmas on data; each bears its conditions in its statement. -/
import Derived.Test.YteefempppabmkacGreatMathMSc
set_option linter.unusedVariables false
set_option linter.unusedSimpArgs false
set_option linter.ambiguousOpen false
set_option linter.unusedSectionVars false
set_option linter.unnecessarySimpa false
set_option linter.unusedVariables false
set_option linter.unusedSimpArgs false
namespace Go.Proofs.YteefempppabmkacGreat
open Go Go.E
section
variable {g:Grammar}{ph:List (List Phase)}{r:Rule}{R K K' : List Occurrence}{V V' : List Int}{B:Nat}{x:Step}
theorem j4f (hr:Sz.szd r≤1048576)(H:Iv g ph r K V B)(k:Int):q7y ⟨g,ph,r,R,K,V⟩ k=some (decide (1≤k∧k≤(r.Right.length:Int))&&(decide (at0 V k < ((phP g ph r k).length:Int))&&z6I K k (phAt g ph r k (at0 V k)).Inherited)):=by
 have hl:=q5o hr
 unfold q7y
 rw [q9z hl,Option.bind_some,z4Z,Option.bind_some]
 dsimp only
 by_cases hp:1≤k∧k≤(r.Right.length:Int)
 ·obtain⟨a1,a2,a3⟩:=H.at' (k:=k) (by omega) hp.2
  rw [if_pos (by simpa using hp),q2q (by omega),a3,Option.bind_some,Option.bind_some]
  by_cases hc:at0 V k < ((phP g ph r k).length:Int)
  ·rw [if_pos (by simpa using hc),q2q (by omega),Option.bind_some,q2q a1,q9b a1 hc,Option.bind_some,j2P,Option.bind_some,Option.bind_some]
   simp [hp,hc]
  ·rw [if_neg (by simpa using hc)]; simp [hc]
 ·rw [if_neg (by simpa using hp)]; simp [hp]
theorem j9a (hph:szL ph≤1048576)(hr:Sz.szd r≤1048576)(H:Iv g ph r K V B)(hB:B≤2199023255552){k:Int}(hp:1≤k∧k≤(r.Right.length:Int))(hc:at0 V k < ((phP g ph r k).length:Int)) :
  q8T k ⟨g,ph,r,R,K,V⟩=some ⟨g,ph,r,R,addN K k (phAt g ph r k (at0 V k)).Synthesized,V.set k.toNat (at0 V k+1)⟩:=by
 have hl:=q5o hr
 have hkn:=H.kn
 obtain⟨a1,a2,a3⟩:=H.at' (k:=k) (by omega) hp.2
 have hpl:=z9K hph g r k
 have hlen:=(z3h hph g r k (at0 V k)).2
 unfold q8T
 rw [z5D,q9z hl,Option.bind_some]
 dsimp only
 rw [q2q (by omega),a3,Option.bind_some,q2q a1,q9b a1 hc,Option.bind_some,z9J _ _ (by dsimp only; omega),Option.bind_some,Option.bind_some]
 dsimp only
 rw [q2q (by omega),a3,Option.bind_some,q2q (by constructor<;>omega)]; rfl
theorem j5K (hph:szL ph≤1048576)(hr:Sz.szd r≤1048576)(H:Iv g ph r K V B)(hB:B≤2199023255552):q7U x ⟨g,ph,r,R,K,V⟩=some (match z8k g ph r R K V x with | some (K',V')=>(true,⟨g,ph,r,R,K',V'⟩) | none=>(false,⟨g,ph,r,R,K,V⟩)):=by
 have hl:=q5o hr
 have hkn:=H.kn
 unfold q7U z8k
 dsimp only
 by_cases k1:x.Kind=1
 ·rw [if_pos k1,if_pos k1]
  unfold j4e
  by_cases h0:x.Visit=0
  ·rw [if_pos h0,j5J hr,Option.bind_some]
   dsimp only
   have e:(decide (x.Visit=0)&&(decide (oS x∈R)&&(!decide (oS x∈K)&&z3g r K (oS x))))=(decide ((⟨x.Pos,x.Name⟩:Occurrence)∈R)&&(!decide ((⟨x.Pos,x.Name⟩:Occurrence)∈K)&&z3g r K (⟨x.Pos,x.Name⟩:Occurrence))):=by unfold oS; simp [h0]
   rw [e]
   cases (decide ((⟨x.Pos,x.Name⟩:Occurrence)∈R)&&(!decide ((⟨x.Pos,x.Name⟩:Occurrence)∈K)&&z3g r K (⟨x.Pos,x.Name⟩:Occurrence))) with
   | true=>rw [if_pos rfl,if_pos rfl,q2q (by constructor<;>omega)]; rfl
   | false=>rfl
  ·have e:(decide (x.Visit=0)&&(decide (oS x∈R)&&(!decide (oS x∈K)&&z3g r K (oS x))))=false:=by simp [h0]
   rw [if_neg h0,e]; rfl
 rw [if_neg k1,if_neg k1]
 by_cases k2:x.Kind=2
 ·rw [if_pos k2,if_pos k2]
  by_cases hn:x.Name=(⟨#[]⟩:ByteArray)
  ·rw [if_pos hn,j4f hr H,Option.bind_some]
   by_cases hm:(decide (1≤x.Pos∧x.Pos≤(r.Right.length:Int))&&(decide (at0 V x.Pos < ((phP g ph r x.Pos).length:Int))&&z6I K x.Pos (phAt g ph r x.Pos (at0 V x.Pos)).Inherited))=true
   ·rw [if_pos hm]
    have hm':=hm
    simp only [Bool.and_eq_true,decide_eq_true_eq] at hm'
    obtain⟨hp,hc,hk⟩:=hm'
    obtain⟨a1,a2,a3⟩:=H.at' (k:=x.Pos) (by omega) hp.2
    have hpl:=z9K hph g r x.Pos
    rw [q2q (by omega),a3,Option.bind_some,q2q (by constructor<;>omega)]
    by_cases hv:x.Visit=at0 V x.Pos+1
    ·have hb:visB g ph r K V x=true:=by unfold visB; simp [hn,hp.1,hp.2,hv,hc,hk]
     rw [if_pos hv,j9a hph hr H hB hp hc,Option.bind_some,hb,if_pos rfl]
    ·have hb:visB g ph r K V x=false:=by unfold visB; simp [hv]
     rw [if_neg hv,hb,if_neg (by simp)]
   ·have hb:visB g ph r K V x=false:=by
     cases hq:visB g ph r K V x with
     | false=>rfl
     | true=>
      unfold visB at hq
      simp only [Bool.and_eq_true,decide_eq_true_eq] at hq
      exact absurd (by simp only [Bool.and_eq_true,decide_eq_true_eq]; exact⟨hq.2.1,hq.2.2.2.1,hq.2.2.2.2⟩) hm
    rw [if_neg hm,hb,if_neg (by simp)]
  ·have hb:visB g ph r K V x=false:=by unfold visB; simp [hn]
   rw [if_neg hn,hb,if_neg (by simp)]
 rw [if_neg k2,if_neg k2]
 by_cases k3:x.Kind=3
 ·obtain⟨a1,a2,a3⟩:=H.at' (k:=0) (by omega) (by omega)
  have hpl:=z9K hph g r 0
  have a3' : V[0]? = some (at0 V 0):=a3
  rw [if_pos k3,if_pos k3,z5D,q9z hl,Option.bind_some]
  by_cases h1:x.Pos=0
  ·rw [if_pos h1]
   by_cases h2:x.Name=(⟨#[]⟩:ByteArray)
   ·rw [if_pos h2,a3',Option.bind_some]
    by_cases hv:at0 V 0 < ((phP g ph r 0).length:Int)
    ·rw [if_neg (by omega),q2q (by constructor<;>omega)]
     by_cases h3:x.Visit=at0 V 0+1
     ·rw [if_pos h3,q2q a1,q9b a1 hv,Option.bind_some,j2P,Option.bind_some]
      dsimp only
      cases hk:z6I K 0 (phAt g ph r 0 (at0 V 0)).Synthesized with
      | true=>
       have hb:q9a g ph r K V x=true:=by unfold q9a; simp [h1,h2,hv,h3,hk]
       have e0:(V.set 0 (at0 V 0+1))[0]? = some (at0 V 0+1):=by rw [List.getElem?_set,if_pos rfl,if_pos (by rw [H.len]; omega)]
       rw [hb,if_pos rfl,if_pos rfl,q2q (by constructor<;>omega),e0,Option.bind_some]
       by_cases hw:at0 V 0+1 < ((phP g ph r 0).length:Int)
       ·have hlen:=(z3h hph g r 0 (at0 V 0+1)).1
        rw [if_pos hw,if_pos hw,q2q (by omega),q9b (by omega) hw,Option.bind_some,z9J _ _ (by dsimp only; omega),Option.bind_some]; rfl
       ·rw [if_neg hw,if_neg hw]
      | false=>
       have hb:q9a g ph r K V x=false:=by unfold q9a; simp [hk]
       rw [hb,if_neg (by simp),if_neg (by simp)]
     ·have hb:q9a g ph r K V x=false:=by unfold q9a; simp [h3]
      rw [if_neg h3,hb,if_neg (by simp)]
    ·have hb:q9a g ph r K V x=false:=by unfold q9a; simp [hv]
     rw [if_pos (by omega),hb,if_neg (by simp)]
   ·have hb:q9a g ph r K V x=false:=by unfold q9a; simp [h2]
    rw [if_neg h2,hb,if_neg (by simp)]
  ·have hb:q9a g ph r K V x=false:=by unfold q9a; simp [h1]
   rw [if_neg h1,hb,if_neg (by simp)]
 ·rw [if_neg k3,if_neg k3]
noncomputable def runS (g:Grammar) (ph:List (List Phase)) (r:Rule) (R:List Occurrence):List Step→List Occurrence→List Int→Option (List Occurrence × List Int)
 | [],K,V=>some (K,V)
 | x :: xs,K,V=>if at0 V 0 < ((phP g ph r 0).length:Int) then (match z8k g ph r R K V x with
  | some (K',V')=>runS g ph r R xs K' V'
  | none=>none) else none
theorem j4g (hph:szL ph≤1048576):∀ (xs:List Step) {K:List Occurrence} {V:List Int} {B:Nat},Iv g ph r K V B→∀ {K' V'},runS g ph r R xs K V=some (K',V')→Iv g ph r K' V' (B+xs.length*1048576)
 | [],K,V,B,H,K',V',h=>by cases h; simpa using H
 | x :: xs,K,V,B,H,K',V',h=>by
  rw [runS] at h
  split at h
  ·cases hs:z8k g ph r R K V x with
   | none=>rw [hs] at h; cases h
   | some q=>
    obtain⟨K1,V1⟩:=q
    rw [hs] at h
    have:=j4g hph xs (z8t hph H hs) h
    rw [List.length_cons]
    exact⟨this.len,this.rng,by have:=this.kn; omega⟩
  ·cases h
theorem sRun (hph:szL ph≤1048576)(hr:Sz.szd r≤1048576)(hR:q2y g r=some R):∀ (xs:List Step) (i:Nat) {K:List Occurrence} {V:List Int} {B:Nat},Iv g ph r K V B→B+xs.length*1048576≤2199023255552 →
  q2u (q6y g ph r (phP g ph r 0)) i xs (stS r K V)=some (match runS g ph r R xs K V with | some (K',V')=>.inl (stS r K' V') | none=>.inr false)
 | [],i,K,V,B,H,hB=>rfl
 | x :: xs,i,K,V,B,H,hB=>by
  rw [List.length_cons] at hB
  rw [q2u,k4l hph hr hR H (by omega),Option.bind_some,runS]
  by_cases hv:at0 V 0 < ((phP g ph r 0).length:Int)
  ·rw [if_pos hv,if_pos hv]
   cases hs:z8k g ph r R K V x with
   | none=>rfl
   | some q=>
    obtain⟨K1,V1⟩:=q
    exact sRun hph hr hR xs (i+1) (z8t hph H hs) (by omega)
  ·rw [if_neg hv,if_neg hv]
abbrev stI (r:Rule)(R K:List Occurrence)(V:List Int):(List Occurrence) × (List Int) × ByteArray × ByteArray × Bool × (List Occurrence):=(R,V,r.Name,r.Left,r.Literal,K)
theorem iRun (hph:szL ph≤1048576)(hr:Sz.szd r≤1048576)(a3:List Step)(y1:visits)(hy:y1.g=g∧y1.phases=ph∧y1.r.Right=r.Right∧y1.r.Equations=r.Equations∧y1.r.Contributions=r.Contributions)(ha:a3.length≤1048576):∀ (xs:List Step) (i:Nat) {K:List Occurrence} {V:List Int} {B:Nat},i+xs.length=a3.length→Iv g ph r K V B→B+xs.length*1048576≤2199023255552→(xs=[]∨at0 V 0 < ((phP g ph r 0).length:Int)) →
  q2u (q6E a3 y1 (phP g ph r 0)) i xs (stI r R K V)=some (match runS g ph r R xs K V with | some (K',V')=>.inl (stI r R K' V') | none=>.inr false)
 | [],i,K,V,B,hi,H,hB,hv=>rfl
 | x :: xs,i,K,V,B,hi,H,hB,hv=>by
  rw [List.length_cons] at hB hi
  have hv:=hv.resolve_left (by simp)
  have hrec:(⟨y1.g,y1.phases,(⟨r.Name,r.Left,y1.r.Right,r.Literal,y1.r.Equations,y1.r.Contributions⟩:Rule),R,K,V⟩:visits)=⟨g,ph,r,R,K,V⟩:=by
   obtain⟨h1,h2,h3,h4,h5⟩:=hy
   rw [h1,h2,h3,h4,h5]
  rw [q2u,runS,if_pos hv]
  have hstep:q6E a3 y1 (phP g ph r 0) i x (stI r R K V)=some (match z8k g ph r R K V x with | some (K',V')=>(if at0 V' 0=((phP g ph r 0).length:Int)∧xs≠[] then .inr false else .inl (stI r R K' V')) | none=>.inr false):=by
   unfold q6E
   dsimp only
   rw [hrec,j5K hph hr H (by omega),Option.bind_some]
   cases hs:z8k g ph r R K V x with
   | none=>rfl
   | some q=>
    obtain⟨K1,V1⟩:=q
    have H1:=z8t hph H hs
    obtain⟨a1,a2,a3'⟩:=H1.at' (k:=0) (by omega) (by omega)
    have a3'' : V1[0]? = some (at0 V1 0):=a3'
    dsimp only
    rw [if_pos rfl,a3'',Option.bind_some]
    by_cases he:at0 V1 0=((phP g ph r 0).length:Int)
    ·rw [if_pos he,Option.bind_some,Option.bind_some]
     dsimp only
     cases xs with
     | nil=>
      simp only [List.length_nil] at hi
      rw [if_neg (by simp; omega),if_neg (by simp)]
     | cons z zs=>
      simp only [List.length_cons] at hi
      rw [if_pos (by simp; omega),if_pos ⟨he,by simp⟩]
    ·rw [if_neg he,Option.bind_some]
     dsimp only
     rw [Option.bind_some,if_neg (by simp),if_neg (fun h=>he h.1)]
  rw [hstep,Option.bind_some]
  cases hs:z8k g ph r R K V x with
  | none=>rfl
  | some q=>
   obtain⟨K1,V1⟩:=q
   have H1:=z8t hph H hs
   obtain⟨a1,a2,a3'⟩:=H1.at' (k:=0) (by omega) (by omega)
   dsimp only
   by_cases hc:at0 V1 0=((phP g ph r 0).length:Int)∧xs≠[]
   ·rw [if_pos hc]
    cases xs with
    | nil=>exact absurd rfl hc.2
    | cons z zs=>rw [runS,if_neg (by omega)]
   ·rw [if_neg hc]
    refine iRun hph hr a3 y1 hy ha xs (i+1) (by omega) H1 (by omega) ?_
    by_cases hx:xs=[]
    ·exact .inl hx
    ·exact .inr (by have:¬ at0 V1 0=((phP g ph r 0).length:Int):=fun h=>hc ⟨h,hx⟩; omega)
end
section
variable {g:Grammar}{ph:List (List Phase)}{r:Rule}{R K K' : List Occurrence}{V V' : List Int}{B:Nat}
noncomputable def j2Q (g:Grammar) (ph:List (List Phase)) (r:Rule) (R K:List Occurrence) (V:List Int):Bool:=
 R.all (fun o=>decide (o∈K))&&(List.range r.Right.length).all fun j=>decide (V.getD (j+1) 0=((phP g ph r ((j+1:Nat):Int)).length:Int))
theorem j7o (hr:Sz.szd r≤1048576)(hR:q2y g r=some R)(H:Iv g ph r K V B):z1d ⟨g,r,ph,K,V.drop 1,[]⟩=some (j2Q g ph r R K V):=by
 have hl:=q5o hr
 unfold z1d j2Q
 dsimp only
 rw [hR,Option.bind_some,z6F (c:=false) (q:=fun o=>decide (o∈K)) fun k x _=>by
  unfold z7D
  rw [z6G,Option.bind_some]
  by_cases h:x∈K<;>simp [h]]
 cases R.all (fun o=>decide (o∈K)) with
 | false=>rfl
 | true=>
  rw [if_pos rfl,Option.bind_some]
  show ((q2u (z1H ⟨g,r,ph,K,V.drop 1,[]⟩) 0 r.Right ()).bind _:Option Bool)=_
  have hany:=z8x (c:=false) (xs:=r.Right) (i:=0) (p:=fun j _=>V.getD (j+1) 0≠((phP g ph r ((j+1:Nat):Int)).length:Int)) (f:=z1H ⟨g,r,ph,K,V.drop 1,[]⟩) fun j y hy=>by
   rw [Nat.zero_add]
   have hj:=(List.getElem?_eq_some_iff.1 hy).1
   have h1:=j7m H (k:=((j+1:Nat):Int)) (by omega) (by omega)
   have h2:=j0G hl (k:=((j+1:Nat):Int)) (by omega) (by omega)
   have e:(((j+1:Nat):Int) - 1).toNat=j:=by omega
   rw [e] at h1 h2
   rw [hy] at h2
   cases h2
   have h3:at0 V ((j+1:Nat):Int)=V.getD (j+1) 0:=by unfold at0; rw [Int.toNat_natCast]
   unfold z1H
   dsimp only
   rw [h1,Option.bind_some,(j2N g ph _).1,Option.bind_some,h3]
   exact⟨fun h=>if_neg h,fun h=>if_pos (Classical.not_not.1 h)⟩
  cases hb:(List.range r.Right.length).all fun j=>decide (V.getD (j+1) 0=((phP g ph r ((j+1:Nat):Int)).length:Int)) with
  | true=>
   rw [hany.2 fun j y hy hp=>?_]
   ·rfl
   ·rw [Nat.zero_add] at hp
    have hj:=(List.getElem?_eq_some_iff.1 hy).1
    have:=List.all_eq_true.1 hb j (List.mem_range.2 hj)
    exact hp (of_decide_eq_true this)
  | false=>
   have:∃ j,j < r.Right.length∧V.getD (j+1) 0≠((phP g ph r ((j+1:Nat):Int)).length:Int):=by
    apply Classical.byContradiction
    intro hn
    have:((List.range r.Right.length).all fun j=>decide (V.getD (j+1) 0=((phP g ph r ((j+1:Nat):Int)).length:Int)))=true:=List.all_eq_true.2 fun j hj=>decide_eq_true (Classical.not_not.1 fun h=>hn ⟨j,List.mem_range.1 hj,h⟩)
    rw [this] at hb; cases hb
   obtain⟨j,hj,hp⟩:=this
   rw [hany.1 ⟨j,_,List.getElem?_eq_getElem hj,by rw [Nat.zero_add]; exact hp⟩]; rfl
theorem j4h (hr:Sz.szd r≤1048576)(H:Iv g ph r K V B):q6m ⟨g,ph,r,R,K,V⟩=some (j2Q g ph r R K V):=by
 have hl:=q5o hr
 have hR:q2x R ⟨g,ph,r,R,K,V⟩=some (!R.all fun o=>decide (o∈K)):=by
  unfold q2x q3c
  obtain⟨z,h1,h2⟩:=z4v (q:=fun u=>!decide (u∈K)) (xs:=R) (i:=0) (f:=q2V ⟨g,ph,r,R,K,V⟩) fun k x _=>by
   unfold q2V q7Z
   rw [z6H,Option.bind_some,Option.bind_some]
   split<;>rfl
  rw [h1,Option.bind_some,h2,← j4d,Bool.not_not]
 have hloop:∀ m j:Nat,j+m=r.Right.length→(∀ q,q < j→V.getD (q+1) 0=((phP g ph r ((q+1:Nat):Int)).length:Int))→q7k (q5T ⟨g,ph,r,R,K,V⟩) ((j+1:Nat):Int)=some (if ((List.range r.Right.length).all fun j=>decide (V.getD (j+1) 0=((phP g ph r ((j+1:Nat):Int)).length:Int)))=true then .inl () else .inr false):=by
  intro m
  induction m with
  | zero=>
   intro j hj hq
   have hb:((List.range r.Right.length).all fun j=>decide (V.getD (j+1) 0=((phP g ph r ((j+1:Nat):Int)).length:Int)))=true:=List.all_eq_true.2 fun q h=>decide_eq_true (hq q (by have:=List.mem_range.1 h; omega))
   rw [hb,if_pos rfl]
   exact q3X (by unfold q5T; dsimp only; rw [if_neg (by omega)])
  | succ m ih=>
   intro j hj hq
   have h3:at0 V ((j+1:Nat):Int)=V.getD (j+1) 0:=by unfold at0; rw [Int.toNat_natCast]
   obtain⟨a1,a2,a3⟩:=H.at' (k:=((j+1:Nat):Int)) (by omega) (by omega)
   rw [h3] at a1 a2 a3
   by_cases hc:V.getD (j+1) 0 < ((phP g ph r ((j+1:Nat):Int)).length:Int)
   ·have hb:((List.range r.Right.length).all fun j=>decide (V.getD (j+1) 0=((phP g ph r ((j+1:Nat):Int)).length:Int)))=false:=by
     rw [List.all_eq_false]
     exact⟨j,List.mem_range.2 (by omega),by rw [decide_eq_false (by omega)]; exact Bool.false_ne_true⟩
    rw [hb,if_neg (by simp)]
    refine q3X ?_
    unfold q5T
    dsimp only
    rw [if_pos (by omega),q2q (by omega),a3,Option.bind_some,q9z hl,Option.bind_some,if_pos hc]
   ·rw [q5h (s':=((j+1+1:Nat):Int)) (by
     unfold q5T
     dsimp only
     rw [if_pos (by omega),q2q (by omega),a3,Option.bind_some,q9z hl,Option.bind_some,if_neg hc,q2q (by constructor<;>omega)]; rfl)]
    refine ih (j+1) (by omega) fun q hq'=>?_
    by_cases e:q=j
    ·rw [e]; exact Int.le_antisymm a2 (Int.not_lt.1 hc)
    ·exact hq q (by omega)
 have h0:=hloop r.Right.length 0 (by omega) (fun q hq=>by omega)
 have e1:((0+1:Nat):Int)=1:=rfl
 rw [e1] at h0
 unfold q6m j2Q
 rw [h0,Option.bind_some]
 cases (List.range r.Right.length).all fun j=>decide (V.getD (j+1) 0=((phP g ph r ((j+1:Nat):Int)).length:Int)) with
 | false=>simp
 | true=>
  show (q2x R ⟨g,ph,r,R,K,V⟩).bind _=_
  rw [hR,Option.bind_some,Bool.not_not,Bool.and_true]
end
noncomputable def k0N (g:Grammar) (ph:List (List Phase)) (r:Rule) (R:List Occurrence) (st:List Step):Bool:=
 if (phP g ph r 0).length=0 then false else match runS g ph r R st (addN [] 0 (phAt g ph r 0 0).Inherited) (List.replicate (r.Right.length+1) 0) with
  | none=>false
  | some (K,V)=>decide (at0 V 0=((phP g ph r 0).length:Int))&&j2Q g ph r R K V
theorem j7p {g:Grammar}{ph:List (List Phase)}{r:Rule}{st:List Step}(hg:Sz.szd g≤1048576)(hph:szL ph≤1048576)(hr:Sz.szd r≤1048576)(hs:st.length≤1048576):∃ b,q6b g ph r st=some b∧q7h g ph r st=some b:=by
 have hl:=q5o hr
 obtain⟨R,hR,hR'⟩:=j8Y (z7j hg) hl
 refine⟨k0N g ph r R st,?_⟩
 have hlen:=(z3h hph g r 0 0).1
 have hI:Iv g ph r (addN [] 0 (phAt g ph r 0 0).Inherited) (List.replicate (r.Right.length+1) 0) 1048576:=by
  refine⟨by simp,fun k hk=>?_,by simp [addN]; omega⟩
  rw [List.getD_eq_getElem?_getD,List.getElem?_replicate,if_pos (by omega)]
  exact⟨Int.le_refl _,by show (0:Int)≤_; omega⟩
 have h00:at0 (List.replicate (r.Right.length+1) 0) 0=0:=by unfold at0; rw [List.getD_eq_getElem?_getD,List.getElem?_replicate,if_pos (by simp)]; rfl
 have hdrop:(List.replicate (r.Right.length+1) (0:Int)).drop 1=List.replicate r.Right.length 0:=by rw [List.drop_replicate]; rfl
 have hp0:phS g ph r.Left=phP g ph r 0:=by unfold phP; rw [j7j]
 constructor
 ·unfold q6b k0N
  rw [q2q (by constructor<;>omega),(j2N g ph r.Left).1,Option.bind_some,hp0]
  by_cases h0:(phP g ph r 0).length=0
  ·rw [if_pos (by omega),if_pos h0]
  ·have hx:=q9b (g:=g) (ph:=ph) (r:=r) (k:=0) (v:=0) (by omega) (by omega)
   have hx' : (phP g ph r 0)[0]? = some (phAt g ph r 0 0):=hx
   rw [if_neg (by omega),if_neg h0,hx',Option.bind_some,z9I _ _ (by dsimp only; simp; omega),Option.bind_some]
   dsimp only
   have hst:((List.replicate r.Right.length (0:Int)),r.Name,r.Left,r.Literal,[]++(phAt g ph r 0 0).Inherited.map (fun n=>(⟨0,n⟩:Occurrence)),([]:List Step),(0:Int))=stS r (addN [] 0 (phAt g ph r 0 0).Inherited) (List.replicate (r.Right.length+1) 0):=by
    unfold stS; rw [h00,hdrop]; rfl
   rw [hst,sRun hph hr hR st 0 hI (by omega),Option.bind_some]
   cases hrun:runS g ph r R st (addN [] 0 (phAt g ph r 0 0).Inherited) (List.replicate (r.Right.length+1) 0) with
   | none=>rfl
   | some q=>
    obtain⟨K,V⟩:=q
    have HI:=j4g hph st hI hrun
    show ((if at0 V 0=((phP g ph r 0).length:Int) then (z1d ⟨g,r,ph,K,V.drop 1,[]⟩).bind fun y5=>some y5 else some false).bind fun s27=>some s27)=_
    by_cases he:at0 V 0=((phP g ph r 0).length:Int)
    ·rw [if_pos he,j7o hr hR HI,Option.bind_some,Option.bind_some]; simp [he]
    ·rw [if_neg he]; simp [he]
 ·unfold q7h k0N z5w
  rw [hR',Option.bind_some,q2q (by constructor<;>omega),q2q (by constructor<;>omega),Option.bind_some,z5D,q9z hl,Option.bind_some]
  by_cases h0:(phP g ph r 0).length=0
  ·rw [if_pos (by omega),Option.bind_some,if_pos rfl,if_pos h0]
  ·have hx:=q9b (g:=g) (ph:=ph) (r:=r) (k:=0) (v:=0) (by omega) (by omega)
   have hx' : (phP g ph r 0)[0]? = some (phAt g ph r 0 0):=hx
   rw [if_neg (by omega),Option.bind_some,if_neg h0]
   by_cases hst0:st.length=0
   ·obtain rfl:=List.eq_nil_of_length_eq_zero hst0
    rw [if_pos (by simp),runS]
    have:¬ (0:Int)=((phP g ph r 0).length:Int):=by omega
    dsimp only
    rw [h00]; simp [this]
   ·rw [if_neg (by simp; exact fun e=>hst0 (by rw [e]; rfl)),hx',Option.bind_some,z9J _ _ (by dsimp only; simp; omega),Option.bind_some]
    dsimp only
    have hst:(R,(List.replicate (r.Right.length+1) (0:Int)),r.Name,r.Left,r.Literal,[]++(phAt g ph r 0 0).Inherited.map (fun n=>(⟨0,n⟩:Occurrence)))=stI r R (addN [] 0 (phAt g ph r 0 0).Inherited) (List.replicate (r.Right.length+1) 0):=rfl
    rw [hst,iRun (g:=g) (ph:=ph) (r:=r) hph hr st _ ⟨rfl,rfl,rfl,rfl,rfl⟩ hs st 0 (by omega) hI (by omega) (.inr (by rw [h00]; omega)),Option.bind_some]
    cases hrun:runS g ph r R st (addN [] 0 (phAt g ph r 0 0).Inherited) (List.replicate (r.Right.length+1) 0) with
    | none=>rfl
    | some q=>
     obtain⟨K,V⟩:=q
     have HI:=j4g hph st hI hrun
     obtain⟨a1,a2,a3⟩:=HI.at' (k:=0) (by omega) (by omega)
     have a3' : V[0]? = some (at0 V 0):=a3
     show ((V[0]?).bind fun x4=>(if x4=((phP g ph r 0).length:Int) then (q6m ⟨g,ph,r,R,K,V⟩).bind fun y4=>some y4 else some false).bind fun s11=>some s11)=_
     rw [a3',Option.bind_some]
     by_cases he:at0 V 0=((phP g ph r 0).length:Int)
     ·rw [if_pos he,j4h hr HI,Option.bind_some,Option.bind_some]; simp [he]
     ·rw [if_neg he]; simp [he]
end Go.Proofs.YteefempppabmkacGreat
