/- Abstract states of a walk: plain lemmas on the model, without conditions of their own. -/
import Derived.Test.YtbgnnjmfmnkkaaaDoorEng4
import Derived.KernelRfl
set_option linter.unusedVariables false
set_option linter.unusedSimpArgs false
set_option linter.ambiguousOpen false
set_option linter.unusedSectionVars false
set_option linter.unnecessarySimpa false
namespace Go.A
open Go Go.E
inductive Hold (ρ:AE) (σ:St):X→Prop
 | tmp (t:Nat) {x:X} (h:ρ t=x):Hold ρ σ x
 | box (r c:Nat) {cs:List X} {x:X} (h:fnOf σ r = .box cs) (hc:cs[c]? = some x):Hold ρ σ x
 | ag {cs:List X} {x:X} (c:Nat) (h:Hold ρ σ (.ag cs)) (hc:cs[c]? = some x):Hold ρ σ x
 | tu {cs:List X} {x:X} (c:Nat) (h:Hold ρ σ (.tu cs)) (hc:cs[c]? = some x):Hold ρ σ x
 | el {α:Type} {m:Md} {k k' j:Nat} {f:α→D} {xs:List α} {y:α} {zs:List D} (c:Nat) (h:Hold ρ σ (.d m (.sl k (xs.map f)))) (hj:xs[j]? = some y) (hc:(f y).cells[c]? = some (.sl k' zs)):Hold ρ σ (.d m (.sl k' zs))
 | rw {α:Type} {m:Md} {k k' j:Nat} {f:α→D} {xs:List α} {y:α} {zs:List D} (r c:Nat) (h:fnOf σ r = .row m k (xs.map f)) (hj:xs[j]? = some y) (hc:(f y).cells[c]? = some (.sl k' zs)):Hold ρ σ (.d m (.sl k' zs))
theorem Hold.vr {S:Start}{F:Nat→Prop}{g:Nat→G}{w:World}{ρ:AE}{σ:St}{ρc:Env}(hs:Sim S F g (fnOf σ) w)(hv:VR S F g w ρ ρc):∀ {x:X},Hold ρ σ x→∃ v,Go.A.vr (SM F S.B) w g x v
 | _,.tmp t h=>⟨ρc t,h▸hv t⟩
 | _,.box r c h hc=>by
  obtain⟨b,T,vs,_,_,h3⟩:=q5e hs h
  obtain⟨v,_,h4⟩:=h3.get hc
  exact⟨v,h4⟩
 | _,.ag c h hc=>by
  obtain⟨v,h1⟩:=h.vr hs hv
  rw [Go.A.vr] at h1
  obtain⟨vs,_,h2⟩:=h1
  obtain⟨v,_,h4⟩:=h2.get hc
  exact⟨v,h4⟩
 | _,.tu c h hc=>by
  obtain⟨v,h1⟩:=h.vr hs hv
  rw [Go.A.vr] at h1
  obtain⟨vs,_,h2⟩:=h1
  obtain⟨v,_,h4⟩:=h2.get hc
  exact⟨v,h4⟩
 | _,.el c h hj hc=>by
  obtain⟨v,h1⟩:=h.vr hs hv
  rw [Go.A.vr,rdC] at h1
  obtain⟨A,cap,cells,_,_,_,h2,_⟩:=h1
  obtain⟨cs,_,h3,_⟩:=h2.get (i:=_) (by rw [List.getElem?_map,hj]; rfl)
  obtain⟨v,_,h4⟩:=rdCs.get h3 hc
  exact⟨v,by rw [Go.A.vr]; exact h4⟩
 | _,.rw r c h hj hc=>by
  obtain⟨v,L,gs,hg,hrow⟩:=q5d hs (.inr ⟨_,_,h,rfl⟩)
  obtain⟨_,h2,_⟩:=q3v hrow
  obtain⟨cs,_,h3,_⟩:=h2.get (i:=_) (by rw [List.getElem?_map,hj]; rfl)
  obtain⟨v,_,h4⟩:=rdCs.get h3 hc
  exact⟨v,by rw [Go.A.vr]; exact h4⟩
def rngY:X→Prop
 | .d _ (.sl _ xs)=>(xs.length:Int)≤9223372036854775807
 | .d _ x=>rngD x
 | _=>True
theorem q9M {S1:Md→Nat→Prop}{w:World}{g:Nat→G}{x:X}{v:Value}(h:vr S1 w g x v):rngY x:=by
 cases x<;>try trivial
 rename_i m x
 cases x<;>try trivial
 ·rw [vr,rdC] at h; exact h.2
 ·rw [vr,rdC] at h; exact h.2
 ·rw [vr,rdC] at h
  obtain⟨A,cap,cells,_,h1,h2,_⟩:=h
  have h2:cap≤9223372036854775807:=h2
  show _≤(9223372036854775807:Int)
  omega
section
variable {P:Program}{S:Start}{n:Nat}{ρ:AE}{σ:St}{c:Code}{QP:q3h}
theorem q0B {x:X}(hx:Hold ρ σ x)(h:rngY x→AW P S n c QP ρ σ):AW P S n c QP ρ σ:=by
 intro F g w ρc hs hv
 obtain⟨v,h1⟩:=hx.vr hs hv
 exact h (q9M h1) F g w ρc hs hv
theorem q1z {r k:Nat}{m:Md}{xs:List D}(hr:fnOf σ r = .row m k xs)(h:(xs.length:Int)≤9223372036854775807→AW P S n c QP ρ σ):AW P S n c QP ρ σ:=by
 intro F g w ρc hs hv
 obtain⟨v,L,gs,hg,hrow⟩:=q5d hs (.inr ⟨m,xs,hr,rfl⟩)
 obtain⟨A,c,_,h1,h2⟩:=hrow.1.form
 have h2:c≤9223372036854775807:=h2
 rw [List.length_map] at h1
 exact h (by omega) F g w ρc hs hv
end
section
variable {P:Program}{T:TypeId}{X1 Y1:X}{a b:Int}{m m' : Md}
abbrev BR (P:Program)(op:BinOp)(T:TypeId)(X1 Y1:X)(u v:Value)(z:D)(r:Value):Prop:=rngX X1→rngX Y1→Bin P op T u v r∧rngD z
theorem bAdd (h:I64 (a+b)):BR P .add T X1 Y1 (.int .i64 a) (.int .i64 b) (.i .i64 (a+b)) (.int .i64 (a+b)):=fun _ _=>⟨Bin.add h,h⟩
theorem bSub (h:I64 (a - b)):BR P .sub T X1 Y1 (.int .i64 a) (.int .i64 b) (.i .i64 (a - b)) (.int .i64 (a - b)):=fun _ _=>⟨Bin.sub h,h⟩
theorem bMul (h:I64 (a*b)):BR P .mul T X1 Y1 (.int .i64 a) (.int .i64 b) (.i .i64 (a*b)) (.int .i64 (a*b)):=fun _ _=>⟨q1P h,h⟩
theorem q5a {p q:Nat}(h:I64 ((p+q:Nat):Int)):BR P .add T X1 Y1 (.int .i64 (p:Int)) (.int .i64 (q:Int)) (.i .i64 ((p+q:Nat):Int)) (.int .i64 ((p+q:Nat):Int)):=fun _ _=>⟨q1o rfl h,h⟩
theorem z0A {p k:Nat}(hk:k≤4611686018427387904):BR P .sub T (.d m (.i .i64 (p:Int))) Y1 (.int .i64 (p:Int)) (.int .i64 (k:Int)) (.i .i64 ((p:Int) - (k:Int))) (.int .i64 ((p:Int) - (k:Int))):=fun h _=>⟨Bin.sub (q8r h hk),q8r h hk⟩
theorem z0B:BR P .add T X1 Y1 (.int .i64 a) (.int .i64 b) (.i .i64 (IntKind.i64.wrap (a+b))) (.int .i64 (IntKind.i64.wrap (a+b))):=fun _ _=>⟨q1d,q5l _⟩
theorem z0C:BR P .mul T X1 Y1 (.int .i64 a) (.int .i64 b) (.i .i64 (IntKind.i64.wrap (a*b))) (.int .i64 (IntKind.i64.wrap (a*b))):=fun _ _=>⟨q1e,q5l _⟩
theorem z0D:BR P .and T X1 Y1 (.int .i64 a) (.int .i64 b) (.i .i64 (q9A a b)) (.int .i64 (q9A a b)):=fun _ _=>⟨q1q,q5l _⟩
theorem z0E:BR P .xor T X1 Y1 (.int .i64 a) (.int .i64 b) (.i .i64 (q9B a b)) (.int .i64 (q9B a b)):=fun _ _=>⟨q1r,q5l _⟩
theorem z0F {q:IntKind}(h:0≤b):BR P .shr T (.d m (.i .i64 a)) Y1 (.int .i64 a) (.int q b) (.i .i64 (q8h a b)) (.int .i64 (q8h a b)):=fun h1 _=>⟨q1p h,q8Q h1 _⟩
theorem z0G {q:IntKind}(h:0≤b∧b < 63):BR P .shl T X1 Y1 (.int .i64 1) (.int q b) (.i .i64 ((2 ^ b.toNat:Nat):Int)) (.int .i64 ((2 ^ b.toNat:Nat):Int)):=fun _ _=>⟨q1l h.1 h.2,q9x h.2⟩
theorem z0H {q:IntKind}(h:0≤a∧0≤b∧b < 64):BR P .shr T (.d m (.i .i64 a)) Y1 (.int .i64 a) (.int q b) (.i .i64 ((a.toNat >>> b.toNat:Nat):Int)) (.int .i64 ((a.toNat >>> b.toNat:Nat):Int)):=fun h1 _=>⟨q1m h.1 h.2.1 h.2.2,q9y h1⟩
theorem z0I (h:0≤a∧0≤b):BR P .and T (.d m (.i .i64 a)) (.d m' (.i .i64 b)) (.int .i64 a) (.int .i64 b) (.i .i64 ((a.toNat &&& b.toNat:Nat):Int)) (.int .i64 ((a.toNat &&& b.toNat:Nat):Int)):=fun h1 h2=>⟨q1n h.1 h1.2 h.2 h2.2,q9z h h1 h2⟩
theorem bOrI (h:0≤a∧0≤b):BR P .or T (.d m (.i .i64 a)) (.d m' (.i .i64 b)) (.int .i64 a) (.int .i64 b) (.i .i64 ((a.toNat ||| b.toNat:Nat):Int)) (.int .i64 ((a.toNat ||| b.toNat:Nat):Int)):=fun h1 h2=>⟨q2b h.1 h1.2 h.2 h2.2,q9X h h1 h2⟩
theorem bRem (h:b≠0):BR P .rem T (.d m (.i .i64 a)) Y1 (.int .i64 a) (.int .i64 b) (.i .i64 (a.tmod b)) (.int .i64 (a.tmod b)):=fun h1 _=>⟨q1t h,q9C h1⟩
theorem bQuo (h:b≠0)(g:I64 (a.tdiv b)):BR P .quo T X1 Y1 (.int .i64 a) (.int .i64 b) (.i .i64 (a.tdiv b)) (.int .i64 (a.tdiv b)):=fun h1 _=>⟨q1s h g,g⟩
theorem q4t {s t:ByteArray}(h:s.size+t.size≤9223372036854775807):BR P .add T X1 Y1 (.string s) (.string t) (.s (s++t)) (.string (s++t)):=fun _ _=>⟨q1h h,by simp only [rngD]; rw [ByteArray.size_append]; exact h⟩
end
end Go.A
namespace Go.A
open Go Go.E
section
variable {P:Program}[HasTab P]{S:Start}{n:Nat}{ops:Array Oper}{Q:AE→St→Prop}{QP:q3h}{o:Oper}{rest:List Oper}{ρ:AE}{σ:St}{d:Nat}{v:X}{rd:List Nat}{md:Md2}{T e:Nat}{t te:TI}{α:Type}{f:α→D}{xs:List α}{k:Nat}{m m' : Md}
theorem q4u {m:Md}:∀ {ds:List D} {c:Nat},q5f [] c (ds.map (Cell.d m))=some (ds.map (dX m))
 | [],c=>rfl
 | x :: ds,c=>by simp only [List.map_cons,q5f,q6p,q4u]
theorem LPa {x:Operand}{r j c:Nat}{y:α}(hj:xs[j]? = some y)(h:AL P S ops Q (q3j md [r] []) rest (updX ρ d (.ag ((((f y).cells.drop c).take t.sz).map (dX m)))) σ)(ho:o.op = .load T x:=by rfl)(hT:(HasTab.tab P).get T=some t:=by rfl)(ha:t.agg=true:=by rfl)(hx:evX ρ x = .pe r none j c:=by rfl)(hσ:fnOf σ r = .row m k (xs.map f):=by rfl)(hl:Nat.beq (((f y).cells.drop c).take t.sz).length t.sz=true:=by rfl)(hd:o.dst=some d:=by rfl)(hg:q3g ops ρ o=some true:=by rfl):AL P S ops Q md (o :: rest) ρ σ:=
 q0a (q0z (hx':=[]) (p:=(k,(xs.map f).map (elOf m))) ho (by rw [TI.agg' (Tab.chk HasTab.ok hT),ha]) (TI.sz' (Tab.chk HasTab.ok hT)) hx (by rw [hσ]; rfl) (q4i (q4i hj)) (by have:=Nat.eq_of_beq_eq_true hl; simpa [elOf] using this) (.inl rfl) (by rw [elOf,← List.map_drop,← List.map_take]; exact q4u)) h hd hg
end
end Go.A
namespace Go.A
open Go Go.E
section
variable {S1:Md→Nat→Prop}{w:World}{g1 g2:Nat→G}{l:List (Nat × Nat)}
mutual
theorem q9q (hg:∀ i j,renI l i=some j→g2 j=g1 i):∀ {x:X} {v:Value},vr S1 w g1 x v→vr S1 w g2 (renX l x) v
 | .d m x,v,h=>by rw [renX]; rw [vr] at h ⊢; exact h
 | .ag cs,v,h=>by rw [renX]; rw [vr] at h ⊢; obtain⟨vs,h1,h2⟩:=h; exact⟨vs,h1,q5M hg h2⟩
 | .tu cs,v,h=>by rw [renX]; rw [vr] at h ⊢; obtain⟨vs,h1,h2⟩:=h; exact⟨vs,h1,q5M hg h2⟩
 | .fn f cs,v,h=>by rw [renX]; rw [vr] at h ⊢; obtain⟨vs,h1,h2⟩:=h; exact⟨vs,h1,q5M hg h2⟩
 | .ref r p,v,h=>by
  rw [renX]
  cases hr:renI l r with
  | none=>show vr _ _ _ .u _; rw [vr]; trivial
  | some j=>show vr _ _ _ (.ref j p) _; rw [vr] at h ⊢; rw [hg r j hr]; exact h
 | .vs r p a b,v,h=>by
  rw [renX]
  cases hr:renI l r with
  | none=>show vr _ _ _ .u _; rw [vr]; trivial
  | some j=>show vr _ _ _ (.vs j p a b) _; rw [vr] at h ⊢; rw [hg r j hr]; exact h
 | .pb r c,v,h=>by
  rw [renX]
  cases hr:renI l r with
  | none=>show vr _ _ _ .u _; rw [vr]; trivial
  | some j=>show vr _ _ _ (.pb j c) _; rw [vr] at h ⊢; rw [hg r j hr]; exact h
 | .pe r p i c,v,h=>by
  rw [renX]
  cases hr:renI l r with
  | none=>show vr _ _ _ .u _; rw [vr]; trivial
  | some j=>show vr _ _ _ (.pe j p i c) _; rw [vr] at h ⊢; rw [hg r j hr]; exact h
 | .pf m x,v,h=>by rw [renX]; rw [vr] at h ⊢; exact h
 | .nl k,v,h=>by rw [renX]; rw [vr] at h ⊢; exact h
 | .u,v,h=>by rw [renX]; rw [vr]; trivial
theorem q5M (hg:∀ i j,renI l i=some j→g2 j=g1 i):∀ {xs:List X} {vs:List Value},vrs S1 w g1 xs vs→vrs S1 w g2 (q4O l xs) vs
 | [],vs,h=>by rw [q4O]; rw [vrs] at h ⊢; exact h
 | x :: xs,vs,h=>by
  rw [q4O]
  rw [vrs] at h ⊢
  obtain⟨v,r,h1,h2,h3⟩:=h
  exact⟨v,r,h1,q9q hg h2,q5M hg h3⟩
end
end
def okH (l:List (Nat × Nat)):Root→Bool
 | .deep _ _ _ hs=>hs.all fun p=>(renI l p.2.2).isSome
 | _=>true
def renS (l:List (Nat × Nat))(n:Nat)(σ:St):St:=(List.range n).map fun j=>match invI l j with | some i=>renR l (fnOf σ i) | none=>.none
theorem q7V:∀ {l:St} {i:Nat},fnOf l i=(l[i]?).getD .none
 | [],i=>by rw [q3T]; simp
 | x :: l,0=>rfl
 | x :: l,i+1=>by simp only [fnOf]; rw [q7V (l:=l)]; simp
theorem q8G {l:List (Nat × Nat)}{n:Nat}{σ:St}{j:Nat}:fnOf (renS l n σ) j=if j < n then (match invI l j with | some i=>renR l (fnOf σ i) | none=>.none) else .none:=by
 rw [q7V,renS,List.getElem?_map]
 by_cases hj:j < n
 ·rw [List.getElem?_range hj,if_pos hj]; rfl
 ·rw [List.getElem?_eq_none (by simpa using hj),if_neg hj]; rfl
def q6z (l:List (Nat × Nat))(n0 n:Nat)(σ:St):Bool:=
 Nat.ble n0 n&&(q4s (l.map (·.1))&&(q4s (l.map (·.2))&&((List.range n0).all (fun i=>match renI l i with | some j=>Nat.beq j i | none=>false)&&l.all fun p=>Nat.blt p.2 n&&okH l (fnOf σ p.1))))
def renG (l:List (Nat × Nat))(n:Nat)(g:Nat→G):Nat→G:=fun j=>if j < n then (match invI l j with | some i=>g i | none=>.none) else .none
section
variable {S:Start}{F:Nat→Prop}{g:Nat→G}{w:World}{σ:St}{ρ:AE}
theorem Sim.ren (h:Sim S F g (fnOf σ) w){l:List (Nat × Nat)}{n n0:Nat}(hS:S.n0=n0)(hok:q6z l n0 n σ=true):Sim S F (renG l n g) (fnOf (renS l n σ)) w∧∀ x v,vr (SM F S.B) w g x v→vr (SM F S.B) w (renG l n g) (renX l x) v:=by
 subst hS
 simp only [q6z,Bool.and_eq_true] at hok
 obtain⟨hn0,hd1,hd2,hpar,hall⟩:=hok
 have hn0:S.n0≤n:=by simpa using hn0
 have hd1:=q3u hd1
 have hd2:=q3u hd2
 have hp:∀ i,i < S.n0→renI l i=some i:=fun i hi=>by
  have:=List.all_eq_true.1 hpar i (List.mem_range.2 hi)
  split at this
  ·rename_i j hj; rw [hj,Nat.eq_of_beq_eq_true this]
  ·cases this
 have hl:∀ i j,renI l i=some j→j < n∧okH l (fnOf σ i)=true:=fun i j hij=>by
  have:=List.all_eq_true.1 hall (i,j) (q4C hij)
  simp only [Bool.and_eq_true] at this
  exact⟨by simpa using this.1,this.2⟩
 have hg:∀ i j,renI l i=some j→renG l n g j=g i:=fun i j hij=>by
  simp only [renG,if_pos (hl i j hij).1,q3O hd2 hij hd1]
 have hinv:∀ j,(∃ i,renI l i=some j∧renG l n g j=g i∧fnOf (renS l n σ) j=renR l (fnOf σ i))∨(renG l n g j = .none∧fnOf (renS l n σ) j = .none):=fun j=>by
  rw [q8G]
  simp only [renG]
  by_cases hj:j < n
  ·simp only [if_pos hj]
   cases hi:invI l j with
   | none=>exact .inr ⟨rfl,rfl⟩
   | some i=>exact .inl ⟨i,q5m hi hd1,by simp,by simp⟩
  ·exact .inr (by simp [hj])
 refine⟨⟨h.chg,h.bB,h.fmono,h.fnew,h.flt,fun j=>?_,h.low,fun j=>?_,fun j=>?_,fun j j' hne b hb=>?_,fun j b hb=>?_⟩,fun x v hv=>q9q hg hv⟩
 ·rcases hinv j with ⟨i,h1,h2,h3⟩ | ⟨h2,h3⟩
  ·rw [h2,h3]
   have hr:=h.roots i
   have hh:=(hl i j h1).2
   revert hr hh
   cases fnOf σ i<;>intro hr hh<;>cases hgi:g i<;>rw [hgi] at hr<;>try exact hr.elim
   ·trivial
   ·trivial
   ·obtain⟨vs,k1,k2⟩:=hr
    exact⟨vs,k1,q5M hg k2⟩
   ·exact hr
   ·simp only [okH] at hh
    refine⟨hr.1,fun p hp gc hgc=>?_,hr.2.2⟩
    obtain⟨q,hq,rfl⟩:=List.mem_map.1 hp
    obtain⟨j',hj'⟩:=Option.isSome_iff_exists.1 (List.all_eq_true.1 hh q hq)
    simp only [hj',Option.getD_some]
    rw [hg _ _ hj']
    exact hr.2.1 q hq gc hgc
  ·rw [h2,h3]; trivial
 ·by_cases hj:j < S.n0
  ·rw [hg j j (hp j hj)]; exact h.hdr j
  ·rw [h.low j (Nat.le_of_not_lt hj)]; trivial
 ·rcases hinv j with ⟨i,_,h2,_⟩ | ⟨h2,_⟩
  ·rw [h2]; exact h.nodup i
  ·rw [h2]; exact List.nodup_nil
 ·rcases hinv j with ⟨i,h1,h2,_⟩ | ⟨h2,_⟩
  ·rw [h2] at hb
   rcases hinv j' with ⟨i',h1',h2',_⟩ | ⟨h2',_⟩
   ·rw [h2']
    exact h.disj i i' (fun e=>hne (by subst e; rw [h1] at h1'; exact Option.some.inj h1')) b hb
   ·rw [h2']; exact List.not_mem_nil
  ·rw [h2] at hb; cases hb
 ·rcases hinv j with ⟨i,_,h2,_⟩ | ⟨h2,_⟩
  ·rw [h2] at hb; exact h.own i b hb
  ·rw [h2] at hb; cases hb
def WkR (l:List (Nat × Nat))(ρ:AE):List (Nat × X)→Prop
 | []=>True
 | (t,x) :: L=>Wk x (renX l (ρ t))∧WkR l ρ L
theorem q9r {ρc:Env}{l:List (Nat × Nat)}{g' : Nat→G}(h:∀ t,vr (SM F S.B) w g' (renX l (ρ t)) (ρc t)):∀ {L:List (Nat × X)},WkR l ρ L→VR S F g' w (ofX L) ρc
 | [],_=>fun t=>by simp only [Go.A.ofX]; rw [Go.A.vr]; trivial
 | (t,x) :: L,hl=>fun s=>by
  simp only [Go.A.ofX,updX]
  cases hb:Nat.beq s t with
  | true=>have:=Nat.eq_of_beq_eq_true hb; subst this; exact hl.1.vr (h _)
  | false=>exact q9r h hl.2 s
theorem GH.ren {n0:Nat}(hS:S.n0=n0)(l:List (Nat × Nat))(n:Nat){L:List (Nat × X)}{σt:St}(hL:WkR l ρ L)(hσ:renS l n σ=σt:=by rfl)(hc:q6z l n0 n σ=true:=by rfl):GH S ρ σ (ofX L) σt:=by
 intro F g w ρc hs hv
 subst hσ
 obtain⟨h1,h2⟩:=hs.ren hS hc
 exact⟨F,_,h1,q9r (fun t=>h2 _ _ (hv t)) hL⟩
theorem endA.ren {P:Program}{fn:Func}{e:Exit}{lr:List ResultVar}{xs:List X}{res:X}{post:St}{n0:Nat}(l:List (Nat × Nat))(n:Nat)(he:e = .normal∨e = .ret)(hS:S.n0=n0)(hl:fn.results=lr.toArray)(ht:lr.all (q5E fn.ntmps)=true)(hx:q6u P ρ σ lr=some xs)(hw:Wk res (renX l (tupX xs)))
  (hc:q6z l n0 n σ=true) (hp:renS l n σ=post):endA P S fn res post e ρ σ:=by
 refine⟨he,fun F g w ρc hs hv=>?_⟩
 obtain⟨vs,h1,h2⟩:=q6R hs hv ht hx
 obtain⟨k1,k2⟩:=hs.ren hS hc
 subst hp
 exact⟨tupV vs,fun a ha=>q7q hl (h1 a ha),F,_,k1,hw.vr (k2 _ _ (z0c h2))⟩
end
end Go.A
namespace Go.A
open Go Go.E
theorem dT {p:Prop}[Decidable p](h:p):decide p=true:=decide_eq_true h
theorem dF {p:Prop}[Decidable p](h:¬ p):decide p=false:=decide_eq_false h
theorem nT {p:Prop}[Decidable p](h:¬ p):(!decide p)=true:=by simp [h]
theorem nF {p:Prop}[Decidable p](h:p):(!decide p)=false:=by simp [h]
theorem bF {t:Bool}(h:¬ t=true):t=false:=by simpa using h
theorem bnT {t:Bool}(h:¬ t=true):(!t)=true:=by simpa using h
theorem bnF {t:Bool}(h:t=true):(!t)=false:=by simp [h]
section
variable {P:Program}{S:Start}{n:Nat}{QP:q3h}{ρ:AE}{σ:St}{c:Operand}{x y:Code}{m:Md}{b:Bool}
theorem q0h (hc:evX ρ c = .d m (.b b))(hb:b=true)(h:AW P S n x QP ρ σ):AW P S n (.cond c x y) QP ρ σ:=q0H hc (fun _=>h) fun e=>by rw [hb] at e; cases e
theorem q0i (hc:evX ρ c = .d m (.b b))(hb:b=false)(h:AW P S n y QP ρ σ):AW P S n (.cond c x y) QP ρ σ:=q0H hc (fun e=>by rw [hb] at e; cases e) fun _=>h
end
section
variable {P:Program}[HasTab P]{S:Start}{n:Nat}{ops:Array Oper}{Q:AE→St→Prop}{o:Oper}{l rest:List Oper}{ρ:AE}{σ:St}{d:Nat}{md:Md2}{m:Md}{b:Bool}
theorem q0j {rd:List Nat}{b b' : Bool}(e:b=b')(h:LT P S o ρ σ rd (.d m (.b b)) []):LT P S o ρ σ rd (.d .fz (.b b')) []:=by
 subst e
 intro σ1 F g w ρc a1 a2 a3 a4
 have:=h σ1 F g w ρc a1 a2 a3 a4
 revert this
 generalize (execOp (E.ev ρc) o).run P w=r
 intro h
 have key:∀ vc w',(∃ F' g',Sim S F' g' (owr σ1 []) w'∧Pres S.B F g w F' g' w'∧vr (SM F' S.B) w' g' (.d m (.b b)) vc)→∃ F' g',Sim S F' g' (owr σ1 []) w'∧Pres S.B F g w F' g' w'∧vr (SM F' S.B) w' g' (.d .fz (.b b)) vc:=fun vc w' ⟨F',g',h1,h2,h3⟩=>⟨F',g',h1,h2,by rw [vr,rdC] at h3 ⊢; exact h3⟩
 cases r with
 | ok x w'=>
  cases x<;>simp only [q5s] at h ⊢
  case value u=>exact key _ _ h
  case skip=>exact key _ _ h
  case enter f args=>exact h.mono fun e w'' ⟨v,k1,k2⟩=>⟨v,k1,key _ _ k2⟩
 | halt x w'=>simp only [q5s] at h
theorem VT {rd:List Nat}(hv:opV (HasTab.tab P) ρ σ o.op=some (.d m (.b b),rd))(hb:b=true)(h:AL P S ops Q (q3j md rd []) rest (updX ρ d (.d .fz (.b true))) σ)(hd:o.dst=some d:=by rfl)(hg:q3g ops ρ o=some true:=by rfl):AL P S ops Q md (o :: rest) ρ σ:=
 q0a (wr:=[]) (q0j hb (q0t (P:=P) (S:=S) HasTab.ok hv)) h hd hg
theorem VF {rd:List Nat}(hv:opV (HasTab.tab P) ρ σ o.op=some (.d m (.b b),rd))(hb:b=false)(h:AL P S ops Q (q3j md rd []) rest (updX ρ d (.d .fz (.b false))) σ)(hd:o.dst=some d:=by rfl)(hg:q3g ops ρ o=some true:=by rfl):AL P S ops Q md (o :: rest) ρ σ:=
 q0a (wr:=[]) (q0j hb (q0t (P:=P) (S:=S) HasTab.ok hv)) h hd hg
theorem q2w {β:Type}(k:Nat){M:β→Prop}(L:β→List (Nat × X))(hk:AL P S ops (fun ρ' σ'=>∃ s,M s∧WkL ρ' (L s)∧σ'=σ) none (l.take k) ρ σ)(h:∀ s,M s→AL P S ops Q none (l.drop k) (ofX (L s)) σ):AL P S ops Q none l ρ σ:=by
 intro j lg hd
 have e:l=l.take k++l.drop k:=(List.take_append_drop k l).symm
 rw [e]
 refine AT.bind (hk j lg hd) fun ρ' σ' lg' hd' ⟨s,h1,h2,h3⟩=>?_
 subst h3
 exact .gh (q2W (L s) h2) (h s h1 _ _ _)
end
end Go.A
namespace Go.A
open Go Go.E
section
variable {P:Program}{S:Start}{n:Nat}{QP:q3h}{ρ:AE}{σ:St}{c:Code}
theorem q2x (j:Nat)(L:List (Nat × X))(R:List (Nat × Root))(h1:AW P S n c (q4I (fun ρ' σ'=>GH S ρ' σ' (ofX L) (owrL (σ.take j) R)) QP) ρ σ)(h2:QP .normal (ofX L) (owrL (σ.take j) R)):AW P S n c QP ρ σ:=
 AW.cut (β:=Unit) j (fun _=>L) (fun _=>R) (M:=fun _=>True) (h1.mono fun e ρ' σ' h=>by cases e<;>first | exact⟨(),trivial,h⟩ | exact h) fun _ _=>h2
theorem AW.len {α:Type}{xs:List α}{f:α→D}{m:Md}{k:Nat}(hx:Hold ρ σ (.d m (.sl k (xs.map f))))(h:(xs.length:Int)≤9223372036854775807→AW P S n c QP ρ σ):AW P S n c QP ρ σ:=
 q0B hx fun h1=>h (by simpa [rngY] using h1)
theorem q2y {α:Type}{xs:List α}{f:α→D}{m:Md}{k:Nat}(r:Nat)(hr:fnOf σ r = .row m k (xs.map f))(h:(xs.length:Int)≤9223372036854775807→AW P S n c QP ρ σ):AW P S n c QP ρ σ:=
 q1z hr fun h1=>h (by simpa using h1)
theorem q3b {m:Md}{k:IntKind}{b:Int}(hx:Hold ρ σ (.d m (.i k b)))(h:rngI k b→AW P S n c QP ρ σ):AW P S n c QP ρ σ:=q0B hx h
theorem AW.rngS {m:Md}{t:ByteArray}(hx:Hold ρ σ (.d m (.s t)))(h:t.size≤9223372036854775807→AW P S n c QP ρ σ):AW P S n c QP ρ σ:=q0B hx h
end
theorem ltN {k n:Nat}(h:k < n):(k:Int) < (n:Int):=by omega
theorem ltI {k:Nat}{b:Int}(h:k < b.toNat):(k:Int) < b:=by omega
theorem geN {n:Nat}:¬ ((n:Nat):Int) < (n:Int):=by omega
theorem geI {b:Int}:¬ ((b.toNat:Nat):Int) < b:=by omega
section
variable {P:Program}[HasTab P]{S:Start}{n:Nat}{ops:Array Oper}{Q:AE→St→Prop}{QP:q3h}{o:Oper}{rest:List Oper}{ρ:AE}{σ:St}{d:Nat}{md:Md2}{T e:Nat}{t te:TI}{m:Md}
theorem LS {x:Operand}{s:ByteArray}(h:AL P S ops Q (q3j md [] []) rest (updX ρ d (.d .fz (.i .i64 s.size))) σ)(ho:o.op = .call { callee:=.builtin .len,args:=#[x],argTypes:=#[T] }:=by rfl)(hT:(HasTab.tab P).get T=some t:=by rfl)(hx:evX ρ x = .d m (.s s):=by rfl)(hs:t.str=true:=by rfl)(hd:o.dst=some d:=by rfl)(hg:q3g ops ρ o=some true:=by rfl):AL P S ops Q md (o :: rest) ρ σ:=
 q0a (q0U ho (TI.str' (Tab.chk HasTab.ok hT) hs) hx) h hd hg
theorem q8H {β:Type}{f:β→X}:∀ {l:List (Nat × β)} {i:Nat},l.map (·.1)=List.range' i l.length→l.map (fun p=>(p.1,f p.2))=idxX i (l.map fun p=>f p.2)
 | [],_,_=>rfl
 | p :: l,i,h=>by
  simp only [List.map_cons,List.length_cons,List.range'_succ,List.cons.injEq] at h
  simp only [List.map_cons,idxX,q8H h.2,h.1]
theorem LIR {α:Type}{f:α→D}{xs:List α}{mm:Nat}{parts:Array (Nat × Operand)}{zs:List X}(r:Nat)(h:AL P S ops Q (q3j md [] [r]) rest (updX ρ d (.ref r none)) (setL σ r (.row m te.sz (xs.map f))))(ho:o.op = .buildSlice T mm parts:=by rfl)(hT:(HasTab.tab P).get T=some t:=by rfl)(he:t.el=some e:=by rfl)(hE:(HasTab.tab P).get e=some te:=by rfl)(hz:te.z=some zs:=by rfl)(hzl:zs.length=te.sz:=by rfl)(hp:parts.toList.map (·.1)=List.range' 0 parts.toList.length:=by rfl)(hds:asDs m (parts.toList.map fun p=>evX ρ p.2)=some (xs.map f):=by rfl)(hw:(xs.map f).all (fun d=>Nat.beq d.cells.length te.sz)=true:=by rfl)(hn:(xs.map f).length=mm:=by rfl)(hk0:Nat.blt 0 te.sz=true:=by rfl)(hm:Nat.blt 0 mm=true:=by rfl)(hm2:Nat.ble (mm*te.sz) 100000=true:=by rfl)(hr:fnOf σ r = .none:=by rfl)(hd:o.dst=some d:=by rfl)(hg:q3g ops ρ o=some true:=by rfl):AL P S ops Q md (o :: rest) ρ σ:=by
 obtain⟨z,h1,h2⟩:=TI.z' (Tab.chk HasTab.ok hE) hz
 exact q0a (q1I ho (q3i hT he hE).1 (q3i hT he hE).2 h1 (by rw [← hzl,← (h2 (fun _ _=>True) default (fun _=>.none)).len]) (q8H hp) hds hw hn hk0 hm hm2 hr) h hd hg
end
end Go.A
namespace Go.A
open Go Go.E
theorem q4G {m:Md}:mle m .bo=true:=by cases m<;>rfl
theorem DA {α:Type}{σ:Nat→Root}{r k:Nat}{m:Md}{f:α→List Cell}{D0:α→D}{xs:List α}(hf:∀ x,DR (f x) (D0 x))(h:σ r = .deep m k (xs.map f) []):DataAt σ r m k (xs.map D0) [r]:=
 .deep h (all2.map hf xs) rfl rfl
theorem AT.mono {P:Program}{S:Start}{ops:Array Oper}{K K' : AE→St→Lg→Option Nat→Prop}{k:Nat}{l:List Oper}{ρ:AE}{σ:St}{lg:Lg}{hd:Option Nat}(h:AT P S ops K k l ρ σ lg hd)(hk:∀ ρ σ lg hd,K ρ σ lg hd→K' ρ σ lg hd):AT P S ops K' k l ρ σ lg hd:=by
 induction h with
 | nil h=>exact .nil (hk _ _ _ _ h)
 | op hg hl _ ih=>exact .op hg hl ih
 | off hg _ ih=>exact .off hg ih
 | opT hg hl _ ih=>exact .opT hg hl ih
 | gh hl _ ih=>exact .gh hl ih
theorem GH.upM {S:Start}{ρ:AE}{σ:St}{r k:Nat}{xs:List D}(m:Md)(hr:fnOf σ r = .row .fz k xs):GH S ρ σ ρ (setL σ r (.row m k xs)):=by
 intro F g w ρc hs hv
 refine⟨F,g,⟨hs.chg,hs.bB,hs.fmono,hs.fnew,hs.flt,fun i=>?_,hs.low,hs.hdr,hs.nodup,hs.disj,hs.own⟩,hv⟩
 rw [q3B]
 by_cases hi:i=r
 ·subst hi
  rw [if_pos rfl]
  have h:=hs.roots i
  rw [hr] at h
  revert h
  cases g i<;>intro h<;>try exact h.elim
  obtain⟨h1,h2⟩:=h
  obtain⟨k1,k2,k3,k4⟩:=q3v h2
  rename_i v k' L gs
  subst h1
  refine⟨rfl,k1 |> fun q=>by rw [List.length_map]; exact q,?_⟩
  have:(q3m gs).length=xs.length*k':=k2.len
  have h3:rowOk (fun _=>SM F S.B m) w (xs.map (elOf .fz)) v k' L gs:=q4Z h2 fun b hb=>by
   cases m with
   | fz=>exact hb
   | bo=>exact .inl hb
  obtain⟨gs2,q1,q2,q3⟩:=q8i (S1:=SM F S.B) (m:=m) (k2.mono fun b hb=>by cases m with | fz=>exact hb | bo=>exact .inl hb)
  clear q1 q2 q3 gs2
  have conv:∀ (ds:List D) (ge:List GC),all2 (cellOk (SM F S.B) w) (ds.map (Cell.d .fz)) ge→all2 (cellOk (SM F S.B) w) (ds.map (Cell.d m)) ge:=by
   intro ds
   induction ds with
   | nil=>exact fun _ h=>h
   | cons d ds ih=>exact fun ge ⟨gc,r,h1,h2,h3⟩=>⟨gc,r,h1,⟨h2.1,h2.2.1,h2.2.2.mono fun b hb=>by cases m with | fz=>exact hb | bo=>exact .inl hb⟩,ih r h3⟩
  have h4:=h2.2
  clear h3 k1 k2 k3 k4 h2 hr this
  induction xs generalizing gs with
  | nil=>exact h4
  | cons x xs ih=>
   obtain⟨ge,r,e1,e2,e3⟩:=h4
   exact⟨ge,r,e1,⟨by have:=e2.1; simpa [elOf] using this,conv _ _ e2.2⟩,ih _ e3⟩
 ·rw [if_neg hi]; exact hs.roots i
section
variable {P:Program}[HasTab P]{S:Start}{n:Nat}{ops:Array Oper}{Q:AE→St→Prop}{o:Oper}{l rest:List Oper}{ρ:AE}{σ:St}{d:Nat}{md:Md2}
theorem AL.meet1 (k:Nat)(L:List (Nat × X))(hk:AL P S ops (fun ρ' σ'=>WkL ρ' L∧σ'=σ) none (l.take k) ρ σ)(h:AL P S ops Q none (l.drop k) (ofX L) σ):AL P S ops Q none l ρ σ:=
 q2w (β:=Unit) (M:=fun _=>True) k (fun _=>L) (fun j lg hd=>(hk j lg hd).mono fun ρ' σ' _ _ h=>⟨(),trivial,h.1,h.2⟩) fun _ _=>h
theorem CB {f:Nat}{c:Call}{x:Operand}{caps axs args:List X}{pre post:St}{res:X}(ren:List (Nat × Nat))(vw:List Nat)(ok:Ok P f args pre res post)(h:AL P S ops Q (q3j md vw ((ren.map fun p=>(p.2,q4c ren (fnOf post p.1))).map (·.1))) rest (updX ρ d (renX ren res)) (owrL σ (ren.map fun p=>(p.2,q4c ren (fnOf post p.1)))))
  (ho:o.op = .call c:=by rfl) (hc:c.callee = .value x:=by rfl) (hx:evX ρ x = .fn f caps:=by rfl) (hcb:q3E P f=true:=by kernel_rfl) (ha:c.args.toList.map (evX ρ)++caps=axs:=by rfl) (hp:PassL (fnOf σ) ren vw axs args:=by repeat (first | exact .nil | refine .cons ?_ ?_ | exact .same | exact .ag (.cons .same (.cons .same .nil)) | refine .ag ?_ | exact .d rfl | exact .d q4G | exact .nld | exact .nl | exact .rd rfl rfl | exact .vd rfl rfl | exact .pb rfl | exact .ref rfl | refine .fn ?_ | exact .pf rfl | exact .pf q4G | exact .dd (DA (by exact fun _=>rfl) rfl) rfl | exact .u))
  (hpre:PreL (fnOf σ) (fnOf pre) ren ren:=by repeat (first | exact trivial | refine And.intro rfl ?_)) (hchk:q4F ren vw pre post res=true:=by rfl) (hd:o.dst=some d:=by rfl) (hg:q3g ops ρ o=some true:=by rfl):AL P S ops Q md (o :: rest) ρ σ:=
 CA ren vw ok hp h hpre ho hc hx hcb ha hchk hd hg
end
end Go.A
namespace Go.A
open Go Go.E
section
variable {P:Program}[HasTab P]{S:Start}{n:Nat}{ops:Array Oper}{Q:AE→St→Prop}{QP:q3h}{o:Oper}{rest:List Oper}{ρ:AE}{σ:St}{d:Nat}{v:X}{rd:List Nat}{md:Md2}{T e:Nat}{t te:TI}
theorem CIB {U:Nat}{tu:TI}{x:Operand}{m:Md}{a:Int}{q p:IntKind}(hx:evX ρ x = .d m (.i p a))(h:AL P S ops Q (q3j md [] []) rest (updX ρ d (.d .fz (.i .u8 ((UInt8.ofNat (a % 256).toNat).toNat:Int)))) σ)(ho:o.op = .convert U T x:=by rfl)(hT:(HasTab.tab P).get T=some t:=by rfl)(hk:t.ik=some .u8:=by rfl)(hU:(HasTab.tab P).get U=some tu:=by rfl)(hk2:tu.ik=some q:=by rfl)(hd:o.dst=some d:=by rfl)(hg:q3g ops ρ o=some true:=by rfl):AL P S ops Q md (o :: rest) ρ σ:=
 q0a (q0I (z:=.i .u8 ((UInt8.ofNat (a % 256).toNat).toNat:Int)) (x:=x) (by simp [ho,Op.operands]) hx rfl (fun _=>⟨fun ρc w hv=>q0v ho (q4V (TI.ik' (Tab.chk HasTab.ok hU) hk2)) (TI.ik' (Tab.chk HasTab.ok hT) hk) hv,⟨by omega,by have:=(UInt8.ofNat (a % 256).toNat).toNat_lt; omega⟩⟩) rfl) h hd hg
theorem q3c {x i:Operand}{m m' : Md}{s:ByteArray}{q:IntKind}{j:Int}{b:UInt8}(ho:o.op = .index T x i)(hT:P.underlying T=some .string)(hx:evX ρ x = .d m (.s s))(hi:evX ρ i = .d m' (.i q j))(h0:0≤j)(hb:s.data[j.toNat]? = some b):LT P S o ρ σ [] (.d .fz (.i .u8 (b.toNat:Int))) []:=
 LT.val fun σ1 F g w ρc hs hr hw=>by
  have e1:=hw x (by simp [ho,Op.operands])
  have e2:=hw i (by simp [ho,Op.operands])
  rw [hx,vr,rdC] at e1
  rw [hi,vr,rdC] at e2
  refine⟨_,q2J (k:=j.toNat) ho hT e1.1 (by rw [e2.1,q6J h0]) hb,?_⟩
  rw [vr,rdC]
  exact⟨rfl,by omega,by have:=b.toNat_lt; omega⟩
theorem q0Z {U e:Nat}{x:Operand}{r:Nat}{m:Md}{b:UInt8}(ho:o.op = .convert U T x)(hU:q3y P U=some e)(he:intT P e=some .u8)(hT:P.underlying T=some .string)(hx:evX ρ x = .ref r none)(hσ:fnOf σ r = .row m 1 [.i .u8 (b.toNat:Int)]):LT P S o ρ σ [r] (.d .fz (.s ⟨#[b]⟩)) []:=
 LT.val fun σ1 F g w ρc hs hr hw=>by
  have e1:=hw x (by simp [ho,Op.operands])
  have hq:σ1 r = .row m 1 [.i .u8 (b.toNat:Int)]:=(hr r (by simp)).trans hσ
  obtain⟨v,L,gs,hg,hrow⟩:=q5d hs (.inr ⟨m,_,hq,rfl⟩)
  rw [hx,vr,hg] at e1
  have e1:=e1 _ _ rfl
  obtain⟨k1,k2,_⟩:=q3v hrow
  rcases hrow.1.at with h | ⟨g0,c,T0,cur,h1,h2,_⟩
  ·simp only [List.map_cons,List.map_nil,List.length_cons] at h; omega
  ·have e3:q3m gs=[.int .u8 (b.toNat:Int)]:=by
    obtain⟨c0,r0,q1,q2,q3,q4⟩:=q3t.1 k2
    replace q3:rdCs (SM F S.B m) w [.i .u8 (b.toNat:Int)] c0:=q3
    rw [q6n] at q3
    obtain⟨v0,q5,q6⟩:=q3
    rw [rdC] at q6
    rw [rdE] at q4
    rw [q1,q4,q5,q6.1]; rfl
   rw [e3] at h2
   have hf:∃ A c',v = .slice A 1 c'∧1≤c'∧c'≤maxLen:=by simpa using hrow.1.form
   obtain⟨A,c',q1,q2,q3⟩:=hf
   rw [q1] at h1
   have e5:A=some ⟨g0,0,none⟩:=by injection h1
   refine⟨_,q0Y (F:=fun _=>True) (v:=v) ho hU he hT e1 ⟨A,c',[.int .u8 (b.toNat:Int)],q1,q2,q3,⟨[.int .u8 (b.toNat:Int)],[],rfl,rfl,rfl⟩,.inr ⟨g0,0,e5,trivial,h2⟩⟩,by rw [vr,rdC]; exact⟨rfl,Nat.le_of_ble_eq_true rfl⟩⟩
theorem TS {U e:Nat}{tu te:TI}{x:Operand}{r:Nat}{m:Md}{b:UInt8}(hx:evX ρ x = .ref r none)(hσ:fnOf σ r = .row m 1 [.i .u8 (b.toNat:Int)])(h:AL P S ops Q (q3j md [r] []) rest (updX ρ d (.d .fz (.s ⟨#[b]⟩))) σ)(ho:o.op = .convert U T x:=by rfl)(hT:(HasTab.tab P).get T=some t:=by rfl)(hs:t.str=true:=by rfl)(hU:(HasTab.tab P).get U=some tu:=by rfl)(he:tu.el=some e:=by rfl)(hE:(HasTab.tab P).get e=some te:=by rfl)(hk:te.ik=some .u8:=by rfl)(hd:o.dst=some d:=by rfl)(hg:q3g ops ρ o=some true:=by rfl):AL P S ops Q md (o :: rest) ρ σ:=
 q0a (q0Z ho (TI.el' (Tab.chk HasTab.ok hU) he) (TI.ik' (Tab.chk HasTab.ok hE) hk) (TI.str' (Tab.chk HasTab.ok hT) hs) hx hσ) h hd hg
theorem LT.mx {T1 T2:Nat}{x y:Operand}{a b:Int}{m m' : Md}(ho:o.op = .call { callee:=.builtin .max,args:=#[x,y],argTypes:=#[T1,T2] })(hx:evX ρ x = .d m (.i .i64 a))(hy:evX ρ y = .d m' (.i .i64 b)):LT P S o ρ σ [] (.d .fz (.i .i64 (if b > a then b else a))) []:=
 LT.val fun σ1 F g w ρc hs hr hw=>by
  have e1:=hw x (by simp [ho,Op.operands,Call.operands])
  have e2:=hw y (by simp [ho,Op.operands,Call.operands])
  rw [hx,vr,rdC] at e1
  rw [hy,vr,rdC] at e2
  exact⟨_,q2n ho e1.1 e2.1,by rw [vr,rdC]; exact⟨rfl,q8t e1.2 e2.2⟩⟩
theorem LT.mn {T1 T2:Nat}{x y:Operand}{a b:Int}{m m' : Md}(ho:o.op = .call { callee:=.builtin .min,args:=#[x,y],argTypes:=#[T1,T2] })(hx:evX ρ x = .d m (.i .i64 a))(hy:evX ρ y = .d m' (.i .i64 b)):LT P S o ρ σ [] (.d .fz (.i .i64 (if b < a then b else a))) []:=
 LT.val fun σ1 F g w ρc hs hr hw=>by
  have e1:=hw x (by simp [ho,Op.operands,Call.operands])
  have e2:=hw y (by simp [ho,Op.operands,Call.operands])
  rw [hx,vr,rdC] at e1
  rw [hy,vr,rdC] at e2
  exact⟨_,q2o ho e1.1 e2.1,by rw [vr,rdC]; exact⟨rfl,q8t e1.2 e2.2⟩⟩
end
mutual
def mvX (i j:Nat):X→X
 | .ref r p=>.ref (bif Nat.beq r i then j else r) p
 | .vs r p a b=>.vs (bif Nat.beq r i then j else r) p a b
 | .pe r p a b=>.pe (bif Nat.beq r i then j else r) p a b
 | .ag cs=>.ag (mvXs i j cs)
 | .tu cs=>.tu (mvXs i j cs)
 | .fn f cs=>.fn f (mvXs i j cs)
 | .pb r c=>.pb r c
 | .d m x=>.d m x
 | .pf m x=>.pf m x
 | .nl k=>.nl k
 | .u=>.u
def mvXs (i j:Nat):List X→List X
 | []=>[]
 | x :: xs=>mvX i j x :: mvXs i j xs
end
def mvR (i j:Nat):Root→Root
 | .box cs=>.box (mvXs i j cs)
 | .deep m k es hs=>.deep m k es (hs.map fun p=>(p.1,p.2.1,bif Nat.beq p.2.2 i then j else p.2.2))
 | x=>x
def mvL (i j:Nat):Nat→St→St
 | _,[]=>[]
 | n,x :: l=>(bif Nat.beq n i then .dead else mvR i j x) :: mvL i j (n+1) l
theorem q6A {i j:Nat}:∀ {l:St} {n r:Nat},fnOf l r≠.none→fnOf (mvL i j n l) r=if n+r=i then .dead else mvR i j (fnOf l r)
 | [],n,r,h=>absurd (q3T r) h
 | x :: l,n,0,h=>by
  simp only [mvL,fnOf,Nat.add_zero]
  cases hb:Nat.beq n i with
  | true=>simp [Nat.eq_of_beq_eq_true hb]
  | false=>have:=Nat.ne_of_beq_eq_false hb; simp [this]
 | x :: l,n,r+1,h=>by
  simp only [mvL,fnOf] at h ⊢
  rw [q6A h,show n+1+r=n+(r+1) by omega]
theorem q7a {i j:Nat}:∀ {l:St} {n r:Nat},fnOf l r = .none→n+r≠i→fnOf (mvL i j n l) r = .none
 | [],n,r,_,_=>q3T r
 | x :: l,n,0,h,hn=>by
  simp only [fnOf] at h
  simp only [mvL,fnOf,h,mvR]
  have:Nat.beq n i=false:=by cases hb:Nat.beq n i with | true=>exact absurd (Nat.eq_of_beq_eq_true hb) hn | false=>rfl
  rw [this]; rfl
 | x :: l,n,r+1,h,hn=>by
  simp only [mvL,fnOf] at h ⊢
  exact q7a h (by omega)
section
variable {S1:Md→Nat→Prop}{w:World}{g g' : Nat→G}{i j:Nat}
theorem bq {r i:Nat}:(Nat.beq r i=true∧r=i)∨(Nat.beq r i=false∧r≠i):=by
 cases h:Nat.beq r i with
 | true=>exact .inl ⟨rfl,Nat.eq_of_beq_eq_true h⟩
 | false=>exact .inr ⟨rfl,Nat.ne_of_beq_eq_false h⟩
theorem q7W {r:Nat}{p:Option (Nat × Nat)}{R:Value→Nat→Prop}(hj:g j = .none)(h1:g' j=g i)(h3:∀ r,r≠i→r≠j→g' r=g r)(h:onG (g r) p R):onG (g' (bif Nat.beq r i then j else r)) p R:=by
 rcases bq (r:=r) (i:=i) with ⟨hb,e⟩ | ⟨hb,e⟩
 ·rw [hb,cond_true,h1,← e]; exact h
 ·rw [hb,cond_false]
  by_cases hr:r=j
  ·rw [hr,hj] at h; exact h.elim
  ·rw [h3 r e hr]; exact h
mutual
theorem z0e (hj:g j = .none)(h1:g' j=g i)(h2:g' i = .dead)(h3:∀ r,r≠i→r≠j→g' r=g r):∀ {x:X} {v:Value},vr S1 w g x v→vr S1 w g' (mvX i j x) v
 | .d m x,v,h=>by rw [mvX]; rw [vr] at h ⊢; exact h
 | .ag cs,v,h=>by rw [mvX]; rw [vr] at h ⊢; obtain⟨vs,k1,k2⟩:=h; exact⟨vs,k1,q7b hj h1 h2 h3 k2⟩
 | .tu cs,v,h=>by rw [mvX]; rw [vr] at h ⊢; obtain⟨vs,k1,k2⟩:=h; exact⟨vs,k1,q7b hj h1 h2 h3 k2⟩
 | .ref r p,v,h=>by rw [mvX]; rw [vr] at h ⊢; exact q7W hj h1 h3 h
 | .vs r p a b,v,h=>by rw [mvX]; rw [vr] at h ⊢; exact q7W hj h1 h3 h
 | .pe r p a b,v,h=>by rw [mvX]; rw [vr] at h ⊢; exact q7W hj h1 h3 h
 | .pb r c,v,h=>by
  rw [mvX]; rw [vr] at h ⊢
  by_cases hr:r=i
  ·rw [hr,h2]; trivial
  ·by_cases hr2:r=j
   ·rw [hr2,hj] at h; exact h.elim
   ·rw [h3 r hr hr2]; exact h
 | .pf m xs,v,h=>by rw [mvX]; rw [vr] at h ⊢; exact h
 | .fn f cs,v,h=>by rw [mvX]; rw [vr] at h ⊢; obtain⟨vs,k1,k2⟩:=h; exact⟨vs,k1,q7b hj h1 h2 h3 k2⟩
 | .nl k,v,h=>by rw [mvX]; rw [vr] at h ⊢; exact h
 | .u,v,h=>by rw [mvX,vr]; trivial
theorem q7b (hj:g j = .none)(h1:g' j=g i)(h2:g' i = .dead)(h3:∀ r,r≠i→r≠j→g' r=g r):∀ {xs:List X} {vs:List Value},vrs S1 w g xs vs→vrs S1 w g' (mvXs i j xs) vs
 | [],vs,h=>by rw [mvXs]; rw [vrs] at h ⊢; exact h
 | x :: xs,vs,h=>by
  rw [mvXs]; rw [vrs] at h ⊢
  obtain⟨v,r,k1,k2,k3⟩:=h
  exact⟨v,r,k1,z0e hj h1 h2 h3 k2,q7b hj h1 h2 h3 k3⟩
end
end
section
variable {P:Program}{S:Start}{n:Nat}{QP:q3h}{ρ:AE}{σ:St}
theorem GH.mv {i j k:Nat}{m:Md}{xs:List D}(hi:fnOf σ i = .row m k xs)(hj:fnOf σ j = .none):GH S ρ σ (fun t=>mvX i j (ρ t)) (setL (mvL i j 0 σ) j (.row m k xs)):=by
 intro F g w ρc hs hv
 have hgj:g j = .none:=by
  have:=hs.roots j
  rw [hj] at this
  revert this
  cases g j<;>intro h<;>first | rfl | exact h.elim
 have hij:i≠j:=fun e=>by rw [e,hj] at hi; cases hi
 let g' : Nat→G:=fun r=>if r=j then g i else if r=i then .dead else g r
 have h1:g' j=g i:=by simp [g']
 have h2:g' i = .dead:=by simp [g',hij]
 have h3:∀ r,r≠i→r≠j→g' r=g r:=fun r a b=>by simp [g',a,b]
 have hc:∀ r,(r=j∧g' r=g i)∨(r=i∧g' r = .dead)∨(r≠i∧r≠j∧g' r=g r):=fun r=>by
  by_cases a:r=j
  ·exact .inl ⟨a,by rw [a]; exact h1⟩
  ·by_cases b:r=i
   ·exact .inr (.inl ⟨b,by rw [b]; exact h2⟩)
   ·exact .inr (.inr ⟨b,a,h3 r b a⟩)
 refine⟨F,g',⟨hs.chg,hs.bB,hs.fmono,hs.fnew,hs.flt,fun r=>?_,hs.low,fun r=>?_,fun r=>?_,fun r r' hne b hb=>?_,fun r b hb=>?_⟩,fun t=>z0e hgj h1 h2 h3 (hv t)⟩
 ·rw [q3B]
  have hr:=hs.roots r
  rcases hc r with ⟨a,b⟩ | ⟨a,b⟩ | ⟨a,a',b⟩
  ·rw [if_pos a,b]
   have:=hs.roots i
   rw [hi] at this
   revert this
   cases g i<;>intro h<;>first | exact h | exact h.elim
  ·rw [if_neg (by rw [a]; exact hij),b,q6A (by rw [a,hi]; intro h; cases h),if_pos (by omega)]
   trivial
  ·rw [if_neg a',b]
   by_cases hn:fnOf σ r = .none
   ·rw [q7a hn (by omega)]
    rw [hn] at hr
    revert hr
    cases g r<;>intro h<;>first | trivial | exact h.elim
   ·rw [q6A hn,if_neg (by omega)]
    revert hr
    cases hσ:fnOf σ r<;>intro hr<;>cases hg:g r<;>rw [hg] at hr<;>try exact hr.elim
    ·trivial
    ·trivial
    ·obtain⟨vs,k1,k2⟩:=hr
     exact⟨vs,k1,q7b hgj h1 h2 h3 k2⟩
    ·exact hr
    ·refine⟨hr.1,fun p hp gc hgc=>?_,hr.2.2⟩
     obtain⟨q,hq,rfl⟩:=List.mem_map.1 hp
     exact q7W hgj h1 h3 (hr.2.1 q hq gc hgc)
 ·rcases hc r with ⟨a,b⟩ | ⟨a,b⟩ | ⟨a,a',b⟩
  ·have:=hs.hdr r
   rw [a,hgj] at this
   rw [b,a]
   revert this
   cases S.g0 j<;>intro h<;>simp [q5v] at h ⊢
  ·rw [b,a]
   cases S.g0 i<;>simp [q5v]
  ·rw [b]; exact hs.hdr r
 ·rcases hc r with ⟨a,b⟩ | ⟨a,b⟩ | ⟨a,a',b⟩<;>rw [b]
  ·exact hs.nodup i
  ·exact List.nodup_nil
  ·exact hs.nodup r
 ·rcases hc r with ⟨a,e⟩ | ⟨a,e⟩ | ⟨a,a',e⟩<;>rw [e] at hb<;>rcases hc r' with ⟨c,e'⟩ | ⟨c,e'⟩ | ⟨c,c',e'⟩<;>rw [e']
  ·exact absurd (a.trans c.symm) hne
  ·exact List.not_mem_nil
  ·exact hs.disj i r' (fun h=>c h.symm) b hb
  ·cases hb
  ·cases hb
  ·cases hb
  ·exact hs.disj r i a b hb
  ·exact List.not_mem_nil
  ·exact hs.disj r r' hne b hb
 ·rcases hc r with ⟨a,e⟩ | ⟨a,e⟩ | ⟨a,a',e⟩<;>rw [e] at hb
  ·exact hs.own i b hb
  ·cases hb
  ·exact hs.own r b hb
theorem GH.bw {q:Nat}{cs:List X}(cs' : List X)(hw:Wks cs' cs)(hq:fnOf σ q = .box cs):GH S ρ σ ρ (setL σ q (.box cs')):=by
 intro F g w ρc hs hv
 refine⟨F,g,⟨hs.chg,hs.bB,hs.fmono,hs.fnew,hs.flt,fun i=>?_,hs.low,hs.hdr,hs.nodup,hs.disj,hs.own⟩,hv⟩
 rw [q3B]
 by_cases hi:i=q
 ·subst hi
  rw [if_pos rfl]
  have:=hs.roots i
  rw [hq] at this
  revert this
  cases g i<;>intro h<;>try exact h.elim
  obtain⟨vs,k1,k2⟩:=h
  exact⟨vs,k1,hw.vr k2⟩
 ·rw [if_neg hi]; exact hs.roots i
end
section
variable {P:Program}[HasTab P]{S:Start}{ops:Array Oper}{Q:AE→St→Prop}{o:Oper}{rest:List Oper}{ρ:AE}{σ:St}{md:Md2}
end
end Go.A
namespace Go.A
open Go Go.E
section
variable {P:Program}[HasTab P]{S:Start}{n:Nat}{QP:q3h}{ρ:AE}{σ:St}
theorem AW.nilq {id T a b s:Nat}{ops:Array Oper}{o1 o2:Oper}{m:Md}{k U:Nat}{xs:List D}{t:TI}{e:Nat}(hs:ρ s = .d m (.sl k xs))(h:∀ q:Bool,(q=true→xs=[])→QP .normal (updX (updX ρ a (.d m (.sl k xs))) b (.d .fz (.b q))) σ)
  (hl:ops.toList=[o1,o2]:=by rfl) (h1:o1.op = .move (.tmp s):=by rfl) (h2:o2.op = .binOp .eql T (.tmp a) (.const (.slice none 0 0)) U:=by rfl) (hT:(HasTab.tab P).get T=some t:=by rfl) (he:t.el=some e:=by rfl) (d1:o1.dst=some a:=by rfl) (d2:o2.dst=some b:=by rfl) (g1:o1.guard=none:=by rfl) (g2:o2.guard=none:=by rfl):AW P S n (.region id ops false) QP ρ σ:=by
 intro F g w ρc hsim hv
 have hx:=hv s
 rw [hs] at hx
 have hx0:=hx
 rw [vr,rdC] at hx
 obtain⟨A,cap,cells,e1,e2,e3,e4,e5⟩:=hx
 refine q1C ?_
 rw [hl]
 refine WL.ev g1 d1 (q2D h1 rfl) (WL.ev g2 d2 (q0N h2 (u:=.slice A xs.length cap) (v:=.slice none 0 0) ?_ rfl (q0J (TI.el' (Tab.chk HasTab.ok hT) he))) (WL.nil ⟨_,σ,F,g,hsim,?_,h (decide (A=none)) ?_⟩))
 ·show E.upd ρc a (ρc s) a=_
  simp only [E.upd,Nat.beq_refl,cond_true]; exact e1
 ·have:=(hv.put (some a) hx0).put (some b) (show vr (SM F S.B) w g (.d .fz (.b (decide (A=none)))) (.bool (decide (A=none))) by rw [vr,rdC])
  exact this
 ·intro hq
  rcases e5 with h | ⟨b,o,h,_⟩
  ·exact h
  ·rw [h] at hq; simp at hq
end
section
variable {P:Program}[HasTab P]{S:Start}{n:Nat}{ops:Array Oper}{Q:AE→St→Prop}{o:Oper}{l rest:List Oper}{ρ:AE}{σ:St}{d:Nat}{md:Md2}
theorem AL.meet2 (k j:Nat)(L:List (Nat × X))(R:List (Nat × Root))(hk:AL P S ops (fun ρ' σ'=>GH S ρ' σ' (ofX L) (owrL (σ.take j) R)) none (l.take k) ρ σ)(h:AL P S ops Q none (l.drop k) (ofX L) (owrL (σ.take j) R)):AL P S ops Q none l ρ σ:=by
 intro i lg hd
 have e:l=l.take k++l.drop k:=(List.take_append_drop k l).symm
 rw [e]
 refine AT.bind (hk i lg hd) fun ρ' σ' lg' hd' h1=>?_
 exact .gh h1 (h _ _ _)
end
theorem q8Z {S1:Md→Nat→Prop}{w:World}{c:D}{v:Value}{m m' : Md}(hc:q8l c=true)(h:rdC (S1 m) w c v):rdC (S1 m') w c v:=by
 cases c<;>first | (rw [rdC] at h ⊢; exact h) | cases hc
theorem q6g {S1:Md→Nat→Prop}{w:World}{m m' : Md}:∀ {ds:List D} {ge:List GC},ds.all q8l=true→all2 (cellOk S1 w) (ds.map (Cell.d m)) ge→all2 (cellOk S1 w) (ds.map (Cell.d m')) ge
 | [],ge,_,h=>h
 | x :: ds,ge,hf,h=>by
  obtain⟨gc,r,e1,e2,e3⟩:=h
  simp only [List.all_cons,Bool.and_eq_true] at hf
  exact⟨gc,r,e1,⟨e2.1,e2.2.1,q8Z hf.1 e2.2.2⟩,q6g hf.2 e3⟩
theorem q7c {S1:Md→Nat→Prop}{w:World}{k:Nat}{m m' : Md}:∀ {xs:List D} {gs:List (List GC)},(∀ x∈xs,q6T x=true)→all2 (elOk S1 w k) (xs.map (elOf m)) gs→all2 (elOk S1 w k) (xs.map (elOf m')) gs
 | [],gs,_,h=>h
 | x :: xs,gs,hf,h=>by
  obtain⟨ge,r,e1,e2,e3⟩:=h
  exact⟨ge,r,e1,⟨by have:=e2.1; simpa [elOf] using this,q6g (hf x (by simp)) e2.2⟩,q7c (fun y hy=>hf y (by simp [hy])) e3⟩
theorem q5N {S1:Md→Nat→Prop}{w:World}{g:Nat→G}{z:G}{k:Nat}{m m' : Md}{xs:List D}(hf:∀ x∈xs,q6T x=true)(h:q3N S1 w g (.row m k xs) z):q3N S1 w g (.row m' k xs) z:=by
 revert h
 cases z<;>intro h<;>try exact h.elim
 exact⟨h.1,by have:=h.2.1; rw [List.length_map] at this ⊢; exact this,q7c hf h.2.2⟩
theorem Sim.alt {S:Start}{F:Nat→Prop}{g:Nat→G}{σ1 σ2:Nat→Root}{w:World}(h:Sim S F g σ1 w)(k:∀ i,q3N (SM F S.B) w g (σ1 i) (g i)→q3N (SM F S.B) w g (σ2 i) (g i)):Sim S F g σ2 w:=
 ⟨h.chg,h.bB,h.fmono,h.fnew,h.flt,fun i=>k i (h.roots i),h.low,h.hdr,h.nodup,h.disj,h.own⟩
section
variable {P:Program}{S:Start}{o:Oper}{ρ:AE}{σ:St}{rd:List Nat}{v:X}
theorem LT.alt {wr wr' : List (Nat × Root)}(h:LT P S o ρ σ rd v wr)(h1:wr'.map (·.1)=wr.map (·.1))(h2:∀ (σ1:Nat→Root) (S1:Md→Nat→Prop) (w:World) (g:Nat→G) (i:Nat),q3N S1 w g (owr σ1 wr i) (g i)→q3N S1 w g (owr σ1 wr' i) (g i)):LT P S o ρ σ rd v wr':=by
 intro σ1 F g w ρc a1 a2 a3 a4
 have a3' : ∀ p∈wr,σ1 p.1=fnOf σ p.1:=fun p hp=>by
  have:p.1∈wr'.map (·.1):=by rw [h1]; exact List.mem_map.2 ⟨p,hp,rfl⟩
  obtain⟨q,hq,e⟩:=List.mem_map.1 this
  rw [← e]; exact a3 q hq
 have:=h σ1 F g w ρc a1 a2 a3' a4
 revert this
 generalize (execOp (E.ev ρc) o).run P w=r
 intro h
 have key:∀ vc w',(∃ F' g',Sim S F' g' (owr σ1 wr) w'∧Pres S.B F g w F' g' w'∧vr (SM F' S.B) w' g' v vc)→∃ F' g',Sim S F' g' (owr σ1 wr') w'∧Pres S.B F g w F' g' w'∧vr (SM F' S.B) w' g' v vc:=fun vc w' ⟨F',g',k1,k2,k3⟩=>⟨F',g',k1.alt fun i=>h2 σ1 _ _ _ i,k2,k3⟩
 cases r with
 | ok x w'=>
  cases x<;>simp only [q5s] at h ⊢
  case value u=>exact key _ _ h
  case skip=>exact key _ _ h
  case enter f args=>exact h.mono fun e w'' ⟨v,k1,k2⟩=>⟨v,k1,key _ _ k2⟩
 | halt x w'=>simp only [q5s] at h
end
section
variable {P:Program}[HasTab P]{S:Start}{ops:Array Oper}{Q:AE→St→Prop}{o:Oper}{rest:List Oper}{ρ:AE}{σ:St}{d:Nat}{md:Md2}{T e:Nat}{t te:TI}
theorem APf {α:Type}{s x:Operand}{X1:X}{m' m0:Md}{f:α→D}{xs ys:List α}{zs:List X}{r b1:Nat}(r' : Nat)(hflat:∀ y,q6T (f y)=true)(hmax:((xs.length:Int)+(ys.length:Int))*te.by_≤140737488355328∧(xs.length:Int)+(ys.length:Int)≤9223372036854775807)(h:AL P S ops Q (q3j md (q3C X1) [r,r']) rest (updX ρ d (.ref r' none)) (setL (setL σ r .dead) r' (.row .fz te.sz ((xs++ys).map f))))
  (ho:o.op = .call { callee:=.builtin .append,args:=#[s,x],argTypes:=#[T,T] }:=by rfl) (hT:(HasTab.tab P).get T=some t:=by rfl) (he:t.el=some e:=by rfl) (hE:(HasTab.tab P).get e=some te:=by rfl) (hs:evX ρ s = .ref r none:=by rfl) (hx:evX ρ x=X1:=by rfl) (hsrc:srcD (fnOf σ) X1=some (m',te.sz,ys.map f):=by rfl) (hσ:fnOf σ r = .row m0 te.sz (xs.map f):=by rfl) (hz:te.z=some zs:=by rfl) (hb:te.by_=b1+1:=by rfl) (hzl:zs.length=te.sz:=by rfl) (hk0:Nat.blt 0 te.sz=true:=by rfl) (hr:fnOf σ r' = .none:=by rfl) (hd:o.dst=some d:=by rfl) (hg:q3g ops ρ o=some true:=by rfl):AL P S ops Q md (o :: rest) ρ σ:=by
 obtain⟨z,h1,h2⟩:=TI.z' (Tab.chk HasTab.ok hE) hz
 refine q0a (wr:=[(r,.dead),(r',.row .fz te.sz ((xs++ys).map f))]) (LT.alt (q0W (r':=r') (m:=.bo) ho (q3i hT he hE).1 (q3i hT he hE).2 (TI.by' (Tab.chk HasTab.ok hE) hb) h1 (by rw [← hzl,← (h2 (fun _ _=>True) default (fun _=>.none)).len]) hk0 hs hσ hx hsrc q3S q3S ?_ ?_ hr) rfl fun σ1 S1 w g i hi=>?_) h hd hg
 ·simp only [List.length_map]
  have:=hmax.1
  rw [← Int.natCast_add,← Int.natCast_mul] at this
  omega
 ·simp only [List.length_map]
  show _≤9223372036854775807
  have:=hmax.2
  omega
 ·revert hi
  simp only [owr]
  split
  ·intro hi
   rw [← List.map_append] at hi
   exact q5N (fun x hx=>by obtain⟨y,_,rfl⟩:=List.mem_map.1 hx; exact hflat y) hi
  ·exact id
def toC:X→Option D
 | .d _ (.a _)=>none
 | .d _ x=>some x
 | .nl k=>some (.sl k [])
 | _=>none
def toCs:List X→Option (List D)
 | []=>some []
 | x :: xs=>match toC x,toCs xs with
  | some y,some ys=>some (y :: ys)
  | _,_=>none
def toE:X→Option D
 | .ag cs=>(toCs cs).map .a
 | x=>toC x
def toEs:List X→Option (List D)
 | []=>some []
 | x :: xs=>match toE x,toEs xs with
  | some y,some ys=>some (y :: ys)
  | _,_=>none
def leC (m:Md):X→Prop
 | .d m' x=>q8l x=true∨mle m' m=true
 | _=>True
def leCs (m:Md):List X→Prop
 | []=>True
 | x :: xs=>leC m x∧leCs m xs
def leE (m:Md):X→Prop
 | .ag cs=>leCs m cs
 | x=>leC m x
def leEs (m:Md):List X→Prop
 | []=>True
 | x :: xs=>leE m x∧leEs m xs
theorem q9s {m:Md}{x:X}{d:D}(h:toC x=some d)(hl:leC m x):asC m x=some d:=by
 cases x<;>simp only [toC] at h
 case d m' x=>
  cases x<;>simp only [toC] at h<;>simp only [asC]<;>try exact h
  simp only [leC,q8l,Bool.false_eq_true,false_or] at hl
  rw [if_pos hl]; exact h
 all_goals first | exact h | cases h
theorem q8I {m:Md}:∀ {xs:List X} {ds:List D},toCs xs=some ds→leCs m xs→asCs m xs=some ds
 | [],_,h,_=>h
 | x :: xs,ds,h,hl=>by
  simp only [toCs] at h
  split at h
  ·rename_i y ys h1 h2
   simp only [asCs,q9s h1 hl.1,q8I h2 hl.2]; exact h
  ·cases h
theorem z0f {m:Md}{x:X}{d:D}(h:toE x=some d)(hl:leE m x):asD m x=some d:=by
 cases x
 case ag cs=>
  simp only [toE] at h
  cases hc:toCs cs with
  | none=>rw [hc] at h; cases h
  | some ds=>rw [hc] at h; simp only [asD,q8I hc hl]; exact h
 all_goals (simp only [toE] at h; exact q9s (m:=m) h hl)
theorem q8J {m:Md}:∀ {xs:List X} {ds:List D},toEs xs=some ds→leEs m xs→asDs m xs=some ds
 | [],_,h,_=>h
 | x :: xs,ds,h,hl=>by
  simp only [toEs] at h
  split at h
  ·rename_i y ys h1 h2
   simp only [asDs,z0f h1 hl.1,q8J h2 hl.2]; exact h
  ·cases h
end
end Go.A
namespace Go.A
open Go Go.E
section
variable {S:Start}{F:Nat→Prop}{g:Nat→G}{w w' : World}{σ1:Nat→Root}
theorem Sim.refill (hs:Sim S F g σ1 w){r k:Nat}{m:Md}{es:List D}{v:Value}{L:List Nat}{gs:List (List GC)}{cs:List Value}(hg:g r = .row v k L gs)(hgb:gbl gs=[])(hc:Chg (fun b=>b∈L) w w')(hown:OwnR w' k v es.length L cs)
  (hrd:(∀ m b o cs,SM F S.B m b→b < w.heap.size→At w b o cs→SM F S.B m b∧b < w'.heap.size∧At w' b o cs)→rdE (SM F S.B m) w' k es cs):∃ g',Sim S F g' (owr σ1 [(r,.row m k es)]) w'∧Pres S.B F g w F g' w':=by
 have hbl0:bl (g r)=L:=by rw [hg]; simp [bl,hgb]
 have hkp:=hs.keeps (F':=F) hc (fun c hcL _=>⟨r,by rw [hbl0]; exact hcL⟩) fun _ h=>h
 obtain⟨gs',q1,q2,q3⟩:=q8i (S1:=SM F S.B) (hrd hkp)
 let g' : Nat→G:=fun i=>if i=r then .row v k L gs' else g i
 have hg0:g' r = .row v k L gs':=by simp [g']
 have hbl' : bl (g' r)=L:=by rw [hg0]; simp [bl,q3]
 refine⟨g',hs.step (M:=fun b=>b∈L) (F':=F) (g':=g') (σ':=owr σ1 [(r,.row m k es)]) (· = r) hc (fun c hc _=>⟨r,rfl,by rw [hbl0]; exact hc⟩)
   (fun i hi=>⟨by simp [g',hi],by rw [owr1]; simp [hi]⟩) (fun i hi=>by subst hi; rw [hg,hg0]; exact .inr ⟨L,gs',rfl⟩) (fun _ h=>h)
   (fun c hc'=>⟨Nat.lt_of_lt_of_le (hs.flt c hc') hc.size,.inl hc'⟩)
   (fun _ _ i hi=>by
    subst hi
    rw [hg0,owr1]
    simp only [if_true]
    exact⟨rfl,by rw [List.length_map,q2]; exact hown,q1⟩)
   (fun i hi=>by subst hi; rw [hbl',← hbl0]; exact hs.nodup i) (fun i j hi hj hij=>absurd (hi.trans hj.symm) hij)
   (fun i c hi hc'=>by
    subst hi
    rw [hbl'] at hc'
    have hc0:c∈bl (g i):=by rw [hbl0]; exact hc'
    obtain⟨a1,a2,_⟩:=hs.own i c hc0
    exact⟨Nat.lt_of_lt_of_le a1 hc.size,a2,.inr ⟨i,rfl,hc0⟩⟩)⟩
end
section
variable {P:Program}{S:Start}{o:Oper}{ρ:AE}{σ:St}
theorem q3d {T e k r lo nn:Nat}{m:Md}{ds:List D}{d:D}{z:List Value}{x:Operand}(ho:o.op = .call { callee:=.builtin .clear,args:=#[x],argTypes:=#[T] })(hT:q3y P T=some e)(hk:szT P e=some k)(hz:q4f P e=some z)(hzd:∀ S1 w,rd1 S1 w d z)(hzl:z.length=k)
  (hx:evX ρ x = .vs r none lo nn) (hσ:fnOf σ r = .row m k ds) (hlo:lo≤ds.length) (hnn:nn=ds.length - lo):LT P S o ρ σ [] .u [(r,.row m k (ds.take lo++List.replicate (ds.length - lo) d))]:=by
 intro σ1 F g w ρc hs hrd hwr hv
 have hr1:σ1 r = .row m k ds:=(hwr (r,_) List.mem_cons_self).trans hσ
 have hroot:=hs.roots r
 rw [hr1] at hroot
 cases hg:g r<;>rw [hg] at hroot<;>try exact hroot.elim
 rename_i v k0 L gs
 obtain⟨hk0,hrow⟩:=hroot
 subst hk0
 have e1:=hv x (by simp [ho,Op.operands,Call.operands])
 rw [hx,vr,hg] at e1
 obtain⟨A,n,cp,A',cp',h1,h2,h3,h4,h5,h6⟩:=e1 _ _ rfl
 obtain⟨hown,hrdE,hgb,hno⟩:=q3v hrow
 have hz1:∀ u∈z,u.oneCell'=true:=rdCs.one (hzd (fun _=>True) w)
 obtain⟨v',hzv,hvc⟩:=q3K (P:=P) (w:=w) hz
 obtain⟨A2,c2,hv2,h7,h8⟩:=hown.form
 rw [h1] at hv2
 have hn:n=ds.length:=by injection hv2
 have hru:∀ r:Result Next,r = .ok (.value (.tuple #[])) w→True:=fun _ _=>trivial
 by_cases hlm:lo=ds.length
 ·have hnn0:nn=0:=by omega
  rw [hnn0] at h3
  have hrun:(Builtin.clear_ #[T] o.type #[E.ev ρc x]).run P w = .ok (.tuple #[]) w:=by
   rw [h3]
   cases A'<;>simp [Builtin.clear_,run_underlying (q3o hT)]
  have he:(execOp (E.ev ρc) o).run P w = .ok (.value (.tuple #[])) w:=by
   simp only [execOp,ho,resolve,invoke,builtin,Sem.run_bind,Sem.run_pure,Result.andThen_ok,List.map_toArray,List.map_cons,List.map_nil,hrun]
  rw [he]
  have hxs:ds.take lo++List.replicate (ds.length - lo) d=ds:=by subst hlm; simp
  rw [hxs]
  refine⟨F,g,?_,Pres.refl,by rw [vr]; trivial⟩
  have:owr σ1 [(r,.row m k0 ds)]=σ1:=by
   funext i; rw [owr1]; by_cases hi:i=r
   ·subst hi; simp only [if_true,hr1]
   ·simp only [if_neg hi]
  rw [this]; exact hs
 ·have hlt:lo < ds.length:=by omega
  obtain⟨eb,hO,hLv⟩:=hown
  rcases hO.2 with ⟨_,h00⟩ | ⟨b,cap,cur,hvb,hb0,hgbk,hnc,hcm,hsz,htk⟩
  ·omega
  have hLb:L=[b]:=by rw [hLv,hvb]; simp [Value.ownBlock]
  rw [h1] at hvb
  injection hvb with f1 f2 f3
  subst f1; subst f3
  rcases h6 with h6 | ⟨b2,f4,f5⟩
  ·omega
  injection f4 with f4
  injection f4 with f4
  subst f4
  have hlen2:(reps z (ds.length - lo)).length=(ds.length - lo)*k0:=by rw [q4k,hzl]
  have hcells:(Builtin.zeroCells v'.cells (ds.length - lo)).toList=reps z (ds.length - lo):=by
   rw [q5Q,hvc]
   have:=q4E z.toArray (ds.length - lo)
   rw [this]
  have hfit:lo*k0+(ds.length - lo)*k0≤cur.size:=by
   rw [← Nat.add_mul,hsz,show lo+(ds.length - lo)=ds.length by omega]; exact Nat.mul_le_mul_right _ hnc
  have hst:=run_storeCells_at P b (lo*k0) eb (reps z (ds.length - lo)) 0 cur w hgbk (by rw [hlen2]; simpa using hfit) (q7B hz1 _)
  have hrun:(Builtin.clear_ #[T] o.type #[E.ev ρc x]).run P w = .ok (.tuple #[]) (w.setRow b (q3l cur.toList (lo*k0) (reps z (ds.length - lo))).toArray):=by
   rw [h3,f5]
   simp only [Nat.add_zero] at hst
   have hsp:q3l cur.toList (lo*k0) (reps z (ds.length - lo))=List.take (lo*k0) cur.toList++reps z (ds.length - lo)++List.drop (lo*k0+(reps z (ds.length - lo)).length) cur.toList:=rfl
   rw [hsp]
   obtain⟨q,hq⟩:∃ q,ds.length - lo=q+1:=⟨ds.length - lo - 1,by omega⟩
   rw [hnn,hq]
   rw [hq] at hcells hst
   simp [Builtin.clear_,run_underlying (q3o hT),hzv,hcells,hst]
  have he:(execOp (E.ev ρc) o).run P w = .ok (.value (.tuple #[])) (w.setRow b (q3l cur.toList (lo*k0) (reps z (ds.length - lo))).toArray):=by
   simp only [execOp,ho,resolve,invoke,builtin,Sem.run_bind,Sem.run_pure,Result.andThen_ok,List.map_toArray,List.map_cons,List.map_nil,hrun]
  rw [he]
  have hB:Blk w b eb cur.toList:=by simpa [Blk] using hgbk
  have hc:=q4U w b (q3l cur.toList (lo*k0) (reps z (ds.length - lo))).toArray
  have hb' : Blk (w.setRow b (q3l cur.toList (lo*k0) (reps z (ds.length - lo))).toArray) b eb (q3l cur.toList (lo*k0) (reps z (ds.length - lo))):=setRow_heap w b _ _ eb _ hgbk
  have hcl:(q3m gs).length=ds.length*k0:=hO.1
  have hspl:q3l (q3m gs) (lo*k0) (reps z (ds.length - lo))=(q3m gs).take (lo*k0)++reps z (ds.length - lo):=by
   unfold q3l
   rw [List.drop_eq_nil_of_le (by rw [hlen2,hcl,← Nat.add_mul,show lo+(ds.length - lo)=ds.length by omega]; exact Nat.le_refl _),List.append_nil]
  have hst2:=hO.st (w':=w.setRow b (q3l cur.toList (lo*k0) (reps z (ds.length - lo))).toArray) (by rw [h1]; rfl) hB (off:=lo*k0) (l:=reps z (ds.length - lo)) (by rw [hlen2,← Nat.add_mul,show lo+(ds.length - lo)=ds.length by omega]; exact Nat.le_refl _) hb'
  obtain⟨g',k1,k2⟩:=hs.refill (es:=ds.take lo++List.replicate (ds.length - lo) d) (m:=m) hg hgb (hc.mono fun q _ e=>by rw [hLb]; simp [e]) (cs:=q3l (q3m gs) (lo*k0) (reps z (ds.length - lo)))
   ⟨eb,by rw [List.length_append,List.length_take,List.length_replicate,Nat.min_eq_left hlo,show lo+(ds.length - lo)=ds.length by omega]; exact hst2,hLv⟩
   (fun hkp=>by rw [hspl]; exact ((hrdE.imp (hkp m)).take lo).append (by have:=q6r (hzd (SM F S.B m) (w.setRow b (q3l cur.toList (lo*k0) (reps z (ds.length - lo))).toArray)) (ds.length - lo); rw [hzl] at this; exact this))
  exact⟨F,g',k1,k2,by rw [vr]; trivial⟩
end
section
variable {P:Program}[HasTab P]{S:Start}{ops:Array Oper}{Q:AE→St→Prop}{o:Oper}{rest:List Oper}{ρ:AE}{σ:St}{d:Nat}{md:Md2}{T e:Nat}{t te:TI}
theorem q9T {α:Type}{xs:List α}{lo j:Nat}{y:α}(h:xs[lo+j]? = some y):j < xs.length - lo:=by
 have:=(List.getElem?_eq_some_iff.1 h).1
 omega
end
end Go.A
namespace Go.A
open Go Go.E
theorem z0w {α:Type}{l:List α}{j:Nat}{x y:α}(h:l[j]? = some x):(l.set j y)[j]? = some y:=by
 have:=(List.getElem?_eq_some_iff.1 h).1
 simp [this]
theorem q9a {α:Type}{l:List α}{j:Nat}{x:α}(h:l[j]? = some x):l.set j x=l:=by
 apply List.ext_getElem?
 intro i
 rw [List.getElem?_set]
 split
 ·rename_i hi; subst hi
  have hl:=(List.getElem?_eq_some_iff.1 h).1
  rw [if_pos hl,h]
 ·rfl
theorem z0J {α β:Type}{f:α→β}{xs:List α}{j:Nat}{x:α}{l:List β}(h:xs[j]? = some x)(e:l=(xs.map f).set j (f x)):l=xs.map f:=by
 rw [e]; exact q9a (q4i h)
theorem eset {α β:Type}{f:α→β}{xs:List α}{j:Nat}{x' : α}{l:List β}(e:l=(xs.map f).set j (f x')):l=(xs.set j x').map f:=by
 rw [e,List.map_set]
section
variable {P:Program}[HasTab P]{S:Start}{n:Nat}{ops:Array Oper}{Q:AE→St→Prop}{QP:q3h}{o:Oper}{rest:List Oper}{ρ:AE}{σ:St}{d:Nat}{md:Md2}{T e:Nat}{t te:TI}{k:Nat}{m:Md}{es:List (List Cell)}{hh:List (Nat × Nat × Nat)}
theorem GH.inn' {S:Start}{ρ:AE}{σ:St}(r j c q:Nat){el:List Cell}{cell:Cell}(hj:es[j]? = some el)(hσ:fnOf σ r = .deep m k es hh:=by rfl)(hc:Nat.blt c el.length=true:=by rfl)(hm:(j,c,q)∈hh:=by first | exact List.mem_cons_self | simp)(hx:MC (fnOf σ q) cell:=by exact .row)(hf:fzC cell=true∨m = .bo:=by exact .inl rfl)(hqr:Nat.beq q r=false:=by rfl) :
  GH S ρ σ ρ (setL (setL σ r (.deep m k (es.set j (spl el c [cell])) (hsK hh c 1))) q .dead):=q3a hσ hj hc hm hx hf hqr
theorem GH.ees {S:Start}{ρ:AE}{σ:St}(r:Nat){es' : List (List Cell)}(hσ:fnOf σ r = .deep m k es hh:=by rfl)(he:es=es'):GH S ρ σ ρ (setL σ r (.deep m k es' hh)):=q2q hσ he
theorem APD {α:Type}{f:α→List Cell}{s x:Operand}{xs ys:List α}{zs:List X}{r r2 b1:Nat}(r' : Nat)(B:Nat)(hmax:((xs.length:Int)+(ys.length:Int))*(B:Int)≤140737488355328∧(xs.length:Int)+(ys.length:Int)≤9223372036854775807)(h:AL P S ops Q (q3j md [] [r,r2,r']) rest (updX ρ d (.ref r' none)) (owrL σ [(r,.dead),(r2,.dead),(r',.deep m te.sz ((xs++ys).map f) [])]))
  (ho:o.op = .call { callee:=.builtin .append,args:=#[s,x],argTypes:=#[T,T] }:=by rfl) (hT:(HasTab.tab P).get T=some t:=by rfl) (he:t.el=some e:=by rfl) (hE:(HasTab.tab P).get e=some te:=by rfl) (hs:evX ρ s = .ref r none:=by rfl) (hx:evX ρ x = .ref r2 none:=by rfl) (hσ:fnOf σ r = .deep m te.sz (xs.map f) []:=by rfl) (hσ2:fnOf σ r2 = .deep m te.sz (ys.map f) []:=by rfl) (hz:te.z=some zs:=by rfl) (hb:te.by_=b1+1:=by rfl) (hzl:zs.length=te.sz:=by rfl) (hk0:Nat.blt 0 te.sz=true:=by rfl) (hr:fnOf σ r' = .none:=by rfl) (hne:Nat.beq r r2=false:=by rfl) (hB:te.by_=B:=by rfl) (hd:o.dst=some d:=by rfl) (hg:q3g ops ρ o=some true:=by rfl):AL P S ops Q md (o :: rest) ρ σ:=by
 obtain⟨z,h1,h2⟩:=TI.z' (Tab.chk HasTab.ok hE) hz
 refine q0a (q2r (r':=r') ho (q3i hT he hE).1 (q3i hT he hE).2 (TI.by' (Tab.chk HasTab.ok hE) hb) h1 (by rw [← hzl,← (h2 (fun _ _=>True) default (fun _=>.none)).len]) hk0 hs hσ hx hσ2 ?_ ?_ hr hne) (by rw [← List.map_append]; exact h) hd hg
 ·simp only [List.length_map]
  have:=hmax.1
  rw [hB,← Int.natCast_add,← Int.natCast_mul] at *
  omega
 ·simp only [List.length_map]
  show _≤9223372036854775807
  have:=hmax.2
  omega
end
theorem z0q {α β:Type}{f:α→β}{xs:List α}{lo:Nat}:((xs.map f).drop lo).take (xs.length - lo)=(xs.drop lo).map f:=by
 rw [← List.map_drop]; exact List.take_of_length_le (by simp)
theorem q3e {S:Start}{ρ:AE}{σ:St}(t:Nat)(x:X)(h:ρ t=x):GH S ρ σ (updX ρ t x) σ:=fun F g w ρc hs hv=>⟨F,g,hs,fun u=>by
 simp only [updX]
 rcases bq (r:=u) (i:=t) with ⟨hb,e⟩ | ⟨hb,e⟩
 ·rw [hb,cond_true,← h,e]; exact hv t
 ·rw [hb,cond_false]; exact hv u⟩
theorem DAs {α:Type}{σ:Nat→Root}{r k j:Nat}{m:Md}{f:α→List Cell}{D0:α→D}{xs:List α}{x x' : α}{e:List Cell}{es:List (List Cell)}(hf:∀ x,DR (f x) (D0 x))(hx:xs[j]? = some x)(he:DR e (D0 x'))(hes:es=(xs.map f).set j e)(h:σ r = .deep m k es []):DataAt σ r m k ((xs.set j x').map D0) [r]:=by
 subst hes
 refine .deep h ?_ rfl rfl
 rw [List.map_set]
 exact (all2.map hf xs).set he
theorem q2z {α:Type}{S:Start}{ρ:AE}{σ:St}{k j:Nat}{m:Md}{f:α→List Cell}{xs:List α}{x:α}{e:List Cell}{es:List (List Cell)}(r:Nat)(D0:α→D)(x' : α)(hf:∀ x,DR (f x) (D0 x))(hx:xs[j]? = some x)(hes:es=(xs.map f).set j e)(h:fnOf σ r = .deep m k es [])(he:DR e (D0 x')):GH S ρ σ (fun t=>frX r m k ((xs.set j x').map D0) (ρ t)) (frS r m k ((xs.set j x').map D0) 0 σ):=q0k (DAs hf hx he hes h)
theorem GH.fzD {α:Type}{S:Start}{ρ:AE}{σ:St}{k:Nat}{m:Md}{f:α→List Cell}{xs:List α}(r:Nat)(D0:α→D)(hf:∀ x,DR (f x) (D0 x))(h:fnOf σ r = .deep m k (xs.map f) []):GH S ρ σ (fun t=>frX r m k (xs.map D0) (ρ t)) (frS r m k (xs.map D0) 0 σ):=q0k (DA hf h)
section
variable {P:Program}[HasTab P]{S:Start}{n:Nat}{ops:Array Oper}{Q:AE→St→Prop}{QP:q3h}{rest:List Oper}{ρ:AE}{σ:St}{md:Md2}{k:Nat}{m:Md}
end
end Go.A
namespace Go.A
open Go Go.E
section
variable {S:Start}{F:Nat→Prop}{g:Nat→G}{w:World}{σ1:Nat→Root}
theorem Sim.frz (hs:Sim S F g σ1 w){r:Nat}{m:Md}{k:Nat}{xs:List D}(hr1:σ1 r = .row m k xs):∃ F' g',Sim S F' g' (fun i=>if i=r then .dead else σ1 i) w∧Pres S.B F g w F' g' w∧∀ x v,vr (SM F S.B) w g x v→vr (SM F' S.B) w g' (frX r m k xs x) v:=by
 obtain⟨v,L,gs,cs,hg,hown,hrd,hLb⟩:=q7n hs (.row hr1 rfl)
 let F' : Nat→Prop:=fun b=>F b∨b∈bl (g r)
 have hF:∀ b,F b→F' b:=fun b hb=>.inl hb
 have up:∀ m b,SM F S.B m b→SM F' S.B m b:=fun m b hb=>by
  cases m with
  | fz=>exact .inl hb
  | bo=>exact hb.imp .inl id
 have hL' : ∀ b∈bl (g r),SM F' S.B m b:=fun b hb=>by
  cases m with
  | fz=>exact .inr hb
  | bo=>exact .inl (.inr hb)
 have hrd' : rdE (SM F' S.B m) w k xs cs:=hrd.mono fun b hb=>by
  rcases hb with hb | ⟨q,hq,hb⟩
  ·exact up m b hb
  ·rw [List.mem_singleton] at hq; subst hq; exact hL' b hb
 have hd:rdC (SM F' S.B m) w (.sl k xs) v:=q7o hown hrd' fun b hb=>hL' b (hLb b hb)
 have hpart:∀ lo n v',q5u v k lo n v'→rdC (SM F' S.B m) w (.sl k ((xs.drop lo).take n)) v':=fun lo n v' hp=>q7M hown hrd' (fun b hb=>hL' b (hLb b hb)) hp
 have hlt:∀ b,F' b→b < w.heap.size:=fun b hb=>hb.elim (hs.flt b) fun hb=>(hs.own r b hb).1
 have ha:∀ q,Adv (g q) ((fun i=>if i=r then .dead else g i) q):=fun q=>by
  by_cases hq:q=r
  ·subst hq
   simp only [if_true]
   rw [hg]; exact .inl rfl
  ·simp only [if_neg hq]; exact Adv.refl _
 have hp:∀ {x:X} {v:Value},vr (SM F S.B) w g x v→vr (SM F' S.B) w (fun i=>if i=r then .dead else g i) x v:=fun h=>h.adv (fun m b o cs h1 h2 h3=>⟨up m b h1,h2,h3⟩) ha
 have hps:∀ {x:List X} {v:List Value},vrs (SM F S.B) w g x v→vrs (SM F' S.B) w (fun i=>if i=r then .dead else g i) x v:=fun h=>h.adv (fun m b o cs h1 h2 h3=>⟨up m b h1,h2,h3⟩) ha
 refine⟨F',fun i=>if i=r then .dead else g i,⟨hs.chg,hs.bB,fun b hb=>.inl (hs.fmono b hb),fun b hb=>?_,hlt,fun i=>?_,hs.low,fun i=>?_,fun i=>?_,fun i j hij b hb=>?_,fun i b hb=>?_⟩,fun x v h=>hp h,fun x v h=>q8x hg hF hd hpart h⟩
 ·rcases hb with hb | hb
  ·exact hs.fnew b hb
  ·exact .inr (hs.own r b hb).2.2.2
 ·by_cases hi:i=r
  ·subst hi
   simp only [if_true]; trivial
  ·simp only [if_neg hi]
   have h1:=hs.roots i
   revert h1
   cases σ1 i<;>intro h1<;>cases hgi:g i<;>rw [hgi] at h1<;>try exact h1.elim
   ·trivial
   ·trivial
   ·obtain⟨vs,h2,h3⟩:=h1
    exact⟨vs,h2,hps h3⟩
   ·exact⟨h1.1,q3P h1.2 up⟩
   ·exact⟨⟨h1.1.1,q3P h1.1.2 up⟩,h1.2.1.adv ha,h1.2.2⟩
 ·by_cases hi:i=r
  ·subst hi
   simp only [if_true]
   have:=hs.hdr i
   rw [hg] at this
   revert this
   cases S.g0 i<;>intro h
   ·trivial
   ·cases h
   ·rcases h with h | h<;>cases h
   ·exact .inl rfl
  ·simp only [if_neg hi]; exact hs.hdr i
 ·by_cases hi:i=r
  ·simp only [if_pos hi,bl]; exact List.nodup_nil
  ·simp only [if_neg hi]; exact hs.nodup i
 ·by_cases hi:i=r
  ·simp only [if_pos hi,bl] at hb; cases hb
  ·simp only [if_neg hi] at hb
   by_cases hj:j=r
   ·simp only [if_pos hj,bl]; exact List.not_mem_nil
   ·simp only [if_neg hj]; exact hs.disj i j hij b hb
 ·by_cases hi:i=r
  ·simp only [if_pos hi,bl] at hb; cases hb
  ·simp only [if_neg hi] at hb
   obtain⟨h1,h2,h3,h4⟩:=hs.own i b hb
   refine⟨h1,fun hf=>?_,h3,h4⟩
   rcases hf with hf | hf
   ·exact h2 hf
   ·exact hs.disj i r hi b hb hf
end
section
variable {P:Program}[HasTab P]{S:Start}{ops:Array Oper}{Q:AE→St→Prop}{o:Oper}{rest:List Oper}{ρ:AE}{σ:St}{d:Nat}{md:Md2}
theorem q7X:∀ (wr:List (Nat × Root)) (σ:Nat→Root) (r:Nat) (x:Root),owr σ (wr++[(r,x)])=fun i=>if i=r then x else owr σ wr i
 | [],σ,r,x=>rfl
 | (i,y) :: l,σ,r,x=>by rw [List.cons_append,owr,q7X l,owr]
theorem q6h {P:Program}{R R' : Value→World→Prop}(hR:∀ v w,R v w→R' v w):∀ {x:Result Next},q5s P R x→q5s P R' x:=by
 intro x h
 cases x with
 | ok n w=>
  cases n with
  | value u=>exact hR _ _ h
  | skip=>exact hR _ _ h
  | enter f args=>exact Calls.mono h fun e w' ⟨v,h1,h2⟩=>⟨v,h1,hR _ _ h2⟩
  | _=>exact h.elim
 | _=>exact h.elim
theorem LT.frz {rd:List Nat}{v:X}{wr:List (Nat × Root)}{r:Nat}{m:Md}{k:Nat}{xs:List D}(h:LT P S o ρ σ rd v wr)(hr:∀ σ1,owr σ1 wr r = .row m k xs):LT P S o ρ σ rd (frX r m k xs v) (wr++[(r,.dead)]):=by
 intro σ1 F g w ρc h1 h2 h3 h4
 refine q6h ?_ (h σ1 F g w ρc h1 h2 (fun p hp=>h3 p (by simp [hp])) h4)
 rintro vc w' ⟨F',g',h5,h6,h7⟩
 obtain⟨F2,g2,k1,k2,k3⟩:=h5.frz (hr σ1)
 exact⟨F2,g2,by rw [q7X]; exact k1,fun x v hx=>k2 x v (h6 x v hx),k3 _ _ h7⟩
end
section
variable {P:Program}[HasTab P]{S:Start}{ops:Array Oper}{Q:AE→St→Prop}{o:Oper}{rest:List Oper}{ρ:AE}{σ:St}{d:Nat}{md:Md2}{T e:Nat}{t te:TI}
end
theorem q2A {S:Start}{ρ:AE}{σ:St}{n0:Nat}(hS:S.n0=n0)(l:List (Nat × Nat))(n:Nat){L:List (Nat × X)}{σt:St}(hL:WkR l ρ L:=by repeat (first | exact trivial | refine And.intro (.of (by kernel_rfl)) ?_))(hσ:renS l n σ=σt:=by kernel_rfl)(hc:q6z l n0 n σ=true:=by kernel_rfl):GH S ρ σ (ofX L) σt:=GH.ren hS l n hL hσ hc
end Go.A
namespace Go.A
open Go Go.E
theorem q7Y {f:UInt8→D}(hf:∀ b,f b = .i .u8 (b.toNat:Int)){S:Nat→Prop}{w:World}:∀ {a:List UInt8} {cs:List Value},rdL S w a cs→rdE S w 1 (a.map f) cs
 | [],_,h=>by rw [show _=[] from h]; rfl
 | x :: xs,cs,h=>by
  obtain⟨c,r,h1,h2,h3⟩:=h
  have h2:c=[.int .u8 (x.toNat:Int)]:=h2
  subst h2
  rw [List.map_cons,q3t]
  refine⟨_,r,h1,rfl,?_,q7Y hf h3⟩
  rw [hf x]
  have hx:=x.toNat_lt
  exact⟨_,_,rfl,⟨rfl,by omega,by omega⟩,rfl⟩
theorem q9b {f:UInt8→D}(hf:∀ b,f b = .i .u8 (b.toNat:Int)){w:World}{a:List UInt8}{z:Value}(h:rdS (fun _=>True) w a z):rdC (fun b=>b < w.heap.size) w (.sl 1 (a.map f)) z:=by
 have h0:Rep.rd (fun _=>True) w a [z]:=⟨z,rfl,h⟩
 obtain⟨z',e,h⟩:=Rep.bound h0
 injection e with e
 subst e
 obtain⟨A',cap,cells,h1,h2,h3,h4,h5⟩:=h
 rw [rdC]
 refine⟨A',cap,cells,by rw [List.length_map]; exact h1,by rw [List.length_map]; exact h2,h3,q7Y hf (h4.mono fun b hb=>hb.2),?_⟩
 rcases h5 with h5 | ⟨b,o,e,hb,ha⟩
 ·exact .inl (by rw [h5]; rfl)
 ·exact .inr ⟨b,o,e,hb.2,hb.2,ha⟩
theorem Sim.begin0 (w:World):Sim (q4Y w (fun b=>b < w.heap.size) (fun _=>False) (fun _=>.none) 0) (fun b=>b < w.heap.size) (fun _=>.none) (fnOf []) w where
 chg:=Chg.refl w
 bB b h:=h.elim
 fmono b h:=h
 fnew b h:=.inl h
 flt b h:=h
 roots i:=trivial
 low i _:=rfl
 hdr i:=trivial
 nodup i:=List.nodup_nil
 disj i j _ b h:=by cases h
 own i b h:=by cases h
theorem Ok.law {P:Program}{fid:Nat}{f:UInt8→D}(hf:∀ b,f b = .i .u8 (b.toNat:Int)){W:World}{a:List UInt8}{z:Value}(ha:rdS (fun _=>True) W a z){x:Bool}(hx:x=true)
  (h:Ok P fid [.d .fz (.sl 1 (a.map f))] [] (.d .fz (.b x)) []):Ret P fid #[z] W (fun _=>False) fun v w=>v = .bool true:=by
 have h:=h (fun b=>b < W.heap.size) (fun _=>False) (fun _=>.none) W [z] (Sim.begin0 W) ⟨z,[],rfl,q9b hf ha,rfl⟩
 refine Calls.mono h fun e w' ⟨v,he,hc,F',g',_,hv⟩=>⟨v,he,⟨hc.os,hc.tape,hc.output,hc.size,fun k hk _=>hc.block k hk fun ⟨i,hi⟩=>by cases hi⟩,?_⟩
 subst hx
 exact hv
end Go.A
namespace Go.A
open Go Go.E
theorem q0b {P:Program}{S:Start}{fn:Func}{ρ:AE}{σ:St}{e:Exit}{lr:List ResultVar}{res:X}{post:St}{n0:Nat}(l:List (Nat × Nat))(n:Nat)(hS:S.n0=n0)(he:e = .normal∨e = .ret:=by first | exact .inr rfl | exact .inl rfl)(hl:fn.results=lr.toArray:=by rfl)(ht:lr.all (q5E fn.ntmps)=true:=by rfl)
  (hx:(q6u P ρ σ lr).map (fun xs=>renX l (tupX xs))=some res:=by kernel_rfl) (hc:q6z l n0 n σ=true:=by kernel_rfl) (hp:renS l n σ=post:=by kernel_rfl):endA P S fn res post e ρ σ:=by
 cases hr:q6u P ρ σ lr with
 | none=>rw [hr] at hx; cases hx
 | some xs=>
  rw [hr] at hx
  have hx:renX l (tupX xs)=res:=Option.some.inj hx
  exact endA.ren l n he hS hl ht hr (by rw [hx]; exact .rfl) hc hp
section
variable {P:Program}[HasTab P]{S:Start}{ops:Array Oper}{Q:AE→St→Prop}{o:Oper}{rest:List Oper}{ρ:AE}{σ:St}{d:Nat}{md:Md2}{T e:Nat}{t te:TI}
end
theorem z0r {ρ:AE}{σ σ' : St}{L:List (Nat × X)}(hL:WkL ρ L:=by repeat (first | exact trivial | refine And.intro (.of (by kernel_rfl)) ?_))(hσ:σ=σ':=by kernel_rfl):WkL ρ L∧σ=σ':=⟨hL,hσ⟩
section
variable {P:Program}{S:Start}{o:Oper}{ρ:AE}{σ:St}
theorem q2B {Y:X}{T T2 e r:Nat}{m m' : Md}{ds ys:List D}{x y:Operand}(ho:o.op = .call { callee:=.builtin .copy,args:=#[x,y],argTypes:=#[T,T2] })(hT:q3y P T=some e)(hk:szT P e=some 1)(hx:evX ρ x = .ref r none)(hσ:fnOf σ r = .row m 1 ds)(hy:evX ρ y=Y)(hsrc:srcD (fnOf σ) Y=some (m',1,ys))(hm:mle m' m=true)(hlen:ys.length=ds.length):LT P S o ρ σ (q3C Y) (.d .fz (.i .i64 ds.length)) [(r,.row m 1 ys)]:=by
 intro σ1 F g w ρc hs hrd hwr hv
 have hr1:σ1 r = .row m 1 ds:=(hwr (r,_) List.mem_cons_self).trans hσ
 have hroot:=hs.roots r
 rw [hr1] at hroot
 cases hg:g r<;>rw [hg] at hroot<;>try exact hroot.elim
 rename_i v k0 L gs
 obtain⟨hk0,hrow⟩:=hroot
 subst hk0
 have e1:=hv x (by simp [ho,Op.operands,Call.operands])
 have e2:=hv y (by simp [ho,Op.operands,Call.operands])
 rw [hx,vr,hg] at e1
 have e1:=e1 _ _ rfl
 rw [hy] at e2
 have hsrc1:srcD σ1 Y=some (m',1,ys):=by rw [q5Y (σ2:=fnOf σ) hrd]; exact hsrc
 obtain⟨A,cap,cells,h1,h2,h3,h4,h5⟩:=q7I hs hsrc1 e2
 obtain⟨hown,hrdE,hgb,hno⟩:=q3v hrow
 have hsz:(P.info? e).map (·.size)=some 1:=hk
 have hcl:cells.length=ys.length:=by rw [h4.len,Nat.mul_one]
 by_cases hz:ys=[]
 ·subst hz
  have hds:ds=[]:=List.eq_nil_of_length_eq_zero hlen.symm
  subst hds
  obtain⟨A',c',rfl,_⟩:=hown.form
  have hrun:(Builtin.copy_ #[T,T2] o.type #[.slice A' 0 c',.slice A 0 cap]).run P w = .ok (goInt 0) w:=run_copy_none w T T2 o.type e A' A 0 c' 0 cap (q3o hT) hsz rfl
  have e1' : E.ev ρc x = .slice A' 0 c':=e1
  have h1' : E.ev ρc y = .slice A 0 cap:=h1
  have he:(execOp (E.ev ρc) o).run P w = .ok (.value (goInt 0)) w:=by
   simp only [execOp,ho,resolve,invoke,builtin,Sem.run_bind,Sem.run_pure,Result.andThen_ok,List.map_toArray,List.map_cons,List.map_nil,e1',h1',hrun]
  rw [he]
  refine⟨F,g,?_,Pres.refl,by rw [vr,rdC]; exact⟨rfl,by decide,by decide⟩⟩
  have:owr σ1 [(r,.row m 1 [])]=σ1:=by
   funext i; rw [owr1]; by_cases hi:i=r
   ·subst hi; simp only [if_true,hr1]
   ·simp only [if_neg hi]
  rw [this]; exact hs
 ·obtain⟨b2,off,rfl,hat,hb2,_⟩:=h5.resolve_left hz
  have hpos:0 < ds.length:=by rw [← hlen]; exact List.length_pos_iff.2 hz
  obtain⟨eb,hO,hLv⟩:=hown
  rcases hO.2 with ⟨_,h00⟩ | ⟨b,c',cur,rfl,hb0,hgbk,hn,hcm,hsz2,htk⟩
  ·omega
  have hLb:L=[b]:=by rw [hLv]; simp [Value.ownBlock]
  rw [Nat.mul_one] at hsz2
  have hrun:=run_copy_row (P:=P) w T T2 o.type e b 0 ds.length c' ⟨b2,off,none⟩ ys.length cap cur eb cells (q3o hT) hsz hgbk (by rw [hcl,hlen]; simp) (fun j v hv=>by
   have:=hat j v hv
   by_cases hj:j=0
   ·subst hj; simpa [Addr.add] using this
   ·simpa [Addr.add,hj] using this) (by rw [hcl,hlen]; omega) h4.one
  have he:(execOp (E.ev ρc) o).run P w = .ok (.value (goInt cells.length)) (w.setRow b (q3l cur.toList 0 cells).toArray):=by
   simp only [execOp,ho,resolve,invoke,builtin,Sem.run_bind,Sem.run_pure,Result.andThen_ok,List.map_toArray,List.map_cons,List.map_nil,e1,h1,hrun]
   rfl
  rw [he]
  have hB:Blk w b eb cur.toList:=by simpa [Blk] using hgbk
  have hc:=q4U w b (q3l cur.toList 0 cells).toArray
  have hb' : Blk (w.setRow b (q3l cur.toList 0 cells).toArray) b eb (q3l cur.toList 0 cells):=setRow_heap w b _ _ eb _ hgbk
  have hst:=hO.st (w':=w.setRow b (q3l cur.toList 0 cells).toArray) rfl hB (off:=0) (l:=cells) (by rw [hcl,hlen]; omega) hb'
  have hgl:(q3m gs).length=ds.length*1:=hO.1
  have hspl:q3l (q3m gs) 0 cells=cells:=by
   unfold q3l
   rw [List.drop_eq_nil_of_le (by rw [hgl,hcl,hlen]; omega)]
   simp
  rw [hspl] at hst
  obtain⟨g',k1,k2⟩:=hs.refill (es:=ys) (m:=m) hg hgb (hc.mono fun q _ e=>by rw [hLb]; simp [e]) (cs:=cells) ⟨eb,by rw [hlen]; exact hst,hLv⟩ (fun hkp=>(h4.mono (q5g hm)).imp (hkp m))
  refine⟨F,g',k1,k2,?_⟩
  rw [vr,rdC]
  have hlm:ds.length≤maxLen:=by
   obtain⟨A3,c3,q1,q2,q3⟩:=OwnR.form ⟨eb,hO,hLv⟩
   omega
  exact⟨by rw [hcl,hlen]; rfl,by omega,by have:maxLen=9223372036854775807:=rfl; omega⟩
end
section
variable {P:Program}[HasTab P]{S:Start}{ops:Array Oper}{Q:AE→St→Prop}{o:Oper}{rest:List Oper}{ρ:AE}{σ:St}{d:Nat}{md:Md2}{T e:Nat}{t te:TI}
end
end Go.A
namespace Go.A
open Go Go.E
section
variable {P:Program}[HasTab P]{S:Start}{n:Nat}{ops ops2:Array Oper}{Q:AE→St→Prop}{QP:q3h}{rest:List Oper}{ρ:AE}{σ:St}{md:Md2}{x y:Code}{id:Nat}
theorem sr (h:AL P S ops (fun ρ σ=>AW P S n y QP ρ σ) none ops.toList ρ σ):AW P S n (.seq (.region id ops false) y) QP ρ σ:=q0e (q0f h)
theorem ssr (h:AL P S ops (fun ρ σ=>AW P S n y (q4I (fun ρ σ=>AW P S n x QP ρ σ) QP) ρ σ) none ops.toList ρ σ):AW P S n (.seq (.seq (.region id ops false) y) x) QP ρ σ:=q0e (q0e (q0f h))
theorem N0 (h:Q ρ σ)(hm:okM2 ops md=true:=by kernel_rfl):AL P S ops Q md [] ρ σ:=AL.nil h hm
theorem W1 {o1:Oper}{d1:Nat}{v1:X}{r1:List Nat}(h:AL P S ops Q (q3j md r1 []) rest (updX ρ d1 v1) σ)(v_1:opV (HasTab.tab P) ρ σ o1.op=some (v1,r1):=by exact rfl)(d_1:o1.dst=some d1:=by rfl)(g_1:q3g ops ρ o1=some true:=by rfl):AL P S ops Q md (o1 :: rest) ρ σ:=V v_1 (h) d_1 g_1
theorem N1 {o1:Oper}{d1:Nat}{v1:X}{r1:List Nat}(h:Q (updX ρ d1 v1) σ)(v_1:opV (HasTab.tab P) ρ σ o1.op=some (v1,r1):=by exact rfl)(d_1:o1.dst=some d1:=by rfl)(g_1:q3g ops ρ o1=some true:=by rfl)(hm:okM2 ops (q3j md r1 [])=true:=by kernel_rfl):AL P S ops Q md [o1] ρ σ:=V v_1 (AL.nil h hm) d_1 g_1
theorem W2 {o1:Oper}{d1:Nat}{v1:X}{r1:List Nat}{o2:Oper}{d2:Nat}{v2:X}{r2:List Nat}(h:AL P S ops Q (q3j (q3j md r1 []) r2 []) rest (updX (updX ρ d1 v1) d2 v2) σ)(v_1:opV (HasTab.tab P) ρ σ o1.op=some (v1,r1):=by exact rfl)(d_1:o1.dst=some d1:=by rfl)(g_1:q3g ops ρ o1=some true:=by rfl)(v_2:opV (HasTab.tab P) (updX ρ d1 v1) σ o2.op=some (v2,r2):=by exact rfl)(d_2:o2.dst=some d2:=by rfl)(g_2:q3g ops (updX ρ d1 v1) o2=some true:=by rfl):AL P S ops Q md (o1 :: o2 :: rest) ρ σ:=V v_1 (V v_2 (h) d_2 g_2) d_1 g_1
theorem N2 {o1:Oper}{d1:Nat}{v1:X}{r1:List Nat}{o2:Oper}{d2:Nat}{v2:X}{r2:List Nat}(h:Q (updX (updX ρ d1 v1) d2 v2) σ)(v_1:opV (HasTab.tab P) ρ σ o1.op=some (v1,r1):=by exact rfl)(d_1:o1.dst=some d1:=by rfl)(g_1:q3g ops ρ o1=some true:=by rfl)(v_2:opV (HasTab.tab P) (updX ρ d1 v1) σ o2.op=some (v2,r2):=by exact rfl)(d_2:o2.dst=some d2:=by rfl)(g_2:q3g ops (updX ρ d1 v1) o2=some true:=by rfl)(hm:okM2 ops (q3j (q3j md r1 []) r2 [])=true:=by kernel_rfl):AL P S ops Q md [o1,o2] ρ σ:=V v_1 (V v_2 (AL.nil h hm) d_2 g_2) d_1 g_1
theorem W3 {o1:Oper}{d1:Nat}{v1:X}{r1:List Nat}{o2:Oper}{d2:Nat}{v2:X}{r2:List Nat}{o3:Oper}{d3:Nat}{v3:X}{r3:List Nat}(h:AL P S ops Q (q3j (q3j (q3j md r1 []) r2 []) r3 []) rest (updX (updX (updX ρ d1 v1) d2 v2) d3 v3) σ)(v_1:opV (HasTab.tab P) ρ σ o1.op=some (v1,r1):=by exact rfl)(d_1:o1.dst=some d1:=by rfl)(g_1:q3g ops ρ o1=some true:=by rfl)(v_2:opV (HasTab.tab P) (updX ρ d1 v1) σ o2.op=some (v2,r2):=by exact rfl)(d_2:o2.dst=some d2:=by rfl)(g_2:q3g ops (updX ρ d1 v1) o2=some true:=by rfl)(v_3:opV (HasTab.tab P) (updX (updX ρ d1 v1) d2 v2) σ o3.op=some (v3,r3):=by exact rfl)(d_3:o3.dst=some d3:=by rfl)(g_3:q3g ops (updX (updX ρ d1 v1) d2 v2) o3=some true:=by rfl):AL P S ops Q md (o1 :: o2 :: o3 :: rest) ρ σ:=V v_1 (V v_2 (V v_3 (h) d_3 g_3) d_2 g_2) d_1 g_1
theorem N3 {o1:Oper}{d1:Nat}{v1:X}{r1:List Nat}{o2:Oper}{d2:Nat}{v2:X}{r2:List Nat}{o3:Oper}{d3:Nat}{v3:X}{r3:List Nat}(h:Q (updX (updX (updX ρ d1 v1) d2 v2) d3 v3) σ)(v_1:opV (HasTab.tab P) ρ σ o1.op=some (v1,r1):=by exact rfl)(d_1:o1.dst=some d1:=by rfl)(g_1:q3g ops ρ o1=some true:=by rfl)(v_2:opV (HasTab.tab P) (updX ρ d1 v1) σ o2.op=some (v2,r2):=by exact rfl)(d_2:o2.dst=some d2:=by rfl)(g_2:q3g ops (updX ρ d1 v1) o2=some true:=by rfl)(v_3:opV (HasTab.tab P) (updX (updX ρ d1 v1) d2 v2) σ o3.op=some (v3,r3):=by exact rfl)(d_3:o3.dst=some d3:=by rfl)(g_3:q3g ops (updX (updX ρ d1 v1) d2 v2) o3=some true:=by rfl)(hm:okM2 ops (q3j (q3j (q3j md r1 []) r2 []) r3 [])=true:=by kernel_rfl):AL P S ops Q md [o1,o2,o3] ρ σ:=V v_1 (V v_2 (V v_3 (AL.nil h hm) d_3 g_3) d_2 g_2) d_1 g_1
end
theorem q0n {S:Start}{ρ:AE}{σ:St}{n0:Nat}(hS:S.n0=n0)(n:Nat){L:List (Nat × X)}{σt:St}(hL:WkR ((List.range n).map fun i=>(i,i)) ρ L:=by repeat (first | exact trivial | refine And.intro (.of (by kernel_rfl)) ?_))(hσ:renS ((List.range n).map fun i=>(i,i)) n σ=σt:=by kernel_rfl)(hc:q6z ((List.range n).map fun i=>(i,i)) n0 n σ=true:=by kernel_rfl):GH S ρ σ (ofX L) σt:=GH.ren hS _ n hL hσ hc
end Go.A
set_option maxRecDepth 100000
set_option maxHeartbeats 4000000
namespace Go.A
open Go Go.E
section
variable {P:Program}[HasTab P]{S:Start}{ops:Array Oper}{Q:AE→St→Prop}{o:Oper}{rest:List Oper}{ρ:AE}{σ:St}{d:Nat}{md:Md2}
theorem LT.same {rd:List Nat}{v:X}{wr:List (Nat × Root)}{i:Nat}{R:Root}(h:LT P S o ρ σ rd v ((i,R) :: wr))(hR:R=fnOf σ i):LT P S o ρ σ (i :: rd) v wr:=by
 intro σ1 F g w ρc h1 h2 h3 h4
 have hi:σ1 i=fnOf σ i:=h2 i (by simp)
 refine q6h ?_ (h σ1 F g w ρc h1 (fun j hj=>h2 j (by simp [hj])) (fun p hp=>by
  rcases List.mem_cons.1 hp with rfl | hp
  ·exact hi
  ·exact h3 p hp) h4)
 rintro vc w' ⟨F',g',h5,h6,h7⟩
 have e:(fun j=>if j=i then R else σ1 j)=σ1:=by
  funext j
  by_cases hj:j=i
  ·rw [if_pos hj,hj,hR,hi]
  ·rw [if_neg hj]
 refine⟨F',g',?_,h6,h7⟩
 rw [owr,e] at h5
 exact h5
end
end Go.A
set_option maxRecDepth 100000
set_option maxHeartbeats 4000000
namespace Go.A
open Go Go.E
structure Imp (a b:Prop):Prop where
 h:a→b
theorem J {a b:Prop}(s:Imp a b)(h:a):b:=s.h h
section
variable {P:Program}{S:Start}{n:Nat}{Q:q3h}{ρ:AE}{σ:St}{ops:Array Oper}
theorem q0o  : Imp (Q .normal ρ σ) (AW P S n .skip Q ρ σ):=⟨fun h=>fun F g w ρc hs hv=>q0K ⟨ρ,σ,F,g,hs,hv,h⟩⟩
end
section
variable {P:Program}{S:Start}{n:Nat}{Q:q3h}{ρ:AE}{σ:St}{ops:Array Oper}
theorem q0C  : Imp (Q .ret ρ σ) (AW P S n .ret Q ρ σ):=⟨fun h=>fun F g w ρc hs hv=>q1B ⟨ρ,σ,F,g,hs,hv,h⟩⟩
end
section
variable {P:Program}{S:Start}{n:Nat}{Q:q3h}{ρ:AE}{σ:St}{ops:Array Oper}
theorem q0p {id:Nat}:Imp (Q (.exit id) ρ σ) (AW P S n (.exit id) Q ρ σ):=⟨fun h=>fun F g w ρc hs hv=>q0L ⟨ρ,σ,F,g,hs,hv,h⟩⟩
end
section
variable {P:Program}{S:Start}{n:Nat}{Q:q3h}{ρ:AE}{σ:St}{ops:Array Oper}
theorem q0m {id:Nat}{c:Code}:Imp (AW P S n c (q5V id Q) ρ σ) (AW P S n (.block id c) Q ρ σ):=⟨fun h=>by
 intro F g w ρc hs hv
 refine CW.block ((h F g w ρc hs hv).mono fun e ρc' w' ⟨ρ',σ',F',g',h1,h2,h3⟩=>?_)
 cases e with
 | exit id'=>
  by_cases hid:id'=id
  ·subst hid
   have:Q .normal ρ' σ':=by simpa [q5V] using h3
   simp only [q5p,if_true]
   exact⟨ρ',σ',F',g',h1,h2,this⟩
  ·have hb:Nat.beq id' id=false:=by
    cases hbb:Nat.beq id' id with
    | false=>rfl
    | true=>exact absurd (Nat.eq_of_beq_eq_true hbb) hid
   have:Q (.exit id') ρ' σ':=by simpa [q5V,hb] using h3
   simp only [q5p,if_neg hid]
   exact⟨ρ',σ',F',g',h1,h2,this⟩
 | _=>exact⟨ρ',σ',F',g',h1,h2,h3⟩⟩
end
section
variable {P:Program}[HasTab P]{S:Start}{n:Nat}{ops:Array Oper}{Q:AE→St→Prop}{QP:q3h}{o:Oper}{rest:List Oper}{ρ:AE}{σ:St}{d:Nat}{v:X}{rd:List Nat}{md:Md2}
theorem q0D (hd:o.dst=some d:=by rfl)(hg:q3g ops ρ o=some false:=by rfl):Imp (AL P S ops Q (q3j md [] []) rest (updX ρ d (.tu [])) σ) (AL P S ops Q md (o :: rest) ρ σ):=⟨fun h=>AL.off h hd hg⟩
end
section
variable {P:Program}[HasTab P]{S:Start}{n:Nat}{ops:Array Oper}{Q:AE→St→Prop}{QP:q3h}{o:Oper}{rest:List Oper}{ρ:AE}{σ:St}{d:Nat}{v:X}{rd:List Nat}{md:Md2}
theorem AL.gh' {ρ' : AE}{σ' : St}(hl:GH S ρ σ ρ' σ'):Imp (AL P S ops Q (ghM md) rest ρ' σ') (AL P S ops Q md rest ρ σ):=⟨fun h=>by
 cases md with
 | none=>exact fun k lg hd'=>.gh hl (h _ _ _)
 | some p=>obtain⟨k,lg,hd'⟩:=p; exact .gh hl h⟩
end
section
variable {P:Program}[HasTab P]{S:Start}{n:Nat}{ops:Array Oper}{Q:AE→St→Prop}{QP:q3h}{o:Oper}{rest:List Oper}{ρ:AE}{σ:St}{d:Nat}{v:X}{rd:List Nat}{md:Md2}
theorem q0q {id:Nat}:Imp (AL P S ops (fun ρ σ=>QP .normal ρ σ) none ops.toList ρ σ) (AW P S n (.region id ops false) QP ρ σ):=⟨fun h=>q1E (h _ _ _)⟩
end
section
variable {P:Program}[HasTab P]{S:Start}{n:Nat}{ops:Array Oper}{Q:AE→St→Prop}{QP:q3h}{o:Oper}{rest:List Oper}{ρ:AE}{σ:St}{d:Nat}{v:X}{rd:List Nat}{md:Md2}
variable {T e:Nat}{t te:TI}{z:Nat}
theorem NV' {zs:List X}(r:Nat)(ho:o.op = .alloc T:=by rfl)(hT:(HasTab.tab P).get T=some t:=by rfl)(hz:t.z=some zs:=by rfl)(hr:fnOf σ r = .none:=by rfl)(hd:o.dst=some d:=by rfl)(hg:q3g ops ρ o=some true:=by rfl):Imp (AL P S ops Q (q3j md [] [r]) rest (updX ρ d (.pb r 0)) (setL σ r (.box zs))) (AL P S ops Q md (o :: rest) ρ σ):=⟨fun h=>by
 obtain⟨z,h1,h2⟩:=TI.z' (Tab.chk HasTab.ok hT) hz
 exact q0a (LT.alloc ho h1 h2 hr) h hd hg⟩
end
section
variable {P:Program}[HasTab P]{S:Start}{n:Nat}{ops:Array Oper}{Q:AE→St→Prop}{QP:q3h}{o:Oper}{rest:List Oper}{ρ:AE}{σ:St}{d:Nat}{v:X}{rd:List Nat}{md:Md2}
variable {T e:Nat}{t te:TI}{z:Nat}
theorem BX' {x:Operand}{X1:X}(r:Nat)(ho:o.op = .box T x:=by rfl)(hx:evX ρ x=X1:=by rfl)(hs:q4l (fnOf σ) X1=true:=by rfl)(hr:fnOf σ r = .none:=by rfl)(hd:o.dst=some d:=by rfl)(hg:q3g ops ρ o=some true:=by rfl):Imp (AL P S ops Q (q3j md (q3C X1) [r]) rest (updX ρ d (.pb r 0)) (setL σ r (.box X1.cells))) (AL P S ops Q md (o :: rest) ρ σ):=⟨fun h=>q0a (LT.box ho hx hs hr) h hd hg⟩
end
section
variable {P:Program}[HasTab P]{S:Start}{n:Nat}{ops:Array Oper}{Q:AE→St→Prop}{QP:q3h}{o:Oper}{rest:List Oper}{ρ:AE}{σ:St}{d:Nat}{v:X}{rd:List Nat}{md:Md2}
variable {T e:Nat}{t te:TI}{z:Nat}
theorem SB' {x y:Operand}{Y:X}{r c:Nat}{cs:List X}(ho:o.op = .store T x y:=by rfl)(hT:(HasTab.tab P).get T=some t:=by rfl)(hx:evX ρ x = .pb r c:=by rfl)(hσ:fnOf σ r = .box cs:=by rfl)(hy:evX ρ y=Y:=by rfl)(hl:Y.cells.length=t.sz:=by rfl)(hf:Nat.ble (c+t.sz) cs.length=true:=by rfl)(hs:Y.cells.all (q5j (fnOf σ))=true:=by rfl)(hd:o.dst=none:=by rfl)(hg:q3g ops ρ o=some true:=by rfl):Imp (AL P S ops Q (q3j md (Y.cells.flatMap q3C) [r]) rest ρ (setL σ r (.box (spl cs c Y.cells)))) (AL P S ops Q md (o :: rest) ρ σ):=⟨fun h=>q0u (q1H ho (TI.sz' (Tab.chk HasTab.ok hT)) hx hσ hy hl hf hs) h hd hg⟩
end
section
variable {P:Program}[HasTab P]{S:Start}{n:Nat}{ops:Array Oper}{Q:AE→St→Prop}{QP:q3h}{o:Oper}{rest:List Oper}{ρ:AE}{σ:St}{d:Nat}{v:X}{rd:List Nat}{md:Md2}
variable {T e:Nat}{t te:TI}{z:Nat}
theorem LF' {α:Type}{x:Operand}{m:Md}{f:α→D}{xs:List α}{k:Nat}(ho:o.op = .call { callee:=.builtin .len,args:=#[x],argTypes:=#[T] }:=by rfl)(hT:(HasTab.tab P).get T=some t:=by rfl)(he:t.el=some e:=by rfl)(hx:evX ρ x = .d m (.sl k (xs.map f)):=by rfl)(hd:o.dst=some d:=by rfl)(hg:q3g ops ρ o=some true:=by rfl):Imp (AL P S ops Q (q3j md [] []) rest (updX ρ d (.d .fz (.i .i64 xs.length))) σ) (AL P S ops Q md (o :: rest) ρ σ):=⟨fun h=>q0a (q2j ho (TI.el' (Tab.chk HasTab.ok hT) he) hx (by simp)) h hd hg⟩
end
section
variable {P:Program}[HasTab P]{S:Start}{n:Nat}{ops:Array Oper}{Q:AE→St→Prop}{QP:q3h}{o:Oper}{rest:List Oper}{ρ:AE}{σ:St}{d:Nat}{v:X}{rd:List Nat}{md:Md2}
variable {T e:Nat}{t te:TI}{z:Nat}
theorem LE' {α:Type}{x:Operand}{m:Md}{r:Nat}{f:α→D}{xs:List α}{k:Nat}(ho:o.op = .call { callee:=.builtin .len,args:=#[x],argTypes:=#[T] }:=by rfl)(hT:(HasTab.tab P).get T=some t:=by rfl)(he:t.el=some e:=by rfl)(hx:evX ρ x = .ref r none:=by rfl)(hσ:fnOf σ r = .row m k (xs.map f):=by rfl)(hd:o.dst=some d:=by rfl)(hg:q3g ops ρ o=some true:=by rfl):Imp (AL P S ops Q (q3j md [r] []) rest (updX ρ d (.d .fz (.i .i64 xs.length))) σ) (AL P S ops Q md (o :: rest) ρ σ):=⟨fun h=>q0a (q0T (k:=xs.length) ho (TI.el' (Tab.chk HasTab.ok hT) he) hx (by rw [hσ]; rfl) (by simp)) h hd hg⟩
end
section
variable {P:Program}[HasTab P]{S:Start}{n:Nat}{ops:Array Oper}{Q:AE→St→Prop}{QP:q3h}{o:Oper}{rest:List Oper}{ρ:AE}{σ:St}{d:Nat}{v:X}{rd:List Nat}{md:Md2}
variable {T e:Nat}{t te:TI}{z:Nat}
end
section
variable {P:Program}[HasTab P]{S:Start}{n:Nat}{ops:Array Oper}{Q:AE→St→Prop}{QP:q3h}{o:Oper}{rest:List Oper}{ρ:AE}{σ:St}{d:Nat}{v:X}{rd:List Nat}{md:Md2}
variable {T e:Nat}{t te:TI}{z:Nat}
theorem L0' {α:Type}(r:Nat)(f:α→D)(ho:o.op = .buildSlice T 0 #[]:=by rfl)(hT:(HasTab.tab P).get T=some t:=by rfl)(he:t.el=some e:=by rfl)(hE:(HasTab.tab P).get e=some te:=by rfl)(hr:fnOf σ r = .none:=by rfl)(hd:o.dst=some d:=by rfl)(hg:q3g ops ρ o=some true:=by rfl):Imp (AL P S ops Q (q3j md [] [r]) rest (updX ρ d (.ref r none)) (setL σ r (.row .fz te.sz (([]:List α).map f)))) (AL P S ops Q md (o :: rest) ρ σ):=⟨fun h=>q0a (q2p ho (q3i hT he hE).1 (q3i hT he hE).2 hr) h hd hg⟩
end
section
variable {P:Program}[HasTab P]{S:Start}{n:Nat}{ops:Array Oper}{Q:AE→St→Prop}{QP:q3h}{o:Oper}{rest:List Oper}{ρ:AE}{σ:St}{d:Nat}{v:X}{rd:List Nat}{md:Md2}
variable {T e:Nat}{t te:TI}{z:Nat}
theorem OB' {op:BinOp}{U:Nat}{x y:Operand}{X1 Y1:X}{u1 v1 r1:Value}(z:D)(hB:rngX X1→rngX Y1→Bin P op T u1 v1 r1∧rngD z)(ho:o.op = .binOp op T x y U:=by rfl)(hx:evX ρ x=X1:=by rfl)(hy:evX ρ y=Y1:=by rfl)(hu:cvX X1=some u1:=by rfl)(hv:cvX Y1=some v1:=by rfl)(hz:cv z=some r1:=by rfl)(hd:o.dst=some d:=by rfl)(hg:q3g ops ρ o=some true:=by rfl):Imp (AL P S ops Q (q3j md [] []) rest (updX ρ d (.d .fz z)) σ) (AL P S ops Q md (o :: rest) ρ σ):=⟨fun h=>q0a (q0r ho hx hy hu hv hB hz) h hd hg⟩
end
section
variable {P:Program}{S:Start}{n0 nt:Nat}{Q:q3h}{ρ:AE}{σ:St}{c:Code}
end
section
variable {P:Program}{S:Start}{n0 nt:Nat}{Q:q3h}{ρ:AE}{σ:St}{c:Code}
end
section
end
section
variable {P:Program}[HasTab P]{S:Start}{n:Nat}{ops:Array Oper}{Q:AE→St→Prop}{QP:q3h}{o:Oper}{rest:List Oper}{ρ:AE}{σ:St}{d:Nat}{v:X}{rd:List Nat}{md:Md2}{T e:Nat}{t te:TI}{α:Type}{f:α→D}{xs:List α}{k:Nat}{m m' : Md}
theorem IE' {x i:Operand}{r:Nat}{q:IntKind}{j:Int}{y:α}(hj:xs[j.toNat]? = some y)(h0:0≤j)(ho:o.op = .indexAddr T x i:=by rfl)(hT:(HasTab.tab P).get T=some t:=by rfl)(he:t.el=some e:=by rfl)(hE:(HasTab.tab P).get e=some te:=by rfl)(hx:evX ρ x = .ref r none:=by rfl)(hσ:fnOf σ r = .row m te.sz (xs.map f):=by rfl)(hi:evX ρ i = .d m' (.i q j):=by rfl)(hd:o.dst=some d:=by rfl)(hg:q3g ops ρ o=some true:=by rfl):Imp (AL P S ops Q (q3j md [r] []) rest (updX ρ d (.pe r none j.toNat 0)) σ) (AL P S ops Q md (o :: rest) ρ σ):=⟨fun h=>q0a (q1G ho (q3i hT he hE).1 (q3i hT he hE).2 hx (by rw [hσ]; rfl) hi h0 (q4i (q4i hj))) h hd hg⟩
end
section
variable {P:Program}[HasTab P]{S:Start}{n:Nat}{ops:Array Oper}{Q:AE→St→Prop}{QP:q3h}{o:Oper}{rest:List Oper}{ρ:AE}{σ:St}{d:Nat}{v:X}{rd:List Nat}{md:Md2}{T e:Nat}{t te:TI}{α:Type}{f:α→D}{xs:List α}{k:Nat}{m m' : Md}
theorem IV' {x i:Operand}{r lo nn:Nat}{q:IntKind}{j:Int}{y:α}(hj:xs[lo+j.toNat]? = some y)(h0:0≤j)(hn:j.toNat < nn)(ho:o.op = .indexAddr T x i:=by rfl)(hT:(HasTab.tab P).get T=some t:=by rfl)(he:t.el=some e:=by rfl)(hE:(HasTab.tab P).get e=some te:=by rfl)(hx:evX ρ x = .vs r none lo nn:=by rfl)(hσ:fnOf σ r = .row m te.sz (xs.map f):=by rfl)(hi:evX ρ i = .d m' (.i q j):=by rfl)(hd:o.dst=some d:=by rfl)(hg:q3g ops ρ o=some true:=by rfl):Imp (AL P S ops Q (q3j md [r] []) rest (updX ρ d (.pe r none (lo+j.toNat) 0)) σ) (AL P S ops Q md (o :: rest) ρ σ):=⟨fun h=>q0a (q2Q ho (q3i hT he hE).1 (q3i hT he hE).2 hx (by rw [hσ]; rfl) hi h0 hn (q4i (q4i hj))) h hd hg⟩
end
section
variable {P:Program}[HasTab P]{S:Start}{n:Nat}{ops:Array Oper}{Q:AE→St→Prop}{QP:q3h}{o:Oper}{rest:List Oper}{ρ:AE}{σ:St}{d:Nat}{v:X}{rd:List Nat}{md:Md2}{T e:Nat}{t te:TI}{α:Type}{f:α→D}{xs:List α}{k:Nat}{m m' : Md}
theorem LP' {x:Operand}{r j c:Nat}{y:α}{z:D}(hj:xs[j]? = some y)(ho:o.op = .load T x:=by rfl)(hT:(HasTab.tab P).get T=some t:=by rfl)(ha:t.agg=false:=by rfl)(hx:evX ρ x = .pe r none j c:=by rfl)(hσ:fnOf σ r = .row m k (xs.map f):=by rfl)(hz:(f y).cells[c]? = some z:=by rfl)(hd:o.dst=some d:=by rfl)(hg:q3g ops ρ o=some true:=by rfl):Imp (AL P S ops Q (q3j md [r] []) rest (updX ρ d (dX m z)) σ) (AL P S ops Q md (o :: rest) ρ σ):=⟨fun h=>q0a (q1F (hx':=[]) ho (by rw [TI.agg' (Tab.chk HasTab.ok hT),ha]) hx (by rw [hσ]; rfl) (q4i (q4i hj)) (by rw [elOf,List.getElem?_map,hz]; rfl) (.inl rfl) rfl) h hd hg⟩
end
section
variable {P:Program}[HasTab P]{S:Start}{n:Nat}{ops:Array Oper}{Q:AE→St→Prop}{QP:q3h}{o:Oper}{rest:List Oper}{ρ:AE}{σ:St}{d:Nat}{v:X}{rd:List Nat}{md:Md2}{T e:Nat}{t te:TI}{α:Type}{f:α→D}{xs:List α}{k:Nat}{m m' : Md}
theorem LPa' {x:Operand}{r j c:Nat}{y:α}(hj:xs[j]? = some y)(ho:o.op = .load T x:=by rfl)(hT:(HasTab.tab P).get T=some t:=by rfl)(ha:t.agg=true:=by rfl)(hx:evX ρ x = .pe r none j c:=by rfl)(hσ:fnOf σ r = .row m k (xs.map f):=by rfl)(hl:Nat.beq (((f y).cells.drop c).take t.sz).length t.sz=true:=by rfl)(hd:o.dst=some d:=by rfl)(hg:q3g ops ρ o=some true:=by rfl):Imp (AL P S ops Q (q3j md [r] []) rest (updX ρ d (.ag ((((f y).cells.drop c).take t.sz).map (dX m)))) σ) (AL P S ops Q md (o :: rest) ρ σ):=⟨fun h=>q0a (q0z (hx':=[]) (p:=(k,(xs.map f).map (elOf m))) ho (by rw [TI.agg' (Tab.chk HasTab.ok hT),ha]) (TI.sz' (Tab.chk HasTab.ok hT)) hx (by rw [hσ]; rfl) (q4i (q4i hj)) (by have:=Nat.eq_of_beq_eq_true hl; simpa [elOf] using this) (.inl rfl) (by rw [elOf,← List.map_drop,← List.map_take]; exact q4u)) h hd hg⟩
end
section
variable {P:Program}[HasTab P]{S:Start}{n:Nat}{ops:Array Oper}{Q:AE→St→Prop}{QP:q3h}{o:Oper}{rest:List Oper}{ρ:AE}{σ:St}{d:Nat}{v:X}{rd:List Nat}{md:Md2}{T e:Nat}{t te:TI}{α:Type}{f:α→D}{xs:List α}{k:Nat}{m m' : Md}
theorem SE' {x y:Operand}{Y:X}{r c j:Nat}{x0:α}{ys:List D}(x1:α)(hj:xs[j]? = some x0)(ho:o.op = .store T x y:=by rfl)(hT:(HasTab.tab P).get T=some t:=by rfl)(hx:evX ρ x = .pe r none j c:=by rfl)(hσ:fnOf σ r = .row m k (xs.map f):=by rfl)(hy:evX ρ y=Y:=by rfl)(hY:asCs m Y.cells=some ys:=by rfl)(hd' : (f x1).cells=spl (f x0).cells c ys:=by rfl)(hl:Y.cells.length=t.sz:=by rfl)(hf:Nat.ble (c+t.sz) k=true:=by rfl)(hs:q4l (fnOf σ) Y=true:=by rfl)(hd:o.dst=none:=by rfl)(hg:q3g ops ρ o=some true:=by rfl):Imp (AL P S ops Q (q3j md [] [r]) rest ρ (setL σ r (.row m k ((xs.set j x1).map f)))) (AL P S ops Q md (o :: rest) ρ σ):=⟨fun h=>by
 refine q0u (q2Z ho (TI.sz' (Tab.chk HasTab.ok hT)) hx hσ (q4i hj) hy hY hd' hl hf hs) ?_ hd hg
 show AL P S ops Q _ rest ρ (setL σ r (.row m k ((xs.map f).set j (f x1))))
 rw [← List.map_set]; exact h⟩
end
section
variable {P:Program}[HasTab P]{S:Start}{n:Nat}{ops:Array Oper}{Q:AE→St→Prop}{QP:q3h}{o:Oper}{rest:List Oper}{ρ:AE}{σ:St}{d:Nat}{v:X}{rd:List Nat}{md:Md2}{T e:Nat}{t te:TI}{α:Type}{f:α→D}{xs:List α}{k:Nat}{m m' : Md}
theorem SLH' {x hi:Operand}{m2:Md}{q:IntKind}{b:Int}(h1:0≤b)(h3:b.toNat≤xs.length)(ho:o.op = .slice T x none (some hi) none:=by rfl)(hT:(HasTab.tab P).get T=some t:=by rfl)(he:t.el=some e:=by rfl)(hE:(HasTab.tab P).get e=some te:=by rfl)(hx:evX ρ x = .d m (.sl te.sz (xs.map f)):=by rfl)(hh:evX ρ hi = .d m2 (.i q b):=by rfl)(hd:o.dst=some d:=by rfl)(hg:q3g ops ρ o=some true:=by rfl):Imp (AL P S ops Q (q3j md [] []) rest (updX ρ d (.d m (.sl te.sz ((xs.take b.toNat).map f)))) σ) (AL P S ops Q md (o :: rest) ρ σ):=⟨fun h=>q0a (q2R ho (q3i hT he hE).1 (q3i hT he hE).2 hx hh h1 (by simpa using h3)) (by rw [← List.map_take]; exact h) hd hg⟩
end
section
variable {P:Program}[HasTab P]{S:Start}{n:Nat}{ops:Array Oper}{Q:AE→St→Prop}{QP:q3h}{o:Oper}{rest:List Oper}{ρ:AE}{σ:St}{d:Nat}{v:X}{rd:List Nat}{md:Md2}{T e:Nat}{t te:TI}{α:Type}{f:α→D}{xs:List α}{k:Nat}{m m' : Md}
theorem SLL' {x lo:Operand}{m2:Md}{q:IntKind}{b:Int}(h1:0≤b)(h3:b.toNat≤xs.length)(ho:o.op = .slice T x (some lo) none none:=by rfl)(hT:(HasTab.tab P).get T=some t:=by rfl)(he:t.el=some e:=by rfl)(hE:(HasTab.tab P).get e=some te:=by rfl)(hx:evX ρ x = .d m (.sl te.sz (xs.map f)):=by rfl)(hh:evX ρ lo = .d m2 (.i q b):=by rfl)(hd:o.dst=some d:=by rfl)(hg:q3g ops ρ o=some true:=by rfl):Imp (AL P S ops Q (q3j md [] []) rest (updX ρ d (.d m (.sl te.sz ((xs.drop b.toNat).map f)))) σ) (AL P S ops Q md (o :: rest) ρ σ):=⟨fun h=>q0a (q2S ho (q3i hT he hE).1 (q3i hT he hE).2 hx hh h1 (by simpa using h3)) (by rw [← List.map_drop]; exact h) hd hg⟩
end
section
variable {P:Program}[HasTab P]{S:Start}{n:Nat}{ops:Array Oper}{Q:AE→St→Prop}{QP:q3h}{o:Oper}{rest:List Oper}{ρ:AE}{σ:St}{d:Nat}{v:X}{rd:List Nat}{md:Md2}{T e:Nat}{t te:TI}{α:Type}{f:α→D}{xs:List α}{k:Nat}{m m' : Md}
theorem SVL' {x lo:Operand}{r:Nat}{m2:Md}{q:IntKind}{a:Int}(h0:0≤a)(h3:a.toNat≤xs.length)(ho:o.op = .slice T x (some lo) none none:=by rfl)(hT:(HasTab.tab P).get T=some t:=by rfl)(he:t.el=some e:=by rfl)(hE:(HasTab.tab P).get e=some te:=by rfl)(hx:evX ρ x = .ref r none:=by rfl)(hσ:fnOf σ r = .row m te.sz (xs.map f):=by rfl)(hl:evX ρ lo = .d m2 (.i q a):=by rfl)(hd:o.dst=some d:=by rfl)(hg:q3g ops ρ o=some true:=by rfl):Imp (AL P S ops Q (q3j md [r] []) rest (updX ρ d (.vs r none a.toNat (xs.length - a.toNat))) σ) (AL P S ops Q md (o :: rest) ρ σ):=⟨fun h=>q0a (v:=.vs r none a.toNat (xs.length - a.toNat)) (by
  have:=q2T (P:=P) (S:=S) (lo:=some lo) (hi:=none) (a:=a) (b:=(xs.length:Int)) ho (q3i hT he hE).1 (q3i hT he hE).2 hx (es:=(xs.map f).map (elOf m)) (by rw [hσ]; rfl) ⟨m2,q,hl⟩ ⟨by simp,by simp⟩ h0 (by omega) (by simpa using h3) (by simp)
  simpa using this) h hd hg⟩
end
section
variable {P:Program}[HasTab P]{S:Start}{n:Nat}{ops:Array Oper}{Q:AE→St→Prop}{QP:q3h}{o:Oper}{rest:List Oper}{ρ:AE}{σ:St}{d:Nat}{v:X}{rd:List Nat}{md:Md2}{T e:Nat}{t te:TI}{α:Type}{f:α→D}{xs:List α}{k:Nat}{m m' : Md}
theorem CU' {x hi:Operand}{r:Nat}{m2:Md}{q:IntKind}{b:Int}(r' : Nat)(h1:0≤b)(h3:b.toNat≤xs.length)(ho:o.op = .slice T x none (some hi) none:=by rfl)(hT:(HasTab.tab P).get T=some t:=by rfl)(he:t.el=some e:=by rfl)(hE:(HasTab.tab P).get e=some te:=by rfl)(hr:fnOf σ r' = .none:=by rfl)(hx:evX ρ x = .ref r none:=by rfl)(hσ:fnOf σ r = .row m te.sz (xs.map f):=by rfl)(hh:evX ρ hi = .d m2 (.i q b):=by rfl)(hd:o.dst=some d:=by rfl)(hg:q3g ops ρ o=some true:=by rfl):Imp (AL P S ops Q (q3j md [] [r,r']) rest (updX ρ d (.ref r' none)) (setL (setL σ r .dead) r' (.row m te.sz ((xs.take b.toNat).map f)))) (AL P S ops Q md (o :: rest) ρ σ):=⟨fun h=>q0a (q2t (lo:=none) ho (q3i hT he hE).1 (q3i hT he hE).2 hx hσ hh h1 (by simpa using h3) hr) (by rw [← List.map_take]; exact h) hd hg⟩
end
section
variable {P:Program}[HasTab P]{S:Start}{n:Nat}{ops:Array Oper}{Q:AE→St→Prop}{QP:q3h}{o:Oper}{rest:List Oper}{ρ:AE}{σ:St}{d:Nat}{v:X}{rd:List Nat}{md:Md2}{T e:Nat}{t te:TI}{α:Type}{f:α→D}{xs:List α}{k:Nat}{m m' : Md}
theorem AL.fz' (r:Nat){ds:List D}(hr:fnOf σ r = .row m k ds):Imp (AL P S ops Q (ghM md) rest (fun t=>frX r m k ds (ρ t)) (frS r m k ds 0 σ)) (AL P S ops Q md rest ρ σ):=⟨fun h=>AL.gh (q0s hr) h⟩
end
section
variable {P:Program}[HasTab P]{S:Start}{n:Nat}{ops:Array Oper}{Q:AE→St→Prop}{QP:q3h}{o:Oper}{rest:List Oper}{ρ:AE}{σ:St}{d:Nat}{v:X}{rd:List Nat}{md:Md2}{T e:Nat}{t te:TI}{α:Type}{f:α→D}{xs:List α}{k:Nat}{m m' : Md}
theorem AW.fz' {c:Code}(r:Nat){ds:List D}(hr:fnOf σ r = .row m k ds):Imp (AW P S n c QP (fun t=>frX r m k ds (ρ t)) (frS r m k ds 0 σ)) (AW P S n c QP ρ σ):=⟨fun h=>AW.gh (q0s hr) h⟩
end
section
variable {P:Program}[HasTab P]{S:Start}{n:Nat}{ops:Array Oper}{Q:AE→St→Prop}{QP:q3h}{o:Oper}{rest:List Oper}{ρ:AE}{σ:St}{d:Nat}{v:X}{rd:List Nat}{md:Md2}{T e:Nat}{t te:TI}{α:Type}{f:α→D}{xs:List α}{k:Nat}{m m' : Md}
theorem AL.nlT' (t r:Nat){k' : Nat}(m:Md)(k:Nat)(ht:ρ t = .nl k')(hr:fnOf σ r = .none:=by rfl):Imp (AL P S ops Q (ghM md) rest (updX ρ t (.ref r none)) (setL σ r (.row m k []))) (AL P S ops Q md rest ρ σ):=⟨fun h=>AL.gh (q1J m k ht hr) h⟩
end
section
variable {P:Program}[HasTab P]{S:Start}{n:Nat}{ops:Array Oper}{Q:AE→St→Prop}{QP:q3h}{o:Oper}{rest:List Oper}{ρ:AE}{σ:St}{d:Nat}{v:X}{rd:List Nat}{md:Md2}{T e:Nat}{t te:TI}{α:Type}{f:α→D}{xs:List α}{k:Nat}{m m' : Md}
theorem AW.nlT' {c:Code}(t r:Nat){k' : Nat}(m:Md)(k:Nat)(ht:ρ t = .nl k')(hr:fnOf σ r = .none:=by rfl):Imp (AW P S n c QP (updX ρ t (.ref r none)) (setL σ r (.row m k []))) (AW P S n c QP ρ σ):=⟨fun h=>AW.gh (q1J m k ht hr) h⟩
end
section
variable {P:Program}[HasTab P]{S:Start}{n:Nat}{ops:Array Oper}{Q:AE→St→Prop}{QP:q3h}{o:Oper}{rest:List Oper}{ρ:AE}{σ:St}{d:Nat}{v:X}{rd:List Nat}{md:Md2}{T e:Nat}{t te:TI}{α:Type}{f:α→D}{xs:List α}{k:Nat}{m m' : Md}
theorem AW.nlB' {c' : Code}(q c r:Nat){k' : Nat}{cs:List X}(m:Md)(k:Nat)(hq:fnOf σ q = .box cs)(hc:cs[c]? = some (.nl k'))(hr:fnOf σ r = .none:=by rfl):Imp (AW P S n c' QP ρ (setL (setL σ r (.row m k [])) q (.box (cs.set c (.ref r none))))) (AW P S n c' QP ρ σ):=⟨fun h=>AW.gh (q2X m k hq hc hr) h⟩
end
section
variable {P:Program}{S:Start}{n:Nat}{QP:q3h}{ρ:AE}{σ:St}{c:Operand}{x y:Code}{m:Md}{b:Bool}
end
section
variable {P:Program}{S:Start}{n:Nat}{QP:q3h}{ρ:AE}{σ:St}{c:Operand}{x y:Code}{m:Md}{b:Bool}
end
section
variable {P:Program}[HasTab P]{S:Start}{n:Nat}{ops:Array Oper}{Q:AE→St→Prop}{o:Oper}{l rest:List Oper}{ρ:AE}{σ:St}{d:Nat}{md:Md2}{m:Md}{b:Bool}
theorem VT' {rd:List Nat}(hb:b=true)(hd:o.dst=some d:=by rfl)(hg:q3g ops ρ o=some true:=by rfl)(hv:opV (HasTab.tab P) ρ σ o.op=some (.d m (.b b),rd):=by rfl):Imp (AL P S ops Q (q3j md rd []) rest (updX ρ d (.d .fz (.b true))) σ) (AL P S ops Q md (o :: rest) ρ σ):=⟨fun h=>q0a (wr:=[]) (q0j hb (q0t (P:=P) (S:=S) HasTab.ok hv)) h hd hg⟩
end
section
variable {P:Program}[HasTab P]{S:Start}{n:Nat}{ops:Array Oper}{Q:AE→St→Prop}{o:Oper}{l rest:List Oper}{ρ:AE}{σ:St}{d:Nat}{md:Md2}{m:Md}{b:Bool}
theorem VF' {rd:List Nat}(hb:b=false)(hd:o.dst=some d:=by rfl)(hg:q3g ops ρ o=some true:=by rfl)(hv:opV (HasTab.tab P) ρ σ o.op=some (.d m (.b b),rd):=by rfl):Imp (AL P S ops Q (q3j md rd []) rest (updX ρ d (.d .fz (.b false))) σ) (AL P S ops Q md (o :: rest) ρ σ):=⟨fun h=>q0a (wr:=[]) (q0j hb (q0t (P:=P) (S:=S) HasTab.ok hv)) h hd hg⟩
end
section
variable {P:Program}{S:Start}{n:Nat}{QP:q3h}{ρ:AE}{σ:St}{c:Code}
end
section
variable {P:Program}{S:Start}{n:Nat}{QP:q3h}{ρ:AE}{σ:St}{c:Code}
end
section
variable {P:Program}{S:Start}{n:Nat}{QP:q3h}{ρ:AE}{σ:St}{c:Code}
end
section
variable {P:Program}{S:Start}{n:Nat}{QP:q3h}{ρ:AE}{σ:St}{c:Code}
end
section
variable {P:Program}[HasTab P]{S:Start}{n:Nat}{ops:Array Oper}{Q:AE→St→Prop}{QP:q3h}{o:Oper}{rest:List Oper}{ρ:AE}{σ:St}{d:Nat}{md:Md2}{T e:Nat}{t te:TI}{m:Md}
theorem LS' {x:Operand}{s:ByteArray}(ho:o.op = .call { callee:=.builtin .len,args:=#[x],argTypes:=#[T] }:=by rfl)(hT:(HasTab.tab P).get T=some t:=by rfl)(hx:evX ρ x = .d m (.s s):=by rfl)(hs:t.str=true:=by rfl)(hd:o.dst=some d:=by rfl)(hg:q3g ops ρ o=some true:=by rfl):Imp (AL P S ops Q (q3j md [] []) rest (updX ρ d (.d .fz (.i .i64 s.size))) σ) (AL P S ops Q md (o :: rest) ρ σ):=⟨fun h=>q0a (q0U ho (TI.str' (Tab.chk HasTab.ok hT) hs) hx) h hd hg⟩
end
section
variable {P:Program}[HasTab P]{S:Start}{n:Nat}{ops:Array Oper}{Q:AE→St→Prop}{QP:q3h}{o:Oper}{rest:List Oper}{ρ:AE}{σ:St}{d:Nat}{md:Md2}{T e:Nat}{t te:TI}{m:Md}
theorem LIR' {α:Type}{f:α→D}{xs:List α}{mm:Nat}{parts:Array (Nat × Operand)}{zs:List X}(r:Nat)(ho:o.op = .buildSlice T mm parts:=by rfl)(hT:(HasTab.tab P).get T=some t:=by rfl)(he:t.el=some e:=by rfl)(hE:(HasTab.tab P).get e=some te:=by rfl)(hz:te.z=some zs:=by rfl)(hzl:zs.length=te.sz:=by rfl)(hp:parts.toList.map (·.1)=List.range' 0 parts.toList.length:=by rfl)(hds:asDs m (parts.toList.map fun p=>evX ρ p.2)=some (xs.map f):=by rfl)(hw:(xs.map f).all (fun d=>Nat.beq d.cells.length te.sz)=true:=by rfl)(hn:(xs.map f).length=mm:=by rfl)(hk0:Nat.blt 0 te.sz=true:=by rfl)(hm:Nat.blt 0 mm=true:=by rfl)(hm2:Nat.ble (mm*te.sz) 100000=true:=by rfl)(hr:fnOf σ r = .none:=by rfl)(hd:o.dst=some d:=by rfl)(hg:q3g ops ρ o=some true:=by rfl):Imp (AL P S ops Q (q3j md [] [r]) rest (updX ρ d (.ref r none)) (setL σ r (.row m te.sz (xs.map f)))) (AL P S ops Q md (o :: rest) ρ σ):=⟨fun h=>by
 obtain⟨z,h1,h2⟩:=TI.z' (Tab.chk HasTab.ok hE) hz
 exact q0a (q1I ho (q3i hT he hE).1 (q3i hT he hE).2 h1 (by rw [← hzl,← (h2 (fun _ _=>True) default (fun _=>.none)).len]) (q8H hp) hds hw hn hk0 hm hm2 hr) h hd hg⟩
end
section
variable {P:Program}[HasTab P]{S:Start}{n:Nat}{ops:Array Oper}{Q:AE→St→Prop}{QP:q3h}{o:Oper}{rest:List Oper}{ρ:AE}{σ:St}{d:Nat}{md:Md2}{T e:Nat}{t te:TI}{m:Md}
theorem MKR' {α:Type}{f:α→D}{l c:Operand}{m1 m2:Md}{q q' : IntKind}{j:Int}{zs:List X}{b1:Nat}(r:Nat)(z:α)(h0:0≤j)(hbm:j*(te.by_:Int)≤281474976710656)(hm:j≤9223372036854775807)(ho:o.op = .makeSlice T l c:=by rfl)(hT:(HasTab.tab P).get T=some t:=by rfl)(he:t.el=some e:=by rfl)(hE:(HasTab.tab P).get e=some te:=by rfl)(hz:te.z=some zs:=by rfl)(hb:te.by_=b1+1:=by rfl)(hzl:zs.length=te.sz:=by rfl)(hl:evX ρ l = .d m1 (.i q j):=by rfl)(hc:evX ρ c = .d m2 (.i q' j):=by rfl)(hdz:asCs .fz zs=some (f z).cells:=by rfl)(hr:fnOf σ r = .none:=by rfl)(hd:o.dst=some d:=by rfl)(hg:q3g ops ρ o=some true:=by rfl):Imp (AL P S ops Q (q3j md [] [r]) rest (updX ρ d (.ref r none)) (setL σ r (.row .fz te.sz ((List.replicate j.toNat z).map f)))) (AL P S ops Q md (o :: rest) ρ σ):=⟨fun h=>MK (dd:=f z) r hl hc (f z) hdz h0 hm (by rw [Int.mul_comm]; exact hbm) (by rw [List.map_replicate] at h; exact h) ho hT he hE hz hb hzl hr hd hg⟩
end
section
variable {P:Program}[HasTab P]{S:Start}{n:Nat}{ops:Array Oper}{Q:AE→St→Prop}{o:Oper}{l rest:List Oper}{ρ:AE}{σ:St}{d:Nat}{md:Md2}
end
section
variable {P:Program}[HasTab P]{S:Start}{n:Nat}{ops:Array Oper}{Q:AE→St→Prop}{o:Oper}{l rest:List Oper}{ρ:AE}{σ:St}{d:Nat}{md:Md2}
theorem CB' {f:Nat}{c:Call}{x:Operand}{caps axs args:List X}{pre post:St}{res:X}(ren:List (Nat × Nat))(vw:List Nat)(ok:Ok P f args pre res post)(ho:o.op = .call c:=by rfl)(hc:c.callee = .value x:=by rfl)(hx:evX ρ x = .fn f caps:=by rfl)(hcb:q3E P f=true:=by kernel_rfl)(ha:c.args.toList.map (evX ρ)++caps=axs:=by rfl)(hp:PassL (fnOf σ) ren vw axs args:=by repeat (first | exact .nil | refine .cons ?_ ?_ | exact .same | exact .ag (.cons .same (.cons .same .nil)) | refine .ag ?_ | exact .d rfl | exact .d q4G | exact .nld | exact .nl | exact .rd rfl rfl | exact .vd rfl rfl | exact .pb rfl | exact .ref rfl | refine .fn ?_ | exact .pf rfl | exact .pf q4G | exact .dd (DA (by exact fun _=>rfl) rfl) rfl | exact .u))(hpre:PreL (fnOf σ) (fnOf pre) ren ren:=by repeat (first | exact trivial | refine And.intro rfl ?_))(hchk:q4F ren vw pre post res=true:=by rfl)(hd:o.dst=some d:=by rfl)(hg:q3g ops ρ o=some true:=by rfl):Imp (AL P S ops Q (q3j md vw ((ren.map fun p=>(p.2,q4c ren (fnOf post p.1))).map (·.1))) rest (updX ρ d (renX ren res)) (owrL σ (ren.map fun p=>(p.2,q4c ren (fnOf post p.1))))) (AL P S ops Q md (o :: rest) ρ σ):=⟨fun h=>CA ren vw ok hp h hpre ho hc hx hcb ha hchk hd hg⟩
end
section
theorem endA.gh' {P:Program}{S:Start}{fn:Func}{res:X}{post:St}{e:Exit}{ρ ρ' : AE}{σ σ' : St}(hg:GH S ρ σ ρ' σ'):Imp (endA P S fn res post e ρ' σ') (endA P S fn res post e ρ σ):=⟨fun h=>⟨h.1,fun F g w ρc hs hv=>let ⟨F',g',h1,h2⟩:=hg F g w ρc hs hv; h.2 F' g' w ρc h1 h2⟩⟩
end
section
variable {P:Program}[HasTab P]{S:Start}{n:Nat}{ops:Array Oper}{Q:AE→St→Prop}{QP:q3h}{o:Oper}{rest:List Oper}{ρ:AE}{σ:St}{d:Nat}{v:X}{rd:List Nat}{md:Md2}{T e:Nat}{t te:TI}
theorem SQ' {x y:Operand}{xs ys:List X}{us vs:List Value}{b:Bool}{ks:List FK}{U:Nat}(hx:evX ρ x = .ag xs)(hy:evX ρ y = .ag ys)(hu:cvL xs=some us)(hv:cvL ys=some vs)(hq:Go.E.eqF ks us vs=some b)(ho:o.op = .binOp .eql T x y U:=by rfl)(hT:(HasTab.tab P).get T=some t:=by rfl)(hk:t.fk=some ks:=by rfl)(hd:o.dst=some d:=by rfl)(hg:q3g ops ρ o=some true:=by rfl):Imp (AL P S ops Q (q3j md [] []) rest (updX ρ d (.d .fz (.b b))) σ) (AL P S ops Q md (o :: rest) ρ σ):=⟨fun h=>q0a (q0V (z:=.b b) ho hx hy hu hv (q1j (TI.fk' (Tab.chk HasTab.ok hT) hk) hq) rfl trivial) h hd hg⟩
end
section
variable {P:Program}[HasTab P]{S:Start}{n:Nat}{ops:Array Oper}{Q:AE→St→Prop}{QP:q3h}{o:Oper}{rest:List Oper}{ρ:AE}{σ:St}{d:Nat}{v:X}{rd:List Nat}{md:Md2}{T e:Nat}{t te:TI}
theorem SQn' {x y:Operand}{xs ys:List X}{us vs:List Value}{b:Bool}{ks:List FK}{U:Nat}(hx:evX ρ x = .ag xs)(hy:evX ρ y = .ag ys)(hu:cvL xs=some us)(hv:cvL ys=some vs)(hq:Go.E.eqF ks us vs=some b)(ho:o.op = .binOp .neq T x y U:=by rfl)(hT:(HasTab.tab P).get T=some t:=by rfl)(hk:t.fk=some ks:=by rfl)(hd:o.dst=some d:=by rfl)(hg:q3g ops ρ o=some true:=by rfl):Imp (AL P S ops Q (q3j md [] []) rest (updX ρ d (.d .fz (.b (!b)))) σ) (AL P S ops Q md (o :: rest) ρ σ):=⟨fun h=>q0a (q0V (z:=.b (!b)) ho hx hy hu hv (q1k (TI.fk' (Tab.chk HasTab.ok hT) hk) hq) rfl trivial) h hd hg⟩
end
section
variable {P:Program}[HasTab P]{S:Start}{n:Nat}{ops:Array Oper}{Q:AE→St→Prop}{QP:q3h}{o:Oper}{rest:List Oper}{ρ:AE}{σ:St}{d:Nat}{v:X}{rd:List Nat}{md:Md2}{T e:Nat}{t te:TI}
theorem BQ' {x y:Operand}{a b:Bool}{m m' : Md}{U:Nat}(hx:evX ρ x = .d m (.b a))(hy:evX ρ y = .d m' (.b b))(ho:o.op = .binOp .eql T x y U:=by rfl)(hT:P.underlying T=some .bool:=by kernel_rfl)(hd:o.dst=some d:=by rfl)(hg:q3g ops ρ o=some true:=by rfl):Imp (AL P S ops Q (q3j md [] []) rest (updX ρ d (.d .fz (.b (decide (a=b))))) σ) (AL P S ops Q md (o :: rest) ρ σ):=⟨fun h=>q0a (q0r (z:=.b (decide (a=b))) ho hx hy rfl rfl (fun _ _=>⟨q0Q hT,trivial⟩) rfl) h hd hg⟩
end
section
variable {P:Program}[HasTab P]{S:Start}{n:Nat}{ops:Array Oper}{Q:AE→St→Prop}{QP:q3h}{o:Oper}{rest:List Oper}{ρ:AE}{σ:St}{d:Nat}{v:X}{rd:List Nat}{md:Md2}{T e:Nat}{t te:TI}
theorem BQn' {x y:Operand}{a b:Bool}{m m' : Md}{U:Nat}(hx:evX ρ x = .d m (.b a))(hy:evX ρ y = .d m' (.b b))(ho:o.op = .binOp .neq T x y U:=by rfl)(hT:P.underlying T=some .bool:=by kernel_rfl)(hd:o.dst=some d:=by rfl)(hg:q3g ops ρ o=some true:=by rfl):Imp (AL P S ops Q (q3j md [] []) rest (updX ρ d (.d .fz (.b (!decide (a=b))))) σ) (AL P S ops Q md (o :: rest) ρ σ):=⟨fun h=>q0a (q0r (z:=.b (!decide (a=b))) ho hx hy rfl rfl (fun _ _=>⟨q0R hT,trivial⟩) rfl) h hd hg⟩
end
section
variable {P:Program}[HasTab P]{S:Start}{n:Nat}{ops:Array Oper}{Q:AE→St→Prop}{QP:q3h}{o:Oper}{rest:List Oper}{ρ:AE}{σ:St}{d:Nat}{v:X}{rd:List Nat}{md:Md2}{T e:Nat}{t te:TI}
theorem CUB' {U:Nat}{tu:TI}{x:Operand}{m:Md}{b:UInt8}(hx:evX ρ x = .d m (.i .u8 (b.toNat:Int)))(ho:o.op = .convert U T x:=by rfl)(hT:(HasTab.tab P).get T=some t:=by rfl)(hk:t.ik=some .i64:=by rfl)(hU:(HasTab.tab P).get U=some tu:=by rfl)(hk2:tu.ik=some .u8:=by rfl)(hd:o.dst=some d:=by rfl)(hg:q3g ops ρ o=some true:=by rfl):Imp (AL P S ops Q (q3j md [] []) rest (updX ρ d (.d .fz (.i .i64 (b.toNat:Int)))) σ) (AL P S ops Q md (o :: rest) ρ σ):=⟨fun h=>q0a (q0I (z:=.i .i64 (b.toNat:Int)) (x:=x) (by simp [ho,Op.operands]) hx rfl (fun _=>⟨fun ρc w hv=>q1y ho (q4V (TI.ik' (Tab.chk HasTab.ok hU) hk2)) (TI.ik' (Tab.chk HasTab.ok hT) hk) hv,q9Y b⟩) rfl) h hd hg⟩
end
section
variable {P:Program}[HasTab P]{S:Start}{n:Nat}{ops:Array Oper}{Q:AE→St→Prop}{QP:q3h}{o:Oper}{rest:List Oper}{ρ:AE}{σ:St}{d:Nat}{v:X}{rd:List Nat}{md:Md2}{T e:Nat}{t te:TI}
theorem CIU' {U:Nat}{tu:TI}{x:Operand}{m:Md}{a:Int}{q:IntKind}(h0:0≤a)(hx:evX ρ x = .d m (.i .i64 a))(ho:o.op = .convert U T x:=by rfl)(hT:(HasTab.tab P).get T=some t:=by rfl)(hk:t.ik=some .u64:=by rfl)(hU:(HasTab.tab P).get U=some tu:=by rfl)(hk2:tu.ik=some q:=by rfl)(hd:o.dst=some d:=by rfl)(hg:q3g ops ρ o=some true:=by rfl):Imp (AL P S ops Q (q3j md [] []) rest (updX ρ d (.d .fz (.i .u64 a))) σ) (AL P S ops Q md (o :: rest) ρ σ):=⟨fun h=>q0a (q0I (z:=.i .u64 a) (x:=x) (by simp [ho,Op.operands]) hx rfl (fun hr=>⟨fun ρc w hv=>q0S ho (q4V (TI.ik' (Tab.chk HasTab.ok hU) hk2)) (TI.ik' (Tab.chk HasTab.ok hT) hk) hv h0 hr.2,trivial⟩) rfl) h hd hg⟩
end
section
variable {P:Program}[HasTab P]{S:Start}{n:Nat}{ops:Array Oper}{Q:AE→St→Prop}{QP:q3h}{o:Oper}{rest:List Oper}{ρ:AE}{σ:St}{d:Nat}{v:X}{rd:List Nat}{md:Md2}{T e:Nat}{t te:TI}
theorem CIB' {U:Nat}{tu:TI}{x:Operand}{m:Md}{a:Int}{q p:IntKind}(hx:evX ρ x = .d m (.i p a))(ho:o.op = .convert U T x:=by rfl)(hT:(HasTab.tab P).get T=some t:=by rfl)(hk:t.ik=some .u8:=by rfl)(hU:(HasTab.tab P).get U=some tu:=by rfl)(hk2:tu.ik=some q:=by rfl)(hd:o.dst=some d:=by rfl)(hg:q3g ops ρ o=some true:=by rfl):Imp (AL P S ops Q (q3j md [] []) rest (updX ρ d (.d .fz (.i .u8 ((UInt8.ofNat (a % 256).toNat).toNat:Int)))) σ) (AL P S ops Q md (o :: rest) ρ σ):=⟨fun h=>q0a (q0I (z:=.i .u8 ((UInt8.ofNat (a % 256).toNat).toNat:Int)) (x:=x) (by simp [ho,Op.operands]) hx rfl (fun _=>⟨fun ρc w hv=>q0v ho (q4V (TI.ik' (Tab.chk HasTab.ok hU) hk2)) (TI.ik' (Tab.chk HasTab.ok hT) hk) hv,⟨by omega,by have:=(UInt8.ofNat (a % 256).toNat).toNat_lt; omega⟩⟩) rfl) h hd hg⟩
end
section
variable {P:Program}[HasTab P]{S:Start}{n:Nat}{ops:Array Oper}{Q:AE→St→Prop}{QP:q3h}{o:Oper}{rest:List Oper}{ρ:AE}{σ:St}{d:Nat}{v:X}{rd:List Nat}{md:Md2}{T e:Nat}{t te:TI}
theorem SI' {x i:Operand}{m m' : Md}{s:ByteArray}{q:IntKind}{j:Int}{b:UInt8}(hx:evX ρ x = .d m (.s s))(hi:evX ρ i = .d m' (.i q j))(h0:0≤j)(hb:s.data[j.toNat]? = some b)(ho:o.op = .index T x i:=by rfl)(hT:(HasTab.tab P).get T=some t:=by rfl)(hs:t.str=true:=by rfl)(hd:o.dst=some d:=by rfl)(hg:q3g ops ρ o=some true:=by rfl):Imp (AL P S ops Q (q3j md [] []) rest (updX ρ d (.d .fz (.i .u8 (b.toNat:Int)))) σ) (AL P S ops Q md (o :: rest) ρ σ):=⟨fun h=>q0a (q3c ho (TI.str' (Tab.chk HasTab.ok hT) hs) hx hi h0 hb) h hd hg⟩
end
section
variable {P:Program}[HasTab P]{S:Start}{n:Nat}{ops:Array Oper}{Q:AE→St→Prop}{QP:q3h}{o:Oper}{rest:List Oper}{ρ:AE}{σ:St}{d:Nat}{v:X}{rd:List Nat}{md:Md2}{T e:Nat}{t te:TI}
theorem TS' {U e:Nat}{tu te:TI}{x:Operand}{r:Nat}{m:Md}{b:UInt8}(hx:evX ρ x = .ref r none)(hσ:fnOf σ r = .row m 1 [.i .u8 (b.toNat:Int)])(ho:o.op = .convert U T x:=by rfl)(hT:(HasTab.tab P).get T=some t:=by rfl)(hs:t.str=true:=by rfl)(hU:(HasTab.tab P).get U=some tu:=by rfl)(he:tu.el=some e:=by rfl)(hE:(HasTab.tab P).get e=some te:=by rfl)(hk:te.ik=some .u8:=by rfl)(hd:o.dst=some d:=by rfl)(hg:q3g ops ρ o=some true:=by rfl):Imp (AL P S ops Q (q3j md [r] []) rest (updX ρ d (.d .fz (.s ⟨#[b]⟩))) σ) (AL P S ops Q md (o :: rest) ρ σ):=⟨fun h=>q0a (q0Z ho (TI.el' (Tab.chk HasTab.ok hU) he) (TI.ik' (Tab.chk HasTab.ok hE) hk) (TI.str' (Tab.chk HasTab.ok hT) hs) hx hσ) h hd hg⟩
end
section
variable {P:Program}[HasTab P]{S:Start}{n:Nat}{ops:Array Oper}{Q:AE→St→Prop}{QP:q3h}{o:Oper}{rest:List Oper}{ρ:AE}{σ:St}{d:Nat}{v:X}{rd:List Nat}{md:Md2}{T e:Nat}{t te:TI}
theorem MXI' {T1 T2:Nat}{x y:Operand}{a b:Int}{m m' : Md}(hx:evX ρ x = .d m (.i .i64 a))(hy:evX ρ y = .d m' (.i .i64 b))(ho:o.op = .call { callee:=.builtin .max,args:=#[x,y],argTypes:=#[T1,T2] }:=by rfl)(hd:o.dst=some d:=by rfl)(hg:q3g ops ρ o=some true:=by rfl):Imp (AL P S ops Q (q3j md [] []) rest (updX ρ d (.d .fz (.i .i64 (if b > a then b else a)))) σ) (AL P S ops Q md (o :: rest) ρ σ):=⟨fun h=>q0a (LT.mx ho hx hy) h hd hg⟩
end
section
variable {P:Program}[HasTab P]{S:Start}{n:Nat}{ops:Array Oper}{Q:AE→St→Prop}{QP:q3h}{o:Oper}{rest:List Oper}{ρ:AE}{σ:St}{d:Nat}{v:X}{rd:List Nat}{md:Md2}{T e:Nat}{t te:TI}
theorem MNI' {T1 T2:Nat}{x y:Operand}{a b:Int}{m m' : Md}(hx:evX ρ x = .d m (.i .i64 a))(hy:evX ρ y = .d m' (.i .i64 b))(ho:o.op = .call { callee:=.builtin .min,args:=#[x,y],argTypes:=#[T1,T2] }:=by rfl)(hd:o.dst=some d:=by rfl)(hg:q3g ops ρ o=some true:=by rfl):Imp (AL P S ops Q (q3j md [] []) rest (updX ρ d (.d .fz (.i .i64 (if b < a then b else a)))) σ) (AL P S ops Q md (o :: rest) ρ σ):=⟨fun h=>q0a (LT.mn ho hx hy) h hd hg⟩
end
section
variable {P:Program}{S:Start}{n:Nat}{QP:q3h}{ρ:AE}{σ:St}
theorem AW.mv' {c:Code}(i j:Nat){k:Nat}{m:Md}{xs:List D}(hi:fnOf σ i = .row m k xs)(hj:fnOf σ j = .none:=by rfl):Imp (AW P S n c QP (fun t=>mvX i j (ρ t)) (setL (mvL i j 0 σ) j (.row m k xs))) (AW P S n c QP ρ σ):=⟨fun h=>AW.gh (GH.mv hi hj) h⟩
end
section
variable {P:Program}[HasTab P]{S:Start}{n:Nat}{ops:Array Oper}{Q:AE→St→Prop}{o:Oper}{l rest:List Oper}{ρ:AE}{σ:St}{d:Nat}{md:Md2}
end
section
variable {P:Program}[HasTab P]{S:Start}{ops:Array Oper}{Q:AE→St→Prop}{o:Oper}{rest:List Oper}{ρ:AE}{σ:St}{d:Nat}{md:Md2}{T e:Nat}{t te:TI}
theorem APf' {α:Type}{s x:Operand}{X1:X}{m' m0:Md}{f:α→D}{xs ys:List α}{zs:List X}{r b1:Nat}(r' : Nat)(hflat:∀ y,q6T (f y)=true)(hmax:((xs.length:Int)+(ys.length:Int))*te.by_≤140737488355328∧(xs.length:Int)+(ys.length:Int)≤9223372036854775807)(ho:o.op = .call { callee:=.builtin .append,args:=#[s,x],argTypes:=#[T,T] }:=by rfl)(hT:(HasTab.tab P).get T=some t:=by rfl)(he:t.el=some e:=by rfl)(hE:(HasTab.tab P).get e=some te:=by rfl)(hs:evX ρ s = .ref r none:=by rfl)(hx:evX ρ x=X1:=by rfl)(hsrc:srcD (fnOf σ) X1=some (m',te.sz,ys.map f):=by rfl)(hσ:fnOf σ r = .row m0 te.sz (xs.map f):=by rfl)(hz:te.z=some zs:=by rfl)(hb:te.by_=b1+1:=by rfl)(hzl:zs.length=te.sz:=by rfl)(hk0:Nat.blt 0 te.sz=true:=by rfl)(hr:fnOf σ r' = .none:=by rfl)(hd:o.dst=some d:=by rfl)(hg:q3g ops ρ o=some true:=by rfl):Imp (AL P S ops Q (q3j md (q3C X1) [r,r']) rest (updX ρ d (.ref r' none)) (setL (setL σ r .dead) r' (.row .fz te.sz ((xs++ys).map f)))) (AL P S ops Q md (o :: rest) ρ σ):=⟨fun h=>by
 obtain⟨z,h1,h2⟩:=TI.z' (Tab.chk HasTab.ok hE) hz
 refine q0a (wr:=[(r,.dead),(r',.row .fz te.sz ((xs++ys).map f))]) (LT.alt (q0W (r':=r') (m:=.bo) ho (q3i hT he hE).1 (q3i hT he hE).2 (TI.by' (Tab.chk HasTab.ok hE) hb) h1 (by rw [← hzl,← (h2 (fun _ _=>True) default (fun _=>.none)).len]) hk0 hs hσ hx hsrc q3S q3S ?_ ?_ hr) rfl fun σ1 S1 w g i hi=>?_) h hd hg
 ·simp only [List.length_map]
  have:=hmax.1
  rw [← Int.natCast_add,← Int.natCast_mul] at this
  omega
 ·simp only [List.length_map]
  show _≤9223372036854775807
  have:=hmax.2
  omega
 ·revert hi
  simp only [owr]
  split
  ·intro hi
   rw [← List.map_append] at hi
   exact q5N (fun x hx=>by obtain⟨y,_,rfl⟩:=List.mem_map.1 hx; exact hflat y) hi
  ·exact id⟩
end
section
variable {P:Program}[HasTab P]{S:Start}{ops:Array Oper}{Q:AE→St→Prop}{o:Oper}{rest:List Oper}{ρ:AE}{σ:St}{d:Nat}{md:Md2}{T e:Nat}{t te:TI}
theorem z0K {α:Type}{s x:Operand}{X1:X}{m' m0:Md}{f:α→D}{xs:List α}{y:α}{zs:List X}{r b1:Nat}(r' : Nat)(hflat:∀ y,q6T (f y)=true)(B:Nat)(hmax:((xs.length:Int)+1)*(B:Int)≤140737488355328∧(xs.length:Int)+1≤9223372036854775807)(ho:o.op = .call { callee:=.builtin .append,args:=#[s,x],argTypes:=#[T,T] }:=by rfl)(hT:(HasTab.tab P).get T=some t:=by rfl)(he:t.el=some e:=by rfl)(hE:(HasTab.tab P).get e=some te:=by rfl)(hs:evX ρ s = .ref r none:=by rfl)(hx:evX ρ x=X1:=by rfl)(hsrc:srcD (fnOf σ) X1=some (m',te.sz,[y].map f):=by rfl)(hσ:fnOf σ r = .row m0 te.sz (xs.map f):=by rfl)(hz:te.z=some zs:=by rfl)(hb:te.by_=b1+1:=by rfl)(hzl:zs.length=te.sz:=by rfl)(hk0:Nat.blt 0 te.sz=true:=by rfl)(hr:fnOf σ r' = .none:=by rfl)(hB:te.by_=B:=by rfl)(hd:o.dst=some d:=by rfl)(hg:q3g ops ρ o=some true:=by rfl):Imp (AL P S ops Q (q3j md (q3C X1) [r,r']) rest (updX ρ d (.ref r' none)) (setL (setL σ r .dead) r' (.row .fz te.sz ((xs++[y]).map f)))) (AL P S ops Q md (o :: rest) ρ σ):=⟨fun h=>APf r' hflat (by rw [hB]; exact hmax) h ho hT he hE hs hx hsrc hσ hz hb hzl hk0 hr hd hg⟩
end
section
variable {P:Program}[HasTab P]{S:Start}{ops:Array Oper}{Q:AE→St→Prop}{o:Oper}{rest:List Oper}{ρ:AE}{σ:St}{d:Nat}{md:Md2}{T e:Nat}{t te:TI}
theorem AP1' {α:Type}{s x:Operand}{X1:X}{m' m0:Md}{f:α→D}{xs:List α}{y:α}{zs:List X}{r b1:Nat}(r' : Nat)(m:Md)(B:Nat)(hmax:((xs.length:Int)+1)*(B:Int)≤140737488355328∧(xs.length:Int)+1≤9223372036854775807)(ho:o.op = .call { callee:=.builtin .append,args:=#[s,x],argTypes:=#[T,T] }:=by rfl)(hT:(HasTab.tab P).get T=some t:=by rfl)(he:t.el=some e:=by rfl)(hE:(HasTab.tab P).get e=some te:=by rfl)(hs:evX ρ s = .ref r none:=by rfl)(hx:evX ρ x=X1:=by rfl)(hsrc:srcD (fnOf σ) X1=some (m',te.sz,[y].map f):=by rfl)(hσ:fnOf σ r = .row m0 te.sz (xs.map f):=by rfl)(hz:te.z=some zs:=by rfl)(hb:te.by_=b1+1:=by rfl)(hzl:zs.length=te.sz:=by rfl)(hk0:Nat.blt 0 te.sz=true:=by rfl)(hm:mle m' m=true:=by first | rfl | exact q4d | exact q3S)(hm0:mle m0 m=true:=by first | rfl | exact q4d | exact q3S)(hr:fnOf σ r' = .none:=by rfl)(hB:te.by_=B:=by rfl)(hd:o.dst=some d:=by rfl)(hg:q3g ops ρ o=some true:=by rfl):Imp (AL P S ops Q (q3j md (q3C X1) [r,r']) rest (updX ρ d (.ref r' none)) (setL (setL σ r .dead) r' (.row m te.sz ((xs++[y]).map f)))) (AL P S ops Q md (o :: rest) ρ σ):=⟨fun h=>AP r' m (by rw [hB]; exact hmax) h ho hT he hE hs hx hsrc hσ hz hb hzl hk0 hm hm0 hr hd hg⟩
end
section
variable {P:Program}[HasTab P]{S:Start}{ops:Array Oper}{Q:AE→St→Prop}{o:Oper}{rest:List Oper}{ρ:AE}{σ:St}{d:Nat}{md:Md2}{T e:Nat}{t te:TI}
theorem IFq' {α:Type}{x i:Operand}{m m' : Md}{f:α→D}{xs:List α}{q:IntKind}{j:Int}{y:α}{cs:List D}(h0:0≤j)(hj:xs[j.toNat]? = some y)(hc:(f y).cells=cs)(ho:o.op = .indexAddr T x i:=by rfl)(hT:(HasTab.tab P).get T=some t:=by rfl)(he:t.el=some e:=by rfl)(hE:(HasTab.tab P).get e=some te:=by rfl)(hx:evX ρ x = .d m (.sl te.sz (xs.map f)):=by rfl)(hi:evX ρ i = .d m' (.i q j):=by rfl)(hd:o.dst=some d:=by rfl)(hg:q3g ops ρ o=some true:=by rfl):Imp (AL P S ops Q (q3j md [] []) rest (updX ρ d (.pf m cs)) σ) (AL P S ops Q md (o :: rest) ρ σ):=⟨fun h=>by
 subst hc; exact IF h0 hj h ho hT he hE hx hi hd hg⟩
end
section
variable {P:Program}[HasTab P]{S:Start}{ops:Array Oper}{Q:AE→St→Prop}{o:Oper}{rest:List Oper}{ρ:AE}{σ:St}{d:Nat}{md:Md2}{T e:Nat}{t te:TI}
theorem z0L {α:Type}{x:Operand}{m:Md}{k:Nat}{f:α→D}{xs:List α}{r j c:Nat}{y:α}{cs:List D}(hj:xs[j]? = some y)(hc:(f y).cells=cs)(ho:o.op = .load T x:=by rfl)(hT:(HasTab.tab P).get T=some t:=by rfl)(ha:t.agg=true:=by rfl)(hx:evX ρ x = .pe r none j c:=by rfl)(hσ:fnOf σ r = .row m k (xs.map f):=by rfl)(hl:Nat.beq ((cs.drop c).take t.sz).length t.sz=true:=by rfl)(hd:o.dst=some d:=by rfl)(hg:q3g ops ρ o=some true:=by rfl):Imp (AL P S ops Q (q3j md [r] []) rest (updX ρ d (.ag (((cs.drop c).take t.sz).map (dX m)))) σ) (AL P S ops Q md (o :: rest) ρ σ):=⟨fun h=>by
 subst hc; exact LPa hj h ho hT ha hx hσ hl hd hg⟩
end
section
variable {P:Program}[HasTab P]{S:Start}{ops:Array Oper}{Q:AE→St→Prop}{o:Oper}{rest:List Oper}{ρ:AE}{σ:St}{d:Nat}{md:Md2}{T e:Nat}{t te:TI}
theorem z0M {α:Type}{m:Md}{f:α→D}{ds:List D}{mm:Nat}{parts:Array (Nat × Operand)}{zs:List X}(r:Nat)(xs:List α)(hf:xs.map f=ds)(ho:o.op = .buildSlice T mm parts:=by rfl)(hT:(HasTab.tab P).get T=some t:=by rfl)(he:t.el=some e:=by rfl)(hE:(HasTab.tab P).get e=some te:=by rfl)(hz:te.z=some zs:=by rfl)(hzl:zs.length=te.sz:=by rfl)(hp:parts.toList.map (·.1)=List.range' 0 parts.toList.length:=by rfl)(hds:toEs (parts.toList.map fun p=>evX ρ p.2)=some ds:=by rfl)(hle:leEs m (parts.toList.map fun p=>evX ρ p.2):=by repeat (first | exact trivial | refine And.intro ?_ ?_ | exact .inl rfl | exact .inr rfl | exact .inr q4d | exact .inr q3S))(hw:ds.all (fun d=>Nat.beq d.cells.length te.sz)=true:=by rfl)(hn:ds.length=mm:=by rfl)(hk0:Nat.blt 0 te.sz=true:=by rfl)(hm:Nat.blt 0 mm=true:=by rfl)(hm2:Nat.ble (mm*te.sz) 100000=true:=by rfl)(hr:fnOf σ r = .none:=by rfl)(hd:o.dst=some d:=by rfl)(hg:q3g ops ρ o=some true:=by rfl):Imp (AL P S ops Q (q3j md [] [r]) rest (updX ρ d (.ref r none)) (setL σ r (.row m te.sz (xs.map f)))) (AL P S ops Q md (o :: rest) ρ σ):=⟨fun h=>by
 subst hf; exact LIR r h ho hT he hE hz hzl hp (q8J hds hle) hw hn hk0 hm hm2 hr hd hg⟩
end
section
variable {P:Program}[HasTab P]{S:Start}{ops:Array Oper}{Q:AE→St→Prop}{o:Oper}{rest:List Oper}{ρ:AE}{σ:St}{d:Nat}{md:Md2}{T e:Nat}{t te:TI}
theorem z0N {α:Type}{m:Md}{f:α→D}{ds:List D}{mm:Nat}{parts:Array (Nat × Operand)}{zs:List X}(r:Nat)(xs:List α)(hf:xs.map f=ds)(ho:o.op = .buildSlice T mm parts:=by rfl)(hT:(HasTab.tab P).get T=some t:=by rfl)(he:t.el=some e:=by rfl)(hE:(HasTab.tab P).get e=some te:=by rfl)(hz:te.z=some zs:=by rfl)(hzl:zs.length=te.sz:=by rfl)(hp:parts.toList.map (·.1)=List.range' 0 parts.toList.length:=by rfl)(hds:asDs m (parts.toList.map fun p=>evX ρ p.2)=some ds:=by rfl)(hw:ds.all (fun d=>Nat.beq d.cells.length te.sz)=true:=by rfl)(hn:ds.length=mm:=by rfl)(hk0:Nat.blt 0 te.sz=true:=by rfl)(hm:Nat.blt 0 mm=true:=by rfl)(hm2:Nat.ble (mm*te.sz) 100000=true:=by rfl)(hr:fnOf σ r = .none:=by rfl)(hd:o.dst=some d:=by rfl)(hg:q3g ops ρ o=some true:=by rfl):Imp (AL P S ops Q (q3j md [] [r]) rest (updX ρ d (.ref r none)) (setL σ r (.row m te.sz (xs.map f)))) (AL P S ops Q md (o :: rest) ρ σ):=⟨fun h=>by
 subst hf; exact LIR r h ho hT he hE hz hzl hp hds hw hn hk0 hm hm2 hr hd hg⟩
end
section
variable {P:Program}[HasTab P]{S:Start}{ops:Array Oper}{Q:AE→St→Prop}{o:Oper}{rest:List Oper}{ρ:AE}{σ:St}{d:Nat}{md:Md2}{T e:Nat}{t te:TI}
theorem LV' {x:Operand}{r lo kk:Nat}{p:Nat × List (List Cell)}(L:Nat)(ho:o.op = .call { callee:=.builtin .len,args:=#[x],argTypes:=#[T] }:=by rfl)(hT:(HasTab.tab P).get T=some t:=by rfl)(he:t.el=some e:=by rfl)(hx:evX ρ x = .vs r none lo kk:=by rfl)(hσ:esAt (fnOf σ r) none=some p:=by rfl)(hL:kk=L:=by first | rfl | simp only [List.length_drop,List.length_set])(hd:o.dst=some d:=by rfl)(hg:q3g ops ρ o=some true:=by rfl):Imp (AL P S ops Q (q3j md [r] []) rest (updX ρ d (.d .fz (.i .i64 (L:Int)))) σ) (AL P S ops Q md (o :: rest) ρ σ):=⟨fun h=>by
 subst hL; exact q0a (q2k ho (TI.el' (Tab.chk HasTab.ok hT) he) hx hσ) h hd hg⟩
end
section
variable {P:Program}[HasTab P]{S:Start}{ops:Array Oper}{Q:AE→St→Prop}{o:Oper}{rest:List Oper}{ρ:AE}{σ:St}{d:Nat}{md:Md2}{T e:Nat}{t te:TI}
theorem CLR' {α:Type}{f:α→D}{xs:List α}{x:Operand}{r lo:Nat}{m:Md}{zs:List X}(z0:α)(hlo:lo≤xs.length)(ho:o.op = .call { callee:=.builtin .clear,args:=#[x],argTypes:=#[T] }:=by rfl)(hT:(HasTab.tab P).get T=some t:=by rfl)(he:t.el=some e:=by rfl)(hE:(HasTab.tab P).get e=some te:=by rfl)(hz:te.z=some zs:=by rfl)(hzl:zs.length=te.sz:=by rfl)(hx:evX ρ x = .vs r none lo (xs.length - lo):=by rfl)(hσ:fnOf σ r = .row m te.sz (xs.map f):=by rfl)(hzd:asCs .fz zs=some (f z0).cells:=by rfl)(hd:o.dst=none:=by rfl)(hg:q3g ops ρ o=some true:=by rfl):Imp (AL P S ops Q (q3j md [] [r]) rest ρ (setL σ r (.row m te.sz ((xs.take lo++List.replicate (xs.length - lo) z0).map f)))) (AL P S ops Q md (o :: rest) ρ σ):=⟨fun h=>by
 obtain⟨z,h1,h2⟩:=TI.z' (Tab.chk HasTab.ok hE) hz
 have hzl' : z.length=te.sz:=by rw [← hzl,← (h2 (fun _ _=>True) default (fun _=>.none)).len]
 have hrd:∀ (S1:Nat→Prop) (w:World),rd1 S1 w (f z0) z:=fun S1 w=>by
  have:=q5A (F:=S1) (B:=fun _=>False) hzd (h2 (SM S1 fun _=>False) w (fun _=>.none))
  exact this
 refine q0u (q3d ho (q3i hT he hE).1 (q3i hT he hE).2 h1 hrd hzl' hx hσ (by simpa using hlo) (by simp)) ?_ hd hg
 simp only [List.length_map]
 rw [List.map_append,List.map_replicate,List.map_take] at h
 exact h⟩
end
section
variable {P:Program}[HasTab P]{S:Start}{n:Nat}{ops:Array Oper}{Q:AE→St→Prop}{QP:q3h}{o:Oper}{rest:List Oper}{ρ:AE}{σ:St}{d:Nat}{md:Md2}{T e:Nat}{t te:TI}{k:Nat}{m:Md}{es:List (List Cell)}{hh:List (Nat × Nat × Nat)}
theorem IEd' {x i:Operand}{r:Nat}{m' : Md}{q:IntKind}{j:Int}{y:List Cell}(h0:0≤j)(hj:es[j.toNat]? = some y)(ho:o.op = .indexAddr T x i:=by rfl)(hT:(HasTab.tab P).get T=some t:=by rfl)(he:t.el=some e:=by rfl)(hE:(HasTab.tab P).get e=some te:=by rfl)(hx:evX ρ x = .ref r none:=by rfl)(hσ:fnOf σ r = .deep m te.sz es hh:=by rfl)(hi:evX ρ i = .d m' (.i q j):=by rfl)(hd:o.dst=some d:=by rfl)(hg:q3g ops ρ o=some true:=by rfl):Imp (AL P S ops Q (q3j md [r] []) rest (updX ρ d (.pe r none j.toNat 0)) σ) (AL P S ops Q md (o :: rest) ρ σ):=⟨fun h=>q0a (q1G ho (q3i hT he hE).1 (q3i hT he hE).2 hx (by rw [hσ]; rfl) hi h0 hj) h hd hg⟩
end
section
variable {P:Program}[HasTab P]{S:Start}{n:Nat}{ops:Array Oper}{Q:AE→St→Prop}{QP:q3h}{o:Oper}{rest:List Oper}{ρ:AE}{σ:St}{d:Nat}{md:Md2}{T e:Nat}{t te:TI}{k:Nat}{m:Md}{es:List (List Cell)}{hh:List (Nat × Nat × Nat)}
theorem AL.out' (r j c q:Nat){el:List Cell}{cell:Cell}{x:Root}(hj:es[j]? = some el)(hσ:fnOf σ r = .deep m k es hh:=by rfl)(hc:el[c]? = some cell:=by rfl)(hx:OC cell x:=by exact .row)(hq:fnOf σ q = .none:=by rfl):Imp (AL P S ops Q (ghM md) rest ρ (setL (setL σ r (.deep m k (es.set j (spl el c [.u])) ((j,c,q) :: hh))) q x)) (AL P S ops Q md rest ρ σ):=⟨fun h=>AL.gh (GH.out hσ hj hc hx hq) h⟩
end
section
variable {P:Program}[HasTab P]{S:Start}{n:Nat}{ops:Array Oper}{Q:AE→St→Prop}{QP:q3h}{o:Oper}{rest:List Oper}{ρ:AE}{σ:St}{d:Nat}{md:Md2}{T e:Nat}{t te:TI}{k:Nat}{m:Md}{es:List (List Cell)}{hh:List (Nat × Nat × Nat)}
theorem AW.out' {c0:Code}(r j c q:Nat){el:List Cell}{cell:Cell}{x:Root}(hj:es[j]? = some el)(hσ:fnOf σ r = .deep m k es hh:=by rfl)(hc:el[c]? = some cell:=by rfl)(hx:OC cell x:=by exact .row)(hq:fnOf σ q = .none:=by rfl):Imp (AW P S n c0 QP ρ (setL (setL σ r (.deep m k (es.set j (spl el c [.u])) ((j,c,q) :: hh))) q x)) (AW P S n c0 QP ρ σ):=⟨fun h=>AW.gh (GH.out hσ hj hc hx hq) h⟩
end
section
variable {P:Program}[HasTab P]{S:Start}{n:Nat}{ops:Array Oper}{Q:AE→St→Prop}{QP:q3h}{o:Oper}{rest:List Oper}{ρ:AE}{σ:St}{d:Nat}{md:Md2}{T e:Nat}{t te:TI}{k:Nat}{m:Md}{es:List (List Cell)}{hh:List (Nat × Nat × Nat)}
theorem AW.dp' {α:Type}{c0:Code}(r:Nat)(f:α→List Cell)(hσ:fnOf σ r = .row m k []:=by rfl):Imp (AW P S n c0 QP ρ (setL σ r (.deep m k (([]:List α).map f) []))) (AW P S n c0 QP ρ σ):=⟨fun h=>AW.gh (q0X hσ rfl) h⟩
end
section
variable {P:Program}[HasTab P]{S:Start}{n:Nat}{ops:Array Oper}{Q:AE→St→Prop}{QP:q3h}{o:Oper}{rest:List Oper}{ρ:AE}{σ:St}{d:Nat}{md:Md2}{T e:Nat}{t te:TI}{k:Nat}{m:Md}{es:List (List Cell)}{hh:List (Nat × Nat × Nat)}
theorem LPd' {x:Operand}{r j c:Nat}{el:List Cell}{cell:Cell}{y:X}(hx' : List (Nat × Nat))(hj:es[j]? = some el)(ho:o.op = .load T x:=by rfl)(hT:(HasTab.tab P).get T=some t:=by rfl)(ha:t.agg=false:=by rfl)(hx:evX ρ x = .pe r none j c:=by rfl)(hσ:fnOf σ r = .deep m k es hh:=by rfl)(hhx:hh=hx'.map (fun p=>(j,p.1,p.2)):=by rfl)(hc:el[c]? = some cell:=by rfl)(hy:q6p hx' c cell=some y:=by rfl)(hd:o.dst=some d:=by rfl)(hg:q3g ops ρ o=some true:=by rfl):Imp (AL P S ops Q (q3j md [r] []) rest (updX ρ d y) σ) (AL P S ops Q md (o :: rest) ρ σ):=⟨fun h=>q0a (q1F (hx':=hx') (p:=(k,es)) ho (by rw [TI.agg' (Tab.chk HasTab.ok hT),ha]) hx (by rw [hσ]; rfl) hj hc (.inr ⟨m,k,es,by rw [hσ,hhx]⟩) hy) h hd hg⟩
end
section
variable {P:Program}[HasTab P]{S:Start}{n:Nat}{ops:Array Oper}{Q:AE→St→Prop}{QP:q3h}{o:Oper}{rest:List Oper}{ρ:AE}{σ:St}{d:Nat}{md:Md2}{T e:Nat}{t te:TI}{k:Nat}{m:Md}{es:List (List Cell)}{hh:List (Nat × Nat × Nat)}
theorem z0O {x:Operand}{r j c:Nat}{el:List Cell}{ys:List X}(hx' : List (Nat × Nat))(hj:es[j]? = some el)(ho:o.op = .load T x:=by rfl)(hT:(HasTab.tab P).get T=some t:=by rfl)(ha:t.agg=true:=by rfl)(hx:evX ρ x = .pe r none j c:=by rfl)(hσ:fnOf σ r = .deep m k es hh:=by rfl)(hhx:hh=hx'.map (fun p=>(j,p.1,p.2)):=by rfl)(hl:((el.drop c).take t.sz).length=t.sz:=by rfl)(hy:q5f hx' c ((el.drop c).take t.sz)=some ys:=by rfl)(hd:o.dst=some d:=by rfl)(hg:q3g ops ρ o=some true:=by rfl):Imp (AL P S ops Q (q3j md [r] []) rest (updX ρ d (.ag ys)) σ) (AL P S ops Q md (o :: rest) ρ σ):=⟨fun h=>q0a (q0z (hx':=hx') (p:=(k,es)) ho (by rw [TI.agg' (Tab.chk HasTab.ok hT),ha]) (TI.sz' (Tab.chk HasTab.ok hT)) hx (by rw [hσ]; rfl) hj hl (.inr ⟨m,k,es,by rw [hσ,hhx]⟩) hy) h hd hg⟩
end
section
variable {P:Program}[HasTab P]{S:Start}{n:Nat}{ops:Array Oper}{Q:AE→St→Prop}{QP:q3h}{o:Oper}{rest:List Oper}{ρ:AE}{σ:St}{d:Nat}{md:Md2}{T e:Nat}{t te:TI}{k:Nat}{m:Md}{es:List (List Cell)}{hh:List (Nat × Nat × Nat)}
theorem SD' {x y:Operand}{Y:X}{r j c:Nat}{el:List Cell}(cells:List Cell)(qs:List Nat)(hj:es[j]? = some el)(ho:o.op = .store T x y:=by rfl)(hT:(HasTab.tab P).get T=some t:=by rfl)(hx:evX ρ x = .pe r none j c:=by rfl)(hσ:fnOf σ r = .deep m k es hh:=by rfl)(hy:evX ρ y=Y:=by rfl)(hn:NC (fnOf σ) m Y.cells cells qs:=by repeat (first | exact .nil | refine .d (.inl rfl) ?_ | refine .nlo (m':=.fz) ?_ | refine .ref .row (.inl rfl) ?_))(hl:Y.cells.length=t.sz:=by rfl)(hf:Nat.ble (c+t.sz) k=true:=by rfl)(hnd:q4s (r :: qs)=true:=by rfl)(hs:q4l (fnOf σ) Y=true:=by rfl)(hd:o.dst=none:=by rfl)(hg:q3g ops ρ o=some true:=by rfl):Imp (AL P S ops Q (q3j md [] (r :: qs)) rest ρ (owrL σ ((r,.deep m k (es.set j (spl el c cells)) (hsK hh c t.sz)) :: qs.map fun q=>(q,.dead)))) (AL P S ops Q md (o :: rest) ρ σ):=⟨fun h=>by
 refine q0u (q2Y ho (TI.sz' (Tab.chk HasTab.ok hT)) hx hσ hj hy hn hl hf hnd hs) ?_ hd hg
 have e:((r,Root.deep m k (es.set j (spl el c cells)) (hsK hh c t.sz)) :: qs.map fun q=>(q,Root.dead)).map (·.1)=r :: qs:=by
  rw [List.map_cons,List.map_map]; exact congrArg _ (List.map_id _)
 rw [e]; exact h⟩
end
section
variable {P:Program}[HasTab P]{S:Start}{n:Nat}{ops:Array Oper}{Q:AE→St→Prop}{QP:q3h}{o:Oper}{rest:List Oper}{ρ:AE}{σ:St}{d:Nat}{md:Md2}{T e:Nat}{t te:TI}{k:Nat}{m:Md}{es:List (List Cell)}{hh:List (Nat × Nat × Nat)}
theorem LID' {α:Type}{f:α→List Cell}{Y:X}{x:Operand}{zs:List X}(r:Nat)(x1:α)(qs:List Nat)(ho:o.op = .buildSlice T 1 #[(0,x)]:=by rfl)(hT:(HasTab.tab P).get T=some t:=by rfl)(he:t.el=some e:=by rfl)(hE:(HasTab.tab P).get e=some te:=by rfl)(hz:te.z=some zs:=by rfl)(hzl:zs.length=te.sz:=by rfl)(hy:evX ρ x=Y:=by rfl)(hn:NC (fnOf σ) .fz Y.cells (f x1) qs:=by repeat (first | exact .nil | refine .d (.inl rfl) ?_ | refine .nlo (m':=.fz) ?_ | refine .ref .row (.inl rfl) ?_))(hw:(f x1).length=te.sz:=by rfl)(hs:q4l (fnOf σ) Y=true:=by rfl)(hnd:q4s qs=true:=by rfl)(hk0:Nat.blt 0 te.sz=true:=by rfl)(hm2:Nat.ble (1*te.sz) 100000=true:=by rfl)(hr:fnOf σ r = .none:=by rfl)(hd:o.dst=some d:=by rfl)(hg:q3g ops ρ o=some true:=by rfl):Imp (AL P S ops Q (q3j md [] (qs++[r])) rest (updX ρ d (.ref r none)) (owrL σ ((qs.map fun q=>(q,.dead))++[(r,.deep .fz te.sz ([x1].map f) [])]))) (AL P S ops Q md (o :: rest) ρ σ):=⟨fun h=>by
 obtain⟨z,h1,h2⟩:=TI.z' (Tab.chk HasTab.ok hE) hz
 have hn' : NCs (fnOf σ) .fz te.sz [Y] ([x1].map f) qs:=by
  have:=NCs.cons hn hw hs (NCs.nil (σ:=fnOf σ) (m:=.fz) (k:=te.sz))
  rwa [List.append_nil] at this
 refine q0a (q2s (xs:=[Y]) ho (q3i hT he hE).1 (q3i hT he hE).2 h1 (by rw [← hzl,← (h2 (fun _ _=>True) default (fun _=>.none)).len]) (by simp [idxX,hy]) hn' hnd rfl hk0 rfl hm2 hr) ?_ hd hg
 have e:((qs.map fun q=>(q,Root.dead))++[(r,Root.deep .fz te.sz ([x1].map f) [])]).map (·.1)=qs++[r]:=by
  rw [List.map_append,List.map_map]; exact congrArg (· ++ [r]) (List.map_id _)
 rw [e]; exact h⟩
end
section
variable {P:Program}[HasTab P]{S:Start}{n:Nat}{ops:Array Oper}{Q:AE→St→Prop}{QP:q3h}{o:Oper}{rest:List Oper}{ρ:AE}{σ:St}{d:Nat}{md:Md2}{T e:Nat}{t te:TI}{k:Nat}{m:Md}{es:List (List Cell)}{hh:List (Nat × Nat × Nat)}
theorem z0P {α:Type}{f:α→List Cell}{s x:Operand}{xs:List α}{y:α}{zs:List X}{r r2 b1:Nat}(r' : Nat)(B:Nat)(hmax:((xs.length:Int)+1)*(B:Int)≤140737488355328∧(xs.length:Int)+1≤9223372036854775807)(ho:o.op = .call { callee:=.builtin .append,args:=#[s,x],argTypes:=#[T,T] }:=by rfl)(hT:(HasTab.tab P).get T=some t:=by rfl)(he:t.el=some e:=by rfl)(hE:(HasTab.tab P).get e=some te:=by rfl)(hs:evX ρ s = .ref r none:=by rfl)(hx:evX ρ x = .ref r2 none:=by rfl)(hσ:fnOf σ r = .deep m te.sz (xs.map f) []:=by rfl)(hσ2:fnOf σ r2 = .deep m te.sz ([y].map f) []:=by rfl)(hz:te.z=some zs:=by rfl)(hb:te.by_=b1+1:=by rfl)(hzl:zs.length=te.sz:=by rfl)(hk0:Nat.blt 0 te.sz=true:=by rfl)(hr:fnOf σ r' = .none:=by rfl)(hne:Nat.beq r r2=false:=by rfl)(hB:te.by_=B:=by rfl)(hd:o.dst=some d:=by rfl)(hg:q3g ops ρ o=some true:=by rfl):Imp (AL P S ops Q (q3j md [] [r,r2,r']) rest (updX ρ d (.ref r' none)) (owrL σ [(r,.dead),(r2,.dead),(r',.deep m te.sz ((xs++[y]).map f) [])])) (AL P S ops Q md (o :: rest) ρ σ):=⟨fun h=>APD r' B hmax h ho hT he hE hs hx hσ hσ2 hz hb hzl hk0 hr hne hB hd hg⟩
end
section
variable {P:Program}[HasTab P]{S:Start}{n:Nat}{ops:Array Oper}{Q:AE→St→Prop}{QP:q3h}{o:Oper}{rest:List Oper}{ρ:AE}{σ:St}{d:Nat}{md:Md2}{T e:Nat}{t te:TI}{k:Nat}{m:Md}{es:List (List Cell)}{hh:List (Nat × Nat × Nat)}
theorem LEd' {x:Operand}{r:Nat}(L:Nat)(ho:o.op = .call { callee:=.builtin .len,args:=#[x],argTypes:=#[T] }:=by rfl)(hT:(HasTab.tab P).get T=some t:=by rfl)(he:t.el=some e:=by rfl)(hx:evX ρ x = .ref r none:=by rfl)(hσ:fnOf σ r = .deep m k es hh:=by rfl)(hL:es.length=L:=by simp only [List.length_set,List.length_map])(hd:o.dst=some d:=by rfl)(hg:q3g ops ρ o=some true:=by rfl):Imp (AL P S ops Q (q3j md [r] []) rest (updX ρ d (.d .fz (.i .i64 L))) σ) (AL P S ops Q md (o :: rest) ρ σ):=⟨fun h=>q0a (q0T (k:=L) ho (TI.el' (Tab.chk HasTab.ok hT) he) hx (by rw [hσ]; rfl) hL) h hd hg⟩
end
section
variable {P:Program}[HasTab P]{S:Start}{n:Nat}{ops:Array Oper}{Q:AE→St→Prop}{QP:q3h}{o:Oper}{rest:List Oper}{ρ:AE}{σ:St}{d:Nat}{md:Md2}{T e:Nat}{t te:TI}{k:Nat}{m:Md}{es:List (List Cell)}{hh:List (Nat × Nat × Nat)}
theorem CUd' {α:Type}{f:α→List Cell}{xs:List α}{x hi:Operand}{r:Nat}{m2:Md}{q:IntKind}{b:Int}(r' : Nat)(h1:0≤b)(h3:b.toNat≤xs.length)(ho:o.op = .slice T x none (some hi) none:=by rfl)(hT:(HasTab.tab P).get T=some t:=by rfl)(he:t.el=some e:=by rfl)(hE:(HasTab.tab P).get e=some te:=by rfl)(hx:evX ρ x = .ref r none:=by rfl)(hσ:fnOf σ r = .deep m te.sz (xs.map f) []:=by rfl)(hh' : evX ρ hi = .d m2 (.i q b):=by rfl)(hr:fnOf σ r' = .none:=by rfl)(hd:o.dst=some d:=by rfl)(hg:q3g ops ρ o=some true:=by rfl):Imp (AL P S ops Q (q3j md [] [r,r']) rest (updX ρ d (.ref r' none)) (owrL σ [(r,.dead),(r',.deep m te.sz ((xs.take b.toNat).map f) [])])) (AL P S ops Q md (o :: rest) ρ σ):=⟨fun h=>by
 refine q0a (q2u (lo:=none) ho (q3i hT he hE).1 (q3i hT he hE).2 hx hσ hh' h1 (by simpa using h3) hr) ?_ hd hg
 rw [← List.map_take]; exact h⟩
end
section
variable {P:Program}[HasTab P]{S:Start}{n:Nat}{ops:Array Oper}{Q:AE→St→Prop}{QP:q3h}{rest:List Oper}{ρ:AE}{σ:St}{md:Md2}{k:Nat}{m:Md}
theorem AL.eqT' (t:Nat)(x:X)(hx:ρ t=x):Imp (AL P S ops Q (ghM md) rest (updX ρ t x) σ) (AL P S ops Q md rest ρ σ):=⟨fun h=>AL.gh (q3e t x hx) h⟩
end
section
variable {P:Program}[HasTab P]{S:Start}{n:Nat}{ops:Array Oper}{Q:AE→St→Prop}{QP:q3h}{rest:List Oper}{ρ:AE}{σ:St}{md:Md2}{k:Nat}{m:Md}
theorem AL.fzDs' {α:Type}{j:Nat}{f:α→List Cell}{xs:List α}{x:α}{e:List Cell}{es:List (List Cell)}(r:Nat)(D0:α→D)(x' : α)(hf:∀ x,DR (f x) (D0 x))(hx:xs[j]? = some x)(hσ:fnOf σ r = .deep m k es []:=by rfl)(hes:es=(xs.map f).set j e:=by first | rfl | (simp only [List.set_set]; rfl))(he:DR e (D0 x'):=by rfl):Imp (AL P S ops Q (ghM md) rest (fun t=>frX r m k ((xs.set j x').map D0) (ρ t)) (frS r m k ((xs.set j x').map D0) 0 σ)) (AL P S ops Q md rest ρ σ):=⟨fun h=>AL.gh (q2z r D0 x' hf hx hes hσ he) h⟩
end
section
variable {P:Program}[HasTab P]{S:Start}{ops:Array Oper}{Q:AE→St→Prop}{o:Oper}{rest:List Oper}{ρ:AE}{σ:St}{d:Nat}{md:Md2}
theorem CBz' {m:Md}{k:Nat}{xs:List D}{f:Nat}{c:Call}{x:Operand}{caps axs args:List X}{pre post:St}{res:X}(r:Nat)(ren:List (Nat × Nat))(vw:List Nat)(ok:Ok P f args pre res post)(ho:o.op = .call c:=by rfl)(hc:c.callee = .value x:=by rfl)(hx:evX ρ x = .fn f caps:=by rfl)(hcb:q3E P f=true:=by kernel_rfl)(ha:c.args.toList.map (evX ρ)++caps=axs:=by rfl)(hp:PassL (fnOf σ) ren vw axs args:=by repeat (first | exact .nil | refine .cons ?_ ?_ | exact .same | exact .ag (.cons .same (.cons .same .nil)) | refine .ag ?_ | exact .d rfl | exact .d q4G | exact .nld | exact .nl | exact .rd rfl rfl | exact .vd rfl rfl | exact .pb rfl | exact .ref rfl | refine .fn ?_ | exact .pf rfl | exact .pf q4G | exact .dd (DA (by exact fun _=>rfl) rfl) rfl | exact .u))(hpre:PreL (fnOf σ) (fnOf pre) ren ren:=by repeat (first | exact trivial | refine And.intro rfl ?_))(hchk:q4F ren vw pre post res=true:=by rfl)(hz:∀ σ1,owr σ1 (ren.map fun p=>(p.2,q4c ren (fnOf post p.1))) r = .row m k xs:=by exact fun _=>rfl)(hd:o.dst=some d:=by rfl)(hg:q3g ops ρ o=some true:=by rfl):Imp (AL P S ops Q (q3j md vw (((ren.map fun (p:Nat × Nat)=>(p.2,q4c ren (fnOf post p.1)))++[(r,Root.dead)]).map (·.1))) rest (updX ρ d (frX r m k xs (renX ren res))) (owrL σ ((ren.map fun (p:Nat × Nat)=>(p.2,q4c ren (fnOf post p.1)))++[(r,Root.dead)]))) (AL P S ops Q md (o :: rest) ρ σ):=⟨fun h=>q0a ((q0A ren vw ho hc hx hcb ha ok hp hpre hchk).frz hz) h hd hg⟩
end
section
variable {P:Program}[HasTab P]{S:Start}{ops:Array Oper}{Q:AE→St→Prop}{o:Oper}{rest:List Oper}{ρ:AE}{σ:St}{d:Nat}{md:Md2}{T e:Nat}{t te:TI}
theorem z0Q {α:Type}{s x:Operand}{X1:X}{m' m0:Md}{f:α→D}{xs ys:List α}{zs:List X}{r b1:Nat}(r' B:Nat)(hflat:∀ y,q6T (f y)=true)(hmax:((xs.length:Int)+(ys.length:Int))*(B:Int)≤140737488355328∧(xs.length:Int)+(ys.length:Int)≤9223372036854775807)(ho:o.op = .call { callee:=.builtin .append,args:=#[s,x],argTypes:=#[T,T] }:=by rfl)(hT:(HasTab.tab P).get T=some t:=by rfl)(he:t.el=some e:=by rfl)(hE:(HasTab.tab P).get e=some te:=by rfl)(hs:evX ρ s = .ref r none:=by rfl)(hx:evX ρ x=X1:=by rfl)(hsrc:srcD (fnOf σ) X1=some (m',te.sz,ys.map f):=by rfl)(hσ:fnOf σ r = .row m0 te.sz (xs.map f):=by rfl)(hz:te.z=some zs:=by rfl)(hb:te.by_=b1+1:=by rfl)(hzl:zs.length=te.sz:=by rfl)(hk0:Nat.blt 0 te.sz=true:=by rfl)(hr:fnOf σ r' = .none:=by rfl)(hB:te.by_=B:=by rfl)(hd:o.dst=some d:=by rfl)(hg:q3g ops ρ o=some true:=by rfl):Imp (AL P S ops Q (q3j md (q3C X1) [r,r']) rest (updX ρ d (.ref r' none)) (setL (setL σ r .dead) r' (.row .fz te.sz ((xs++ys).map f)))) (AL P S ops Q md (o :: rest) ρ σ):=⟨fun h=>APf r' hflat (by rw [hB]; exact hmax) h ho hT he hE hs hx hsrc hσ hz hb hzl hk0 hr hd hg⟩
end
section
variable {P:Program}[HasTab P]{S:Start}{ops:Array Oper}{Q:AE→St→Prop}{o:Oper}{rest:List Oper}{ρ:AE}{σ:St}{d:Nat}{md:Md2}{T e:Nat}{t te:TI}
theorem APB' {α:Type}{s x:Operand}{X1:X}{m' m0:Md}{f:α→D}{xs ys:List α}{zs:List X}{r b1:Nat}(r' : Nat)(m:Md)(B:Nat)(hmax:((xs.length:Int)+(ys.length:Int))*(B:Int)≤140737488355328∧(xs.length:Int)+(ys.length:Int)≤9223372036854775807)(ho:o.op = .call { callee:=.builtin .append,args:=#[s,x],argTypes:=#[T,T] }:=by rfl)(hT:(HasTab.tab P).get T=some t:=by rfl)(he:t.el=some e:=by rfl)(hE:(HasTab.tab P).get e=some te:=by rfl)(hs:evX ρ s = .ref r none:=by rfl)(hx:evX ρ x=X1:=by rfl)(hsrc:srcD (fnOf σ) X1=some (m',te.sz,ys.map f):=by rfl)(hσ:fnOf σ r = .row m0 te.sz (xs.map f):=by rfl)(hz:te.z=some zs:=by rfl)(hb:te.by_=b1+1:=by rfl)(hzl:zs.length=te.sz:=by rfl)(hk0:Nat.blt 0 te.sz=true:=by rfl)(hm:mle m' m=true:=by first | rfl | exact q4d | exact q3S)(hm0:mle m0 m=true:=by first | rfl | exact q4d | exact q3S)(hr:fnOf σ r' = .none:=by rfl)(hB:te.by_=B:=by rfl)(hd:o.dst=some d:=by rfl)(hg:q3g ops ρ o=some true:=by rfl):Imp (AL P S ops Q (q3j md (q3C X1) [r,r']) rest (updX ρ d (.ref r' none)) (setL (setL σ r .dead) r' (.row m te.sz ((xs++ys).map f)))) (AL P S ops Q md (o :: rest) ρ σ):=⟨fun h=>AP r' m (by rw [hB]; exact hmax) h ho hT he hE hs hx hsrc hσ hz hb hzl hk0 hm hm0 hr hd hg⟩
end
section
variable {P:Program}[HasTab P]{S:Start}{ops:Array Oper}{Q:AE→St→Prop}{o:Oper}{rest:List Oper}{ρ:AE}{σ:St}{d:Nat}{md:Md2}{T e:Nat}{t te:TI}
theorem z0R {Y:X}{α:Type}{f:α→D}{xs ys:List α}{x y:Operand}{r:Nat}{m m' : Md}{T2:Nat}(hlen:ys.length=xs.length)(ho:o.op = .call { callee:=.builtin .copy,args:=#[x,y],argTypes:=#[T,T2] }:=by rfl)(hT:(HasTab.tab P).get T=some t:=by rfl)(he:t.el=some e:=by rfl)(hE:(HasTab.tab P).get e=some te:=by rfl)(h1:te.sz=1:=by rfl)(hx:evX ρ x = .ref r none:=by rfl)(hσ:fnOf σ r = .row m te.sz (xs.map f):=by rfl)(hy:evX ρ y=Y:=by rfl)(hsrc:srcD (fnOf σ) Y=some (m',te.sz,ys.map f):=by rfl)(hm:mle m' m=true:=by first | rfl | exact q4d | exact q3S)(hd:o.dst=some d:=by rfl)(hg:q3g ops ρ o=some true:=by rfl):Imp (AL P S ops Q (q3j md (q3C Y) [r]) rest (updX ρ d (.d .fz (.i .i64 (ys.length:Int)))) (setL σ r (.row m te.sz (ys.map f)))) (AL P S ops Q md (o :: rest) ρ σ):=⟨fun h=>by
 rw [h1] at hσ hsrc h
 refine q0a (q2B ho (q3i hT he hE).1 (by rw [(q3i hT he hE).2,h1]) hx hσ hy hsrc hm (by simpa using hlen)) ?_ hd hg
 simp only [List.length_map]
 rw [← hlen]; exact h⟩
end
section
variable {P:Program}[HasTab P]{S:Start}{n:Nat}{ops ops2:Array Oper}{Q:AE→St→Prop}{QP:q3h}{rest:List Oper}{ρ:AE}{σ:St}{md:Md2}{x y:Code}{id:Nat}
end
section
variable {P:Program}[HasTab P]{S:Start}{n:Nat}{ops ops2:Array Oper}{Q:AE→St→Prop}{QP:q3h}{rest:List Oper}{ρ:AE}{σ:St}{md:Md2}{x y:Code}{id:Nat}
end
section
variable {P:Program}[HasTab P]{S:Start}{n:Nat}{ops ops2:Array Oper}{Q:AE→St→Prop}{QP:q3h}{rest:List Oper}{ρ:AE}{σ:St}{md:Md2}{x y:Code}{id:Nat}
theorem N0' (hm:okM2 ops md=true:=by kernel_rfl):Imp (Q ρ σ) (AL P S ops Q md [] ρ σ):=⟨fun h=>AL.nil h hm⟩
end
section
variable {P:Program}[HasTab P]{S:Start}{n:Nat}{ops ops2:Array Oper}{Q:AE→St→Prop}{QP:q3h}{rest:List Oper}{ρ:AE}{σ:St}{md:Md2}{x y:Code}{id:Nat}
theorem W1' {o1:Oper}{d1:Nat}{v1:X}{r1:List Nat}(v_1:opV (HasTab.tab P) ρ σ o1.op=some (v1,r1):=by exact rfl)(d_1:o1.dst=some d1:=by rfl)(g_1:q3g ops ρ o1=some true:=by rfl):Imp (AL P S ops Q (q3j md r1 []) rest (updX ρ d1 v1) σ) (AL P S ops Q md (o1 :: rest) ρ σ):=⟨fun h=>V v_1 (h) d_1 g_1⟩
end
section
variable {P:Program}[HasTab P]{S:Start}{n:Nat}{ops ops2:Array Oper}{Q:AE→St→Prop}{QP:q3h}{rest:List Oper}{ρ:AE}{σ:St}{md:Md2}{x y:Code}{id:Nat}
end
section
variable {P:Program}[HasTab P]{S:Start}{n:Nat}{ops ops2:Array Oper}{Q:AE→St→Prop}{QP:q3h}{rest:List Oper}{ρ:AE}{σ:St}{md:Md2}{x y:Code}{id:Nat}
end
section
variable {P:Program}[HasTab P]{S:Start}{n:Nat}{ops ops2:Array Oper}{Q:AE→St→Prop}{QP:q3h}{rest:List Oper}{ρ:AE}{σ:St}{md:Md2}{x y:Code}{id:Nat}
end
section
variable {P:Program}[HasTab P]{S:Start}{n:Nat}{ops ops2:Array Oper}{Q:AE→St→Prop}{QP:q3h}{rest:List Oper}{ρ:AE}{σ:St}{md:Md2}{x y:Code}{id:Nat}
end
section
variable {P:Program}[HasTab P]{S:Start}{n:Nat}{ops ops2:Array Oper}{Q:AE→St→Prop}{QP:q3h}{rest:List Oper}{ρ:AE}{σ:St}{md:Md2}{x y:Code}{id:Nat}
end
section
variable {P:Program}[HasTab P]{S:Start}{n:Nat}{ops ops2:Array Oper}{Q:AE→St→Prop}{QP:q3h}{rest:List Oper}{ρ:AE}{σ:St}{md:Md2}{x y:Code}{id:Nat}
end
section
variable {P:Program}[HasTab P]{S:Start}{n:Nat}{ops ops2:Array Oper}{Q:AE→St→Prop}{QP:q3h}{rest:List Oper}{ρ:AE}{σ:St}{md:Md2}{x y:Code}{id:Nat}
end
section
variable {P:Program}[HasTab P]{S:Start}{n:Nat}{ops ops2:Array Oper}{Q:AE→St→Prop}{QP:q3h}{rest:List Oper}{ρ:AE}{σ:St}{md:Md2}{x y:Code}{id:Nat}
end
section
variable {P:Program}[HasTab P]{S:Start}{n:Nat}{ops ops2:Array Oper}{Q:AE→St→Prop}{QP:q3h}{rest:List Oper}{ρ:AE}{σ:St}{md:Md2}{x y:Code}{id:Nat}
end
section
variable {P:Program}[HasTab P]{S:Start}{ops:Array Oper}{Q:AE→St→Prop}{o:Oper}{rest:List Oper}{ρ:AE}{σ:St}{d:Nat}{md:Md2}
theorem CBk' {f:Nat}{c:Call}{x:Operand}{caps axs args:List X}{pre post:St}{res:X}(p0 i:Nat)(ren:List (Nat × Nat))(vw:List Nat)(ok:Ok P f args pre res post)(ho:o.op = .call c:=by rfl)(hc:c.callee = .value x:=by rfl)(hx:evX ρ x = .fn f caps:=by rfl)(hcb:q3E P f=true:=by kernel_rfl)(ha:c.args.toList.map (evX ρ)++caps=axs:=by rfl)(hp:PassL (fnOf σ) ((p0,i) :: ren) vw axs args:=by repeat (first | exact .nil | refine .cons ?_ ?_ | exact .same | exact .ag (.cons .same (.cons .same .nil)) | refine .ag ?_ | exact .d rfl | exact .d q4G | exact .nld | exact .nl | exact .rd rfl rfl | exact .vd rfl rfl | exact .pb rfl | exact .ref rfl | refine .fn ?_ | exact .pf rfl | exact .pf q4G | exact .dd (DA (by exact fun _=>rfl) rfl) rfl | exact .u))(hpre:PreL (fnOf σ) (fnOf pre) ((p0,i) :: ren) ((p0,i) :: ren):=by repeat (first | exact trivial | refine And.intro rfl ?_))(hchk:q4F ((p0,i) :: ren) vw pre post res=true:=by rfl)(hs:q4c ((p0,i) :: ren) (fnOf post p0)=fnOf σ i:=by rfl)(hd:o.dst=some d:=by rfl)(hg:q3g ops ρ o=some true:=by rfl):Imp (AL P S ops Q (q3j md (i :: vw) ((ren.map fun p=>(p.2,q4c ((p0,i) :: ren) (fnOf post p.1))).map (·.1))) rest (updX ρ d (renX ((p0,i) :: ren) res)) (owrL σ (ren.map fun p=>(p.2,q4c ((p0,i) :: ren) (fnOf post p.1))))) (AL P S ops Q md (o :: rest) ρ σ):=⟨fun h=>q0a ((q0A ((p0,i) :: ren) vw ho hc hx hcb ha ok hp hpre hchk).same hs) h hd hg⟩
end
theorem OE {P:Program}{f:Nat}{fn:Func}{c:Code}{args:List X}{pre:St}{res:X}{post:St}{n0:Nat}(hf:P.funcs[f]? = some fn)(h:∀ S:Start,S.n0=n0→AW P S fn.ntmps c (endA P S fn res post) (argX args) pre)(hn:pre.length=n0:=by rfl)(hb:fn.body=some c:=by rfl)(hok:q3J fn.ntmps c=true:=by rfl)(hs:Nat.ble args.length fn.ntmps=true:=by rfl):Ok P f args pre res post:=Ok.enter hn hf hb hok hs h
end Go.A
namespace Go.A
open Go Go.E
theorem bdP {α β γ:Type}{o:Option (α × γ)}{f:α × γ→Option β}{r:β}{G:Prop}(hr:o.bind f=some r)(h:∀ y z,o=some (y,z)→f (y,z)=some r→G):G:=bdE hr fun q=>h q.1 q.2
theorem bdT {α β γ δ:Type}{o:Option (α × γ × δ)}{f:α × γ × δ→Option β}{r:β}{G:Prop}(hr:o.bind f=some r)(h:∀ x y z,o=some (x,y,z)→f (x,y,z)=some r→G):G:=bdE hr fun q=>h q.1 q.2.1 q.2.2
end Go.A
namespace Go.A
open Go Go.E
abbrev dI (n:Int):X:=.d .fz (.i .i64 n)
abbrev dB (b:Bool):X:=.d .fz (.b b)
abbrev dS (s:ByteArray):X:=.d .fz (.s s)
end Go.A
set_option maxRecDepth 100000
namespace Go.A
open Go Go.E
structure Steps (n:Nat) (b:Prop):Prop where
 h:b
theorem Steps.z {a:Prop}(h:a):Steps 0 a:=⟨h⟩
theorem Steps.s {a b:Prop}{n:Nat}(s:Imp a b)(h:Steps n a):Steps (n+1) b:=⟨s.h h.h⟩
theorem lT:true=true:=rfl
theorem lF:false=false:=rfl
class Dec (p:Prop) (b:Bool) (c:outParam Bool):Prop where
 h:p→b=c
instance {b:Bool}:Dec (b=true) b true:=⟨id⟩
instance {b:Bool}:Dec (¬ b=true) b false:=⟨bF⟩
instance {b:Bool}:Dec (¬ b=true) (!b) true:=⟨bnT⟩
instance {b:Bool}:Dec (b=true) (!b) false:=⟨bnF⟩
instance {p:Prop} [Decidable p]:Dec p (decide p) true:=⟨dT⟩
instance {p:Prop} [Decidable p]:Dec (¬ p) (decide p) false:=⟨dF⟩
instance {p:Prop} [Decidable p]:Dec (¬ p) (!decide p) true:=⟨nT⟩
instance {p:Prop} [Decidable p]:Dec p (!decide p) false:=⟨nF⟩
theorem uH {p:Prop}{b c:Bool}(h:p)[d:Dec p b c]:b=c:=d.h h
theorem hB {b c:Bool}(h:b=c:=by first | with_reducible exact Go.A.lT | with_reducible exact Go.A.lF | exact uH h40 | exact uH h39 | exact uH h38 | exact uH h37 | exact uH h36 | exact uH h35 | exact uH h34 | exact uH h33 | exact uH h32 | exact uH h31 | exact uH h30 | exact uH h29 | exact uH h28 | exact uH h27 | exact uH h26 | exact uH h25 | exact uH h24 | exact uH h23 | exact uH h22 | exact uH h21 | exact uH h20 | exact uH h19 | exact uH h18 | exact uH h17 | exact uH h16 | exact uH h15 | exact uH h14 | exact uH h13 | exact uH h12 | exact uH h11 | exact uH h10 | exact uH h9 | exact uH h8 | exact uH h7 | exact uH h6 | exact uH h5 | exact uH h4 | exact uH h3 | exact uH h2 | exact uH h1 | exact uH hltk4 | exact uH hltk3 | exact uH hltk2 | exact uH hltk1 | exact uH (Go.A.ltN hltk4) | exact uH (Go.A.ltI hltk4) | exact uH (Go.A.ltN hltk3) | exact uH (Go.A.ltI hltk3) | exact uH (Go.A.ltN hltk2) | exact uH (Go.A.ltI hltk2) | exact uH (Go.A.ltN hltk1) | exact uH (Go.A.ltI hltk1) | exact Go.A.dF Go.A.geN | exact Go.A.dF Go.A.geI):b=c:=h
inductive Pk (x y:Code):Bool→Code→Prop
 | t:Pk x y true x
 | f:Pk x y false y
inductive Nb:X→X→Prop
 | b {m:Md} {b c:Bool} (h:b=c):Nb (.d m (.b b)) (.d .fz (.b c))
 | r {v:X}:Nb v v
section
variable {P:Program}{S:Start}{n:Nat}{QP:q3h}{ρ:AE}{σ:St}{c:Operand}{x y z:Code}{m:Md}{b b' : Bool}
theorem cA (hc:evX ρ c = .d m (.b b):=by rfl)(hb:b=b':=by exact hB)(hp:Pk x y b' z:=by first | exact .t | exact .f):Imp (AW P S n z QP ρ σ) (AW P S n (.cond c x y) QP ρ σ):=by
 cases hp
 ·exact⟨q0h hc hb⟩
 ·exact⟨q0i hc hb⟩
theorem q0E : Imp (AW P S n x (q4I (fun ρ σ=>AW P S n y QP ρ σ) QP) ρ σ) (AW P S n (.seq x y) QP ρ σ):=⟨q0e⟩
end
section
variable {P:Program}[HasTab P]{S:Start}{n:Nat}{ops:Array Oper}{Q:AE→St→Prop}{QP:q3h}{o:Oper}{rest:List Oper}{ρ:AE}{σ:St}{d:Nat}{v v' : X}{rd:List Nat}{md:Md2}{m m' : Md}{b:Bool}{y:Code}{id:Nat}{T e:Nat}{t te:TI}
theorem srd (hm:P.follows .mixedOrders=true:=by kernel_rfl):Imp (AL P S ops (fun ρ σ=>QP .normal ρ σ) (some (0,[],none)) ops.toList ρ σ) (AW P S n (.region id ops true) QP ρ σ):=⟨fun h=>q0g hm h⟩
theorem Va (hv:opV (HasTab.tab P) ρ σ o.op=some (v,rd):=by exact rfl)(hk:Nb v v':=by first | exact .b hB | exact .r)(hd:o.dst=some d:=by rfl)(hg:q3g ops ρ o=some true:=by rfl):Imp (AL P S ops Q (q3j md rd []) rest (updX ρ d v') σ) (AL P S ops Q md (o :: rest) ρ σ):=by
 cases hk with
 | r=>exact⟨fun h=>V hv h hd hg⟩
 | @b _ _ c hb=>cases c with
  | true=>exact⟨fun h=>VT hv hb h hd hg⟩
  | false=>exact⟨fun h=>VF hv hb h hd hg⟩
end
end Go.A
set_option maxRecDepth 100000
namespace Go.A
open Go Go.E
mutual
def mtX:X→X→List (Nat × Nat)
 | .ref r _,.ref i _=>[(r,i)]
 | .vs r _ _ _,.vs i _ _ _=>[(r,i)]
 | .pb r _,.pb i _=>[(r,i)]
 | .pe r _ _ _,.pe i _ _ _=>[(r,i)]
 | .ag a,.ag b=>mtXs a b
 | .tu a,.tu b=>mtXs a b
 | .fn _ a,.fn _ b=>mtXs a b
 | _,_=>[]
def mtXs:List X→List X→List (Nat × Nat)
 | x :: a,y :: b=>mtX x y++mtXs a b
 | _,_=>[]
end
def mtR:Root→Root→List (Nat × Nat)
 | .box a,.box b=>mtXs a b
 | .deep _ _ _ h,.deep _ _ _ k=>(h.zip k).map fun p=>(p.1.2.2,p.2.2.2)
 | _,_=>[]
def addI (l:List (Nat × Nat)):List (Nat × Nat)→List (Nat × Nat)
 | []=>l
 | p :: q=>addI (bif l.any fun x=>Nat.beq x.1 p.1||Nat.beq x.2 p.2 then l else l++[p]) q
def mtS (l:List (Nat × Nat))(σ τ:St):List (Nat × Nat):=addI l (l.flatMap fun p=>mtR (fnOf σ p.1) (fnOf τ p.2))
def isRt:Root→Bool
 | .none=>false
 | _=>true
def mtA (n0:Nat)(l:List (Nat × Nat))(σ τ:St):List (Nat × Nat):=addI (mtS (mtS (addI ((List.range n0).map fun i=>(i,i)) l) σ τ) σ τ) (((List.range τ.length).filter fun i=>isRt (fnOf τ i)).map fun i=>(i,i))
def mtE (P:Program)(ρ:AE)(σ:St)(lr:List ResultVar)(n0:Nat)(res:X)(post:St):List (Nat × Nat):=mtA n0 (match q6u P ρ σ lr with | some xs=>mtX (tupX xs) res | none=>[]) σ post
def mtL (ρ:AE):List (Nat × X)→List (Nat × Nat)
 | []=>[]
 | p :: L=>mtX (ρ p.1) p.2++mtL ρ L
def selX:X→X→X
 | _,.u=>.u
 | x,_=>x
theorem q9N {x y:X}:Wk (selX x y) x:=by cases y<;>first | exact .rfl | exact .u
def q9O:List X→List X→List X
 | x :: a,y :: b=>selX x y :: q9O a b
 | a,_=>a
theorem selXs_wk:∀ {a b:List X},Wks (q9O a b) a
 | [],[]=>.nil
 | [],_ :: _=>.nil
 | x :: a,[]=>.cons .rfl (Wks_rfl a)
 | x :: a,y :: b=>.cons q9N selXs_wk
where Wks_rfl:∀ a:List X,Wks a a
 | []=>.nil
 | _ :: a=>.cons .rfl (Wks_rfl a)
def selR:Root→Root→Root
 | .box a,.box b=>.box (q9O a b)
 | x,_=>x
def selS:St→St→St
 | x :: s,y :: t=>selR x y :: selS s t
 | s,_=>s
theorem q7d:∀ {s t:St} {i:Nat},fnOf (selS s t) i=selR (fnOf s i) (fnOf t i)
 | [],t,i=>by cases t<;>simp [selS,q3T,selR]
 | x :: s,[],i=>by rw [q3T]; simp only [selS]; cases fnOf (x :: s) i<;>rfl
 | x :: s,y :: t,0=>rfl
 | x :: s,y :: t,i+1=>by simp only [selS,fnOf]; exact q7d
theorem q3f {S:Start}{ρ:AE}{σ:St}(τ:St):GH S ρ σ ρ (selS σ τ):=by
 intro F g w ρc hs hv
 refine⟨F,g,⟨hs.chg,hs.bB,hs.fmono,hs.fnew,hs.flt,fun i=>?_,hs.low,hs.hdr,hs.nodup,hs.disj,hs.own⟩,hv⟩
 rw [q7d]
 have:=hs.roots i
 revert this
 cases fnOf σ i<;>cases fnOf τ i<;>simp only [selR]<;>intro h<;>try exact h
 revert h
 cases g i<;>intro h<;>try exact h.elim
 obtain⟨vs,k1,k2⟩:=h
 exact⟨vs,k1,selXs_wk.vr k2⟩
theorem q1a {P:Program}{S:Start}{fn:Func}{ρ:AE}{σ:St}{e:Exit}{lr:List ResultVar}{res:X}{post:St}{n0:Nat}(hS:S.n0=n0)(he:e = .normal∨e = .ret:=by first | exact .inr rfl | exact .inl rfl)(hl:fn.results=lr.toArray:=by rfl)(ht:lr.all (q5E fn.ntmps)=true:=by rfl)
  (hx:(q6u P ρ σ lr).map (fun xs=>renX (mtE P ρ σ lr n0 res post) (tupX xs))=some res:=by kernel_rfl) (hc:q6z (mtE P ρ σ lr n0 res post) n0 post.length σ=true:=by kernel_rfl) (hp:renS (mtE P ρ σ lr n0 res post) post.length σ=post:=by kernel_rfl):endA P S fn res post e ρ σ:=q0b _ _ hS he hl ht hx hc hp
theorem q0F {S:Start}{ρ:AE}{σ:St}{n0:Nat}(hS:S.n0=n0){L:List (Nat × X)}{σt:St}(hL:WkR (mtA n0 (mtL ρ L) σ σt) ρ L:=by repeat (first | exact trivial | refine And.intro (.of (by kernel_rfl)) ?_))(hσ:selS (renS (mtA n0 (mtL ρ L) σ σt) σt.length σ) σt=σt:=by kernel_rfl)(hc:q6z (mtA n0 (mtL ρ L) σ σt) n0 σt.length σ=true:=by kernel_rfl):GH S ρ σ (ofX L) σt:=by
 have:=(q2A (S:=S) hS _ _ hL rfl hc).trans (q3f σt)
 rwa [hσ] at this
theorem E {G:Prop}(h:G:=by (cases hr; try (cases hik4 _ rfl; rename_i hr; cases hr)); (try (cases hik3 _ rfl; rename_i hr; cases hr)); (try (cases hik2 _ rfl; rename_i hr; cases hr)); (try (cases hik1 _ rfl; rename_i hr; cases hr)); first | exact q1a hS | exact z0r | exact q0F hS | exact⟨_,rfl,q0F hS⟩):G:=h
theorem I {G:Prop}(h:G:=by exact q0F hS):G:=h
section
variable {P:Program}{S:Start}{n:Nat}{c:Code}{QP:q3h}{ρ:AE}{σ:St}
theorem lenT {α:Type}{xs:List α}{f:α→D}{m:Md}{k:Nat}(t:Nat)(hx:ρ t = .d m (.sl k (xs.map f)):=by rfl):Imp ((xs.length:Int)≤9223372036854775807→AW P S n c QP ρ σ) (AW P S n c QP ρ σ):=⟨AW.len (.tmp t hx)⟩
theorem lenA {α:Type}{xs:List α}{f:α→D}{m:Md}{k:Nat}{cs:List X}(i t:Nat)(hx:ρ t = .ag cs:=by rfl)(hc:cs[i]? = some (.d m (.sl k (xs.map f))):=by rfl):Imp ((xs.length:Int)≤9223372036854775807→AW P S n c QP ρ σ) (AW P S n c QP ρ σ):=⟨AW.len (.ag i (.tmp t hx) hc)⟩
theorem lenR {α:Type}{xs:List α}{f:α→D}{m:Md}{k:Nat}(r:Nat)(hr:fnOf σ r = .row m k (xs.map f):=by rfl):Imp ((xs.length:Int)≤9223372036854775807→AW P S n c QP ρ σ) (AW P S n c QP ρ σ):=⟨q2y r hr⟩
theorem rngT {m:Md}{k:IntKind}{b:Int}(t:Nat)(hx:ρ t = .d m (.i k b):=by rfl):Imp (rngI k b→AW P S n c QP ρ σ) (AW P S n c QP ρ σ):=⟨q3b (.tmp t hx)⟩
end
theorem hX {p:Prop}(h:p:=by first | exact hxk5 | exact hxk4 | exact hxk3 | exact hxk2 | exact hxk1 | exact hx30 | exact hx29 | exact hx28 | exact hx27 | exact hx26 | exact hx25 | exact hx24 | exact hx23 | exact hx22 | exact hx21 | exact hx20 | exact hx19 | exact hx18 | exact hx17 | exact hx16 | exact hx15 | exact hx14 | exact hx13 | exact hx12 | exact hx11 | exact hx10 | exact hx9 | exact hx8 | exact hx7 | exact hx6 | exact hx5 | exact hx4 | exact hx3 | exact hx2 | exact hx1):p:=h
theorem h0 {j:Int}(h:0≤j:=by first | exact Int.natCast_nonneg _ | with_reducible assumption):0≤j:=h
theorem hL {p:Prop}(h:p:=by first | exact hl6.2 | exact hl6.1 | exact hl5.2 | exact hl5.1 | exact hl4.2 | exact hl4.1 | exact hl3.2 | exact hl3.1 | exact hl2.2 | exact hl2.1 | exact hl1.2 | exact hl1.1 | with_reducible assumption):p:=h
section
variable {P:Program}[HasTab P]{S:Start}{ops:Array Oper}{Q:AE→St→Prop}{o:Oper}{rest:List Oper}{ρ:AE}{σ:St}{d:Nat}{md:Md2}{m m' : Md}{T e k:Nat}{t te:TI}{α:Type}{f:α→D}{xs:List α}
theorem IFa {x i:Operand}{q:IntKind}{j:Int}{y:α}{cs:List D}(ho:o.op = .indexAddr T x i:=by rfl)(hT:(HasTab.tab P).get T=some t:=by rfl)(he:t.el=some e:=by rfl)(hE:(HasTab.tab P).get e=some te:=by rfl)(hx:evX ρ x = .d m (.sl te.sz (xs.map f)):=by rfl)(hi:evX ρ i = .d m' (.i q j):=by rfl)(hd:o.dst=some d:=by rfl)(hg:q3g ops ρ o=some true:=by rfl)(hj:xs[j.toNat]? = some y:=by exact hX)(h0:0≤j:=by exact h0)(hc:(f y).cells=cs:=by first | with_reducible exact Expr.D_cells _ | rfl):Imp (AL P S ops Q (q3j md [] []) rest (updX ρ d (.pf m cs)) σ) (AL P S ops Q md (o :: rest) ρ σ):=IFq' h0 hj hc ho hT he hE hx hi hd hg
theorem IEa {x i:Operand}{r:Nat}{q:IntKind}{j:Int}{y:α}(ho:o.op = .indexAddr T x i:=by rfl)(hT:(HasTab.tab P).get T=some t:=by rfl)(he:t.el=some e:=by rfl)(hE:(HasTab.tab P).get e=some te:=by rfl)(hx:evX ρ x = .ref r none:=by rfl)(hσ:fnOf σ r = .row m te.sz (xs.map f):=by rfl)(hi:evX ρ i = .d m' (.i q j):=by rfl)(hd:o.dst=some d:=by rfl)(hg:q3g ops ρ o=some true:=by rfl)(hj:xs[j.toNat]? = some y:=by exact hX)(h0:0≤j:=by exact h0):Imp (AL P S ops Q (q3j md [r] []) rest (updX ρ d (.pe r none j.toNat 0)) σ) (AL P S ops Q md (o :: rest) ρ σ):=IE' hj h0 ho hT he hE hx hσ hi hd hg
theorem LPe {x:Operand}{r j c:Nat}{y:α}{z:D}(ho:o.op = .load T x:=by rfl)(hT:(HasTab.tab P).get T=some t:=by rfl)(ha:t.agg=false:=by rfl)(hx:evX ρ x = .pe r none j c:=by rfl)(hσ:fnOf σ r = .row m k (xs.map f):=by rfl)(hj:xs[j]? = some y:=by exact hX)(hz:(f y).cells[c]? = some z:=by rfl)(hd:o.dst=some d:=by rfl)(hg:q3g ops ρ o=some true:=by rfl):Imp (AL P S ops Q (q3j md [r] []) rest (updX ρ d (dX m z)) σ) (AL P S ops Q md (o :: rest) ρ σ):=LP' hj ho hT ha hx hσ hz hd hg
theorem LPb {x:Operand}{r j c:Nat}{y:α}(ho:o.op = .load T x:=by rfl)(hT:(HasTab.tab P).get T=some t:=by rfl)(ha:t.agg=true:=by rfl)(hx:evX ρ x = .pe r none j c:=by rfl)(hσ:fnOf σ r = .row m k (xs.map f):=by rfl)(hj:xs[j]? = some y:=by exact hX)(hl:Nat.beq (((f y).cells.drop c).take t.sz).length t.sz=true:=by rfl)(hd:o.dst=some d:=by rfl)(hg:q3g ops ρ o=some true:=by rfl):Imp (AL P S ops Q (q3j md [r] []) rest (updX ρ d (.ag ((((f y).cells.drop c).take t.sz).map (dX m)))) σ) (AL P S ops Q md (o :: rest) ρ σ):=LPa' hj ho hT ha hx hσ hl hd hg
theorem OBa {op:BinOp}{U:Nat}{x y:Operand}{X1 Y1:X}{u1 v1 r1:Value}{z:D}(ho:o.op = .binOp op T x y U:=by rfl)(hx:evX ρ x=X1:=by rfl)(hy:evX ρ y=Y1:=by rfl)(hu:cvX X1=some u1:=by rfl)(hv:cvX Y1=some v1:=by rfl)(hB:BR P op T X1 Y1 u1 v1 z r1:=by first | exact q5a (q:=1) (q3s hltk4 (by with_reducible assumption)) | exact q5a (q:=1) (q3s (ltN hltk4) hL) | exact q5a (q:=1) (q3s (ltI hltk4) hL) | exact q5a (q:=1) (q3s hltk3 (by with_reducible assumption)) | exact q5a (q:=1) (q3s (ltN hltk3) hL) | exact q5a (q:=1) (q3s (ltI hltk3) hL) | exact q5a (q:=1) (q3s hltk2 (by with_reducible assumption)) | exact q5a (q:=1) (q3s (ltN hltk2) hL) | exact q5a (q:=1) (q3s (ltI hltk2) hL) | exact q5a (q:=1) (q3s hltk1 (by with_reducible assumption)) | exact q5a (q:=1) (q3s (ltN hltk1) hL) | exact q5a (q:=1) (q3s (ltI hltk1) hL) | exact bAdd (by with_reducible assumption) | exact bSub (by with_reducible assumption) | exact q5a (q:=1) (by with_reducible assumption))(hz:cv z=some r1:=by rfl)(hd:o.dst=some d:=by rfl)(hg:q3g ops ρ o=some true:=by rfl):Imp (AL P S ops Q (q3j md [] []) rest (updX ρ d (.d .fz z)) σ) (AL P S ops Q md (o :: rest) ρ σ):=OB' z hB ho hx hy hu hv hz hd hg
end
structure Bx (a:Prop):Prop where
 h:a
theorem g {a b:Prop}(s:Bx a→b:=by (intro h; (repeat (first | refine J Va ?_ | refine J N0' ?_ | refine J q0E ?_ | refine J q0q ?_ | refine J cA ?_ | refine J q0m ?_ | refine J q0o ?_ | refine J SB' ?_ | refine J LF' ?_ | refine J LE' ?_ | refine J q0D ?_ | refine J q0p ?_ | refine J q0C ?_ | refine J IFa ?_ | refine J IEa ?_ | refine J LPe ?_ | refine J LPb ?_ | refine J OBa ?_ | refine J srd ?_)); exact h.h)):Imp a b:=⟨fun h=>s ⟨h⟩⟩
theorem gn {a b:Prop}(n:Nat)(s:Bx a→Steps n b:=by (intro h; repeat (first | exact Steps.z h.h | refine Steps.s Va ?_ | refine Steps.s N0' ?_ | refine Steps.s q0E ?_ | refine Steps.s q0q ?_ | refine Steps.s cA ?_ | refine Steps.s q0m ?_ | refine Steps.s q0o ?_ | refine Steps.s SB' ?_ | refine Steps.s LF' ?_ | refine Steps.s LE' ?_ | refine Steps.s q0D ?_ | refine Steps.s q0p ?_ | refine Steps.s q0C ?_ | refine Steps.s IFa ?_ | refine Steps.s IEa ?_ | refine Steps.s LPe ?_ | refine Steps.s LPb ?_ | refine Steps.s OBa ?_ | refine Steps.s srd ?_))):Imp a b:=⟨fun h=>(s ⟨h⟩).h⟩
theorem gw {a b:Prop}(n:Nat)(s:Bx a→Steps n b:=by (intro h; repeat (first | exact Steps.z h.h | refine Steps.s W1' ?_ | refine Steps.s N0' ?_ | refine Steps.s q0E ?_ | refine Steps.s q0q ?_ | refine Steps.s cA ?_ | refine Steps.s q0m ?_ | refine Steps.s q0o ?_ | refine Steps.s SB' ?_ | refine Steps.s LF' ?_ | refine Steps.s LE' ?_ | refine Steps.s q0D ?_ | refine Steps.s q0p ?_ | refine Steps.s q0C ?_ | refine Steps.s IFa ?_ | refine Steps.s IEa ?_ | refine Steps.s LPe ?_ | refine Steps.s LPb ?_ | refine Steps.s OBa ?_ | refine Steps.s srd ?_))):Imp a b:=⟨fun h=>(s ⟨h⟩).h⟩
theorem e {G:Prop}(h:G:=by exact J g E):G:=h
end Go.A
namespace Go.A
open Go Go.E
def OkAt (P:Program)(f:Nat)(args:List X)(pre:St)(res:X)(post:St)(w:World):Prop:=
 ∀ (F B:Nat→Prop) (g:Nat→G) (vs:List Value),Sim (q4Y w F B g pre.length) F g (fnOf pre) w→vrs (SM F B) w g args vs →
  Ret P f vs.toArray w (fun b=>∃ i,b∈bl (g i)) fun v w'=>∃ F' g',Sim (q4Y w F B g pre.length) F' g' (fnOf post) w'∧vr (SM F' B) w' g' res v
def OkK (K:World→Prop)(P:Program)(f:Nat)(args:List X)(res:X):Prop:=∀ w,K w→OkAt P f args [] res [] w
def Stb (K:World→Prop):Prop:=∀ w w',K w→Ext w w'→K w'
def Wd (K:World→Prop)(S:Start):Prop:=K S.w0∧∀ b,¬ S.own b
theorem OkK.enter {K:World→Prop}{P:Program}{f:Nat}{fn:Func}{c:Code}{args:List X}{res:X}(hf:P.funcs[f]? = some fn)(h:∀ S:Start,S.n0=0→Wd K S→AW P S fn.ntmps c (endA P S fn res []) (argX args) [])(hb:fn.body=some c:=by rfl)(hok:q3J fn.ntmps c=true:=by rfl)(hs:Nat.ble args.length fn.ntmps=true:=by rfl):OkK K P f args res:=by
 intro w hK F B g vs hsim hvs
 have hlen:=hvs.len
 refine Go.E.enter (R:=fun v w'=>∃ F' g',Sim (q4Y w F B g 0) F' g' (fnOf []) w'∧vr (SM F' B) w' g' res v) hf hb hok (by simpa [hlen] using hs) ?_
 refine (h (q4Y w F B g 0) rfl ⟨hK,fun b ⟨i,hi⟩=>by
  have:=hsim.low i (Nat.zero_le _)
  have e:g i = .none:=this
  rw [e] at hi; cases hi⟩ F g w _ hsim (fun t=>q7p hvs)).mono fun e ρc w' ⟨ρ,σ,F',g',h1,h2,he,h3⟩=>?_
 obtain⟨v,h4,F2,g2,h5,h6⟩:=h3 F' g' w' ρc h1 h2
 have h7:Chg (fun b=>∃ i,b∈bl (g i)) w w':=h5.chg
 rcases he with rfl | rfl<;>exact⟨v,h4,h7,F2,g2,h5,h6⟩
section
variable {P:Program}{S:Start}{n:Nat}{ρ:AE}{σ:St}{o:Oper}
theorem q1A {f:Nat}{c:Call}{x:Operand}{caps axs args:List X}{pre post:St}{res:X}(ren:List (Nat × Nat))(vw:List Nat)(ho:o.op = .call c)(hc:c.callee = .value x)(hx:evX ρ x = .fn f caps)(hcb:q3E P f=true)(ha:c.args.toList.map (evX ρ)++caps=axs)
  (ok:∀ w,Chg S.own S.w0 w→OkAt P f args pre res post w) (hp:PassL (fnOf σ) ren vw axs args) (hpre:PreL (fnOf σ) (fnOf pre) ren ren) (hchk:q4F ren vw pre post res=true) :
  LT P S o ρ σ vw (renX ren res) (ren.map fun p=>(p.2,q4c ren (fnOf post p.1))):=by
 intro σ1 F g w ρc hs hrd hwr hv
 simp only [q4F,Bool.and_eq_true] at hchk
 obtain⟨⟨⟨⟨⟨hn1,hn2⟩,hvd⟩,hck1⟩,hck2⟩,hck3⟩:=hchk
 have hn1:=q3u hn1
 have hn2:=q3u hn2
 have hσ:∀ i j,renI ren i=some j→σ1 j=renR ren (fnOf pre i):=fun i j hij=>by
  rw [hwr (j,q4c ren (fnOf post i)) (List.mem_map.2 ⟨(i,j),q4C hij,rfl⟩)]
  exact hpre.get hij
 let gc:Nat→G:=fun i=>match renI ren i with | some j=>g j | none=>.none
 let Bc:Nat→Prop:=fun b=>S.B b∨∃ r,vw.contains r=true∧b∈bl (g r)
 have hgc:∀ i j,renI ren i=some j→gc i=g j:=fun i j h=>by simp only [gc,h]
 have hgcn:∀ i,renI ren i=none→gc i = .none:=fun i h=>by simp only [gc,h]
 have inj:∀ i i' j,renI ren i=some j→renI ren i'=some j→i=i':=fun i i' j h h'=>Option.some.inj ((q3O hn2 h hn1).symm.trans (q3O hn2 h' hn1))
 have mem2:∀ i j,renI ren i=some j→j∈ren.map (·.2):=fun i j h=>List.mem_map.2 ⟨(i,j),q4C h,rfl⟩
 have vwne:∀ r i j,vw.contains r=true→renI ren i=some j→j≠r:=fun r i j hr hij e=>by
  have:=List.all_eq_true.1 hvd r (by simpa using hr)
  rw [← e] at this
  simp only [Bool.not_eq_true',List.contains_eq_mem,decide_eq_false_iff_not] at this
  exact this (mem2 i j hij)
 have blc:∀ i b,b∈bl (gc i)→∃ j,renI ren i=some j∧b∈bl (g j):=fun i b hb=>by
  cases hi:renI ren i with
  | none=>rw [hgcn i hi] at hb; cases hb
  | some j=>rw [hgc i j hi] at hb; exact⟨j,rfl,hb⟩
 have hBlt:∀ b,Bc b→b < w.heap.size∧¬ ∃ i,b∈bl (gc i):=fun b hb=>by
  rcases hb with hb | ⟨r,hr,hb⟩
  ·refine⟨Nat.lt_of_lt_of_le (hs.bB b hb).1 hs.chg.size,fun ⟨i,hi⟩=>?_⟩
   obtain⟨j,_,hj⟩:=blc i b hi
   exact (hs.own j b hj).2.2.1 hb
  ·refine⟨(hs.own r b hb).1,fun ⟨i,hi⟩=>?_⟩
   obtain⟨j,hij,hj⟩:=blc i b hi
   exact hs.disj j r (vwne r i j hr hij) b hj hb
 have hsub:∀ m b,SM F S.B m b→SM F Bc m b:=fun m b hb=>by
  cases m with
  | fz=>exact hb
  | bo=>exact hb.imp id .inl
 have hstart:Sim (q4Y w F Bc gc pre.length) F gc (fnOf pre) w:=by
  refine⟨Chg.refl w,hBlt,fun b hb=>hb,fun b hb=>.inl hb,hs.flt,fun i=>?_,fun i hi=>?_,fun i=>?_,fun i=>?_,fun i i' hne b hb hb'=>?_,fun i b hb=>?_⟩
  ·cases hi:renI ren i with
   | none=>
    rw [hgcn i hi]
    have hpi:fnOf pre i = .none:=by
     rcases q4n (i:=i) hck1 with h | h
     ·exact q4Q h
     ·rw [Nat.zero_add,hi] at h
      simp at h
      exact q4Q h
    rw [hpi]; trivial
   | some j=>
    rw [hgc i j hi]
    have hr:=hs.roots j
    rw [hσ i j hi] at hr
    have hok:isNone (fnOf pre i)=true∨okR ren false (fnOf pre i)=true:=by
     rcases q4n (i:=i) hck1 with h | h
     ·exact .inl h
     ·simp only [Bool.or_eq_true,Bool.and_eq_true] at h
      exact h.imp id (·.2)
    revert hr hok
    cases fnOf pre i<;>intro hr hok<;>cases hg:g j<;>rw [hg] at hr<;>try exact hr.elim
    ·trivial
    ·trivial
    ·obtain⟨vs,h1,h2⟩:=hr
     refine⟨vs,h1,q4B (S2:=SM F S.B) (g2:=g) (z:=false) hgc hsub ?_ h2⟩
     rcases hok with hok | hok
     ·cases hok
     ·exact hok
    ·exact⟨hr.1,q3P hr.2 hsub⟩
    ·rename_i m k es hh v k' L gs
     refine⟨⟨hr.1.1,q3P hr.1.2 hsub⟩,?_,hr.2.2⟩
     rcases hok with hok | hok
     ·cases hok
     ·simp only [okR,Bool.and_eq_true] at hok
      exact q6c hr.2.1 hok.2 hgc
  ·show gc i = .none
   cases hi' : renI ren i with
   | none=>exact hgcn i hi'
   | some j=>
    rw [hgc i j hi']
    refine q6s hs ?_
    rw [hσ i j hi',q6t hi]
    rfl
  ·show q5v (gc i) (gc i)
   cases gc i with
   | none=>trivial
   | dead=>rfl
   | box b T=>exact .inl rfl
   | row v k L gs=>exact .inr ⟨L,gs,rfl⟩
  ·cases hi:renI ren i with
   | none=>rw [hgcn i hi]; exact List.nodup_nil
   | some j=>rw [hgc i j hi]; exact hs.nodup j
  ·obtain⟨j,hj,hbj⟩:=blc i b hb
   obtain⟨j',hj',hbj'⟩:=blc i' b hb'
   exact hs.disj j j' (fun e=>hne (inj i i' j hj (e▸hj'))) b hbj hbj'
  ·obtain⟨j,hj,hbj⟩:=blc i b hb
   refine⟨(hs.own j b hbj).1,(hs.own j b hbj).2.1,fun hB=>(hBlt b hB).2 ⟨i,hb⟩,.inl ⟨i,hb⟩⟩
 -- the arguments
 have hxv:=hv x (by simp [ho,Op.operands,Call.operands,hc])
 rw [hx,vr] at hxv
 obtain⟨cvs,hfn,hcaps⟩:=hxv
 have hargs:vrs (SM F S.B) w g axs (c.args.toList.map (E.ev ρc)++cvs):=by
  rw [← ha]
  refine vrs.append (q4A fun y hy=>hv y ?_) hcaps
  simp only [ho,Op.operands,Call.operands,hc]
  simp only [Array.mem_append]
  exact .inr (by simpa using hy)
 have hp1:PassL σ1 ren vw axs args:=q4b (rd:=vw) (fun r hr=>hrd r hr) (fun r hr=>by simpa using hr) hp
 have hvs:=q4P (Bc:=Bc) hs hgc (fun b hb=>.inl hb) (fun r b hr hb=>.inr ⟨r,hr,hb⟩) hp1 hargs
 have hret:=ok w hs.chg F Bc gc _ hstart hvs
 have he:(execOp (E.ev ρc) o).run P w = .ok (.enter f (c.args.toList.map (E.ev ρc)++cvs).toArray) w:=by
  simp only [execOp,ho]
  exact q5k hc hfn hcb (by simp)
 rw [he]
 refine Calls.mono hret fun e w' ⟨v,hev,hchg,F',gc',hs',hres⟩=>⟨v,hev,?_⟩
 let g' : Nat→G:=fun j=>match invI ren j with | some i=>(match gc' i with | .none=>.dead | y=>y) | none=>g j
 have hg'1:∀ i j,renI ren i=some j→g' j=(match gc' i with | .none=>.dead | y=>y):=fun i j h=>by simp only [g',q3O hn2 h hn1]
 have hg'2:∀ j,invI ren j=none→g' j=g j:=fun j h=>by simp only [g',h]
 have hadv:∀ i j,renI ren i=some j→Adv (gc' i) (g' j):=fun i j h=>by
  rw [hg'1 i j h]
  cases gc' i<;>first | trivial | exact Adv.refl _
 have blg:∀ i j,renI ren i=some j→bl (g' j)=bl (gc' i):=fun i j h=>by
  rw [hg'1 i j h]
  cases gc' i<;>rfl
 have hz:(!vw.isEmpty)=false→∀ b,SM F' Bc .bo b→SM F' S.B .bo b:=fun hz b hb=>by
  have:vw=[]:=by simpa using hz
  subst this
  rcases hb with hb | hb | ⟨r,hr,_⟩
  ·exact .inl hb
  ·exact .inr hb
  ·simp at hr
 have hck2' : ∀ i,isNone (fnOf post i)=true∨((renI ren i).isSome=true∧okR ren (!vw.isEmpty) (fnOf post i)=true):=fun i=>by
  rcases q4n (i:=i) hck2 with h | h
  ·exact .inl h
  ·simp only [Bool.or_eq_true,Bool.and_eq_true,Nat.zero_add] at h
   exact h.imp id fun h=>⟨h.1,h.2⟩
 obtain⟨h1,h2⟩:=hs.step (g':=g') (σ':=owr σ1 (ren.map fun p=>(p.2,q4c ren (fnOf post p.1)))) (F':=F') (w':=w') (fun j=>∃ i,renI ren i=some j) hchg
  (fun b hb _=>by
   obtain⟨i,hi⟩:=hb
   obtain⟨j,hj,hbj⟩:=blc i b hi
   exact⟨j,⟨i,hj⟩,hbj⟩)
  (fun j hj=>by
   have hinv:invI ren j=none:=by
    cases hi:invI ren j with
    | none=>rfl
    | some i=>exact absurd ⟨i,q5m hi hn1⟩ hj
   refine⟨hg'2 j hinv,?_⟩
   rw [q5D (h:=fun i=>q4c ren (fnOf post i)) ren σ1 j hn2,hinv])
  (fun j ⟨i,hij⟩=>by
   rw [← hgc i j hij,hg'1 i j hij]
   have hh:=hs'.hdr i
   have hroot:=hs'.roots i
   have hsim:=hck2' i
   simp only [q4Y] at hh
   cases hg0:gc i with
   | none=>trivial
   | dead=>rw [hg0] at hh; rw [show gc' i = .dead from hh]; rfl
   | box b T=>
    rw [hg0] at hh
    rcases hh with hh | hh<;>rw [hh]
    ·exact .inl rfl
    ·exact .inr rfl
   | row v0 k L gs=>
    rw [hg0] at hh
    rcases hh with hh | ⟨L',gs',hh⟩<;>rw [hh]
    ·exact .inl rfl
    ·exact .inr ⟨L',gs',rfl⟩)
  (fun b hb=>hs'.fmono b hb)
  (fun b hb=>⟨hs'.flt b hb,by
   rcases hs'.fnew b hb with h | h | h
   ·exact .inl h
   ·obtain⟨i,hi⟩:=h
    obtain⟨j,hj,hbj⟩:=blc i b hi
    exact .inr (.inr ⟨j,⟨i,hj⟩,hbj⟩)
   ·exact .inr (.inl h)⟩)
  (fun _ _ j ⟨i,hij⟩=>by
   rw [q5D (h:=fun i=>q4c ren (fnOf post i)) ren σ1 j hn2,q3O hn2 hij hn1,hg'1 i j hij]
   have hroot:=hs'.roots i
   have hsim:=hck2' i
   simp only
   cases hpo:fnOf post i<;>rw [hpo] at hroot hsim<;>cases hgi:gc' i<;>rw [hgi] at hroot<;>try exact hroot.elim
   ·trivial
   ·trivial
   ·obtain⟨vs,k1,k2⟩:=hroot
    refine⟨vs,k1,q6b (S1:=SM F' Bc) (S2:=SM F' S.B) (g1:=gc') (z:=!vw.isEmpty) hadv (fun _ h=>h) hz ?_ k2⟩
    rcases hsim with hsim | hsim
    ·cases hsim
    ·exact hsim.2
   ·rename_i m k xs _ _ _ _
    refine⟨hroot.1,q4Z (m:=m) (xs:=xs) hroot.2 fun b hb=>?_⟩
    cases m with
    | fz=>exact hb
    | bo=>
     rcases hsim with hsim | hsim
     ·cases hsim
     ·simp only [okR] at hsim
      exact hz (by
       cases hv0:(!vw.isEmpty) with
       | false=>rfl
       | true=>rw [hv0] at hsim; exact absurd hsim.2 (by simp [okR,isFz])) b hb
   ·rename_i m k es hh v k' L gs
    rcases hsim with hsim | hsim
    ·cases hsim
    ·simp only [okR,Bool.and_eq_true] at hsim
     obtain⟨_,hsim,hho⟩:=hsim
     refine⟨⟨hroot.1.1,?_⟩,q7N hroot.2.1 hho hadv,hroot.2.2⟩
     cases hv0:(!vw.isEmpty) with
     | false=>
      have h0:=hz hv0
      exact q3P hroot.1.2 fun m b hb=>by
       cases m with
       | fz=>exact hb
       | bo=>exact h0 b hb
     | true=>
      have hm:m = .fz:=by
       rw [hv0] at hsim
       cases m
       ·rfl
       ·simp [isFz] at hsim
      exact hroot.1.2.fz (hroot.2.2 hm) fun b hb=>hb)
  (fun j ⟨i,hij⟩=>by rw [blg i j hij]; exact hs'.nodup i)
  (fun j j' ⟨i,hij⟩ ⟨i',hij'⟩ hne b hb=>by
   rw [blg i j hij] at hb
   rw [blg i' j' hij']
   exact hs'.disj i i' (fun e=>by subst e; rw [hij] at hij'; exact hne (Option.some.inj hij')) b hb)
  (fun j b ⟨i,hij⟩ hb=>by
   rw [blg i j hij] at hb
   obtain⟨k1,k2,k3,k4⟩:=hs'.own i b hb
   refine⟨k1,k2,?_⟩
   rcases k4 with k4 | k4
   ·obtain⟨i',hi'⟩:=k4
    obtain⟨j',hj',hbj⟩:=blc i' b hi'
    exact .inr ⟨j',⟨i',hj'⟩,hbj⟩
   ·exact .inl k4)
 exact⟨F',g',h1,h2,q9F (S1:=SM F' Bc) (S2:=SM F' S.B) (g1:=gc') (z:=!vw.isEmpty) hadv (fun _ h=>h) hz hck3 hres⟩
end
section
variable {P:Program}[HasTab P]{S:Start}{n:Nat}{ops:Array Oper}{Q:AE→St→Prop}{o:Oper}{l rest:List Oper}{ρ:AE}{σ:St}{d:Nat}{md:Md2}
theorem CBK {K:World→Prop}{f:Nat}{c:Call}{x:Operand}{caps axs args:List X}{res:X}(hK:Wd K S)(hst:Stb K)(ok:OkK K P f args res)(h:AL P S ops Q (q3j md [] []) rest (updX ρ d (renX [] res)) σ)
  (ho:o.op = .call c:=by rfl) (hc:c.callee = .value x:=by rfl) (hx:evX ρ x = .fn f caps:=by rfl) (hcb:q3E P f=true:=by kernel_rfl) (ha:c.args.toList.map (evX ρ)++caps=axs:=by rfl) (hp:PassL (fnOf σ) [] [] axs args:=by repeat (first | exact .nil | refine .cons ?_ ?_ | exact .same | exact .ag (.cons .same (.cons .same .nil)) | refine .ag ?_ | exact .d rfl | exact .d q4G | exact .nld | exact .nl | exact .rd rfl rfl | exact .vd rfl rfl | exact .pb rfl | exact .ref rfl | refine .fn ?_ | exact .pf rfl | exact .pf q4G | exact .dd (DA (by exact fun _=>rfl) rfl) rfl | exact .u))
  (hchk:q4F [] [] [] [] res=true:=by rfl) (hd:o.dst=some d:=by rfl) (hg:q3g ops ρ o=some true:=by rfl):AL P S ops Q md (o :: rest) ρ σ:=
 q0a (wr:=[]) (q1A [] [] ho hc hx hcb ha (fun w hw=>ok w (hst _ _ hK.1 (hw.mono fun b _ hb=>hK.2 b hb))) hp trivial hchk) h hd hg
end
theorem OkK.law {K:World→Prop}{P:Program}{fid:Nat}{W:World}(hW:K W){a:X}{z:Value}(ha:vr (SM (fun b=>b < W.heap.size) fun _=>False) W (fun _=>.none) a z){x:Bool}(hx:x=true)
  (h:OkK K P fid [a] (.d .fz (.b x))):Ret P fid #[z] W (fun _=>False) fun v w=>v = .bool true:=by
 have h:=h W hW (fun b=>b < W.heap.size) (fun _=>False) (fun _=>.none) [z] (Sim.begin0 W) (by rw [vrs]; exact⟨z,[],rfl,ha,by rw [vrs]⟩)
 refine Calls.mono h fun e w' ⟨v,he,hc,F',g',_,hv⟩=>⟨v,he,⟨hc.os,hc.tape,hc.output,hc.size,fun k hk _=>hc.block k hk fun ⟨i,hi⟩=>by cases hi⟩,?_⟩
 subst hx
 exact hv
end Go.A
