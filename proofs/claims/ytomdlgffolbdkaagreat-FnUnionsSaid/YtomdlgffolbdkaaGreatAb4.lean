/- Abstract states of a walk: plain lemmas on the model, without conditions of their own. -/
import Derived.Test.YtomdlgffolbdkaaGreatEng4
import Derived.KernelRfl
set_option linter.unusedVariables false
set_option linter.unusedSimpArgs false
set_option linter.ambiguousOpen false
set_option linter.unusedSectionVars false
set_option linter.unnecessarySimpa false
namespace Go.A
open Go Go.E
inductive Hold (ρ:AE) (σ:St):X→Prop
 | tmp (t:Nat) {x:X} (h:ρ t=x):Hold ρ σ x
 | box (r c:Nat) {cs:List X} {x:X} (h:fnOf σ r=.box cs) (hc:cs[c]?=some x):Hold ρ σ x
 | ag {cs:List X} {x:X} (c:Nat) (h:Hold ρ σ (.ag cs)) (hc:cs[c]?=some x):Hold ρ σ x
 | tu {cs:List X} {x:X} (c:Nat) (h:Hold ρ σ (.tu cs)) (hc:cs[c]?=some x):Hold ρ σ x
 | el {α:Type} {m:Md} {k k' j:Nat} {f:α→D} {xs:List α} {y:α} {zs:List D} (c:Nat) (h:Hold ρ σ (.d m (.sl k (xs.map f)))) (hj:xs[j]?=some y) (hc:(f y).cells[c]?=some (.sl k' zs)):Hold ρ σ (.d m (.sl k' zs))
 | rw {α:Type} {m:Md} {k k' j:Nat} {f:α→D} {xs:List α} {y:α} {zs:List D} (r c:Nat) (h:fnOf σ r=.row m k (xs.map f)) (hj:xs[j]?=some y) (hc:(f y).cells[c]?=some (.sl k' zs)):Hold ρ σ (.d m (.sl k' zs))
theorem Hold.vr {S:Start}{F:Nat→Prop}{g:Nat→G}{w:World}{ρ:AE}{σ:St}{ρc:Env}(hs:Sim S F g (fnOf σ) w)(hv:VR S F g w ρ ρc):∀ {x:X},Hold ρ σ x→∃ v,Go.A.vr (SM F S.B) w g x v
 | _,.tmp t h=>⟨ρc t,h▸hv t⟩
 | _,.box r c h hc=>by
  obtain⟨b,T,vs,_,_,h3⟩:=z8v hs h
  obtain⟨v,_,h4⟩:=h3.get hc
  exact⟨v,h4⟩
 | _,.ag c h hc=>by
  obtain⟨v,h1⟩:=h.vr hs hv
  rw[Go.A.vr] at h1
  obtain⟨vs,_,h2⟩:=h1
  obtain⟨v,_,h4⟩:=h2.get hc
  exact⟨v,h4⟩
 | _,.tu c h hc=>by
  obtain⟨v,h1⟩:=h.vr hs hv
  rw[Go.A.vr] at h1
  obtain⟨vs,_,h2⟩:=h1
  obtain⟨v,_,h4⟩:=h2.get hc
  exact⟨v,h4⟩
 | _,.el c h hj hc=>by
  obtain⟨v,h1⟩:=h.vr hs hv
  rw[Go.A.vr,rdC] at h1
  obtain⟨A,cap,cells,_,_,_,h2,_⟩:=h1
  obtain⟨cs,_,h3,_⟩:=h2.get (i:=_) (by rw[List.getElem?_map,hj];rfl)
  obtain⟨v,_,h4⟩:=rdCs.get h3 hc
  exact⟨v,by rw[Go.A.vr];exact h4⟩
 | _,.rw r c h hj hc=>by
  obtain⟨v,L,gs,hg,hrow⟩:=z8u hs (.inr ⟨_,_,h,rfl⟩)
  obtain⟨_,h2,_⟩:=q6P hrow
  obtain⟨cs,_,h3,_⟩:=h2.get (i:=_) (by rw[List.getElem?_map,hj];rfl)
  obtain⟨v,_,h4⟩:=rdCs.get h3 hc
  exact⟨v,by rw[Go.A.vr];exact h4⟩
def rngY:X→Prop
 | .d _ (.sl _ xs)=>(xs.length:Int)≤9223372036854775807
 | .d _ x=>rngD x
 | _=>True
theorem k3J {S1:Md→Nat→Prop}{w:World}{g:Nat→G}{x:X}{v:Value}(h:vr S1 w g x v):rngY x:=by
 cases x<;>try trivial
 rename_i m x
 cases x<;>try trivial
 ·rw[vr,rdC] at h;exact h.2
 ·rw[vr,rdC] at h;exact h.2
 ·rw[vr,rdC] at h
  obtain⟨A,cap,cells,_,h1,h2,_⟩:=h
  have h2:cap≤9223372036854775807:=h2
  show _≤(9223372036854775807:Int)
  omega
section
variable {P:Program}{S:Start}{n:Nat}{ρ:AE}{σ:St}{c:Code}{QP:q4h}
theorem q0T {x:X}(hx:Hold ρ σ x)(h:rngY x→AW P S n c QP ρ σ):AW P S n c QP ρ σ:=by
 intro F g w ρc hs hv
 obtain⟨v,h1⟩:=hx.vr hs hv
 exact h (k3J h1) F g w ρc hs hv
theorem q2i {r k:Nat}{m:Md}{xs:List D}(hr:fnOf σ r=.row m k xs)(h:(xs.length:Int)≤9223372036854775807→AW P S n c QP ρ σ):AW P S n c QP ρ σ:=by
 intro F g w ρc hs hv
 obtain⟨v,L,gs,hg,hrow⟩:=z8u hs (.inr ⟨m,xs,hr,rfl⟩)
 obtain⟨A,c,_,h1,h2⟩:=hrow.1.form
 have h2:c≤9223372036854775807:=h2
 rw[lnM] at h1
 exact h (by omega) F g w ρc hs hv
end
section
variable {P:Program}{T:TypeId}{X1 Y1:X}{a b:Int}{m m' : Md}
abbrev BR (P:Program)(op:BinOp)(T:TypeId)(X1 Y1:X)(u v:Value)(z:D)(r:Value):Prop:=rngX X1→rngX Y1→Bin P op T u v r∧rngD z
theorem bAdd (h:I64 (a+b)):BR P .add T X1 Y1 (.int .i64 a) (.int .i64 b) (.i .i64 (a+b)) (.int .i64 (a+b)):=fun _ _=>⟨Bin.add h,h⟩
theorem bSub (h:I64 (a-b)):BR P .sub T X1 Y1 (.int .i64 a) (.int .i64 b) (.i .i64 (a-b)) (.int .i64 (a-b)):=fun _ _=>⟨Bin.sub h,h⟩
theorem bMul (h:I64 (a*b)):BR P .mul T X1 Y1 (.int .i64 a) (.int .i64 b) (.i .i64 (a*b)) (.int .i64 (a*b)):=fun _ _=>⟨q2u h,h⟩
theorem z6m {p q:Nat}(h:I64 ((p+q:Nat):Int)):BR P .add T X1 Y1 (.int .i64 (p:Int)) (.int .i64 (q:Int)) (.i .i64 ((p+q:Nat):Int)) (.int .i64 ((p+q:Nat):Int)):=fun _ _=>⟨q1W rfl h,h⟩
theorem k5b {p k:Nat}(hk:k≤4611686018427387904):BR P .sub T (.d m (.i .i64 (p:Int))) Y1 (.int .i64 (p:Int)) (.int .i64 (k:Int)) (.i .i64 ((p:Int)-(k:Int))) (.int .i64 ((p:Int)-(k:Int))):=fun h _=>⟨Bin.sub (j9c h hk),j9c h hk⟩
theorem j5F:BR P .add T X1 Y1 (.int .i64 a) (.int .i64 b) (.i .i64 (IntKind.i64.wrap (a+b))) (.int .i64 (IntKind.i64.wrap (a+b))):=fun _ _=>⟨q1L,z9f _⟩
theorem k5c:BR P .mul T X1 Y1 (.int .i64 a) (.int .i64 b) (.i .i64 (IntKind.i64.wrap (a*b))) (.int .i64 (IntKind.i64.wrap (a*b))):=fun _ _=>⟨q1M,z9f _⟩
theorem j9t:BR P .and T X1 Y1 (.int .i64 a) (.int .i64 b) (.i .i64 (z6S a b)) (.int .i64 (z6S a b)):=fun _ _=>⟨q1Y,z9f _⟩
theorem k5D:BR P .xor T X1 Y1 (.int .i64 a) (.int .i64 b) (.i .i64 (j9d a b)) (.int .i64 (j9d a b)):=fun _ _=>⟨q1Z,z9f _⟩
theorem k5d {q:IntKind}(h:0≤b):BR P .shr T (.d m (.i .i64 a)) Y1 (.int .i64 a) (.int q b) (.i .i64 (j1e a b)) (.int .i64 (j1e a b)):=fun h1 _=>⟨q1X h,k1t h1 _⟩
theorem j7Y {q:IntKind}(h:0≤b∧b<63):BR P .shl T X1 Y1 (.int .i64 1) (.int q b) (.i .i64 ((2 ^ b.toNat:Nat):Int)) (.int .i64 ((2 ^ b.toNat:Nat):Int)):=fun _ _=>⟨q1T h.1 h.2,k3x h.2⟩
theorem k1D {q:IntKind}(h:0≤a∧0≤b∧b<64):BR P .shr T (.d m (.i .i64 a)) Y1 (.int .i64 a) (.int q b) (.i .i64 ((a.toNat >>> b.toNat:Nat):Int)) (.int .i64 ((a.toNat >>> b.toNat:Nat):Int)):=fun h1 _=>⟨q1U h.1 h.2.1 h.2.2,k3y h1⟩
theorem k1E (h:0≤a∧0≤b):BR P .and T (.d m (.i .i64 a)) (.d m' (.i .i64 b)) (.int .i64 a) (.int .i64 b) (.i .i64 ((a.toNat &&& b.toNat:Nat):Int)) (.int .i64 ((a.toNat &&& b.toNat:Nat):Int)):=fun h1 h2=>⟨q1V h.1 h1.2 h.2 h2.2,k3z h h1 h2⟩
theorem bOrI (h:0≤a∧0≤b):BR P .or T (.d m (.i .i64 a)) (.d m' (.i .i64 b)) (.int .i64 a) (.int .i64 b) (.i .i64 ((a.toNat ||| b.toNat:Nat):Int)) (.int .i64 ((a.toNat ||| b.toNat:Nat):Int)):=fun h1 h2=>⟨q2H h.1 h1.2 h.2 h2.2,k4T h h1 h2⟩
theorem bRem (h:b≠0):BR P .rem T (.d m (.i .i64 a)) Y1 (.int .i64 a) (.int .i64 b) (.i .i64 (a.tmod b)) (.int .i64 (a.tmod b)):=fun h1 _=>⟨q2b h,k3A h1⟩
theorem bQuo (h:b≠0)(g:I64 (a.tdiv b)):BR P .quo T X1 Y1 (.int .i64 a) (.int .i64 b) (.i .i64 (a.tdiv b)) (.int .i64 (a.tdiv b)):=fun h1 _=>⟨q2a h g,g⟩
theorem j7Z {s t:ByteArray}(h:s.size+t.size≤9223372036854775807):BR P .add T X1 Y1 (.string s) (.string t) (.s (s++t)) (.string (s++t)):=fun _ _=>⟨q1P h,by simp only[rngD];rw[ByteArray.size_append];exact h⟩
end
section
variable {P:Program}[HasTab P]{S:Start}{n:Nat}{ops:Array Oper}{Q:AE→St→Prop}{QP:q4h}{o:Oper}{rest:List Oper}{ρ:AE}{σ:St}{d:Nat}{v:X}{rd:List Nat}{md:Md2}{T e:Nat}{t te:TI}{α:Type}{f:α→D}{xs:List α}{k:Nat}{m m' : Md}
theorem IE {x i:Operand}{r:Nat}{q:IntKind}{j:Int}{y:α}(hj:xs[j.toNat]?=some y)(h0:0≤j)(h:AL P S ops Q (q4f md [r] []) rest (updX ρ d (.pe r none j.toNat 0)) σ)(ho:o.op=.indexAddr T x i:=by rfl)(hT:(HasTab.tab P).get T=some t:=by rfl)(he:t.el=some e:=by rfl)(hE:(HasTab.tab P).get e=some te:=by rfl)(hx:evX ρ x=.ref r none:=by rfl)(hσ:fnOf σ r=.row m te.sz (xs.map f):=by rfl)(hi:evX ρ i=.d m' (.i q j):=by rfl)(hd:o.dst=some d:=by rfl)(hg:q3X ops ρ o=some true:=by rfl):AL P S ops Q md (o::rest) ρ σ:=
 q0f (q1u ho (q3Y hT he hE).1 (q3Y hT he hE).2 hx (by rw[hσ];rfl) hi h0 (q3Z (q3Z hj))) h hd hg
theorem LP {x:Operand}{r j c:Nat}{y:α}{z:D}(hj:xs[j]?=some y)(h:AL P S ops Q (q4f md [r] []) rest (updX ρ d (dX m z)) σ)(ho:o.op=.load T x:=by rfl)(hT:(HasTab.tab P).get T=some t:=by rfl)(ha:t.agg=false:=by rfl)(hx:evX ρ x=.pe r none j c:=by rfl)(hσ:fnOf σ r=.row m k (xs.map f):=by rfl)(hz:(f y).cells[c]?=some z:=by rfl)(hd:o.dst=some d:=by rfl)(hg:q3X ops ρ o=some true:=by rfl):AL P S ops Q md (o::rest) ρ σ:=
 q0f (q1t (hx':=[]) ho (by rw[TI.agg' (Tab.chk HasTab.ok hT),ha]) hx (by rw[hσ];rfl) (q3Z (q3Z hj)) (by rw[elOf,List.getElem?_map,hz];rfl) (.inl rfl) rfl) h hd hg
theorem z4Q {m:Md}:∀ {ds:List D} {c:Nat},z8w [] c (ds.map (Cell.d m))=some (ds.map (dX m))
 | [],c=>rfl
 | x::ds,c=>by simp only[List.map_cons,z8w,j2z,z4Q]
theorem LPa {x:Operand}{r j c:Nat}{y:α}(hj:xs[j]?=some y)(h:AL P S ops Q (q4f md [r] []) rest (updX ρ d (.ag ((((f y).cells.drop c).take t.sz).map (dX m)))) σ)(ho:o.op=.load T x:=by rfl)(hT:(HasTab.tab P).get T=some t:=by rfl)(ha:t.agg=true:=by rfl)(hx:evX ρ x=.pe r none j c:=by rfl)(hσ:fnOf σ r=.row m k (xs.map f):=by rfl)(hl:Nat.beq (((f y).cells.drop c).take t.sz).length t.sz=true:=by rfl)(hd:o.dst=some d:=by rfl)(hg:q3X ops ρ o=some true:=by rfl):AL P S ops Q md (o::rest) ρ σ:=
 q0f (q0Q (hx':=[]) (p:=(k,(xs.map f).map (elOf m))) ho (by rw[TI.agg' (Tab.chk HasTab.ok hT),ha]) (TI.sz' (Tab.chk HasTab.ok hT)) hx (by rw[hσ];rfl) (q3Z (q3Z hj)) (by have:=Nat.eq_of_beq_eq_true hl;simpa[elOf] using this) (.inl rfl) (by rw[elOf,← List.map_drop,← List.map_take];exact z4Q)) h hd hg
theorem AW.fz {c:Code}(r:Nat){ds:List D}(hr:fnOf σ r=.row m k ds)(h:AW P S n c QP (fun t=>frX r m k ds (ρ t)) (frS r m k ds 0 σ)):AW P S n c QP ρ σ:=AW.gh (q0r hr) h
theorem q3H {c' : Code}(q c r:Nat){k' : Nat}{cs:List X}(m:Md)(k:Nat)(hq:fnOf σ q=.box cs)(hc:cs[c]?=some (.nl k'))(h:AW P S n c' QP ρ (setL (setL σ r (.row m k [])) q (.box (cs.set c (.ref r none)))))(hr:fnOf σ r=.none:=by rfl):AW P S n c' QP ρ σ:=AW.gh (q0j m k hq hc hr) h
end
section
variable {S1:Md→Nat→Prop}{w:World}{g1 g2:Nat→G}{l:List (Nat×Nat)}
mutual
theorem k3b (hg:∀ i j,renI l i=some j→g2 j=g1 i):∀ {x:X} {v:Value},vr S1 w g1 x v→vr S1 w g2 (renX l x) v
 | .d m x,v,h=>by rw[renX];rw[vr] at h ⊢;exact h
 | .ag cs,v,h=>by rw[renX];rw[vr] at h ⊢;obtain⟨vs,h1,h2⟩:=h;exact⟨vs,h1,z9N hg h2⟩
 | .tu cs,v,h=>by rw[renX];rw[vr] at h ⊢;obtain⟨vs,h1,h2⟩:=h;exact⟨vs,h1,z9N hg h2⟩
 | .fn f cs,v,h=>by rw[renX];rw[vr] at h ⊢;obtain⟨vs,h1,h2⟩:=h;exact⟨vs,h1,z9N hg h2⟩
 | .ref r p,v,h=>by
  rw[renX]
  cases hr:renI l r with
  | none=>show vr _ _ _ .u _;rw[vr];trivial
  | some j=>show vr _ _ _ (.ref j p) _;rw[vr] at h ⊢;rw[hg r j hr];exact h
 | .vs r p a b,v,h=>by
  rw[renX]
  cases hr:renI l r with
  | none=>show vr _ _ _ .u _;rw[vr];trivial
  | some j=>show vr _ _ _ (.vs j p a b) _;rw[vr] at h ⊢;rw[hg r j hr];exact h
 | .pb r c,v,h=>by
  rw[renX]
  cases hr:renI l r with
  | none=>show vr _ _ _ .u _;rw[vr];trivial
  | some j=>show vr _ _ _ (.pb j c) _;rw[vr] at h ⊢;rw[hg r j hr];exact h
 | .pe r p i c,v,h=>by
  rw[renX]
  cases hr:renI l r with
  | none=>show vr _ _ _ .u _;rw[vr];trivial
  | some j=>show vr _ _ _ (.pe j p i c) _;rw[vr] at h ⊢;rw[hg r j hr];exact h
 | .pf m x,v,h=>by rw[renX];rw[vr] at h ⊢;exact h
 | .nl k,v,h=>by rw[renX];rw[vr] at h ⊢;exact h
 | .u,v,h=>by rw[renX];rw[vr];trivial
theorem z9N (hg:∀ i j,renI l i=some j→g2 j=g1 i):∀ {xs:List X} {vs:List Value},vrs S1 w g1 xs vs→vrs S1 w g2 (z6U l xs) vs
 | [],vs,h=>by rw[z6U];rw[vrs] at h ⊢;exact h
 | x::xs,vs,h=>by
  rw[z6U]
  rw[vrs] at h ⊢
  obtain⟨v,r,h1,h2,h3⟩:=h
  exact⟨v,r,h1,k3b hg h2,z9N hg h3⟩
end
end
def okH (l:List (Nat×Nat)):Root→Bool
 | .deep _ _ _ hs=>hs.all fun p=>(renI l p.2.2).isSome
 | _=>true
def renS (l:List (Nat×Nat))(n:Nat)(σ:St):St:=(List.range n).map fun j=>match invI l j with|some i=>renR l (fnOf σ i)|none=>.none
theorem j7c:∀ {l:St} {i:Nat},fnOf l i=(l[i]?).getD .none
 | [],i=>by rw[z1I];simp
 | x::l,0=>rfl
 | x::l,i+1=>by simp only[fnOf];rw[j7c (l:=l)];simp
theorem j9u {l:List (Nat×Nat)}{n:Nat}{σ:St}{j:Nat}:fnOf (renS l n σ) j=if j<n then (match invI l j with|some i=>renR l (fnOf σ i)|none=>.none) else .none:=by
 rw[j7c,renS,List.getElem?_map]
 by_cases hj:j<n
 ·rw[List.getElem?_range hj,ifP hj];rfl
 ·rw[List.getElem?_eq_none (by simpa using hj),ifN hj];rfl
def j2I (l:List (Nat×Nat))(n0 n:Nat)(σ:St):Bool:=
 Nat.ble n0 n&&(z4O (l.map (·.1))&&(z4O (l.map (·.2))&&((List.range n0).all (fun i=>match renI l i with|some j=>Nat.beq j i|none=>false)&&l.all fun p=>Nat.blt p.2 n&&okH l (fnOf σ p.1))))
def renG (l:List (Nat×Nat))(n:Nat)(g:Nat→G):Nat→G:=fun j=>if j<n then (match invI l j with|some i=>g i|none=>.none) else .none
section
variable {S:Start}{F:Nat→Prop}{g:Nat→G}{w:World}{σ:St}{ρ:AE}
theorem Sim.ren (h:Sim S F g (fnOf σ) w){l:List (Nat×Nat)}{n n0:Nat}(hS:S.n0=n0)(hok:j2I l n0 n σ=true):Sim S F (renG l n g) (fnOf (renS l n σ)) w∧∀ x v,vr (SM F S.B) w g x v→vr (SM F S.B) w (renG l n g) (renX l x) v:=by
 subst hS
 simp only[j2I,Bool.and_eq_true] at hok
 obtain⟨hn0,hd1,hd2,hpar,hall⟩:=hok
 have hn0:S.n0≤n:=by simpa using hn0
 have hd1:=q8D hd1
 have hd2:=q8D hd2
 have hp:∀ i,i<S.n0→renI l i=some i:=fun i hi=>by
  have:=List.all_eq_true.1 hpar i (List.mem_range.2 hi)
  split at this
  ·rename_i j hj;rw[hj,Nat.eq_of_beq_eq_true this]
  ·cases this
 have hl:∀ i j,renI l i=some j→j<n∧okH l (fnOf σ i)=true:=fun i j hij=>by
  have:=List.all_eq_true.1 hall (i,j) (z9i hij)
  simp only[Bool.and_eq_true] at this
  exact⟨by simpa using this.1,this.2⟩
 have hg:∀ i j,renI l i=some j→renG l n g j=g i:=fun i j hij=>by
  simp only[renG,ifP (hl i j hij).1,z5M hd2 hij hd1]
 have hinv:∀ j,(∃ i,renI l i=some j∧renG l n g j=g i∧fnOf (renS l n σ) j=renR l (fnOf σ i))∨(renG l n g j=.none∧fnOf (renS l n σ) j=.none):=fun j=>by
  rw[j9u]
  simp only[renG]
  by_cases hj:j<n
  ·simp only[ifP hj]
   cases hi:invI l j with
   | none=>exact .inr ⟨rfl,rfl⟩
   | some i=>exact .inl ⟨i,j2C hi hd1,by simp,by simp⟩
  ·exact .inr (by simp[hj])
 refine⟨⟨h.chg,h.bB,h.fmono,h.fnew,h.flt,fun j=>?_,h.low,fun j=>?_,fun j=>?_,fun j j' hne b hb=>?_,fun j b hb=>?_⟩,fun x v hv=>k3b hg hv⟩
 ·rcases hinv j with ⟨i,h1,h2,h3⟩|⟨h2,h3⟩
  ·rw[h2,h3]
   have hr:=h.roots i
   have hh:=(hl i j h1).2
   revert hr hh
   cases fnOf σ i<;>intro hr hh<;>cases hgi:g i<;>rw[hgi] at hr<;>try exact hr.elim
   ·trivial
   ·trivial
   ·obtain⟨vs,k1,k2⟩:=hr
    exact⟨vs,k1,z9N hg k2⟩
   ·exact hr
   ·simp only[okH] at hh
    refine⟨hr.1,fun p hp gc hgc=>?_,hr.2.2⟩
    obtain⟨q,hq,rfl⟩:=List.mem_map.1 hp
    obtain⟨j',hj'⟩:=Option.isSome_iff_exists.1 (List.all_eq_true.1 hh q hq)
    simp only[hj',Option.getD_some]
    rw[hg _ _ hj']
    exact hr.2.1 q hq gc hgc
  ·rw[h2,h3];trivial
 ·by_cases hj:j<S.n0
  ·rw[hg j j (hp j hj)];exact h.hdr j
  ·rw[h.low j (Nat.le_of_not_lt hj)];trivial
 ·rcases hinv j with ⟨i,_,h2,_⟩|⟨h2,_⟩
  ·rw[h2];exact h.nodup i
  ·rw[h2];exact List.nodup_nil
 ·rcases hinv j with ⟨i,h1,h2,_⟩|⟨h2,_⟩
  ·rw[h2] at hb
   rcases hinv j' with ⟨i',h1',h2',_⟩|⟨h2',_⟩
   ·rw[h2']
    exact h.disj i i' (fun e=>hne (by subst e;rw[h1] at h1';exact Option.some.inj h1')) b hb
   ·rw[h2'];exact List.not_mem_nil
  ·rw[h2] at hb;cases hb
 ·rcases hinv j with ⟨i,_,h2,_⟩|⟨h2,_⟩
  ·rw[h2] at hb;exact h.own i b hb
  ·rw[h2] at hb;cases hb
def WkR (l:List (Nat×Nat))(ρ:AE):List (Nat×X)→Prop
 | []=>True
 | (t,x)::L=>Wk x (renX l (ρ t))∧WkR l ρ L
theorem k3c {ρc:Env}{l:List (Nat×Nat)}{g' : Nat→G}(h:∀ t,vr (SM F S.B) w g' (renX l (ρ t)) (ρc t)):∀ {L:List (Nat×X)},WkR l ρ L→VR S F g' w (ofX L) ρc
 | [],_=>fun t=>by simp only[Go.A.ofX];rw[Go.A.vr];trivial
 | (t,x)::L,hl=>fun s=>by
  simp only[Go.A.ofX,updX]
  cases hb:Nat.beq s t with
  | true=>have:=Nat.eq_of_beq_eq_true hb;subst this;exact hl.1.vr (h _)
  | false=>exact k3c h hl.2 s
theorem GH.ren {n0:Nat}(hS:S.n0=n0)(l:List (Nat×Nat))(n:Nat){L:List (Nat×X)}{σt:St}(hL:WkR l ρ L)(hσ:renS l n σ=σt:=by rfl)(hc:j2I l n0 n σ=true:=by rfl):GH S ρ σ (ofX L) σt:=by
 intro F g w ρc hs hv
 subst hσ
 obtain⟨h1,h2⟩:=hs.ren hS hc
 exact⟨F,_,h1,k3c (fun t=>h2 _ _ (hv t)) hL⟩
theorem endA.ren {P:Program}{fn:Func}{e:Exit}{lr:List ResultVar}{xs:List X}{res:X}{post:St}{n0:Nat}(l:List (Nat×Nat))(n:Nat)(he:e=.normal∨e=.ret)(hS:S.n0=n0)(hl:fn.results=lr.toArray)(ht:lr.all (z9G fn.ntmps)=true)(hx:j2D P ρ σ lr=some xs)(hw:Wk res (renX l (tupX xs)))
  (hc:j2I l n0 n σ=true) (hp:renS l n σ=post):endA P S fn res post e ρ σ:=by
 refine⟨he,fun F g w ρc hs hv=>?_⟩
 obtain⟨vs,h1,h2⟩:=j3W hs hv ht hx
 obtain⟨k1,k2⟩:=hs.ren hS hc
 subst hp
 exact⟨tupV vs,fun a ha=>j5y hl (h1 a ha),F,_,k1,hw.vr (k2 _ _ (k4Z h2))⟩
end
theorem dT {p:Prop}[Decidable p](h:p):decide p=true:=decide_eq_true h
theorem dF {p:Prop}[Decidable p](h:¬ p):decide p=false:=decide_eq_false h
theorem nT {p:Prop}[Decidable p](h:¬ p):(!decide p)=true:=by simp[h]
theorem nF {p:Prop}[Decidable p](h:p):(!decide p)=false:=by simp[h]
theorem bF {t:Bool}(h:¬ t=true):t=false:=by simpa using h
theorem bnT {t:Bool}(h:¬ t=true):(!t)=true:=by simpa using h
theorem bnF {t:Bool}(h:t=true):(!t)=false:=by simp[h]
section
variable {P:Program}{S:Start}{n:Nat}{QP:q4h}{ρ:AE}{σ:St}{c:Operand}{x y:Code}{m:Md}{b:Bool}
theorem q0z (hc:evX ρ c=.d m (.b b))(hb:b=true)(h:AW P S n x QP ρ σ):AW P S n (.cond c x y) QP ρ σ:=q0X hc (fun _=>h) fun e=>by rw[hb] at e;cases e
theorem q0A (hc:evX ρ c=.d m (.b b))(hb:b=false)(h:AW P S n y QP ρ σ):AW P S n (.cond c x y) QP ρ σ:=q0X hc (fun e=>by rw[hb] at e;cases e) fun _=>h
end
section
variable {P:Program}[HasTab P]{S:Start}{n:Nat}{ops:Array Oper}{Q:AE→St→Prop}{o:Oper}{l rest:List Oper}{ρ:AE}{σ:St}{d:Nat}{md:Md2}{m:Md}{b:Bool}
theorem q0J {rd:List Nat}{b b' : Bool}(e:b=b')(h:LT P S o ρ σ rd (.d m (.b b)) []):LT P S o ρ σ rd (.d .fz (.b b')) []:=by
 subst e
 intro σ1 F g w ρc a1 a2 a3 a4
 have:=h σ1 F g w ρc a1 a2 a3 a4
 revert this
 generalize (execOp (E.ev ρc) o).run P w=r
 intro h
 have key:∀ vc w',(∃ F' g',Sim S F' g' (owr σ1 []) w'∧Pres S.B F g w F' g' w'∧vr (SM F' S.B) w' g' (.d m (.b b)) vc)→∃ F' g',Sim S F' g' (owr σ1 []) w'∧Pres S.B F g w F' g' w'∧vr (SM F' S.B) w' g' (.d .fz (.b b)) vc:=fun vc w' ⟨F',g',h1,h2,h3⟩=>⟨F',g',h1,h2,by rw[vr,rdC] at h3 ⊢;exact h3⟩
 cases r with
 | ok x w'=>
  cases x<;>simp only[z9v] at h ⊢
  case value u=>exact key _ _ h
  case skip=>exact key _ _ h
  case enter f args=>exact h.mono fun e w'' ⟨v,k1,k2⟩=>⟨v,k1,key _ _ k2⟩
 | halt x w'=>simp only[z9v] at h
theorem VT {rd:List Nat}(hv:opV (HasTab.tab P) ρ σ o.op=some (.d m (.b b),rd))(hb:b=true)(h:AL P S ops Q (q4f md rd []) rest (updX ρ d (.d .fz (.b true))) σ)(hd:o.dst=some d:=by rfl)(hg:q3X ops ρ o=some true:=by rfl):AL P S ops Q md (o::rest) ρ σ:=
 q0f (wr:=[]) (q0J hb (q1z (P:=P) (S:=S) HasTab.ok hv)) h hd hg
theorem VF {rd:List Nat}(hv:opV (HasTab.tab P) ρ σ o.op=some (.d m (.b b),rd))(hb:b=false)(h:AL P S ops Q (q4f md rd []) rest (updX ρ d (.d .fz (.b false))) σ)(hd:o.dst=some d:=by rfl)(hg:q3X ops ρ o=some true:=by rfl):AL P S ops Q md (o::rest) ρ σ:=
 q0f (wr:=[]) (q0J hb (q1z (P:=P) (S:=S) HasTab.ok hv)) h hd hg
theorem q3a {β:Type}(k:Nat){M:β→Prop}(L:β→List (Nat×X))(hk:AL P S ops (fun ρ' σ'=>∃ s,M s∧WkL ρ' (L s)∧σ'=σ) none (l.take k) ρ σ)(h:∀ s,M s→AL P S ops Q none (l.drop k) (ofX (L s)) σ):AL P S ops Q none l ρ σ:=by
 intro j lg hd
 have e:l=l.take k++l.drop k:=(List.take_append_drop k l).symm
 rw[e]
 refine AT.bind (hk j lg hd) fun ρ' σ' lg' hd' ⟨s,h1,h2,h3⟩=>?_
 subst h3
 exact .gh (q3D (L s) h2) (h s h1 _ _ _)
end
section
variable {P:Program}{S:Start}{n:Nat}{QP:q4h}{ρ:AE}{σ:St}{c:Code}
theorem q0e (j:Nat)(L:List (Nat×X))(R:List (Nat×Root))(h1:AW P S n c (z6k (fun ρ' σ'=>GH S ρ' σ' (ofX L) (owrL (σ.take j) R)) QP) ρ σ)(h2:QP .normal (ofX L) (owrL (σ.take j) R)):AW P S n c QP ρ σ:=
 AW.cut (β:=Unit) j (fun _=>L) (fun _=>R) (M:=fun _=>True) (h1.mono fun e ρ' σ' h=>by cases e<;>first|exact⟨(),trivial,h⟩|exact h) fun _ _=>h2
theorem AW.len {α:Type}{xs:List α}{f:α→D}{m:Md}{k:Nat}(hx:Hold ρ σ (.d m (.sl k (xs.map f))))(h:(xs.length:Int)≤9223372036854775807→AW P S n c QP ρ σ):AW P S n c QP ρ σ:=
 q0T hx fun h1=>h (by simpa[rngY] using h1)
theorem q1C {α:Type}{xs:List α}{f:α→D}{m:Md}{k:Nat}(r:Nat)(hr:fnOf σ r=.row m k (xs.map f))(h:(xs.length:Int)≤9223372036854775807→AW P S n c QP ρ σ):AW P S n c QP ρ σ:=
 q2i hr fun h1=>h (by simpa using h1)
theorem q0F {m:Md}{k:IntKind}{b:Int}(hx:Hold ρ σ (.d m (.i k b)))(h:rngI k b→AW P S n c QP ρ σ):AW P S n c QP ρ σ:=q0T hx h
theorem q3b {m:Md}{t:ByteArray}(hx:Hold ρ σ (.d m (.s t)))(h:t.size≤9223372036854775807→AW P S n c QP ρ σ):AW P S n c QP ρ σ:=q0T hx h
end
theorem ltN {k n:Nat}(h:k<n):(k:Int)<(n:Int):=by omega
theorem ltI {k:Nat}{b:Int}(h:k<b.toNat):(k:Int)<b:=by omega
theorem geN {n:Nat}:¬ ((n:Nat):Int)<(n:Int):=by omega
theorem geI {b:Int}:¬ ((b.toNat:Nat):Int)<b:=by omega
section
variable {P:Program}[HasTab P]{S:Start}{n:Nat}{ops:Array Oper}{Q:AE→St→Prop}{QP:q4h}{o:Oper}{rest:List Oper}{ρ:AE}{σ:St}{d:Nat}{md:Md2}{T e:Nat}{t te:TI}{m:Md}
theorem j9v {β:Type}{f:β→X}:∀ {l:List (Nat×β)} {i:Nat},l.map (·.1)=List.range' i l.length→l.map (fun p=>(p.1,f p.2))=idxX i (l.map fun p=>f p.2)
 | [],_,_=>rfl
 | p::l,i,h=>by
  simp only[List.map_cons,lnC,List.range'_succ,List.cons.injEq] at h
  simp only[List.map_cons,idxX,j9v h.2,h.1]
theorem LIR {α:Type}{f:α→D}{xs:List α}{mm:Nat}{parts:Array (Nat×Operand)}{zs:List X}(r:Nat)(h:AL P S ops Q (q4f md [] [r]) rest (updX ρ d (.ref r none)) (setL σ r (.row m te.sz (xs.map f))))(ho:o.op=.buildSlice T mm parts:=by rfl)(hT:(HasTab.tab P).get T=some t:=by rfl)(he:t.el=some e:=by rfl)(hE:(HasTab.tab P).get e=some te:=by rfl)(hz:te.z=some zs:=by rfl)(hzl:zs.length=te.sz:=by rfl)(hp:parts.toList.map (·.1)=List.range' 0 parts.toList.length:=by rfl)(hds:asDs m (parts.toList.map fun p=>evX ρ p.2)=some (xs.map f):=by rfl)(hw:(xs.map f).all (fun d=>Nat.beq d.cells.length te.sz)=true:=by rfl)(hn:(xs.map f).length=mm:=by rfl)(hk0:Nat.blt 0 te.sz=true:=by rfl)(hm:Nat.blt 0 mm=true:=by rfl)(hm2:Nat.ble (mm*te.sz) 100000=true:=by rfl)(hr:fnOf σ r=.none:=by rfl)(hd:o.dst=some d:=by rfl)(hg:q3X ops ρ o=some true:=by rfl):AL P S ops Q md (o::rest) ρ σ:=by
 obtain⟨z,h1,h2⟩:=TI.z' (Tab.chk HasTab.ok hE) hz
 exact q0f (q2n ho (q3Y hT he hE).1 (q3Y hT he hE).2 h1 (by rw[← hzl,← (h2 (fun _ _=>True) default (fun _=>.none)).len]) (j9v hp) hds hw hn hk0 hm hm2 hr) h hd hg
end
theorem z8y {m:Md}:mle m .bo=true:=by cases m<;>rfl
theorem DA {α:Type}{σ:Nat→Root}{r k:Nat}{m:Md}{f:α→List Cell}{D0:α→D}{xs:List α}(hf:∀ x,DR (f x) (D0 x))(h:σ r=.deep m k (xs.map f) []):DataAt σ r m k (xs.map D0) [r]:=
 .deep h (all2.map hf xs) rfl rfl
theorem k1F {α:Type}{l:List α}{j:Nat}{x:α}(h:l[j]?=some x):l.set j x=l:=by
 apply List.ext_getElem?
 intro i
 rw[List.getElem?_set]
 split
 ·rename_i hi;subst hi
  have hl:=(List.getElem?_eq_some_iff.1 h).1
  rw[ifP hl,h]
 ·rfl
theorem AT.mono {P:Program}{S:Start}{ops:Array Oper}{K K' : AE→St→Lg→Option Nat→Prop}{k:Nat}{l:List Oper}{ρ:AE}{σ:St}{lg:Lg}{hd:Option Nat}(h:AT P S ops K k l ρ σ lg hd)(hk:∀ ρ σ lg hd,K ρ σ lg hd→K' ρ σ lg hd):AT P S ops K' k l ρ σ lg hd:=by
 induction h with
 | nil h=>exact .nil (hk _ _ _ _ h)
 | op hg hl _ ih=>exact .op hg hl ih
 | off hg _ ih=>exact .off hg ih
 | opT hg hl _ ih=>exact .opT hg hl ih
 | gh hl _ ih=>exact .gh hl ih
theorem q0Z {S:Start}{ρ:AE}{σ:St}{r k:Nat}{xs:List D}(m:Md)(hr:fnOf σ r=.row .fz k xs):GH S ρ σ ρ (setL σ r (.row m k xs)):=by
 intro F g w ρc hs hv
 refine⟨F,g,⟨hs.chg,hs.bB,hs.fmono,hs.fnew,hs.flt,fun i=>?_,hs.low,hs.hdr,hs.nodup,hs.disj,hs.own⟩,hv⟩
 rw[q8f]
 by_cases hi:i=r
 ·subst hi
  rw[ifP rfl]
  have h:=hs.roots i
  rw[hr] at h
  revert h
  cases g i<;>intro h<;>try exact h.elim
  obtain⟨h1,h2⟩:=h
  obtain⟨k1,k2,k3,k4⟩:=q6P h2
  rename_i v k' L gs
  subst h1
  refine⟨rfl,k1 |> fun q=>by rw[lnM];exact q,?_⟩
  have:(q5A gs).length=xs.length*k':=k2.len
  have h3:rowOk (fun _=>SM F S.B m) w (xs.map (elOf .fz)) v k' L gs:=j1E h2 fun b hb=>by
   cases m with
   | fz=>exact hb
   | bo=>exact .inl hb
  obtain⟨gs2,q1,q2,q3⟩:=j5s (S1:=SM F S.B) (m:=m) (k2.mono fun b hb=>by cases m with|fz=>exact hb|bo=>exact .inl hb)
  clear q1 q2 q3 gs2
  have conv:∀ (ds:List D) (ge:List GC),all2 (cellOk (SM F S.B) w) (ds.map (Cell.d .fz)) ge→all2 (cellOk (SM F S.B) w) (ds.map (Cell.d m)) ge:=by
   intro ds
   induction ds with
   | nil=>exact fun _ h=>h
   | cons d ds ih=>exact fun ge ⟨gc,r,h1,h2,h3⟩=>⟨gc,r,h1,⟨h2.1,h2.2.1,h2.2.2.mono fun b hb=>by cases m with|fz=>exact hb|bo=>exact .inl hb⟩,ih r h3⟩
  have h4:=h2.2
  clear h3 k1 k2 k3 k4 h2 hr this
  induction xs generalizing gs with
  | nil=>exact h4
  | cons x xs ih=>
   obtain⟨ge,r,e1,e2,e3⟩:=h4
   exact⟨ge,r,e1,⟨by have:=e2.1;simpa[elOf] using this,conv _ _ e2.2⟩,ih _ e3⟩
 ·rw[ifN hi];exact hs.roots i
section
variable {P:Program}[HasTab P]{S:Start}{n:Nat}{ops:Array Oper}{Q:AE→St→Prop}{o:Oper}{l rest:List Oper}{ρ:AE}{σ:St}{d:Nat}{md:Md2}
theorem q0a (k:Nat)(L:List (Nat×X))(hk:AL P S ops (fun ρ' σ'=>WkL ρ' L∧σ'=σ) none (l.take k) ρ σ)(h:AL P S ops Q none (l.drop k) (ofX L) σ):AL P S ops Q none l ρ σ:=
 q3a (β:=Unit) (M:=fun _=>True) k (fun _=>L) (fun j lg hd=>(hk j lg hd).mono fun ρ' σ' _ _ h=>⟨(),trivial,h.1,h.2⟩) fun _ _=>h
theorem CB {f:Nat}{c:Call}{x:Operand}{caps axs args:List X}{pre post:St}{res:X}(ren:List (Nat×Nat))(vw:List Nat)(ok:Ok P f args pre res post)(h:AL P S ops Q (q4f md vw ((ren.map fun p=>(p.2,z4P ren (fnOf post p.1))).map (·.1))) rest (updX ρ d (renX ren res)) (owrL σ (ren.map fun p=>(p.2,z4P ren (fnOf post p.1)))))
  (ho:o.op=.call c:=by rfl) (hc:c.callee=.value x:=by rfl) (hx:evX ρ x=.fn f caps:=by rfl) (hcb:q8x P f=true:=by kernel_rfl) (ha:c.args.toList.map (evX ρ)++caps=axs:=by rfl) (hp:PassL (fnOf σ) ren vw axs args:=by repeat (first|exact .nil|refine .cons ?_ ?_|exact .same|exact .ag (.cons .same (.cons .same .nil))|refine .ag ?_|exact .d rfl|exact .d z8y|exact .nld|exact .nl|exact .rd rfl rfl|exact .vd rfl rfl|exact .pb rfl|exact .ref rfl|refine .fn ?_|exact .pf rfl|exact .pf z8y|exact .dd (DA (by exact fun _=>rfl) rfl) rfl|exact .dd (DA OwD.rd rfl) rfl|(refine .dd (DAh (x:=?x) OwD.rd ?hx0 rfl rfl rfl ?he0) rfl;(case hx0=>assumption);(case he0=>rfl))|exact .u))
  (hpre:PreL (fnOf σ) (fnOf pre) ren ren:=by repeat (first|exact trivial|refine And.intro rfl ?_)) (hchk:z9F ren vw pre post res=true:=by rfl) (hd:o.dst=some d:=by rfl) (hg:q3X ops ρ o=some true:=by rfl):AL P S ops Q md (o::rest) ρ σ:=
 CA ren vw ok hp h hpre ho hc hx hcb ha hchk hd hg
end
section
variable {P:Program}[HasTab P]{S:Start}{n:Nat}{ops:Array Oper}{Q:AE→St→Prop}{QP:q4h}{o:Oper}{rest:List Oper}{ρ:AE}{σ:St}{d:Nat}{v:X}{rd:List Nat}{md:Md2}{T e:Nat}{t te:TI}
theorem q3I {x i:Operand}{m m' : Md}{s:ByteArray}{q:IntKind}{j:Int}{b:UInt8}(ho:o.op=.index T x i)(hT:P.underlying T=some .string)(hx:evX ρ x=.d m (.s s))(hi:evX ρ i=.d m' (.i q j))(h0:0≤j)(hb:s.data[j.toNat]?=some b):LT P S o ρ σ [] (.d .fz (.i .u8 (b.toNat:Int))) []:=
 LT.val fun σ1 F g w ρc hs hr hw=>by
  have e1:=hw x (by simp[ho,Op.operands])
  have e2:=hw i (by simp[ho,Op.operands])
  rw[hx,vr,rdC] at e1
  rw[hi,vr,rdC] at e2
  refine⟨_,q3o (k:=j.toNat) ho hT e1.1 (by rw[e2.1,j3L h0]) hb,?_⟩
  rw[vr,rdC]
  exact⟨rfl,by omega,by have:=b.toNat_lt;omega⟩
theorem q3c {U e:Nat}{x:Operand}{r:Nat}{m:Md}{b:UInt8}(ho:o.op=.convert U T x)(hU:q7D P U=some e)(he:intT P e=some .u8)(hT:P.underlying T=some .string)(hx:evX ρ x=.ref r none)(hσ:fnOf σ r=.row m 1 [.i .u8 (b.toNat:Int)]):LT P S o ρ σ [r] (.d .fz (.s ⟨#[b]⟩)) []:=
 LT.val fun σ1 F g w ρc hs hr hw=>by
  have e1:=hw x (by simp[ho,Op.operands])
  have hq:σ1 r=.row m 1 [.i .u8 (b.toNat:Int)]:=(hr r (by simp)).trans hσ
  obtain⟨v,L,gs,hg,hrow⟩:=z8u hs (.inr ⟨m,_,hq,rfl⟩)
  rw[hx,vr,hg] at e1
  have e1:=e1 _ _ rfl
  obtain⟨k1,k2,_⟩:=q6P hrow
  rcases hrow.1.at with h|⟨g0,c,T0,cur,h1,h2,_⟩
  ·simp only[List.map_cons,List.map_nil,lnC] at h;omega
  ·have e3:q5A gs=[.int .u8 (b.toNat:Int)]:=by
    obtain⟨c0,r0,q1,q2,q3,q4⟩:=q6E.1 k2
    replace q3:rdCs (SM F S.B m) w [.i .u8 (b.toNat:Int)] c0:=q3
    rw[j2w] at q3
    obtain⟨v0,q5,q6⟩:=q3
    rw[rdC] at q6
    rw[rdE] at q4
    rw[q1,q4,q5,q6.1];rfl
   rw[e3] at h2
   have hf:∃ A c',v=.slice A 1 c'∧1≤c'∧c'≤maxLen:=by simpa using hrow.1.form
   obtain⟨A,c',q1,q2,q3⟩:=hf
   rw[q1] at h1
   have e5:A=some ⟨g0,0,none⟩:=by injection h1
   refine⟨_,q1B (F:=fun _=>True) (v:=v) ho hU he hT e1 ⟨A,c',[.int .u8 (b.toNat:Int)],q1,q2,q3,⟨[.int .u8 (b.toNat:Int)],[],rfl,rfl,rfl⟩,.inr ⟨g0,0,e5,trivial,h2⟩⟩,by rw[vr,rdC];exact⟨rfl,Nat.le_of_ble_eq_true rfl⟩⟩
theorem LT.mx {T1 T2:Nat}{x y:Operand}{a b:Int}{m m' : Md}(ho:o.op=.call { callee:=.builtin .max,args:=#[x,y],argTypes:=#[T1,T2] })(hx:evX ρ x=.d m (.i .i64 a))(hy:evX ρ y=.d m' (.i .i64 b)):LT P S o ρ σ [] (.d .fz (.i .i64 (if b > a then b else a))) []:=
 LT.val fun σ1 F g w ρc hs hr hw=>by
  have e1:=hw x (by simp[ho,Op.operands,Call.operands])
  have e2:=hw y (by simp[ho,Op.operands,Call.operands])
  rw[hx,vr,rdC] at e1
  rw[hy,vr,rdC] at e2
  exact⟨_,q2T ho e1.1 e2.1,by rw[vr,rdC];exact⟨rfl,j9f e1.2 e2.2⟩⟩
theorem LT.mn {T1 T2:Nat}{x y:Operand}{a b:Int}{m m' : Md}(ho:o.op=.call { callee:=.builtin .min,args:=#[x,y],argTypes:=#[T1,T2] })(hx:evX ρ x=.d m (.i .i64 a))(hy:evX ρ y=.d m' (.i .i64 b)):LT P S o ρ σ [] (.d .fz (.i .i64 (if b<a then b else a))) []:=
 LT.val fun σ1 F g w ρc hs hr hw=>by
  have e1:=hw x (by simp[ho,Op.operands,Call.operands])
  have e2:=hw y (by simp[ho,Op.operands,Call.operands])
  rw[hx,vr,rdC] at e1
  rw[hy,vr,rdC] at e2
  exact⟨_,q2U ho e1.1 e2.1,by rw[vr,rdC];exact⟨rfl,j9f e1.2 e2.2⟩⟩
end
mutual
def mvX (i j:Nat):X→X
 | .ref r p=>.ref (bif Nat.beq r i then j else r) p
 | .vs r p a b=>.vs (bif Nat.beq r i then j else r) p a b
 | .pe r p a b=>.pe (bif Nat.beq r i then j else r) p a b
 | .ag cs=>.ag (mvXs i j cs)
 | .tu cs=>.tu (mvXs i j cs)
 | .fn f cs=>.fn f (mvXs i j cs)
 | .pb r c=>.pb r c
 | .d m x=>.d m x
 | .pf m x=>.pf m x
 | .nl k=>.nl k
 | .u=>.u
def mvXs (i j:Nat):List X→List X
 | []=>[]
 | x::xs=>mvX i j x::mvXs i j xs
end
def mvR (i j:Nat):Root→Root
 | .box cs=>.box (mvXs i j cs)
 | .deep m k es hs=>.deep m k es (hs.map fun p=>(p.1,p.2.1,bif Nat.beq p.2.2 i then j else p.2.2))
 | x=>x
def mvL (i j:Nat):Nat→St→St
 | _,[]=>[]
 | n,x::l=>(bif Nat.beq n i then .dead else mvR i j x)::mvL i j (n+1) l
theorem j2J {i j:Nat}:∀ {l:St} {n r:Nat},fnOf l r≠.none→fnOf (mvL i j n l) r=if n+r=i then .dead else mvR i j (fnOf l r)
 | [],n,r,h=>absurd (z1I r) h
 | x::l,n,0,h=>by
  simp only[mvL,fnOf,Nat.add_zero]
  cases hb:Nat.beq n i with
  | true=>simp[Nat.eq_of_beq_eq_true hb]
  | false=>have:=Nat.ne_of_beq_eq_false hb;simp[this]
 | x::l,n,r+1,h=>by
  simp only[mvL,fnOf] at h ⊢
  rw[j2J h,show n+1+r=n+(r+1) by omega]
theorem j4g {i j:Nat}:∀ {l:St} {n r:Nat},fnOf l r=.none→n+r≠i→fnOf (mvL i j n l) r=.none
 | [],n,r,_,_=>z1I r
 | x::l,n,0,h,hn=>by
  simp only[fnOf] at h
  simp only[mvL,fnOf,h,mvR]
  have:Nat.beq n i=false:=by cases hb:Nat.beq n i with|true=>exact absurd (Nat.eq_of_beq_eq_true hb) hn|false=>rfl
  rw[this];rfl
 | x::l,n,r+1,h,hn=>by
  simp only[mvL,fnOf] at h ⊢
  exact j4g h (by omega)
section
variable {S1:Md→Nat→Prop}{w:World}{g g' : Nat→G}{i j:Nat}
theorem bq {r i:Nat}:(Nat.beq r i=true∧r=i)∨(Nat.beq r i=false∧r≠i):=by
 cases h:Nat.beq r i with
 | true=>exact .inl ⟨rfl,Nat.eq_of_beq_eq_true h⟩
 | false=>exact .inr ⟨rfl,Nat.ne_of_beq_eq_false h⟩
theorem j7d {r:Nat}{p:Option (Nat×Nat)}{R:Value→Nat→Prop}(hj:g j=.none)(h1:g' j=g i)(h3:∀ r,r≠i→r≠j→g' r=g r)(h:onG (g r) p R):onG (g' (bif Nat.beq r i then j else r)) p R:=by
 rcases bq (r:=r) (i:=i) with ⟨hb,e⟩|⟨hb,e⟩
 ·rw[hb,cond_true,h1,← e];exact h
 ·rw[hb,cond_false]
  by_cases hr:r=j
  ·rw[hr,hj] at h;exact h.elim
  ·rw[h3 r e hr];exact h
mutual
theorem k5e (hj:g j=.none)(h1:g' j=g i)(h2:g' i=.dead)(h3:∀ r,r≠i→r≠j→g' r=g r):∀ {x:X} {v:Value},vr S1 w g x v→vr S1 w g' (mvX i j x) v
 | .d m x,v,h=>by rw[mvX];rw[vr] at h ⊢;exact h
 | .ag cs,v,h=>by rw[mvX];rw[vr] at h ⊢;obtain⟨vs,k1,k2⟩:=h;exact⟨vs,k1,j4h hj h1 h2 h3 k2⟩
 | .tu cs,v,h=>by rw[mvX];rw[vr] at h ⊢;obtain⟨vs,k1,k2⟩:=h;exact⟨vs,k1,j4h hj h1 h2 h3 k2⟩
 | .ref r p,v,h=>by rw[mvX];rw[vr] at h ⊢;exact j7d hj h1 h3 h
 | .vs r p a b,v,h=>by rw[mvX];rw[vr] at h ⊢;exact j7d hj h1 h3 h
 | .pe r p a b,v,h=>by rw[mvX];rw[vr] at h ⊢;exact j7d hj h1 h3 h
 | .pb r c,v,h=>by
  rw[mvX];rw[vr] at h ⊢
  by_cases hr:r=i
  ·rw[hr,h2];trivial
  ·by_cases hr2:r=j
   ·rw[hr2,hj] at h;exact h.elim
   ·rw[h3 r hr hr2];exact h
 | .pf m xs,v,h=>by rw[mvX];rw[vr] at h ⊢;exact h
 | .fn f cs,v,h=>by rw[mvX];rw[vr] at h ⊢;obtain⟨vs,k1,k2⟩:=h;exact⟨vs,k1,j4h hj h1 h2 h3 k2⟩
 | .nl k,v,h=>by rw[mvX];rw[vr] at h ⊢;exact h
 | .u,v,h=>by rw[mvX,vr];trivial
theorem j4h (hj:g j=.none)(h1:g' j=g i)(h2:g' i=.dead)(h3:∀ r,r≠i→r≠j→g' r=g r):∀ {xs:List X} {vs:List Value},vrs S1 w g xs vs→vrs S1 w g' (mvXs i j xs) vs
 | [],vs,h=>by rw[mvXs];rw[vrs] at h ⊢;exact h
 | x::xs,vs,h=>by
  rw[mvXs];rw[vrs] at h ⊢
  obtain⟨v,r,k1,k2,k3⟩:=h
  exact⟨v,r,k1,k5e hj h1 h2 h3 k2,j4h hj h1 h2 h3 k3⟩
end
end
section
variable {P:Program}{S:Start}{n:Nat}{QP:q4h}{ρ:AE}{σ:St}
theorem q1D {i j k:Nat}{m:Md}{xs:List D}(hi:fnOf σ i=.row m k xs)(hj:fnOf σ j=.none):GH S ρ σ (fun t=>mvX i j (ρ t)) (setL (mvL i j 0 σ) j (.row m k xs)):=by
 intro F g w ρc hs hv
 have hgj:g j=.none:=by
  have:=hs.roots j
  rw[hj] at this
  revert this
  cases g j<;>intro h<;>first|rfl|exact h.elim
 have hij:i≠j:=fun e=>by rw[e,hj] at hi;cases hi
 let g' : Nat→G:=fun r=>if r=j then g i else if r=i then .dead else g r
 have h1:g' j=g i:=by simp[g']
 have h2:g' i=.dead:=by simp[g',hij]
 have h3:∀ r,r≠i→r≠j→g' r=g r:=fun r a b=>by simp[g',a,b]
 have hc:∀ r,(r=j∧g' r=g i)∨(r=i∧g' r=.dead)∨(r≠i∧r≠j∧g' r=g r):=fun r=>by
  by_cases a:r=j
  ·exact .inl ⟨a,by rw[a];exact h1⟩
  ·by_cases b:r=i
   ·exact .inr (.inl ⟨b,by rw[b];exact h2⟩)
   ·exact .inr (.inr ⟨b,a,h3 r b a⟩)
 refine⟨F,g',⟨hs.chg,hs.bB,hs.fmono,hs.fnew,hs.flt,fun r=>?_,hs.low,fun r=>?_,fun r=>?_,fun r r' hne b hb=>?_,fun r b hb=>?_⟩,fun t=>k5e hgj h1 h2 h3 (hv t)⟩
 ·rw[q8f]
  have hr:=hs.roots r
  rcases hc r with ⟨a,b⟩|⟨a,b⟩|⟨a,a',b⟩
  ·rw[ifP a,b]
   have:=hs.roots i
   rw[hi] at this
   revert this
   cases g i<;>intro h<;>first|exact h|exact h.elim
  ·rw[ifN (by rw[a];exact hij),b,j2J (by rw[a,hi];intro h;cases h),ifP (by omega)]
   trivial
  ·rw[ifN a',b]
   by_cases hn:fnOf σ r=.none
   ·rw[j4g hn (by omega)]
    rw[hn] at hr
    revert hr
    cases g r<;>intro h<;>first|trivial|exact h.elim
   ·rw[j2J hn,ifN (by omega)]
    revert hr
    cases hσ:fnOf σ r<;>intro hr<;>cases hg:g r<;>rw[hg] at hr<;>try exact hr.elim
    ·trivial
    ·trivial
    ·obtain⟨vs,k1,k2⟩:=hr
     exact⟨vs,k1,j4h hgj h1 h2 h3 k2⟩
    ·exact hr
    ·refine⟨hr.1,fun p hp gc hgc=>?_,hr.2.2⟩
     obtain⟨q,hq,rfl⟩:=List.mem_map.1 hp
     exact j7d hgj h1 h3 (hr.2.1 q hq gc hgc)
 ·rcases hc r with ⟨a,b⟩|⟨a,b⟩|⟨a,a',b⟩
  ·have:=hs.hdr r
   rw[a,hgj] at this
   rw[b,a]
   revert this
   cases S.g0 j<;>intro h<;>simp[j1x] at h ⊢
  ·rw[b,a]
   cases S.g0 i<;>simp[j1x]
  ·rw[b];exact hs.hdr r
 ·rcases hc r with ⟨a,b⟩|⟨a,b⟩|⟨a,a',b⟩<;>rw[b]
  ·exact hs.nodup i
  ·exact List.nodup_nil
  ·exact hs.nodup r
 ·rcases hc r with ⟨a,e⟩|⟨a,e⟩|⟨a,a',e⟩<;>rw[e] at hb<;>rcases hc r' with ⟨c,e'⟩|⟨c,e'⟩|⟨c,c',e'⟩<;>rw[e']
  ·exact absurd (a.trans c.symm) hne
  ·exact List.not_mem_nil
  ·exact hs.disj i r' (fun h=>c h.symm) b hb
  ·cases hb
  ·cases hb
  ·cases hb
  ·exact hs.disj r i a b hb
  ·exact List.not_mem_nil
  ·exact hs.disj r r' hne b hb
 ·rcases hc r with ⟨a,e⟩|⟨a,e⟩|⟨a,a',e⟩<;>rw[e] at hb
  ·exact hs.own i b hb
  ·cases hb
  ·exact hs.own r b hb
theorem AW.mv {c:Code}(i j:Nat){k:Nat}{m:Md}{xs:List D}(hi:fnOf σ i=.row m k xs)(h:AW P S n c QP (fun t=>mvX i j (ρ t)) (setL (mvL i j 0 σ) j (.row m k xs)))(hj:fnOf σ j=.none:=by rfl):AW P S n c QP ρ σ:=AW.gh (q1D hi hj) h
theorem q0E {q:Nat}{cs:List X}(cs' : List X)(hw:Wks cs' cs)(hq:fnOf σ q=.box cs):GH S ρ σ ρ (setL σ q (.box cs')):=by
 intro F g w ρc hs hv
 refine⟨F,g,⟨hs.chg,hs.bB,hs.fmono,hs.fnew,hs.flt,fun i=>?_,hs.low,hs.hdr,hs.nodup,hs.disj,hs.own⟩,hv⟩
 rw[q8f]
 by_cases hi:i=q
 ·subst hi
  rw[ifP rfl]
  have:=hs.roots i
  rw[hq] at this
  revert this
  cases g i<;>intro h<;>try exact h.elim
  obtain⟨vs,k1,k2⟩:=h
  exact⟨vs,k1,hw.vr k2⟩
 ·rw[ifN hi];exact hs.roots i
end
section
variable {P:Program}[HasTab P]{S:Start}{n:Nat}{QP:q4h}{ρ:AE}{σ:St}
theorem q3d {id T a b s:Nat}{ops:Array Oper}{o1 o2:Oper}{m:Md}{k U:Nat}{xs:List D}{t:TI}{e:Nat}(hs:ρ s=.d m (.sl k xs))(h:∀ q:Bool,(q=true→xs=[])→QP .normal (updX (updX ρ a (.d m (.sl k xs))) b (.d .fz (.b q))) σ)
  (hl:ops.toList=[o1,o2]:=by rfl) (h1:o1.op=.move (.tmp s):=by rfl) (h2:o2.op=.binOp .eql T (.tmp a) (.const (.slice none 0 0)) U:=by rfl) (hT:(HasTab.tab P).get T=some t:=by rfl) (he:t.el=some e:=by rfl) (d1:o1.dst=some a:=by rfl) (d2:o2.dst=some b:=by rfl) (g1:o1.guard=none:=by rfl) (g2:o2.guard=none:=by rfl):AW P S n (.region id ops false) QP ρ σ:=by
 intro F g w ρc hsim hv
 have hx:=hv s
 rw[hs] at hx
 have hx0:=hx
 rw[vr,rdC] at hx
 obtain⟨A,cap,cells,e1,e2,e3,e4,e5⟩:=hx
 refine q1h ?_
 rw[hl]
 refine WL.ev g1 d1 (q3j h1 rfl) (WL.ev g2 d2 (q1j h2 (u:=.slice A xs.length cap) (v:=.slice none 0 0) ?_ rfl (q1d (TI.el' (Tab.chk HasTab.ok hT) he))) (WL.nil ⟨_,σ,F,g,hsim,?_,h (decide (A=none)) ?_⟩))
 ·show E.upd ρc a (ρc s) a=_
  simp only[E.upd,Nat.beq_refl,cond_true];exact e1
 ·have:=(hv.put (some a) hx0).put (some b) (show vr (SM F S.B) w g (.d .fz (.b (decide (A=none)))) (.bool (decide (A=none))) by rw[vr,rdC])
  exact this
 ·intro hq
  rcases e5 with h|⟨b,o,h,_⟩
  ·exact h
  ·rw[h] at hq;simp at hq
end
section
variable {P:Program}[HasTab P]{S:Start}{n:Nat}{ops:Array Oper}{Q:AE→St→Prop}{o:Oper}{l rest:List Oper}{ρ:AE}{σ:St}{d:Nat}{md:Md2}
theorem q0v (k j:Nat)(L:List (Nat×X))(R:List (Nat×Root))(hk:AL P S ops (fun ρ' σ'=>GH S ρ' σ' (ofX L) (owrL (σ.take j) R)) none (l.take k) ρ σ)(h:AL P S ops Q none (l.drop k) (ofX L) (owrL (σ.take j) R)):AL P S ops Q none l ρ σ:=by
 intro i lg hd
 have e:l=l.take k++l.drop k:=(List.take_append_drop k l).symm
 rw[e]
 refine AT.bind (hk i lg hd) fun ρ' σ' lg' hd' h1=>?_
 exact .gh h1 (h _ _ _)
end
theorem k1G {S1:Md→Nat→Prop}{w:World}{c:D}{v:Value}{m m' : Md}(hc:j5A c=true)(h:rdC (S1 m) w c v):rdC (S1 m') w c v:=by
 cases c<;>first|(rw[rdC] at h ⊢;exact h)|cases hc
theorem j1I {S1:Md→Nat→Prop}{w:World}{m m' : Md}:∀ {ds:List D} {ge:List GC},ds.all j5A=true→all2 (cellOk S1 w) (ds.map (Cell.d m)) ge→all2 (cellOk S1 w) (ds.map (Cell.d m')) ge
 | [],ge,_,h=>h
 | x::ds,ge,hf,h=>by
  obtain⟨gc,r,e1,e2,e3⟩:=h
  simp only[List.all_cons,Bool.and_eq_true] at hf
  exact⟨gc,r,e1,⟨e2.1,e2.2.1,k1G hf.1 e2.2.2⟩,j1I hf.2 e3⟩
theorem j4i {S1:Md→Nat→Prop}{w:World}{k:Nat}{m m' : Md}:∀ {xs:List D} {gs:List (List GC)},(∀ x∈xs,z8R x=true)→all2 (elOk S1 w k) (xs.map (elOf m)) gs→all2 (elOk S1 w k) (xs.map (elOf m')) gs
 | [],gs,_,h=>h
 | x::xs,gs,hf,h=>by
  obtain⟨ge,r,e1,e2,e3⟩:=h
  exact⟨ge,r,e1,⟨by have:=e2.1;simpa[elOf] using this,j1I (hf x (by simp)) e2.2⟩,j4i (fun y hy=>hf y (by simp[hy])) e3⟩
theorem z9O {S1:Md→Nat→Prop}{w:World}{g:Nat→G}{z:G}{k:Nat}{m m' : Md}{xs:List D}(hf:∀ x∈xs,z8R x=true)(h:z0D S1 w g (.row m k xs) z):z0D S1 w g (.row m' k xs) z:=by
 revert h
 cases z<;>intro h<;>try exact h.elim
 exact⟨h.1,by have:=h.2.1;rw[lnM] at this ⊢;exact this,j4i hf h.2.2⟩
theorem Sim.alt {S:Start}{F:Nat→Prop}{g:Nat→G}{σ1 σ2:Nat→Root}{w:World}(h:Sim S F g σ1 w)(k:∀ i,z0D (SM F S.B) w g (σ1 i) (g i)→z0D (SM F S.B) w g (σ2 i) (g i)):Sim S F g σ2 w:=
 ⟨h.chg,h.bB,h.fmono,h.fnew,h.flt,fun i=>k i (h.roots i),h.low,h.hdr,h.nodup,h.disj,h.own⟩
section
variable {P:Program}{S:Start}{o:Oper}{ρ:AE}{σ:St}{rd:List Nat}{v:X}
theorem LT.alt {wr wr' : List (Nat×Root)}(h:LT P S o ρ σ rd v wr)(h1:wr'.map (·.1)=wr.map (·.1))(h2:∀ (σ1:Nat→Root) (S1:Md→Nat→Prop) (w:World) (g:Nat→G) (i:Nat),z0D S1 w g (owr σ1 wr i) (g i)→z0D S1 w g (owr σ1 wr' i) (g i)):LT P S o ρ σ rd v wr':=by
 intro σ1 F g w ρc a1 a2 a3 a4
 have a3' : ∀ p∈wr,σ1 p.1=fnOf σ p.1:=fun p hp=>by
  have:p.1∈wr'.map (·.1):=by rw[h1];exact List.mem_map.2 ⟨p,hp,rfl⟩
  obtain⟨q,hq,e⟩:=List.mem_map.1 this
  rw[← e];exact a3 q hq
 have:=h σ1 F g w ρc a1 a2 a3' a4
 revert this
 generalize (execOp (E.ev ρc) o).run P w=r
 intro h
 have key:∀ vc w',(∃ F' g',Sim S F' g' (owr σ1 wr) w'∧Pres S.B F g w F' g' w'∧vr (SM F' S.B) w' g' v vc)→∃ F' g',Sim S F' g' (owr σ1 wr') w'∧Pres S.B F g w F' g' w'∧vr (SM F' S.B) w' g' v vc:=fun vc w' ⟨F',g',k1,k2,k3⟩=>⟨F',g',k1.alt fun i=>h2 σ1 _ _ _ i,k2,k3⟩
 cases r with
 | ok x w'=>
  cases x<;>simp only[z9v] at h ⊢
  case value u=>exact key _ _ h
  case skip=>exact key _ _ h
  case enter f args=>exact h.mono fun e w'' ⟨v,k1,k2⟩=>⟨v,k1,key _ _ k2⟩
 | halt x w'=>simp only[z9v] at h
end
section
variable {P:Program}[HasTab P]{S:Start}{ops:Array Oper}{Q:AE→St→Prop}{o:Oper}{rest:List Oper}{ρ:AE}{σ:St}{d:Nat}{md:Md2}{T e:Nat}{t te:TI}
theorem APf {α:Type}{s x:Operand}{X1:X}{m' m0:Md}{f:α→D}{xs ys:List α}{zs:List X}{r b1:Nat}(r' : Nat)(hflat:∀ y,z8R (f y)=true)(hmax:((xs.length:Int)+(ys.length:Int))*te.by_≤140737488355328∧(xs.length:Int)+(ys.length:Int)≤9223372036854775807)(h:AL P S ops Q (q4f md (q8g X1) [r,r']) rest (updX ρ d (.ref r' none)) (setL (setL σ r .dead) r' (.row .fz te.sz ((xs++ys).map f))))
  (ho:o.op=.call { callee:=.builtin .append,args:=#[s,x],argTypes:=#[T,T] }:=by rfl) (hT:(HasTab.tab P).get T=some t:=by rfl) (he:t.el=some e:=by rfl) (hE:(HasTab.tab P).get e=some te:=by rfl) (hs:evX ρ s=.ref r none:=by rfl) (hx:evX ρ x=X1:=by rfl) (hsrc:srcD (fnOf σ) X1=some (m',te.sz,ys.map f):=by rfl) (hσ:fnOf σ r=.row m0 te.sz (xs.map f):=by rfl) (hz:te.z=some zs:=by rfl) (hb:te.by_=b1+1:=by rfl) (hzl:zs.length=te.sz:=by rfl) (hk0:Nat.blt 0 te.sz=true:=by rfl) (hr:fnOf σ r'=.none:=by rfl) (hd:o.dst=some d:=by rfl) (hg:q3X ops ρ o=some true:=by rfl):AL P S ops Q md (o::rest) ρ σ:=by
 obtain⟨z,h1,h2⟩:=TI.z' (Tab.chk HasTab.ok hE) hz
 refine q0f (wr:=[(r,.dead),(r',.row .fz te.sz ((xs++ys).map f))]) (LT.alt (q1y (r':=r') (m:=.bo) ho (q3Y hT he hE).1 (q3Y hT he hE).2 (TI.by' (Tab.chk HasTab.ok hE) hb) h1 (by rw[← hzl,← (h2 (fun _ _=>True) default (fun _=>.none)).len]) hk0 hs hσ hx hsrc q9P q9P ?_ ?_ hr) rfl fun σ1 S1 w g i hi=>?_) h hd hg
 ·simp only[lnM]
  have:=hmax.1
  rw[← Int.natCast_add,← Int.natCast_mul] at this
  omega
 ·simp only[lnM]
  show _≤9223372036854775807
  have:=hmax.2
  omega
 ·revert hi
  simp only[owr]
  split
  ·intro hi
   rw[← List.map_append] at hi
   exact z9O (fun x hx=>by obtain⟨y,_,rfl⟩:=List.mem_map.1 hx;exact hflat y) hi
  ·exact id
theorem APf1 {α:Type}{s x:Operand}{X1:X}{m' m0:Md}{f:α→D}{xs:List α}{y:α}{zs:List X}{r b1:Nat}(r' : Nat)(hflat:∀ y,z8R (f y)=true)(B:Nat)(hmax:((xs.length:Int)+1)*(B:Int)≤140737488355328∧(xs.length:Int)+1≤9223372036854775807)(h:AL P S ops Q (q4f md (q8g X1) [r,r']) rest (updX ρ d (.ref r' none)) (setL (setL σ r .dead) r' (.row .fz te.sz ((xs++[y]).map f))))
  (ho:o.op=.call { callee:=.builtin .append,args:=#[s,x],argTypes:=#[T,T] }:=by rfl) (hT:(HasTab.tab P).get T=some t:=by rfl) (he:t.el=some e:=by rfl) (hE:(HasTab.tab P).get e=some te:=by rfl) (hs:evX ρ s=.ref r none:=by rfl) (hx:evX ρ x=X1:=by rfl) (hsrc:srcD (fnOf σ) X1=some (m',te.sz,[y].map f):=by rfl) (hσ:fnOf σ r=.row m0 te.sz (xs.map f):=by rfl) (hz:te.z=some zs:=by rfl) (hb:te.by_=b1+1:=by rfl) (hzl:zs.length=te.sz:=by rfl) (hk0:Nat.blt 0 te.sz=true:=by rfl) (hr:fnOf σ r'=.none:=by rfl) (hB:te.by_=B:=by rfl) (hd:o.dst=some d:=by rfl) (hg:q3X ops ρ o=some true:=by rfl):AL P S ops Q md (o::rest) ρ σ:=
 APf r' hflat (by rw[hB];exact hmax) h ho hT he hE hs hx hsrc hσ hz hb hzl hk0 hr hd hg
theorem AP1 {α:Type}{s x:Operand}{X1:X}{m' m0:Md}{f:α→D}{xs:List α}{y:α}{zs:List X}{r b1:Nat}(r' : Nat)(m:Md)(B:Nat)(hmax:((xs.length:Int)+1)*(B:Int)≤140737488355328∧(xs.length:Int)+1≤9223372036854775807)(h:AL P S ops Q (q4f md (q8g X1) [r,r']) rest (updX ρ d (.ref r' none)) (setL (setL σ r .dead) r' (.row m te.sz ((xs++[y]).map f))))
  (ho:o.op=.call { callee:=.builtin .append,args:=#[s,x],argTypes:=#[T,T] }:=by rfl) (hT:(HasTab.tab P).get T=some t:=by rfl) (he:t.el=some e:=by rfl) (hE:(HasTab.tab P).get e=some te:=by rfl) (hs:evX ρ s=.ref r none:=by rfl) (hx:evX ρ x=X1:=by rfl) (hsrc:srcD (fnOf σ) X1=some (m',te.sz,[y].map f):=by rfl) (hσ:fnOf σ r=.row m0 te.sz (xs.map f):=by rfl) (hz:te.z=some zs:=by rfl) (hb:te.by_=b1+1:=by rfl) (hzl:zs.length=te.sz:=by rfl) (hk0:Nat.blt 0 te.sz=true:=by rfl) (hm:mle m' m=true:=by first|rfl|exact z1f|exact q9P) (hm0:mle m0 m=true:=by first|rfl|exact z1f|exact q9P) (hr:fnOf σ r'=.none:=by rfl) (hB:te.by_=B:=by rfl) (hd:o.dst=some d:=by rfl) (hg:q3X ops ρ o=some true:=by rfl):AL P S ops Q md (o::rest) ρ σ:=
 AP r' m (by rw[hB];exact hmax) h ho hT he hE hs hx hsrc hσ hz hb hzl hk0 hm hm0 hr hd hg
def toC:X→Option D
 | .d _ (.a _)=>none
 | .d _ x=>some x
 | .nl k=>some (.sl k [])
 | _=>none
def toCs:List X→Option (List D)
 | []=>some []
 | x::xs=>match toC x,toCs xs with
  | some y,some ys=>some (y::ys)
  | _,_=>none
def toE:X→Option D
 | .ag cs=>(toCs cs).map .a
 | x=>toC x
def toEs:List X→Option (List D)
 | []=>some []
 | x::xs=>match toE x,toEs xs with
  | some y,some ys=>some (y::ys)
  | _,_=>none
def leC (m:Md):X→Prop
 | .d m' x=>j5A x=true∨mle m' m=true
 | _=>True
def leCs (m:Md):List X→Prop
 | []=>True
 | x::xs=>leC m x∧leCs m xs
def leE (m:Md):X→Prop
 | .ag cs=>leCs m cs
 | x=>leC m x
def leEs (m:Md):List X→Prop
 | []=>True
 | x::xs=>leE m x∧leEs m xs
theorem k3d {m:Md}{x:X}{d:D}(h:toC x=some d)(hl:leC m x):asC m x=some d:=by
 cases x<;>simp only[toC] at h
 case d m' x=>
  cases x<;>simp only[toC] at h<;>simp only[asC]<;>try exact h
  simp only[leC,j5A,Bool.false_eq_true,false_or] at hl
  rw[ifP hl];exact h
 all_goals first|exact h|cases h
theorem j9w {m:Md}:∀ {xs:List X} {ds:List D},toCs xs=some ds→leCs m xs→asCs m xs=some ds
 | [],_,h,_=>h
 | x::xs,ds,h,hl=>by
  simp only[toCs] at h
  split at h
  ·rename_i y ys h1 h2
   simp only[asCs,k3d h1 hl.1,j9w h2 hl.2];exact h
  ·cases h
theorem k5f {m:Md}{x:X}{d:D}(h:toE x=some d)(hl:leE m x):asD m x=some d:=by
 cases x
 case ag cs=>
  simp only[toE] at h
  cases hc:toCs cs with
  | none=>rw[hc] at h;cases h
  | some ds=>rw[hc] at h;simp only[asD,j9w hc hl];exact h
 all_goals (simp only[toE] at h;exact k3d (m:=m) h hl)
theorem j9x {m:Md}:∀ {xs:List X} {ds:List D},toEs xs=some ds→leEs m xs→asDs m xs=some ds
 | [],_,h,_=>h
 | x::xs,ds,h,hl=>by
  simp only[toEs] at h
  split at h
  ·rename_i y ys h1 h2
   simp only[asDs,k5f h1 hl.1,j9x h2 hl.2];exact h
  ·cases h
end
section
variable {S:Start}{F:Nat→Prop}{g:Nat→G}{w w' : World}{σ1:Nat→Root}
theorem Sim.refill (hs:Sim S F g σ1 w){r k:Nat}{m:Md}{es:List D}{v:Value}{L:List Nat}{gs:List (List GC)}{cs:List Value}(hg:g r=.row v k L gs)(hgb:gbl gs=[])(hc:Chg (fun b=>b∈L) w w')(hown:OwnR w' k v es.length L cs)
  (hrd:(∀ m b o cs,SM F S.B m b→b<w.heap.size→At w b o cs→SM F S.B m b∧b<w'.heap.size∧At w' b o cs)→rdE (SM F S.B m) w' k es cs):∃ g',Sim S F g' (owr σ1 [(r,.row m k es)]) w'∧Pres S.B F g w F g' w':=by
 have hbl0:bl (g r)=L:=by rw[hg];simp[bl,hgb]
 have hkp:=hs.keeps (F':=F) hc (fun c hcL _=>⟨r,by rw[hbl0];exact hcL⟩) fun _ h=>h
 obtain⟨gs',q1,q2,q3⟩:=j5s (S1:=SM F S.B) (hrd hkp)
 let g' : Nat→G:=fun i=>if i=r then .row v k L gs' else g i
 have hg0:g' r=.row v k L gs':=by simp[g']
 have hbl' : bl (g' r)=L:=by rw[hg0];simp[bl,q3]
 refine⟨g',hs.step (M:=fun b=>b∈L) (F':=F) (g':=g') (σ':=owr σ1 [(r,.row m k es)]) (· = r) hc (fun c hc _=>⟨r,rfl,by rw[hbl0];exact hc⟩)
   (fun i hi=>⟨by simp[g',hi],by rw[owr1];simp[hi]⟩) (fun i hi=>by subst hi;rw[hg,hg0];exact .inr ⟨L,gs',rfl⟩) (fun _ h=>h)
   (fun c hc'=>⟨Nat.lt_of_lt_of_le (hs.flt c hc') hc.size,.inl hc'⟩)
   (fun _ _ i hi=>by
    subst hi
    rw[hg0,owr1]
    simp only[if_true]
    exact⟨rfl,by rw[lnM,q2];exact hown,q1⟩)
   (fun i hi=>by subst hi;rw[hbl',← hbl0];exact hs.nodup i) (fun i j hi hj hij=>absurd (hi.trans hj.symm) hij)
   (fun i c hi hc'=>by
    subst hi
    rw[hbl'] at hc'
    have hc0:c∈bl (g i):=by rw[hbl0];exact hc'
    obtain⟨a1,a2,_⟩:=hs.own i c hc0
    exact⟨Nat.lt_of_lt_of_le a1 hc.size,a2,.inr ⟨i,rfl,hc0⟩⟩)⟩
end
section
variable {P:Program}{S:Start}{o:Oper}{ρ:AE}{σ:St}
theorem q3J {T e k r lo nn:Nat}{m:Md}{ds:List D}{d:D}{z:List Value}{x:Operand}(ho:o.op=.call { callee:=.builtin .clear,args:=#[x],argTypes:=#[T] })(hT:q7D P T=some e)(hk:szT P e=some k)(hz:z2C P e=some z)(hzd:∀ S1 w,rd1 S1 w d z)(hzl:z.length=k)
  (hx:evX ρ x=.vs r none lo nn) (hσ:fnOf σ r=.row m k ds) (hlo:lo≤ds.length) (hnn:nn=ds.length-lo):LT P S o ρ σ [] .u [(r,.row m k (ds.take lo++List.replicate (ds.length-lo) d))]:=by
 intro σ1 F g w ρc hs hrd hwr hv
 have hr1:σ1 r=.row m k ds:=(hwr (r,_) List.mem_cons_self).trans hσ
 have hroot:=hs.roots r
 rw[hr1] at hroot
 cases hg:g r<;>rw[hg] at hroot<;>try exact hroot.elim
 rename_i v k0 L gs
 obtain⟨hk0,hrow⟩:=hroot
 subst hk0
 have e1:=hv x (by simp[ho,Op.operands,Call.operands])
 rw[hx,vr,hg] at e1
 obtain⟨A,n,cp,A',cp',h1,h2,h3,h4,h5,h6⟩:=e1 _ _ rfl
 obtain⟨hown,hrdE,hgb,hno⟩:=q6P hrow
 have hz1:∀ u∈z,u.oneCell'=true:=rdCs.one (hzd (fun _=>True) w)
 obtain⟨v',hzv,hvc⟩:=q9M (P:=P) (w:=w) hz
 obtain⟨A2,c2,hv2,h7,h8⟩:=hown.form
 rw[h1] at hv2
 have hn:n=ds.length:=by injection hv2
 have hru:∀ r:Result Next,r=.ok (.value (.tuple #[])) w→True:=fun _ _=>trivial
 by_cases hlm:lo=ds.length
 ·have hnn0:nn=0:=by omega
  rw[hnn0] at h3
  have hrun:(Builtin.clear_ #[T] o.type #[E.ev ρc x]).run P w=.ok (.tuple #[]) w:=by
   rw[h3]
   cases A'<;>simp[Builtin.clear_,run_underlying (q6h hT)]
  have he:(execOp (E.ev ρc) o).run P w=.ok (.value (.tuple #[])) w:=by
   simp only[execOp,ho,resolve,invoke,builtin,Sem.run_bind,Sem.run_pure,Result.andThen_ok,List.map_toArray,List.map_cons,List.map_nil,hrun]
  rw[he]
  have hxs:ds.take lo++List.replicate (ds.length-lo) d=ds:=by subst hlm;simp
  rw[hxs]
  refine⟨F,g,?_,Pres.refl,by rw[vr];trivial⟩
  have:owr σ1 [(r,.row m k0 ds)]=σ1:=by
   funext i;rw[owr1];by_cases hi:i=r
   ·subst hi;simp only[if_true,hr1]
   ·simp only[ifN hi]
  rw[this];exact hs
 ·have hlt:lo<ds.length:=by omega
  obtain⟨eb,hO,hLv⟩:=hown
  rcases hO.2 with ⟨_,h00⟩|⟨b,cap,cur,hvb,hb0,hgbk,hnc,hcm,hsz,htk⟩
  ·omega
  have hLb:L=[b]:=by rw[hLv,hvb];simp[Value.ownBlock]
  rw[h1] at hvb
  injection hvb with f1 f2 f3
  subst f1;subst f3
  rcases h6 with h6|⟨b2,f4,f5⟩
  ·omega
  injection f4 with f4
  injection f4 with f4
  subst f4
  have hlen2:(reps z (ds.length-lo)).length=(ds.length-lo)*k0:=by rw[z2b,hzl]
  have hcells:(Builtin.zeroCells v'.cells (ds.length-lo)).toList=reps z (ds.length-lo):=by
   rw[j1f,hvc]
   have:=z2W z.toArray (ds.length-lo)
   rw[this]
  have hfit:lo*k0+(ds.length-lo)*k0≤cur.size:=by
   rw[← Nat.add_mul,hsz,show lo+(ds.length-lo)=ds.length by omega];exact Nat.mul_le_mul_right _ hnc
  have hst:=run_storeCells_at P b (lo*k0) eb (reps z (ds.length-lo)) 0 cur w hgbk (by rw[hlen2];simpa using hfit) (j6I hz1 _)
  have hrun:(Builtin.clear_ #[T] o.type #[E.ev ρc x]).run P w=.ok (.tuple #[]) (w.setRow b (q5l cur.toList (lo*k0) (reps z (ds.length-lo))).toArray):=by
   rw[h3,f5]
   simp only[Nat.add_zero] at hst
   have hsp:q5l cur.toList (lo*k0) (reps z (ds.length-lo))=List.take (lo*k0) cur.toList++reps z (ds.length-lo)++List.drop (lo*k0+(reps z (ds.length-lo)).length) cur.toList:=rfl
   rw[hsp]
   obtain⟨q,hq⟩:∃ q,ds.length-lo=q+1:=⟨ds.length-lo-1,by omega⟩
   rw[hnn,hq]
   rw[hq] at hcells hst
   simp[Builtin.clear_,run_underlying (q6h hT),hzv,hcells,hst]
  have he:(execOp (E.ev ρc) o).run P w=.ok (.value (.tuple #[])) (w.setRow b (q5l cur.toList (lo*k0) (reps z (ds.length-lo))).toArray):=by
   simp only[execOp,ho,resolve,invoke,builtin,Sem.run_bind,Sem.run_pure,Result.andThen_ok,List.map_toArray,List.map_cons,List.map_nil,hrun]
  rw[he]
  have hB:Blk w b eb cur.toList:=by simpa[Blk] using hgbk
  have hc:=z7J w b (q5l cur.toList (lo*k0) (reps z (ds.length-lo))).toArray
  have hb' : Blk (w.setRow b (q5l cur.toList (lo*k0) (reps z (ds.length-lo))).toArray) b eb (q5l cur.toList (lo*k0) (reps z (ds.length-lo))):=setRow_heap w b _ _ eb _ hgbk
  have hcl:(q5A gs).length=ds.length*k0:=hO.1
  have hspl:q5l (q5A gs) (lo*k0) (reps z (ds.length-lo))=(q5A gs).take (lo*k0)++reps z (ds.length-lo):=by
   unfold q5l
   rw[List.drop_eq_nil_of_le (by rw[hlen2,hcl,← Nat.add_mul,show lo+(ds.length-lo)=ds.length by omega];exact Nat.le_refl _),List.append_nil]
  have hst2:=hO.st (w':=w.setRow b (q5l cur.toList (lo*k0) (reps z (ds.length-lo))).toArray) (by rw[h1];rfl) hB (off:=lo*k0) (l:=reps z (ds.length-lo)) (by rw[hlen2,← Nat.add_mul,show lo+(ds.length-lo)=ds.length by omega];exact Nat.le_refl _) hb'
  obtain⟨g',k1,k2⟩:=hs.refill (es:=ds.take lo++List.replicate (ds.length-lo) d) (m:=m) hg hgb (hc.mono fun q _ e=>by rw[hLb];simp[e]) (cs:=q5l (q5A gs) (lo*k0) (reps z (ds.length-lo)))
   ⟨eb,by rw[List.length_append,List.length_take,List.length_replicate,Nat.min_eq_left hlo,show lo+(ds.length-lo)=ds.length by omega];exact hst2,hLv⟩
   (fun hkp=>by rw[hspl];exact ((hrdE.imp (hkp m)).take lo).append (by have:=j2B (hzd (SM F S.B m) (w.setRow b (q5l cur.toList (lo*k0) (reps z (ds.length-lo))).toArray)) (ds.length-lo);rw[hzl] at this;exact this))
  exact⟨F,g',k1,k2,by rw[vr];trivial⟩
end
section
variable {P:Program}[HasTab P]{S:Start}{ops:Array Oper}{Q:AE→St→Prop}{o:Oper}{rest:List Oper}{ρ:AE}{σ:St}{d:Nat}{md:Md2}{T e:Nat}{t te:TI}
theorem z7O {α:Type}{xs:List α}{lo j:Nat}{y:α}(h:xs[lo+j]?=some y):j<xs.length-lo:=by
 have:=(List.getElem?_eq_some_iff.1 h).1
 omega
end
theorem q3T {α:Type}{l:List α}{j:Nat}{x y:α}(h:l[j]?=some x):(l.set j y)[j]?=some y:=by
 have:=(List.getElem?_eq_some_iff.1 h).1
 simp[this]
theorem k1H {α β:Type}{f:α→β}{xs:List α}{j:Nat}{x:α}{l:List β}(h:xs[j]?=some x)(e:l=(xs.map f).set j (f x)):l=xs.map f:=by
 rw[e];exact k1F (q3Z h)
theorem eset {α β:Type}{f:α→β}{xs:List α}{j:Nat}{x' : α}{l:List β}(e:l=(xs.map f).set j (f x')):l=(xs.set j x').map f:=by
 rw[e,List.map_set]
section
variable {P:Program}[HasTab P]{S:Start}{n:Nat}{ops:Array Oper}{Q:AE→St→Prop}{QP:q4h}{o:Oper}{rest:List Oper}{ρ:AE}{σ:St}{d:Nat}{md:Md2}{T e:Nat}{t te:TI}{k:Nat}{m:Md}{es:List (List Cell)}{hh:List (Nat×Nat×Nat)}
theorem q3K {α:Type}(r:Nat)(f:α→List Cell)(h:AL P S ops Q (ghM md) rest ρ (setL σ r (.deep m k (([]:List α).map f) [])))(hσ:fnOf σ r=.row m k []:=by rfl):AL P S ops Q md rest ρ σ:=AL.gh (q0H hσ rfl) h
theorem q0B {S:Start}{ρ:AE}{σ:St}(r j c q:Nat){el:List Cell}{cell:Cell}(hj:es[j]?=some el)(hσ:fnOf σ r=.deep m k es hh:=by rfl)(hc:Nat.blt c el.length=true:=by rfl)(hm:(j,c,q)∈hh:=by first|exact List.mem_cons_self|simp)(hx:MC (fnOf σ q) cell:=by first|exact .row|exact .flatM (fun _=>rfl)|exact .ownM)(hf:fzC cell=true∨m=.bo:=by first|exact .inl rfl|exact fzoM _ _ _)(hqr:Nat.beq q r=false:=by rfl) :
  GH S ρ σ ρ (setL (setL σ r (.deep m k (es.set j (spl el c [cell])) (hsK hh c 1))) q .dead):=q3G hσ hj hc hm hx hf hqr
theorem q0o {S:Start}{ρ:AE}{σ:St}(r:Nat){es' : List (List Cell)}(hσ:fnOf σ r=.deep m k es hh:=by rfl)(he:es=es'):GH S ρ σ ρ (setL σ r (.deep m k es' hh)):=q2V hσ he
theorem APD {α:Type}{f:α→List Cell}{s x:Operand}{xs ys:List α}{zs:List X}{r r2 b1:Nat}(r' : Nat)(B:Nat)(hmax:((xs.length:Int)+(ys.length:Int))*(B:Int)≤140737488355328∧(xs.length:Int)+(ys.length:Int)≤9223372036854775807)(h:AL P S ops Q (q4f md [] [r,r2,r']) rest (updX ρ d (.ref r' none)) (owrL σ [(r,.dead),(r2,.dead),(r',.deep m te.sz ((xs++ys).map f) [])]))
  (ho:o.op=.call { callee:=.builtin .append,args:=#[s,x],argTypes:=#[T,T] }:=by rfl) (hT:(HasTab.tab P).get T=some t:=by rfl) (he:t.el=some e:=by rfl) (hE:(HasTab.tab P).get e=some te:=by rfl) (hs:evX ρ s=.ref r none:=by rfl) (hx:evX ρ x=.ref r2 none:=by rfl) (hσ:fnOf σ r=.deep m te.sz (xs.map f) []:=by rfl) (hσ2:fnOf σ r2=.deep m te.sz (ys.map f) []:=by rfl) (hz:te.z=some zs:=by rfl) (hb:te.by_=b1+1:=by rfl) (hzl:zs.length=te.sz:=by rfl) (hk0:Nat.blt 0 te.sz=true:=by rfl) (hr:fnOf σ r'=.none:=by rfl) (hne:Nat.beq r r2=false:=by rfl) (hB:te.by_=B:=by rfl) (hd:o.dst=some d:=by rfl) (hg:q3X ops ρ o=some true:=by rfl):AL P S ops Q md (o::rest) ρ σ:=by
 obtain⟨z,h1,h2⟩:=TI.z' (Tab.chk HasTab.ok hE) hz
 refine q0f (q2W (r':=r') ho (q3Y hT he hE).1 (q3Y hT he hE).2 (TI.by' (Tab.chk HasTab.ok hE) hb) h1 (by rw[← hzl,← (h2 (fun _ _=>True) default (fun _=>.none)).len]) hk0 hs hσ hx hσ2 ?_ ?_ hr hne) (by rw[← List.map_append];exact h) hd hg
 ·simp only[lnM]
  have:=hmax.1
  rw[hB,← Int.natCast_add,← Int.natCast_mul] at *
  omega
 ·simp only[lnM]
  show _≤9223372036854775807
  have:=hmax.2
  omega
end
theorem k3K {α β:Type}{f:α→β}{xs:List α}{lo:Nat}:((xs.map f).drop lo).take (xs.length-lo)=(xs.drop lo).map f:=by
 rw[← List.map_drop];exact List.take_of_length_le (by simp)
theorem q3L {S:Start}{ρ:AE}{σ:St}(t:Nat)(x:X)(h:ρ t=x):GH S ρ σ (updX ρ t x) σ:=fun F g w ρc hs hv=>⟨F,g,hs,fun u=>by
 simp only[updX]
 rcases bq (r:=u) (i:=t) with ⟨hb,e⟩|⟨hb,e⟩
 ·rw[hb,cond_true,← h,e];exact hv t
 ·rw[hb,cond_false];exact hv u⟩
theorem DAs {α:Type}{σ:Nat→Root}{r k j:Nat}{m:Md}{f:α→List Cell}{D0:α→D}{xs:List α}{x x' : α}{e:List Cell}{es:List (List Cell)}(hf:∀ x,DR (f x) (D0 x))(hx:xs[j]?=some x)(he:DR e (D0 x'))(hes:es=(xs.map f).set j e)(h:σ r=.deep m k es []):DataAt σ r m k ((xs.set j x').map D0) [r]:=by
 subst hes
 refine .deep h ?_ rfl rfl
 rw[List.map_set]
 exact (all2.map hf xs).set he
theorem q3e {α:Type}{S:Start}{ρ:AE}{σ:St}{k j:Nat}{m:Md}{f:α→List Cell}{xs:List α}{x:α}{e:List Cell}{es:List (List Cell)}(r:Nat)(D0:α→D)(x' : α)(hf:∀ x,DR (f x) (D0 x))(hx:xs[j]?=some x)(hes:es=(xs.map f).set j e)(h:fnOf σ r=.deep m k es [])(he:DR e (D0 x')):GH S ρ σ (fun t=>frX r m k ((xs.set j x').map D0) (ρ t)) (frS r m k ((xs.set j x').map D0) 0 σ):=q0w (DAs hf hx he hes h)
theorem q0p {α:Type}{S:Start}{ρ:AE}{σ:St}{k:Nat}{m:Md}{f:α→List Cell}{xs:List α}(r:Nat)(D0:α→D)(hf:∀ x,DR (f x) (D0 x))(h:fnOf σ r=.deep m k (xs.map f) []):GH S ρ σ (fun t=>frX r m k (xs.map D0) (ρ t)) (frS r m k (xs.map D0) 0 σ):=q0w (DA hf h)
section
variable {P:Program}[HasTab P]{S:Start}{n:Nat}{ops:Array Oper}{Q:AE→St→Prop}{QP:q4h}{rest:List Oper}{ρ:AE}{σ:St}{md:Md2}{k:Nat}{m:Md}
theorem q3M {α:Type}{f:α→List Cell}{xs:List α}(r:Nat)(D0:α→D)(hf:∀ x,DR (f x) (D0 x))(hσ:fnOf σ r=.deep m k (xs.map f) [])(h:AL P S ops Q (ghM md) rest (fun t=>frX r m k (xs.map D0) (ρ t)) (frS r m k (xs.map D0) 0 σ)):AL P S ops Q md rest ρ σ:=AL.gh (q0p r D0 hf hσ) h
end
theorem j4j {ge:List GC}:∀ n,q5A (List.replicate n ge)=reps (ge.map (·.val)) n
 | 0=>rfl
 | n+1=>by rw[List.replicate_succ,q7g,j4j n];rfl
theorem j9y {ge:List GC}(h:ge.flatMap (·.L)=[]):∀ n,gbl (List.replicate n ge)=[]
 | 0=>rfl
 | n+1=>by rw[List.replicate_succ,z1d,h,j9y h n];rfl
theorem all2.rep {α β:Type}{R:α→β→Prop}{a:α}{b:β}(h:R a b):∀ n,all2 R (List.replicate n a) (List.replicate n b)
 | 0=>rfl
 | n+1=>⟨b,_,rfl,h,all2.rep h n⟩
theorem q3N {P:Program}{S:Start}{ρ:AE}{σ:St}{o:Oper}{T e k b r:Nat}{z:List Value}{zs:List X}{cells:List Cell}{l c:Operand}{m1 m2:Md}{q q' : IntKind}{j:Int}(ho:o.op=.makeSlice T l c)(hT:q7D P T=some e)(hk:szT P e=some k)(hb:byT P e=some b)(hz:z2C P e=some z)(hzk:z.length=k)(hl:evX ρ l=.d m1 (.i q j))(hc:evX ρ c=.d m2 (.i q' j))
  (hzs:∀ S1 w g,vrs S1 w g zs z) (hn:NC (fnOf σ) .fz zs cells []) (h0:0≤j) (hm:j≤9223372036854775807) (hbm:(b:Int)*j≤281474976710656) (hr:fnOf σ r=.none):LT P S o ρ σ [] (.ref r none) [(r,.deep .fz k (List.replicate j.toNat cells) [])]:=by
 intro σ1 F g w ρc hs _ hwr hv
 have hr1:σ1 r=.none:=(hwr (r,_) (List.mem_singleton.2 rfl)).trans hr
 obtain⟨i,v,hi,hik,hib,hiv,hvc⟩:=j2v hk hb hz
 have hrun:=run_make (P:=P) (w:=w) T e i v (q6h hT) hi hiv q q' j j h0 (Int.le_refl _) (by rw[hib];exact hbm) hm
 have hcells:madeCells v.cells (j.toNat*i.size)=(reps z j.toNat).toArray:=by
  have:=z2W v.cells j.toNat
  rw[hvc] at this ⊢
  simp only[List.size_toArray,hzk] at this
  rw[hik]
  simpa using this
 have e1:=hv l (by simp[ho,Op.operands])
 have e2:=hv c (by simp[ho,Op.operands])
 rw[hl,vr,rdC] at e1
 rw[hc,vr,rdC] at e2
 have he:(execOp (E.ev ρc) o).run P w=.ok (.value (.slice (some ⟨w.heap.size,0,none⟩) j.toNat j.toNat)) (w.alloc (.cells (reps z j.toNat).toArray e)):=by
  rw[hcells] at hrun
  simp only[execOp,ho,e1,e2,Sem.run_bind,hrun,Result.andThen_ok,Sem.run_pure]
 rw[he]
 have hx:=Ext.alloc w (.cells (reps z j.toNat).toArray e)
 obtain⟨news,n1,n2,n3,n4,n5⟩:=(hn.congr (σ1:=σ1) fun q hq=>by cases hq).ok hs (hzs (SM F S.B) w g)
 have hlen:(reps z j.toNat).length=j.toNat*k:=by rw[z2b,hzk]
 have hbk:=q9L w e (reps z j.toNat)
 have hg1:q5A (List.replicate j.toNat news)=reps z j.toNat:=by rw[j4j,n2]
 have hg2:gbl (List.replicate j.toNat news)=[]:=j9y (by simpa using n3) _
 have hLn:∀ b,b∈news.flatMap (·.L)→False:=fun b hb=>by rw[n3] at hb;cases hb
 have hnl:news.length=k:=by rw[← hzk,← n2,lnM]
 have hkp:∀ m b o cs,SM F S.B m b→b<w.heap.size→At w b o cs→SM F S.B m b∧b<(w.alloc (.cells (reps z j.toNat).toArray e)).heap.size∧At (w.alloc (.cells (reps z j.toNat).toArray e)) b o cs:=fun m b o cs hb hlt hat=>⟨hb,Nat.lt_of_lt_of_le hlt hx.size,hat.frame' fun hl=>hx.block b hl fun h=>h⟩
 obtain⟨h4,h5⟩:=hs.new (r:=r) (x:=.deep .fz k (List.replicate j.toNat cells) []) (y:=.row (.slice (some ⟨w.heap.size,0,none⟩) j.toNat j.toNat) k [w.heap.size] (List.replicate j.toNat news)) hr1 hx (fun _ _=>by
   refine⟨⟨rfl,⟨e,⟨?_,.inr ⟨w.heap.size,j.toNat,(reps z j.toNat).toArray,by simp,Nat.zero_le _,hbk,by simp,by show _≤9223372036854775807;omega,by simpa using hlen,?_⟩⟩,by simp[Value.ownBlock]⟩,all2.rep ⟨by rw[← n1.len,hnl],cellOk.keepL hkp n1 fun b_ hb_=>(hLn b_ hb_).elim⟩ _⟩,holesOk.nil,fun _=>?_⟩
   ·rw[hg1,hlen];simp
   ·rw[hg1];simp only[List.length_replicate,List.toList_toArray,Nat.zero_mul,List.drop_zero];rw[← hlen,List.take_length]
   ·intro x hxe c hce
    rw[List.eq_of_mem_replicate hxe] at hce;exact n5 rfl _ hce)
  (by simp[bl,hg2]) (by simp only[bl,hg2,List.append_nil,List.mem_singleton];rintro b rfl;exact⟨Nat.le_refl _,hbk.lt⟩)
 refine⟨F,_,h4,h5,?_⟩
 rw[vr]
 simp only[if_true]
 intro u q hu
 simp only[G.at] at hu
 cases hu
 rfl
section
variable {P:Program}[HasTab P]{S:Start}{n:Nat}{ops:Array Oper}{Q:AE→St→Prop}{QP:q4h}{o:Oper}{rest:List Oper}{ρ:AE}{σ:St}{d:Nat}{md:Md2}{T e:Nat}{t te:TI}{k:Nat}{m:Md}
theorem MKW {α:Type}{f:α→List Cell}{l c:Operand}{m1 m2:Md}{q q' : IntKind}{j:Int}{zs:List X}{b1:Nat}(r:Nat)(z:α)(h0:0≤j)(hbm:j*(te.by_:Int)≤281474976710656)(hm:j≤9223372036854775807)(h:AL P S ops Q (q4f md [] [r]) rest (updX ρ d (.ref r none)) (setL σ r (.deep .fz te.sz ((List.replicate j.toNat z).map f) [])))(ho:o.op=.makeSlice T l c:=by rfl)(hT:(HasTab.tab P).get T=some t:=by rfl)(he:t.el=some e:=by rfl)(hE:(HasTab.tab P).get e=some te:=by rfl)(hz:te.z=some zs:=by rfl)(hb:te.by_=b1+1:=by rfl)(hzl:zs.length=te.sz:=by rfl)(hl:evX ρ l=.d m1 (.i q j):=by rfl)(hc:evX ρ c=.d m2 (.i q' j):=by rfl)(hn:NC (fnOf σ) .fz zs (f z) []:=by repeat (first|exact .nil|refine .d (.inl rfl) ?_|refine .nlw (m':=.fz) ?_|refine .nlo (m':=.fz) ?_))(hr:fnOf σ r=.none:=by rfl)(hd:o.dst=some d:=by rfl)(hg:q3X ops ρ o=some true:=by rfl):AL P S ops Q md (o::rest) ρ σ:=by
 obtain⟨z0,h1,h2⟩:=TI.z' (Tab.chk HasTab.ok hE) hz
 exact q0f (q3N ho (q3Y hT he hE).1 (q3Y hT he hE).2 (TI.by' (Tab.chk HasTab.ok hE) hb) h1 (by rw[← hzl,← (h2 (fun _ _=>True) default (fun _=>.none)).len]) hl hc h2 hn h0 hm (by rw[Int.mul_comm];exact hbm) hr) (by rw[List.map_replicate] at h;exact h) hd hg
omit [HasTab P] in
end
section
variable {S:Start}{F:Nat→Prop}{g:Nat→G}{w:World}{σ1:Nat→Root}
theorem Sim.frz (hs:Sim S F g σ1 w){r:Nat}{m:Md}{k:Nat}{xs:List D}(hr1:σ1 r=.row m k xs):∃ F' g',Sim S F' g' (fun i=>if i=r then .dead else σ1 i) w∧Pres S.B F g w F' g' w∧∀ x v,vr (SM F S.B) w g x v→vr (SM F' S.B) w g' (frX r m k xs x) v:=by
 obtain⟨v,L,gs,cs,hg,hown,hrd,hLb⟩:=j5v hs (.row hr1 rfl)
 let F' : Nat→Prop:=fun b=>F b∨b∈bl (g r)
 have hF:∀ b,F b→F' b:=fun b hb=>.inl hb
 have up:∀ m b,SM F S.B m b→SM F' S.B m b:=fun m b hb=>by
  cases m with
  | fz=>exact .inl hb
  | bo=>exact hb.imp .inl id
 have hL' : ∀ b∈bl (g r),SM F' S.B m b:=fun b hb=>by
  cases m with
  | fz=>exact .inr hb
  | bo=>exact .inl (.inr hb)
 have hrd' : rdE (SM F' S.B m) w k xs cs:=hrd.mono fun b hb=>by
  rcases hb with hb|⟨q,hq,hb⟩
  ·exact up m b hb
  ·rw[List.mem_singleton] at hq;subst hq;exact hL' b hb
 have hd:rdC (SM F' S.B m) w (.sl k xs) v:=j5w hown hrd' fun b hb=>hL' b (hLb b hb)
 have hpart:∀ lo n v',z9x v k lo n v'→rdC (SM F' S.B m) w (.sl k ((xs.drop lo).take n)) v':=fun lo n v' hp=>j6T hown hrd' (fun b hb=>hL' b (hLb b hb)) hp
 have hlt:∀ b,F' b→b<w.heap.size:=fun b hb=>hb.elim (hs.flt b) fun hb=>(hs.own r b hb).1
 have ha:∀ q,Adv (g q) ((fun i=>if i=r then .dead else g i) q):=fun q=>by
  by_cases hq:q=r
  ·subst hq
   simp only[if_true]
   rw[hg];exact .inl rfl
  ·simp only[ifN hq];exact Adv.refl _
 have hp:∀ {x:X} {v:Value},vr (SM F S.B) w g x v→vr (SM F' S.B) w (fun i=>if i=r then .dead else g i) x v:=fun h=>h.adv (fun m b o cs h1 h2 h3=>⟨up m b h1,h2,h3⟩) ha
 have hps:∀ {x:List X} {v:List Value},vrs (SM F S.B) w g x v→vrs (SM F' S.B) w (fun i=>if i=r then .dead else g i) x v:=fun h=>h.adv (fun m b o cs h1 h2 h3=>⟨up m b h1,h2,h3⟩) ha
 refine⟨F',fun i=>if i=r then .dead else g i,⟨hs.chg,hs.bB,fun b hb=>.inl (hs.fmono b hb),fun b hb=>?_,hlt,fun i=>?_,hs.low,fun i=>?_,fun i=>?_,fun i j hij b hb=>?_,fun i b hb=>?_⟩,fun x v h=>hp h,fun x v h=>j9k hg hF hd hpart h⟩
 ·rcases hb with hb|hb
  ·exact hs.fnew b hb
  ·exact .inr (hs.own r b hb).2.2.2
 ·by_cases hi:i=r
  ·subst hi
   simp only[if_true];trivial
  ·simp only[ifN hi]
   have h1:=hs.roots i
   revert h1
   cases σ1 i<;>intro h1<;>cases hgi:g i<;>rw[hgi] at h1<;>try exact h1.elim
   ·trivial
   ·trivial
   ·obtain⟨vs,h2,h3⟩:=h1
    exact⟨vs,h2,hps h3⟩
   ·exact⟨h1.1,z4b h1.2 up⟩
   ·exact⟨⟨h1.1.1,z4b h1.1.2 up⟩,h1.2.1.adv ha,h1.2.2⟩
 ·by_cases hi:i=r
  ·subst hi
   simp only[if_true]
   have:=hs.hdr i
   rw[hg] at this
   revert this
   cases S.g0 i<;>intro h
   ·trivial
   ·cases h
   ·rcases h with h|h<;>cases h
   ·exact .inl rfl
  ·simp only[ifN hi];exact hs.hdr i
 ·by_cases hi:i=r
  ·simp only[ifP hi,bl];exact List.nodup_nil
  ·simp only[ifN hi];exact hs.nodup i
 ·by_cases hi:i=r
  ·simp only[ifP hi,bl] at hb;cases hb
  ·simp only[ifN hi] at hb
   by_cases hj:j=r
   ·simp only[ifP hj,bl];exact List.not_mem_nil
   ·simp only[ifN hj];exact hs.disj i j hij b hb
 ·by_cases hi:i=r
  ·simp only[ifP hi,bl] at hb;cases hb
  ·simp only[ifN hi] at hb
   obtain⟨h1,h2,h3,h4⟩:=hs.own i b hb
   refine⟨h1,fun hf=>?_,h3,h4⟩
   rcases hf with hf|hf
   ·exact h2 hf
   ·exact hs.disj i r hi b hb hf
end
section
variable {P:Program}[HasTab P]{S:Start}{ops:Array Oper}{Q:AE→St→Prop}{o:Oper}{rest:List Oper}{ρ:AE}{σ:St}{d:Nat}{md:Md2}
theorem j7e:∀ (wr:List (Nat×Root)) (σ:Nat→Root) (r:Nat) (x:Root),owr σ (wr++[(r,x)])=fun i=>if i=r then x else owr σ wr i
 | [],σ,r,x=>rfl
 | (i,y)::l,σ,r,x=>by rw[List.cons_append,owr,j7e l,owr]
theorem j1J {P:Program}{R R' : Value→World→Prop}(hR:∀ v w,R v w→R' v w):∀ {x:Result Next},z9v P R x→z9v P R' x:=by
 intro x h
 cases x with
 | ok n w=>
  cases n with
  | value u=>exact hR _ _ h
  | skip=>exact hR _ _ h
  | enter f args=>exact Calls.mono h fun e w' ⟨v,h1,h2⟩=>⟨v,h1,hR _ _ h2⟩
  | _=>exact h.elim
 | _=>exact h.elim
theorem LT.frz {rd:List Nat}{v:X}{wr:List (Nat×Root)}{r:Nat}{m:Md}{k:Nat}{xs:List D}(h:LT P S o ρ σ rd v wr)(hr:∀ σ1,owr σ1 wr r=.row m k xs):LT P S o ρ σ rd (frX r m k xs v) (wr++[(r,.dead)]):=by
 intro σ1 F g w ρc h1 h2 h3 h4
 refine j1J ?_ (h σ1 F g w ρc h1 h2 (fun p hp=>h3 p (by simp[hp])) h4)
 rintro vc w' ⟨F',g',h5,h6,h7⟩
 obtain⟨F2,g2,k1,k2,k3⟩:=h5.frz (hr σ1)
 exact⟨F2,g2,by rw[j7e];exact k1,fun x v hx=>k2 x v (h6 x v hx),k3 _ _ h7⟩
end
theorem q0l {S:Start}{ρ:AE}{σ:St}{n0:Nat}(hS:S.n0=n0)(l:List (Nat×Nat))(n:Nat){L:List (Nat×X)}{σt:St}(hL:WkR l ρ L:=by repeat (first|exact trivial|refine And.intro (.of (by kernel_rfl)) ?_))(hσ:renS l n σ=σt:=by kernel_rfl)(hc:j2I l n0 n σ=true:=by kernel_rfl):GH S ρ σ (ofX L) σt:=GH.ren hS l n hL hσ hc
theorem j7f {f:UInt8→D}(hf:∀ b,f b=.i .u8 (b.toNat:Int)){S:Nat→Prop}{w:World}:∀ {a:List UInt8} {cs:List Value},rdL S w a cs→rdE S w 1 (a.map f) cs
 | [],_,h=>by rw[show _=[] from h];rfl
 | x::xs,cs,h=>by
  obtain⟨c,r,h1,h2,h3⟩:=h
  have h2:c=[.int .u8 (x.toNat:Int)]:=h2
  subst h2
  rw[List.map_cons,q6E]
  refine⟨_,r,h1,rfl,?_,j7f hf h3⟩
  rw[hf x]
  have hx:=x.toNat_lt
  exact⟨_,_,rfl,⟨rfl,by omega,by omega⟩,rfl⟩
theorem k1I {f:UInt8→D}(hf:∀ b,f b=.i .u8 (b.toNat:Int)){w:World}{a:List UInt8}{z:Value}(h:rdS (fun _=>True) w a z):rdC (fun b=>b<w.heap.size) w (.sl 1 (a.map f)) z:=by
 have h0:Rep.rd (fun _=>True) w a [z]:=⟨z,rfl,h⟩
 obtain⟨z',e,h⟩:=Rep.bound h0
 injection e with e
 subst e
 obtain⟨A',cap,cells,h1,h2,h3,h4,h5⟩:=h
 rw[rdC]
 refine⟨A',cap,cells,by rw[lnM];exact h1,by rw[lnM];exact h2,h3,j7f hf (h4.mono fun b hb=>hb.2),?_⟩
 rcases h5 with h5|⟨b,o,e,hb,ha⟩
 ·exact .inl (by rw[h5];rfl)
 ·exact .inr ⟨b,o,e,hb.2,hb.2,ha⟩
theorem Sim.begin0 (w:World):Sim (j3T w (fun b=>b<w.heap.size) (fun _=>False) (fun _=>.none) 0) (fun b=>b<w.heap.size) (fun _=>.none) (fnOf []) w where
 chg:=Chg.refl w
 bB b h:=h.elim
 fmono b h:=h
 fnew b h:=.inl h
 flt b h:=h
 roots i:=trivial
 low i _:=rfl
 hdr i:=trivial
 nodup i:=List.nodup_nil
 disj i j _ b h:=by cases h
 own i b h:=by cases h
theorem Ok.law {P:Program}{fid:Nat}{f:UInt8→D}(hf:∀ b,f b=.i .u8 (b.toNat:Int)){W:World}{a:List UInt8}{z:Value}(ha:rdS (fun _=>True) W a z){x:Bool}(hx:x=true)
  (h:Ok P fid [.d .fz (.sl 1 (a.map f))] [] (.d .fz (.b x)) []):Ret P fid #[z] W (fun _=>False) fun v w=>v=.bool true:=by
 have h:=h (fun b=>b<W.heap.size) (fun _=>False) (fun _=>.none) W [z] (Sim.begin0 W) ⟨z,[],rfl,k1I hf ha,rfl⟩
 refine Calls.mono h fun e w' ⟨v,he,hc,F',g',_,hv⟩=>⟨v,he,⟨hc.os,hc.tape,hc.output,hc.size,fun k hk _=>hc.block k hk fun ⟨i,hi⟩=>by cases hi⟩,?_⟩
 subst hx
 exact hv
end Go.A
