/- Abstract states of a walk: plain lemmas on the model, without conditions of their own. -/
import Derived.Test.YtodhafdaelcnlaaGreatEng5
set_option linter.unusedVariables false
set_option linter.unusedSimpArgs false
set_option linter.ambiguousOpen false
set_option linter.unusedSectionVars false
set_option linter.unnecessarySimpa false
open List renaming getElem?_map->Czz,map_cons->Blz,not_mem_nil->Daz,take_append_drop->Ccz,range'->Dbz
open Nat renaming beq->Aaz,eq_of_beq_eq_true->Abz,blt->Cyz,ne_of_beq_eq_false->Dcz
open Bool renaming and_eq_true->Afz
namespace Go.A
open Go Go.E
inductive eA (ρ:AE) (σ:St):X->Prop
 | tmp (t:Nat) {x:X} (h:ρ t=x):eA ρ σ x
 | box (r c:Nat) {cs:List X} {x:X} (h:ai σ r=.box cs) (hc:cs[c]?=some x):eA ρ σ x
 | ag {cs:List X} {x:X} (c:Nat) (h:eA ρ σ (.ag cs)) (hc:cs[c]?=some x):eA ρ σ x
 | tu {cs:List X} {x:X} (c:Nat) (h:eA ρ σ (.tu cs)) (hc:cs[c]?=some x):eA ρ σ x
 | el {α:Type} {m:Md} {k k' j:Nat} {f:α->D} {xs:List α} {y:α} {zs:List D} (c:Nat) (h:eA ρ σ (.d m (.sl k (xs.map f)))) (hj:xs[j]?=some y) (hc:(f y).cells[c]?=some (.sl k' zs)):eA ρ σ (.d m (.sl k' zs))
 | rw {α:Type} {m:Md} {k k' j:Nat} {f:α->D} {xs:List α} {y:α} {zs:List D} (r c:Nat) (h:ai σ r=.row m k (xs.map f)) (hj:xs[j]?=some y) (hc:(f y).cells[c]?=some (.sl k' zs)):eA ρ σ (.d m (.sl k' zs))
theorem eA.vr {S:Start}{F:Nat->Prop}{g:Nat->G}{w:World}{ρ:AE}{σ:St}{ρc:Env}(hs:bp S F g (ai σ) w)(hv:VR S F g w ρ ρc):∀ {x:X},eA ρ σ x->∃ v,Go.A.vr (SM F S.B) w g x v
 | _,.tmp t h=>⟨ρc t,h▸hv t⟩
 | _,.box r c h hc=>by
  obtain⟨b,T,vs,_,_,h3⟩:=oA hs h;obtain⟨v,_,h4⟩:=h3.get hc;exact⟨v,h4⟩
 | _,.ag c h hc=>by
  obtain⟨v,U⟩:=h.vr hs hv;rw[Go.A.vr] at U;obtain⟨vs,_,W⟩:=U;obtain⟨v,_,h4⟩:=W.get hc;exact⟨v,h4⟩
 | _,.tu c h hc=>by
  obtain⟨v,U⟩:=h.vr hs hv;rw[Go.A.vr] at U;obtain⟨vs,_,W⟩:=U;obtain⟨v,_,h4⟩:=W.get hc;exact⟨v,h4⟩
 | _,.el c h hj hc=>by
  obtain⟨v,U⟩:=h.vr hs hv;rw[Go.A.vr,rdC] at U;obtain⟨A,cap,cells,_,_,_,W,_⟩:=U;obtain⟨cs,_,h3,_⟩:=W.get (i:=_) (by rw[Czz,hj];rfl);obtain⟨v,_,h4⟩:=rdCs.get h3 hc;exact⟨v,by rw[Go.A.vr];exact h4⟩
 | _,.rw r c h hj hc=>by
  obtain⟨v,L,gs,hg,hrow⟩:=oB hs (.inr ⟨_,_,h,rfl⟩);obtain⟨_,W,_⟩:=kS hrow;obtain⟨cs,_,h3,_⟩:=W.get (i:=_) (by rw[Czz,hj];rfl);obtain⟨v,_,h4⟩:=rdCs.get h3 hc;exact⟨v,by rw[Go.A.vr];exact h4⟩
def ps:X->Prop
 | .d _ (.sl _ xs)=>(xs.length:Int)<=9223372036854775807
 | .d _ x=>fF x
 | _=>True
theorem T5 {S1:Md->Nat->Prop}{w:World}{g:Nat->G}{x:X}{v:Value}(h:vr S1 w g x v):ps x:=by
 cases x<;>try trivial
 rename_i m x;cases x<;>try trivial
 rw[vr,rdC] at h;exact h.2;rw[vr,rdC] at h;exact h.2;rw[vr,rdC] at h;obtain⟨A,cap,cells,_,U,W,_⟩:=h;have W:cap<=9223372036854775807:=W;show _<=(9223372036854775807:Int);omega
section
variable {P:Program}{S:Start}{n:Nat}{ρ:AE}{σ:St}{c:Code}{QP:cQ}
theorem C5 {x:X}(hx:eA ρ σ x)(h:ps x->AW P S n c QP ρ σ):AW P S n c QP ρ σ:=by
 intro F g w ρc hs hv;obtain⟨v,U⟩:=hx.vr hs hv;exact h (T5 U) F g w ρc hs hv
theorem QK {r k:Nat}{m:Md}{xs:List D}(Z:ai σ r=.row m k xs)(h:(xs.length:Int)<=9223372036854775807->AW P S n c QP ρ σ):AW P S n c QP ρ σ:=by
 intro F g w ρc hs hv;obtain⟨v,L,gs,hg,hrow⟩:=oB hs (.inr ⟨m,xs,Z,rfl⟩);obtain⟨A,c,_,U,W⟩:=hrow.1.form;have W:c<=9223372036854775807:=W;rw[bn] at U;exact h (by omega) F g w ρc hs hv
end
section
variable {P:Program}{T:TypeId}{X1 Y1:X}{a b:Int}{m m' : Md}
abbrev BR (P:Program)(op:BinOp)(T:TypeId)(X1 Y1:X)(u v:Value)(z:D)(r:Value):Prop:=fX X1->fX Y1->cG P op T u v r/\fF z
theorem qj (h:aR (a+b)):BR P .add T X1 Y1 (.int .i64 a) (.int .i64 b) (.i .i64 (a+b)) (.int .i64 (a+b)):=λ_ _=>⟨cG.add h,h⟩
theorem FS (h:aR (a-b)):BR P .sub T X1 Y1 (.int .i64 a) (.int .i64 b) (.i .i64 (a-b)) (.int .i64 (a-b)):=λ_ _=>⟨cG.sub h,h⟩
theorem jU (h:aR (a*b)):BR P .mul T X1 Y1 (.int .i64 a) (.int .i64 b) (.i .i64 (a*b)) (.int .i64 (a*b)):=λ_ _=>⟨QF h,h⟩
theorem iv {p q:Nat}(h:aR ((p+q:Nat):Int)):BR P .add T X1 Y1 (.int .i64 (p:Int)) (.int .i64 (q:Int)) (.i .i64 ((p+q:Nat):Int)) (.int .i64 ((p+q:Nat):Int)):=λ_ _=>⟨Rv rfl h,h⟩
theorem nq {p k:Nat}(hk:k<=4611686018427387904):BR P .sub T (.d m (.i .i64 (p:Int))) Y1 (.int .i64 (p:Int)) (.int .i64 (k:Int)) (.i .i64 ((p:Int)-(k:Int))) (.int .i64 ((p:Int)-(k:Int))):=λh _=>⟨cG.sub (JH h hk),JH h hk⟩
theorem p7:BR P .add T X1 Y1 (.int .i64 a) (.int .i64 b) (.i .i64 (IntKind.i64.wrap (a+b))) (.int .i64 (IntKind.i64.wrap (a+b))):=λ_ _=>⟨RI,AQ _⟩
theorem Ia:BR P .mul T X1 Y1 (.int .i64 a) (.int .i64 b) (.i .i64 (IntKind.i64.wrap (a*b))) (.int .i64 (IntKind.i64.wrap (a*b))):=λ_ _=>⟨RH,AQ _⟩
theorem vY:BR P .and T X1 Y1 (.int .i64 a) (.int .i64 b) (.i .i64 (jr a b)) (.int .i64 (jr a b)):=λ_ _=>⟨QV,AQ _⟩
theorem O8:BR P .xor T X1 Y1 (.int .i64 a) (.int .i64 b) (.i .i64 (vX a b)) (.int .i64 (vX a b)):=λ_ _=>⟨QU,AQ _⟩
theorem H9 {q:IntKind}(h:0<=b):BR P .shr T (.d m (.i .i64 a)) Y1 (.int .i64 a) (.int q b) (.i .i64 (mb a b)) (.int .i64 (mb a b)):=λU _=>⟨Ru h,UY U _⟩
theorem r9 {q:IntKind}(h:0<=b/\b<63):BR P .shl T X1 Y1 (.int .i64 1) (.int q b) (.i .i64 ((2 ^ b.toNat:Nat):Int)) (.int .i64 ((2 ^ b.toNat:Nat):Int)):=λ_ _=>⟨Ry h.1 h.2,TE h.2⟩
theorem zZ {q:IntKind}(h:0<=a/\0<=b/\b<64):BR P .shr T (.d m (.i .i64 a)) Y1 (.int .i64 a) (.int q b) (.i .i64 ((a.toNat >>> b.toNat:Nat):Int)) (.int .i64 ((a.toNat >>> b.toNat:Nat):Int)):=λU _=>⟨Rx h.1 h.2.1 h.2.2,TD U⟩
theorem zY (h:0<=a/\0<=b):BR P .and T (.d m (.i .i64 a)) (.d m' (.i .i64 b)) (.int .i64 a) (.int .i64 b) (.i .i64 ((a.toNat &&& b.toNat:Nat):Int)) (.int .i64 ((a.toNat &&& b.toNat:Nat):Int)):=λU W=>⟨Rw h.1 U.2 h.2 W.2,TC h U W⟩
theorem ns (h:0<=a/\0<=b):BR P .or T (.d m (.i .i64 a)) (.d m' (.i .i64 b)) (.int .i64 a) (.int .i64 b) (.i .i64 ((a.toNat ||| b.toNat:Nat):Int)) (.int .i64 ((a.toNat ||| b.toNat:Nat):Int)):=λU W=>⟨Q9 h.1 U.2 h.2 W.2,Tb h U W⟩
theorem lA (h:b≠0):BR P .rem T (.d m (.i .i64 a)) Y1 (.int .i64 a) (.int .i64 b) (.i .i64 (a.tmod b)) (.int .i64 (a.tmod b)):=λU _=>⟨QS h,TA U⟩
theorem qi (h:b≠0)(g:aR (a.tdiv b)):BR P .quo T X1 Y1 (.int .i64 a) (.int .i64 b) (.i .i64 (a.tdiv b)) (.int .i64 (a.tdiv b)):=λU _=>⟨QT h g,g⟩
theorem r8 {s t:an}(h:s.size+t.size<=9223372036854775807):BR P .add T X1 Y1 (.string s) (.string t) (.s (s++t)) (.string (s++t)):=λ_ _=>⟨RE h,by simp only[fF];rw[ByteArray.size_append];exact h⟩
end
section
variable {P:Program}[ae P]{S:Start}{n:Nat}{ops:Array Oper}{Q:AE->St->Prop}{QP:cQ}{o:Oper}{rest:List Oper}{ρ:AE}{σ:St}{d:Nat}{v:X}{rd:List Nat}{md:cU}{T e:Nat}{t te:TI}{α:Type}{f:α->D}{xs:List α}{k:Nat}{m m' : Md}
theorem IE {x i:Operand}{r:Nat}{q:IntKind}{j:Int}{y:α}(hj:xs[j.toNat]?=some y)(h0:0<=j)(h:AL P S ops Q (aZ md [r] []) rest (av ρ d (.pe r none j.toNat 0)) σ)(ho:o.op=.indexAddr T x i:=by rfl)(hT:(ae.tab P).get T=some t:=by rfl)(he:t.el=some e:=by rfl)(hE:(ae.tab P).get e=some te:=by rfl)(hx:aE ρ x=.ref r none:=by rfl)(hσ:ai σ r=.row m te.sz (xs.map f):=by rfl)(hi:aE ρ i=.d m' (.i q j):=by rfl)(hd:o.dst=some d:=by rfl)(hg:aV ops ρ o=some true:=by rfl):AL P S ops Q md (o::rest) ρ σ:=
 bX (zJ ho (cD hT he hE).1 (cD hT he hE).2 hx (by rw[hσ];rfl) hi h0 (aW (aW hj))) h hd hg
theorem LP {x:Operand}{r j c:Nat}{y:α}{z:D}(hj:xs[j]?=some y)(h:AL P S ops Q (aZ md [r] []) rest (av ρ d (dX m z)) σ)(ho:o.op=.load T x:=by rfl)(hT:(ae.tab P).get T=some t:=by rfl)(ha:t.agg=false:=by rfl)(hx:aE ρ x=.pe r none j c:=by rfl)(hσ:ai σ r=.row m k (xs.map f):=by rfl)(hz:(f y).cells[c]?=some z:=by rfl)(hd:o.dst=some d:=by rfl)(hg:aV ops ρ o=some true:=by rfl):AL P S ops Q md (o::rest) ρ σ:=
 bX (zK (hx':=[]) ho (by rw[TI.agg' (bK.chk ae.ok hT),ha]) hx (by rw[hσ];rfl) (aW (aW hj)) (by rw[bN,Czz,hz];rfl) (.inl rfl) rfl) h hd hg
theorem BJ {m:Md}:∀ {ds:List D} {c:Nat},oy [] c (ds.map (Cell.d m))=some (ds.map (dX m))
 | [],c=>rfl
 | x::ds,c=>by simp only[Blz,oy,ma,BJ]
theorem F6 {x:Operand}{r j c:Nat}{y:α}(hj:xs[j]?=some y)(h:AL P S ops Q (aZ md [r] []) rest (av ρ d (.ag ((((f y).cells.drop c).take t.sz).map (dX m)))) σ)(ho:o.op=.load T x:=by rfl)(hT:(ae.tab P).get T=some t:=by rfl)(ha:t.agg=true:=by rfl)(hx:aE ρ x=.pe r none j c:=by rfl)(hσ:ai σ r=.row m k (xs.map f):=by rfl)(hl:Aaz (((f y).cells.drop c).take t.sz).length t.sz=true:=by rfl)(hd:o.dst=some d:=by rfl)(hg:aV ops ρ o=some true:=by rfl):AL P S ops Q md (o::rest) ρ σ:=
 bX (C7 (hx':=[]) (p:=(k,(xs.map f).map (bN m))) ho (by rw[TI.agg' (bK.chk ae.ok hT),ha]) (TI.sz' (bK.chk ae.ok hT)) hx (by rw[hσ];rfl) (aW (aW hj)) (by have:=Abz hl;simpa[bN] using this) (.inl rfl) (by rw[bN,← List.map_drop,← List.map_take];exact BJ)) h hd hg
theorem AW.fz {c:Code}(r:Nat){ds:List D}(Z:ai σ r=.row m k ds)(h:AW P S n c QP (λt=>dP r m k ds (ρ t)) (gO r m k ds 0 σ)):AW P S n c QP ρ σ:=AW.gh (vH Z) h
theorem HI (q c r:Nat){k' : Nat}{cs:List X}(m:Md)(k:Nat)(hq:ai σ q=.box cs)(hc:cs[c]?=some (.nl k'))(h:AL P S ops Q (kC md) rest ρ (aK (aK σ r (.row m k [])) q (.box (cs.set c (.ref r none)))))(Z:ai σ r=.none:=by rfl):AL P S ops Q md rest ρ σ:=AL.gh (dt m k hq hc Z) h
theorem Qt {c' : Code}(q c r:Nat){k' : Nat}{cs:List X}(m:Md)(k:Nat)(hq:ai σ q=.box cs)(hc:cs[c]?=some (.nl k'))(h:AW P S n c' QP ρ (aK (aK σ r (.row m k [])) q (.box (cs.set c (.ref r none)))))(Z:ai σ r=.none:=by rfl):AW P S n c' QP ρ σ:=AW.gh (dt m k hq hc Z) h
end
section
variable {S1:Md->Nat->Prop}{w:World}{g1 g2:Nat->G}{l:List (Nat×Nat)}
mutual
theorem IQ (hg:∀ i j,aT l i=some j->g2 j=g1 i):∀ {x:X} {v:Value},vr S1 w g1 x v->vr S1 w g2 (ba l x) v
 | .d m x,v,h=>by rw[ba];rw[vr] at h ⊢;exact h
 | .ag cs,v,h=>by rw[ba];rw[vr] at h ⊢;obtain⟨vs,U,W⟩:=h;exact⟨vs,U,wD hg W⟩
 | .tu cs,v,h=>by rw[ba];rw[vr] at h ⊢;obtain⟨vs,U,W⟩:=h;exact⟨vs,U,wD hg W⟩
 | .fn f cs,v,h=>by rw[ba];rw[vr] at h ⊢;obtain⟨vs,U,W⟩:=h;exact⟨vs,U,wD hg W⟩
 | .ref r p,v,h=>by
  rw[ba];cases Z:aT l r with
  | none=>show vr _ _ _ .u _;rw[vr];trivial
  | some j=>show vr _ _ _ (.ref j p) _;rw[vr] at h ⊢;rw[hg r j Z];exact h
 | .vs r p a b,v,h=>by
  rw[ba];cases Z:aT l r with
  | none=>show vr _ _ _ .u _;rw[vr];trivial
  | some j=>show vr _ _ _ (.vs j p a b) _;rw[vr] at h ⊢;rw[hg r j Z];exact h
 | .pb r c,v,h=>by
  rw[ba];cases Z:aT l r with
  | none=>show vr _ _ _ .u _;rw[vr];trivial
  | some j=>show vr _ _ _ (.pb j c) _;rw[vr] at h ⊢;rw[hg r j Z];exact h
 | .pe r p i c,v,h=>by
  rw[ba];cases Z:aT l r with
  | none=>show vr _ _ _ .u _;rw[vr];trivial
  | some j=>show vr _ _ _ (.pe j p i c) _;rw[vr] at h ⊢;rw[hg r j Z];exact h
 | .pf m x,v,h=>by rw[ba];rw[vr] at h ⊢;exact h
 | .nl k,v,h=>by rw[ba];rw[vr] at h ⊢;exact h
 | .u,v,h=>by rw[ba];rw[vr];trivial
theorem wD (hg:∀ i j,aT l i=some j->g2 j=g1 i):∀ {xs:List X} {vs:List Value},aQ S1 w g1 xs vs->aQ S1 w g2 (jq l xs) vs
 | [],vs,h=>by rw[jq];rw[aQ] at h ⊢;exact h
 | x::xs,vs,h=>by
  rw[jq];rw[aQ] at h ⊢;obtain⟨v,r,U,W,h3⟩:=h;exact⟨v,r,U,IQ hg W,wD hg h3⟩
end
end
def Di (l:List (Nat×Nat)):aw->Bool
 | .deep _ _ _ hs=>hs.all λp=>(aT l p.2.2).isSome
 | _=>true
def fv (l:List (Nat×Nat))(n:Nat)(σ:St):St:=(List.range n).map λj=>match cM l j with|some i=>iV l (ai σ i)|none=>.none
theorem Kf:∀ {l:St} {i:Nat},ai l i=(l[i]?).getD .none
 | [],i=>by rw[mA];simp
 | x::l,0=>rfl
 | x::l,i+1=>by simp only[ai];rw[Kf (l:=l)];simp
theorem WE {l:List (Nat×Nat)}{n:Nat}{σ:St}{j:Nat}:ai (fv l n σ) j=if j<n then (match cM l j with|some i=>iV l (ai σ i)|none=>.none) else .none:=by
 rw[Kf,fv,Czz];by_cases hj:j<n;rw[List.getElem?_range hj,ao hj];rfl;rw[List.getElem?_eq_none (by simpa using hj),al hj];rfl
def np (l:List (Nat×Nat))(n0 n:Nat)(σ:St):Bool:=
 Nat.ble n0 n&&(j8 (l.map (·.1))&&(j8 (l.map (·.2))&&((List.range n0).all (λi=>match aT l i with|some j=>Aaz j i|none=>false)&&l.all λp=>Cyz p.2 n&&Di l (ai σ p.1))))
def renG (l:List (Nat×Nat))(n:Nat)(g:Nat->G):Nat->G:=λj=>if j<n then (match cM l j with|some i=>g i|none=>.none) else .none
section
variable {S:Start}{F:Nat->Prop}{g:Nat->G}{w:World}{σ:St}{ρ:AE}
theorem bp.ren (h:bp S F g (ai σ) w){l:List (Nat×Nat)}{n n0:Nat}(hS:S.n0=n0)(hok:np l n0 n σ=true):bp S F (renG l n g) (ai (fv l n σ)) w/\∀ x v,vr (SM F S.B) w g x v->vr (SM F S.B) w (renG l n g) (ba l x) v:=by
 subst hS;simp only[np,Afz] at hok;obtain⟨hn0,hd1,hd2,hpar,hall⟩:=hok;have hn0:S.n0<=n:=by simpa using hn0
 have hd1:=py hd1;have hd2:=py hd2;have hp:∀ i,i<S.n0->aT l i=some i:=λi hi=>by
  have:=List.all_eq_true.1 hpar i (List.mem_range.2 hi);split at this;rename_i j hj;rw[hj,Abz this];cases this
 have hl:∀ i j,aT l i=some j->j<n/\Di l (ai σ i)=true:=λi j hij=>by
  have:=List.all_eq_true.1 hall (i,j) (AK hij);simp only[Afz] at this;exact⟨by simpa using this.1,this.2⟩
 have hg:∀ i j,aT l i=some j->renG l n g j=g i:=λi j hij=>by
  simp only[renG,ao (hl i j hij).1,qA hd2 hij hd1]
 have hinv:∀ j,(∃ i,aT l i=some j/\renG l n g j=g i/\ai (fv l n σ) j=iV l (ai σ i))∨(renG l n g j=.none/\ai (fv l n σ) j=.none):=λj=>by
  rw[WE];simp only[renG];by_cases hj:j<n;simp only[ao hj];cases hi:cM l j with
  | none=>exact .inr ⟨rfl,rfl⟩
  | some i=>exact .inl ⟨i,EZ hi hd1,by simp,by simp⟩
  exact .inr (by simp[hj])
 refine⟨⟨h.chg,h.bB,h.fmono,h.fnew,h.flt,λj=>?_,h.low,λj=>?_,λj=>?_,λj j' hne b Y=>?_,λj b Y=>?_⟩,λx v hv=>IQ hg hv⟩;rcases hinv j with ⟨i,U,W,h3⟩|⟨W,h3⟩
 rw[W,h3];have Z:=h.roots i;have hh:=(hl i j U).2;revert Z hh;cases ai σ i<;>intro Z hh<;>cases hgi:g i<;>rw[hgi] at Z<;>try exact Z.elim
 trivial;trivial;obtain⟨vs,k1,k2⟩:=Z;exact⟨vs,k1,wD hg k2⟩;exact Z;simp only[Di] at hh;refine⟨Z.1,λp hp gc hgc=>?_,Z.2.2⟩;obtain⟨q,hq,rfl⟩:=List.mem_map.1 hp;obtain⟨j',hj'⟩:=Option.isSome_iff_exists.1 (List.all_eq_true.1 hh q hq);simp only[hj',Option.getD_some];rw[hg _ _ hj'];exact Z.2.1 q hq gc hgc;rw[W,h3];trivial;by_cases hj:j<S.n0;rw[hg j j (hp j hj)];exact h.hdr j;rw[h.low j (Nat.le_of_not_lt hj)];trivial;rcases hinv j with ⟨i,_,W,_⟩|⟨W,_⟩
 rw[W];exact h.nodup i;rw[W];exact List.nodup_nil;rcases hinv j with ⟨i,U,W,_⟩|⟨W,_⟩
 rw[W] at Y;rcases hinv j' with ⟨i',h1',h2',_⟩|⟨h2',_⟩
 rw[h2'];exact h.disj i i' (λe=>hne (by subst e;rw[U] at h1';exact Option.some.inj h1')) b Y;rw[h2'];exact Daz;rw[W] at Y;cases Y;rcases hinv j with ⟨i,_,W,_⟩|⟨W,_⟩
 rw[W] at Y;exact h.own i b Y;rw[W] at Y;cases Y
def sA (l:List (Nat×Nat))(ρ:AE):List (Nat×X)->Prop
 | []=>True
 | (t,x)::L=>Wk x (ba l (ρ t))/\sA l ρ L
theorem IP {ρc:Env}{l:List (Nat×Nat)}{g' : Nat->G}(h:∀ t,vr (SM F S.B) w g' (ba l (ρ t)) (ρc t)):∀ {L:List (Nat×X)},sA l ρ L->VR S F g' w (ofX L) ρc
 | [],_=>λt=>by simp only[Go.A.ofX];rw[Go.A.vr];trivial
 | (t,x)::L,hl=>λs=>by
  simp only[Go.A.ofX,av];cases Y:Aaz s t with
  | true=>have:=Abz Y;subst this;exact hl.1.vr (h _)
  | false=>exact IP h hl.2 s
theorem GH.ren {n0:Nat}(hS:S.n0=n0)(l:List (Nat×Nat))(n:Nat){L:List (Nat×X)}{σt:St}(hL:sA l ρ L)(hσ:fv l n σ=σt:=by rfl)(hc:np l n0 n σ=true:=by rfl):GH S ρ σ (ofX L) σt:=by
 intro F g w ρc hs hv;subst hσ;obtain⟨U,W⟩:=hs.ren hS hc;exact⟨F,_,U,IP (λt=>W _ _ (hv t)) hL⟩
theorem cS.ren {P:Program}{fn:Func}{e:Exit}{lr:List ResultVar}{xs:List X}{res:X}{post:St}{n0:Nat}(l:List (Nat×Nat))(n:Nat)(he:e=.normal∨e=.ret)(hS:S.n0=n0)(hl:fn.results=lr.toArray)(ht:lr.all (qd fn.ntmps)=true)(hx:nr P ρ σ lr=some xs)(hw:Wk res (ba l (jD xs)))
  (hc:np l n0 n σ=true) (hp:fv l n σ=post):cS P S fn res post e ρ σ:=by
 refine⟨he,λF g w ρc hs hv=>?_⟩;obtain⟨vs,U,W⟩:=Lv hs hv ht hx;obtain⟨k1,k2⟩:=hs.ren hS hc;subst hp;exact⟨mI vs,λa ha=>XU hl (U a ha),F,_,k1,hw.vr (k2 _ _ (Si W))⟩
end
theorem dT {p:Prop}[Decidable p](h:p):decide p=true:=decide_eq_true h
theorem dF {p:Prop}[Decidable p](h:¬ p):decide p=false:=decide_eq_false h
theorem nT {p:Prop}[Decidable p](h:¬ p):(!decide p)=true:=by simp[h]
theorem nF {p:Prop}[Decidable p](h:p):(!decide p)=false:=by simp[h]
theorem bF {t:Bool}(h:¬ t=true):t=false:=by simpa using h
theorem wN {t:Bool}(h:¬ t=true):(!t)=true:=by simpa using h
theorem wO {t:Bool}(h:t=true):(!t)=false:=by simp[h]
section
variable {P:Program}{S:Start}{n:Nat}{QP:cQ}{ρ:AE}{σ:St}{c:Operand}{x y:Code}{m:Md}{b:Bool}
theorem iK (hc:aE ρ c=.d m (.b b))(Y:b=true)(h:AW P S n x QP ρ σ):AW P S n (.cond c x y) QP ρ σ:=HW hc (λ_=>h) λe=>by rw[Y] at e;cases e
theorem iJ (hc:aE ρ c=.d m (.b b))(Y:b=false)(h:AW P S n y QP ρ σ):AW P S n (.cond c x y) QP ρ σ:=HW hc (λe=>by rw[Y] at e;cases e) λ_=>h
end
section
variable {P:Program}[ae P]{S:Start}{n:Nat}{ops:Array Oper}{Q:AE->St->Prop}{o:Oper}{l rest:List Oper}{ρ:AE}{σ:St}{d:Nat}{md:cU}{m:Md}{b:Bool}
theorem H1 {rd:List Nat}{b b' : Bool}(e:b=b')(h:LT P S o ρ σ rd (.d m (.b b)) []):LT P S o ρ σ rd (.d .fz (.b b')) []:=by
 subst e;intro σ1 F g w ρc K a2 a3 a4;have:=h σ1 F g w ρc K a2 a3 a4;revert this;generalize (execOp (E.ev ρc) o).run P w=r;intro h;have key:∀ vc w',(∃ F' g',bp S F' g' (cg σ1 []) w'/\cj S.B F g w F' g' w'/\vr (SM F' S.B) w' g' (.d m (.b b)) vc)->∃ F' g',bp S F' g' (cg σ1 []) w'/\cj S.B F g w F' g' w'/\vr (SM F' S.B) w' g' (.d .fz (.b b)) vc:=λvc w' ⟨F',g',U,W,h3⟩=>⟨F',g',U,W,by rw[vr,rdC] at h3 ⊢;exact h3⟩
 cases r with
 | ok x w'=>
  cases x<;>simp only[lj] at h ⊢
  case value u=>exact key _ _ h
  case skip=>exact key _ _ h
  case enter f args=>exact h.mono λe w'' ⟨v,k1,k2⟩=>⟨v,k1,key _ _ k2⟩
 | halt x w'=>simp only[lj] at h
theorem VT {rd:List Nat}(hv:opV (ae.tab P) ρ σ o.op=some (.d m (.b b),rd))(Y:b=true)(h:AL P S ops Q (aZ md rd []) rest (av ρ d (.d .fz (.b true))) σ)(hd:o.dst=some d:=by rfl)(hg:aV ops ρ o=some true:=by rfl):AL P S ops Q md (o::rest) ρ σ:=
 bX (wr:=[]) (H1 Y (CY (P:=P) (S:=S) ae.ok hv)) h hd hg
theorem VF {rd:List Nat}(hv:opV (ae.tab P) ρ σ o.op=some (.d m (.b b),rd))(Y:b=false)(h:AL P S ops Q (aZ md rd []) rest (av ρ d (.d .fz (.b false))) σ)(hd:o.dst=some d:=by rfl)(hg:aV ops ρ o=some true:=by rfl):AL P S ops Q md (o::rest) ρ σ:=
 bX (wr:=[]) (H1 Y (CY (P:=P) (S:=S) ae.ok hv)) h hd hg
theorem Qg {β:Type}(k:Nat){M:β->Prop}(L:β->List (Nat×X))(hk:AL P S ops (λρ' σ'=>∃ s,M s/\qk ρ' (L s)/\σ'=σ) none (l.take k) ρ σ)(h:∀ s,M s->AL P S ops Q none (l.drop k) (ofX (L s)) σ):AL P S ops Q none l ρ σ:=by
 intro j lg hd;have e:l=l.take k++l.drop k:=(Ccz k l).symm;rw[e];refine AT.bind (hk j lg hd) λρ' σ' lg' hd' ⟨s,U,W,h3⟩=>?_;subst h3;exact .gh (Qw (L s) W) (h s U _ _ _)
end
section
variable {P:Program}{S:Start}{n:Nat}{QP:cQ}{ρ:AE}{σ:St}{c:Code}
theorem bY (j:Nat)(L:List (Nat×X))(R:List (Nat×aw))(U:AW P S n c (iO (λρ' σ'=>GH S ρ' σ' (ofX L) (bc (σ.take j) R)) QP) ρ σ)(W:QP .normal (ofX L) (bc (σ.take j) R)):AW P S n c QP ρ σ:=
 AW.cut (β:=Unit) j (λ_=>L) (λ_=>R) (M:=λ_=>True) (U.mono λe ρ' σ' h=>by cases e<;>first|exact⟨(),trivial,h⟩|exact h) λ_ _=>W
theorem AW.len {α:Type}{xs:List α}{f:α->D}{m:Md}{k:Nat}(hx:eA ρ σ (.d m (.sl k (xs.map f))))(h:(xs.length:Int)<=9223372036854775807->AW P S n c QP ρ σ):AW P S n c QP ρ σ:=
 C5 hx λU=>h (by simpa[ps] using U)
theorem HX {α:Type}{xs:List α}{f:α->D}{m:Md}{k:Nat}(r:Nat)(Z:ai σ r=.row m k (xs.map f))(h:(xs.length:Int)<=9223372036854775807->AW P S n c QP ρ σ):AW P S n c QP ρ σ:=
 QK Z λU=>h (by simpa using U)
theorem AW.rng {m:Md}{k:IntKind}{b:Int}(hx:eA ρ σ (.d m (.i k b)))(h:eV k b->AW P S n c QP ρ σ):AW P S n c QP ρ σ:=C5 hx h
theorem Qf {m:Md}{t:an}(hx:eA ρ σ (.d m (.s t)))(h:t.size<=9223372036854775807->AW P S n c QP ρ σ):AW P S n c QP ρ σ:=C5 hx h
end
theorem ltN {k n:Nat}(h:k<n):(k:Int)<(n:Int):=by omega
theorem ltI {k:Nat}{b:Int}(h:k<b.toNat):(k:Int)<b:=by omega
theorem geN {n:Nat}:¬ ((n:Nat):Int)<(n:Int):=by omega
theorem geI {b:Int}:¬ ((b.toNat:Nat):Int)<b:=by omega
section
variable {P:Program}[ae P]{S:Start}{n:Nat}{ops:Array Oper}{Q:AE->St->Prop}{QP:cQ}{o:Oper}{rest:List Oper}{ρ:AE}{σ:St}{d:Nat}{md:cU}{T e:Nat}{t te:TI}{m:Md}
theorem DW {β:Type}{f:β->X}:∀ {l:List (Nat×β)} {i:Nat},l.map (·.1)=Dbz i l.length->l.map (λp=>(p.1,f p.2))=eI i (l.map λp=>f p.2)
 | [],_,_=>rfl
 | p::l,i,h=>by
  simp only[Blz,bH,List.range'_succ,List.cons.injEq] at h;simp only[Blz,eI,DW h.2,h.1]
theorem iq {α:Type}{f:α->D}{xs:List α}{mm:Nat}{parts:Array (Nat×Operand)}{zs:List X}(r:Nat)(h:AL P S ops Q (aZ md [] [r]) rest (av ρ d (.ref r none)) (aK σ r (.row m te.sz (xs.map f))))(ho:o.op=.buildSlice T mm parts:=by rfl)(hT:(ae.tab P).get T=some t:=by rfl)(he:t.el=some e:=by rfl)(hE:(ae.tab P).get e=some te:=by rfl)(hz:te.z=some zs:=by rfl)(hzl:zs.length=te.sz:=by rfl)(hp:parts.toList.map (·.1)=Dbz 0 parts.toList.length:=by rfl)(hds:gi m (parts.toList.map λp=>aE ρ p.2)=some (xs.map f):=by rfl)(hw:(xs.map f).all (λd=>Aaz d.cells.length te.sz)=true:=by rfl)(hn:(xs.map f).length=mm:=by rfl)(hk0:Cyz 0 te.sz=true:=by rfl)(hm:Cyz 0 mm=true:=by rfl)(hm2:Nat.ble (mm*te.sz) 100000=true:=by rfl)(Z:ai σ r=.none:=by rfl)(hd:o.dst=some d:=by rfl)(hg:aV ops ρ o=some true:=by rfl):AL P S ops Q md (o::rest) ρ σ:=by
 obtain⟨z,U,W⟩:=TI.z' (bK.chk ae.ok hE) hz;exact bX (HK ho (cD hT he hE).1 (cD hT he hE).2 U (by rw[← hzl,← (W (λ_ _=>True) default (λ_=>.none)).len]) (DW hp) hds hw hn hk0 hm hm2 Z) h hd hg
end
theorem j7 {m:Md}:fR m .bo=true:=by cases m<;>rfl
theorem DA {α:Type}{σ:Nat->aw}{r k:Nat}{m:Md}{f:α->List Cell}{D0:α->D}{xs:List α}(hf:∀ x,DR (f x) (D0 x))(h:σ r=.deep m k (xs.map f) []):b9 σ r m k (xs.map D0) [r]:=
 .deep h (aL.map hf xs) rfl rfl
theorem UR {α:Type}{l:List α}{j:Nat}{x:α}(h:l[j]?=some x):l.set j x=l:=by
 apply List.ext_getElem?;intro i;rw[List.getElem?_set];split;rename_i hi;subst hi;have hl:=(List.getElem?_eq_some_iff.1 h).1;rw[ao hl,h];rfl
theorem AT.mono {P:Program}{S:Start}{ops:Array Oper}{Z5 K' : AE->St->Lg->Option Nat->Prop}{k:Nat}{l:List Oper}{ρ:AE}{σ:St}{lg:Lg}{hd:Option Nat}(h:AT P S ops Z5 k l ρ σ lg hd)(hk:∀ ρ σ lg hd,Z5 ρ σ lg hd->K' ρ σ lg hd):AT P S ops K' k l ρ σ lg hd:=by
 induction h with
 | nil h=>exact .nil (hk _ _ _ _ h)
 | op hg hl _ ih=>exact .op hg hl ih
 | off hg _ ih=>exact .off hg ih
 | opT hg hl _ ih=>exact .opT hg hl ih
 | gh hl _ ih=>exact .gh hl ih
theorem zH {S:Start}{ρ:AE}{σ:St}{r k:Nat}{xs:List D}(m:Md)(Z:ai σ r=.row .fz k xs):GH S ρ σ ρ (aK σ r (.row m k xs)):=by
 intro F g w ρc hs hv;refine⟨F,g,⟨hs.chg,hs.bB,hs.fmono,hs.fnew,hs.flt,λi=>?_,hs.low,hs.hdr,hs.nodup,hs.disj,hs.own⟩,hv⟩;rw[iY];by_cases hi:i=r;subst hi;rw[ao rfl];have h:=hs.roots i;rw[Z] at h;revert h;cases g i<;>intro h<;>try exact h.elim
 obtain⟨U,W⟩:=h;obtain⟨k1,k2,k3,k4⟩:=kS W;rename_i v k' L gs;subst U;refine⟨rfl,k1 |> λq=>by rw[bn];exact q,?_⟩;have:(bW gs).length=xs.length*k':=k2.len;have h3:rowOk (λ_=>SM F S.B m) w (xs.map (bN .fz)) v k' L gs:=MO W λb Y=>by
  cases m with
  | fz=>exact Y
  | bo=>exact .inl Y
 obtain⟨gs2,q1,q2,q3⟩:=p9 (S1:=SM F S.B) (m:=m) (k2.mono λb Y=>by cases m with|fz=>exact Y|bo=>exact .inl Y);clear q1 q2 q3 gs2;have conv:∀ (ds:List D) (ge:List GC),aL (aP (SM F S.B) w) (ds.map (Cell.d .fz)) ge->aL (aP (SM F S.B) w) (ds.map (Cell.d m)) ge:=by
  intro ds
  induction ds with
  | nil=>exact λ_ h=>h
  | cons d ds ih=>exact λge ⟨gc,r,U,W,h3⟩=>⟨gc,r,U,⟨W.1,W.2.1,W.2.2.mono λb Y=>by cases m with|fz=>exact Y|bo=>exact .inl Y⟩,ih r h3⟩
 have h4:=W.2;clear h3 k1 k2 k3 k4 W Z this
 induction xs generalizing gs with
 | nil=>exact h4
 | cons x xs ih=>
  obtain⟨ge,r,e1,e2,e3⟩:=h4;exact⟨ge,r,e1,⟨by have:=e2.1;simpa[bN] using this,conv _ _ e2.2⟩,ih _ e3⟩
 rw[al hi];exact hs.roots i
section
variable {P:Program}[ae P]{S:Start}{n:Nat}{ops:Array Oper}{Q:AE->St->Prop}{o:Oper}{l rest:List Oper}{ρ:AE}{σ:St}{d:Nat}{md:cU}
theorem aS (k:Nat)(L:List (Nat×X))(hk:AL P S ops (λρ' σ'=>qk ρ' L/\σ'=σ) none (l.take k) ρ σ)(h:AL P S ops Q none (l.drop k) (ofX L) σ):AL P S ops Q none l ρ σ:=
 Qg (β:=Unit) (M:=λ_=>True) k (λ_=>L) (λj lg hd=>(hk j lg hd).mono λρ' σ' _ _ h=>⟨(),trivial,h.1,h.2⟩) λ_ _=>h
theorem CB {f:Nat}{c:Call}{x:Operand}{caps axs args:List X}{pre post:St}{res:X}(ren:List (Nat×Nat))(vw:List Nat)(ok:Ok P f args pre res post)(h:AL P S ops Q (aZ md vw ((ren.map λp=>(p.2,fu ren (ai post p.1))).map (·.1))) rest (av ρ d (ba ren res)) (bc σ (ren.map λp=>(p.2,fu ren (ai post p.1)))))
  (ho:o.op=.call c:=by rfl) (hc:c.callee=.value x:=by rfl) (hx:aE ρ x=.fn f caps:=by rfl) (hcb:iC P f=true:=by kernel_rfl) (ha:c.args.toList.map (aE ρ)++caps=axs:=by rfl) (hp:cu (ai σ) ren vw axs args:=by repeat (first|exact .nil|refine .cons ?_ ?_|exact .same|exact .ag (.cons .same (.cons .same .nil))|refine .ag ?_|exact .d rfl|exact .d j7|exact .nld|exact .nl|exact .rd rfl rfl|exact .vd rfl rfl|exact .pb rfl|exact .ref rfl|refine .fn ?_|exact .pf rfl|exact .pf j7|exact .dd (DA (by exact λ_=>rfl) rfl) rfl|exact .dd (DA jm.rd rfl) rfl|(refine .dd (DAh (x:=?x) jm.rd ?hx0 rfl rfl rfl ?he0) rfl;(case hx0=>assumption);(case he0=>rfl))|exact .u))
  (hpre:dp (ai σ) (ai pre) ren ren:=by repeat (first|exact trivial|refine And.intro rfl ?_)) (hchk:mj ren vw pre post res=true:=by rfl) (hd:o.dst=some d:=by rfl) (hg:aV ops ρ o=some true:=by rfl):AL P S ops Q md (o::rest) ρ σ:=
 CA ren vw ok hp h hpre ho hc hx hcb ha hchk hd hg
end
theorem cS.gh {P:Program}{S:Start}{fn:Func}{res:X}{post:St}{e:Exit}{ρ ρ' : AE}{σ σ' : St}(hg:GH S ρ σ ρ' σ')(h:cS P S fn res post e ρ' σ'):cS P S fn res post e ρ σ:=
 ⟨h.1,λF g w ρc hs hv=>let ⟨F',g',U,W⟩:=hg F g w ρc hs hv;h.2 F' g' w ρc U W⟩
section
variable {P:Program}[ae P]{S:Start}{n:Nat}{ops:Array Oper}{Q:AE->St->Prop}{QP:cQ}{o:Oper}{rest:List Oper}{ρ:AE}{σ:St}{d:Nat}{v:X}{rd:List Nat}{md:cU}{T e:Nat}{t te:TI}
theorem Qs {x i:Operand}{m m' : Md}{s:an}{q:IntKind}{j:Int}{b:UInt8}(ho:o.op=.index T x i)(hT:P.underlying T=some .string)(hx:aE ρ x=.d m (.s s))(hi:aE ρ i=.d m' (.i q j))(h0:0<=j)(Y:s.data[j.toNat]?=some b):LT P S o ρ σ [] (.d .fz (.i .u8 (b.toNat:Int))) []:=
 LT.val λσ1 F g w ρc hs Z hw=>by
  have e1:=hw x (by simp[ho,Op.operands]);have e2:=hw i (by simp[ho,Op.operands]);rw[hx,vr,rdC] at e1;rw[hi,vr,rdC] at e2;refine⟨_,PZ (k:=j.toNat) ho hT e1.1 (by rw[e2.1,oq h0]) Y,?_⟩;rw[vr,rdC];exact⟨rfl,by omega,by have:=b.toNat_lt;omega⟩
theorem Qe {Z7 e:Nat}{x:Operand}{r:Nat}{m:Md}{b:UInt8}(ho:o.op=.convert Z7 T x)(hU:cY P Z7=some e)(he:fJ P e=some .u8)(hT:P.underlying T=some .string)(hx:aE ρ x=.ref r none)(hσ:ai σ r=.row m 1 [.i .u8 (b.toNat:Int)]):LT P S o ρ σ [r] (.d .fz (.s ⟨#[b]⟩)) []:=
 LT.val λσ1 F g w ρc hs Z hw=>by
  have e1:=hw x (by simp[ho,Op.operands]);have hq:σ1 r=.row m 1 [.i .u8 (b.toNat:Int)]:=(Z r (by simp)).trans hσ;obtain⟨v,L,gs,hg,hrow⟩:=oB hs (.inr ⟨m,_,hq,rfl⟩);rw[hx,vr,hg] at e1;have e1:=e1 _ _ rfl;obtain⟨k1,k2,_⟩:=kS hrow;rcases hrow.1.at with h|⟨g0,c,T0,cur,U,W,_⟩
  simp only[Blz,List.map_nil,bH] at h;omega;have e3:bW gs=[.int .u8 (b.toNat:Int)]:=by
   obtain⟨c0,r0,q1,q2,q3,q4⟩:=gF.1 k2;replace q3:rdCs (SM F S.B m) w [.i .u8 (b.toNat:Int)] c0:=q3;rw[E3] at q3;obtain⟨v0,q5,q6⟩:=q3;rw[rdC] at q6;rw[bg] at q4;rw[q1,q4,q5,q6.1];rfl
  rw[e3] at W;have hf:∃ A c',v=.slice A 1 c'/\1<=c'/\c'<=maxLen:=by simpa using hrow.1.form
  obtain⟨A,c',q1,q2,q3⟩:=hf;rw[q1] at U;have e5:A=some ⟨g0,0,none⟩:=by injection U
  refine⟨_,RO (F:=λ_=>True) (v:=v) ho hU he hT e1 ⟨A,c',[.int .u8 (b.toNat:Int)],q1,q2,q3,⟨[.int .u8 (b.toNat:Int)],[],rfl,rfl,rfl⟩,.inr ⟨g0,0,e5,trivial,W⟩⟩,by rw[vr,rdC];exact⟨rfl,Nat.le_of_ble_eq_true rfl⟩⟩
theorem LT.mx {T1 T2:Nat}{x y:Operand}{a b:Int}{m m' : Md}(ho:o.op=.call { callee:=.builtin .max,args:=#[x,y],argTypes:=#[T1,T2] })(hx:aE ρ x=.d m (.i .i64 a))(hy:aE ρ y=.d m' (.i .i64 b)):LT P S o ρ σ [] (.d .fz (.i .i64 (if b > a then b else a))) []:=
 LT.val λσ1 F g w ρc hs Z hw=>by
  have e1:=hw x (by simp[ho,Op.operands,Call.operands]);have e2:=hw y (by simp[ho,Op.operands,Call.operands]);rw[hx,vr,rdC] at e1;rw[hy,vr,rdC] at e2;exact⟨_,QY ho e1.1 e2.1,by rw[vr,rdC];exact⟨rfl,JG e1.2 e2.2⟩⟩
theorem LT.mn {T1 T2:Nat}{x y:Operand}{a b:Int}{m m' : Md}(ho:o.op=.call { callee:=.builtin .min,args:=#[x,y],argTypes:=#[T1,T2] })(hx:aE ρ x=.d m (.i .i64 a))(hy:aE ρ y=.d m' (.i .i64 b)):LT P S o ρ σ [] (.d .fz (.i .i64 (if b<a then b else a))) []:=
 LT.val λσ1 F g w ρc hs Z hw=>by
  have e1:=hw x (by simp[ho,Op.operands,Call.operands]);have e2:=hw y (by simp[ho,Op.operands,Call.operands]);rw[hx,vr,rdC] at e1;rw[hy,vr,rdC] at e2;exact⟨_,QX ho e1.1 e2.1,by rw[vr,rdC];exact⟨rfl,JG e1.2 e2.2⟩⟩
end
mutual
def iM (i j:Nat):X->X
 | .ref r p=>.ref (bif Aaz r i then j else r) p
 | .vs r p a b=>.vs (bif Aaz r i then j else r) p a b
 | .pe r p a b=>.pe (bif Aaz r i then j else r) p a b
 | .ag cs=>.ag (ie i j cs)
 | .tu cs=>.tu (ie i j cs)
 | .fn f cs=>.fn f (ie i j cs)
 | .pb r c=>.pb r c
 | .d m x=>.d m x
 | .pf m x=>.pf m x
 | .nl k=>.nl k
 | .u=>.u
def ie (i j:Nat):List X->List X
 | []=>[]
 | x::xs=>iM i j x::ie i j xs
end
def Dj (i j:Nat):aw->aw
 | .box cs=>.box (ie i j cs)
 | .deep m k es hs=>.deep m k es (hs.map λp=>(p.1,p.2.1,bif Aaz p.2.2 i then j else p.2.2))
 | x=>x
def l8 (i j:Nat):Nat->St->St
 | _,[]=>[]
 | n,x::l=>(bif Aaz n i then .dead else Dj i j x)::l8 i j (n+1) l
theorem EV {i j:Nat}:∀ {l:St} {n r:Nat},ai l r≠.none->ai (l8 i j n l) r=if n+r=i then .dead else Dj i j (ai l r)
 | [],n,r,h=>absurd (mA r) h
 | x::l,n,0,h=>by
  simp only[l8,ai,Nat.add_zero];cases Y:Aaz n i with
  | true=>simp[Abz Y]
  | false=>have:=Dcz Y;simp[this]
 | x::l,n,r+1,h=>by
  simp only[l8,ai] at h ⊢;rw[EV h,show n+1+r=n+(r+1) by omega]
theorem LU {i j:Nat}:∀ {l:St} {n r:Nat},ai l r=.none->n+r≠i->ai (l8 i j n l) r=.none
 | [],n,r,_,_=>mA r
 | x::l,n,0,h,hn=>by
  simp only[ai] at h;simp only[l8,ai,h,Dj];have:Aaz n i=false:=by cases Y:Aaz n i with|true=>exact absurd (Abz Y) hn|false=>rfl
  rw[this];rfl
 | x::l,n,r+1,h,hn=>by
  simp only[l8,ai] at h ⊢;exact LU h (by omega)
section
variable {S1:Md->Nat->Prop}{w:World}{g g' : Nat->G}{i j:Nat}
theorem bq {r i:Nat}:(Aaz r i=true/\r=i)∨(Aaz r i=false/\r≠i):=by
 cases h:Aaz r i with
 | true=>exact .inl ⟨rfl,Abz h⟩
 | false=>exact .inr ⟨rfl,Dcz h⟩
theorem Af {r:Nat}{p:Option (Nat×Nat)}{R:Value->Nat->Prop}(hj:g j=.none)(U:g' j=g i)(h3:∀ r,r≠i->r≠j->g' r=g r)(h:nd (g r) p R):nd (g' (bif Aaz r i then j else r)) p R:=by
 rcases bq (r:=r) (i:=i) with ⟨Y,e⟩|⟨Y,e⟩
 rw[Y,cond_true,U,← e];exact h;rw[Y,cond_false];by_cases Z:r=j;rw[Z,hj] at h;exact h.elim;rw[h3 r e Z];exact h
mutual
theorem H8 (hj:g j=.none)(U:g' j=g i)(W:g' i=.dead)(h3:∀ r,r≠i->r≠j->g' r=g r):∀ {x:X} {v:Value},vr S1 w g x v->vr S1 w g' (iM i j x) v
 | .d m x,v,h=>by rw[iM];rw[vr] at h ⊢;exact h
 | .ag cs,v,h=>by rw[iM];rw[vr] at h ⊢;obtain⟨vs,k1,k2⟩:=h;exact⟨vs,k1,wm hj U W h3 k2⟩
 | .tu cs,v,h=>by rw[iM];rw[vr] at h ⊢;obtain⟨vs,k1,k2⟩:=h;exact⟨vs,k1,wm hj U W h3 k2⟩
 | .ref r p,v,h=>by rw[iM];rw[vr] at h ⊢;exact Af hj U h3 h
 | .vs r p a b,v,h=>by rw[iM];rw[vr] at h ⊢;exact Af hj U h3 h
 | .pe r p a b,v,h=>by rw[iM];rw[vr] at h ⊢;exact Af hj U h3 h
 | .pb r c,v,h=>by
  rw[iM];rw[vr] at h ⊢;by_cases Z:r=i;rw[Z,W];trivial;by_cases hr2:r=j;rw[hr2,hj] at h;exact h.elim;rw[h3 r Z hr2];exact h
 | .pf m xs,v,h=>by rw[iM];rw[vr] at h ⊢;exact h
 | .fn f cs,v,h=>by rw[iM];rw[vr] at h ⊢;obtain⟨vs,k1,k2⟩:=h;exact⟨vs,k1,wm hj U W h3 k2⟩
 | .nl k,v,h=>by rw[iM];rw[vr] at h ⊢;exact h
 | .u,v,h=>by rw[iM,vr];trivial
theorem wm (hj:g j=.none)(U:g' j=g i)(W:g' i=.dead)(h3:∀ r,r≠i->r≠j->g' r=g r):∀ {xs:List X} {vs:List Value},aQ S1 w g xs vs->aQ S1 w g' (ie i j xs) vs
 | [],vs,h=>by rw[ie];rw[aQ] at h ⊢;exact h
 | x::xs,vs,h=>by
  rw[ie];rw[aQ] at h ⊢;obtain⟨v,r,k1,k2,k3⟩:=h;exact⟨v,r,k1,H8 hj U W h3 k2,wm hj U W h3 k3⟩
end
end
section
variable {P:Program}{S:Start}{n:Nat}{QP:cQ}{ρ:AE}{σ:St}
theorem nZ {i j k:Nat}{m:Md}{xs:List D}(hi:ai σ i=.row m k xs)(hj:ai σ j=.none):GH S ρ σ (λt=>iM i j (ρ t)) (aK (l8 i j 0 σ) j (.row m k xs)):=by
 intro F g w ρc hs hv;have hgj:g j=.none:=by
  have:=hs.roots j;rw[hj] at this;revert this;cases g j<;>intro h<;>first|rfl|exact h.elim
 have hij:i≠j:=λe=>by rw[e,hj] at hi;cases hi
 let g' : Nat->G:=λr=>if r=j then g i else if r=i then .dead else g r
 have U:g' j=g i:=by simp[g']
 have W:g' i=.dead:=by simp[g',hij]
 have h3:∀ r,r≠i->r≠j->g' r=g r:=λr a b=>by simp[g',a,b]
 have hc:∀ r,(r=j/\g' r=g i)∨(r=i/\g' r=.dead)∨(r≠i/\r≠j/\g' r=g r):=λr=>by
  by_cases a:r=j;exact .inl ⟨a,by rw[a];exact U⟩;by_cases b:r=i;exact .inr (.inl ⟨b,by rw[b];exact W⟩);exact .inr (.inr ⟨b,a,h3 r b a⟩)
 refine⟨F,g',⟨hs.chg,hs.bB,hs.fmono,hs.fnew,hs.flt,λr=>?_,hs.low,λr=>?_,λr=>?_,λr r' hne b Y=>?_,λr b Y=>?_⟩,λt=>H8 hgj U W h3 (hv t)⟩;rw[iY];have Z:=hs.roots r;rcases hc r with ⟨a,b⟩|⟨a,b⟩|⟨a,a',b⟩
 rw[ao a,b];have:=hs.roots i;rw[hi] at this;revert this;cases g i<;>intro h<;>first|exact h|exact h.elim
 rw[al (by rw[a];exact hij),b,EV (by rw[a,hi];intro h;cases h),ao (by omega)];trivial;rw[al a',b];by_cases hn:ai σ r=.none;rw[LU hn (by omega)];rw[hn] at Z;revert Z;cases g r<;>intro h<;>first|trivial|exact h.elim
 rw[EV hn,al (by omega)];revert Z;cases hσ:ai σ r<;>intro Z<;>cases hg:g r<;>rw[hg] at Z<;>try exact Z.elim
 trivial;trivial;obtain⟨vs,k1,k2⟩:=Z;exact⟨vs,k1,wm hgj U W h3 k2⟩;exact Z;refine⟨Z.1,λp hp gc hgc=>?_,Z.2.2⟩;obtain⟨q,hq,rfl⟩:=List.mem_map.1 hp;exact Af hgj U h3 (Z.2.1 q hq gc hgc);rcases hc r with ⟨a,b⟩|⟨a,b⟩|⟨a,a',b⟩
 have:=hs.hdr r;rw[a,hgj] at this;rw[b,a];revert this;cases S.g0 j<;>intro h<;>simp[sn] at h ⊢;rw[b,a];cases S.g0 i<;>simp[sn];rw[b];exact hs.hdr r;rcases hc r with ⟨a,b⟩|⟨a,b⟩|⟨a,a',b⟩<;>rw[b];exact hs.nodup i;exact List.nodup_nil;exact hs.nodup r;rcases hc r with ⟨a,e⟩|⟨a,e⟩|⟨a,a',e⟩<;>rw[e] at Y<;>rcases hc r' with ⟨c,e'⟩|⟨c,e'⟩|⟨c,c',e'⟩<;>rw[e'];exact absurd (a.trans c.symm) hne;exact Daz;exact hs.disj i r' (λh=>c h.symm) b Y;cases Y;cases Y;cases Y;exact hs.disj r i a b Y;exact Daz;exact hs.disj r r' hne b Y;rcases hc r with ⟨a,e⟩|⟨a,e⟩|⟨a,a',e⟩<;>rw[e] at Y;exact hs.own i b Y;cases Y;exact hs.own r b Y
theorem AW.mv {c:Code}(i j:Nat){k:Nat}{m:Md}{xs:List D}(hi:ai σ i=.row m k xs)(h:AW P S n c QP (λt=>iM i j (ρ t)) (aK (l8 i j 0 σ) j (.row m k xs)))(hj:ai σ j=.none:=by rfl):AW P S n c QP ρ σ:=AW.gh (nZ hi hj) h
theorem eQ {q:Nat}{cs:List X}(cs' : List X)(hw:jX cs' cs)(hq:ai σ q=.box cs):GH S ρ σ ρ (aK σ q (.box cs')):=by
 intro F g w ρc hs hv;refine⟨F,g,⟨hs.chg,hs.bB,hs.fmono,hs.fnew,hs.flt,λi=>?_,hs.low,hs.hdr,hs.nodup,hs.disj,hs.own⟩,hv⟩;rw[iY];by_cases hi:i=q;subst hi;rw[ao rfl];have:=hs.roots i;rw[hq] at this;revert this;cases g i<;>intro h<;>try exact h.elim
 obtain⟨vs,k1,k2⟩:=h;exact⟨vs,k1,hw.vr k2⟩;rw[al hi];exact hs.roots i
end
section
variable {P:Program}[ae P]{S:Start}{n:Nat}{QP:cQ}{ρ:AE}{σ:St}
theorem Qd {id T a b s:Nat}{ops:Array Oper}{o1 o2:Oper}{m:Md}{k Z7:Nat}{xs:List D}{t:TI}{e:Nat}(hs:ρ s=.d m (.sl k xs))(h:∀ q:Bool,(q=true->xs=[])->QP .normal (av (av ρ a (.d m (.sl k xs))) b (.d .fz (.b q))) σ)
  (hl:ops.toList=[o1,o2]:=by rfl) (U:o1.op=.move (.tmp s):=by rfl) (W:o2.op=.binOp .eql T (.tmp a) (.const (.slice none 0 0)) Z7:=by rfl) (hT:(ae.tab P).get T=some t:=by rfl) (he:t.el=some e:=by rfl) (d1:o1.dst=some a:=by rfl) (d2:o2.dst=some b:=by rfl) (g1:o1.guard=none:=by rfl) (g2:o2.guard=none:=by rfl):AW P S n (.region id ops false) QP ρ σ:=by
 intro F g w ρc hsim hv;have hx:=hv s;rw[hs] at hx;have hx0:=hx;rw[vr,rdC] at hx;obtain⟨A,cap,cells,e1,e2,e3,e4,e5⟩:=hx;refine CS ?_;rw[hl];refine WL.ev g1 d1 (HD U rfl) (WL.ev g2 d2 (CQ W (u:=.slice A xs.length cap) (v:=.slice none 0 0) ?_ rfl (Rt (TI.el' (bK.chk ae.ok hT) he))) (WL.nil ⟨_,σ,F,g,hsim,?_,h (decide (A=none)) ?_⟩));show E.upd ρc a (ρc s) a=_;simp only[E.upd,Nat.beq_refl,cond_true];exact e1;have:=(hv.put (some a) hx0).put (some b) (show vr (SM F S.B) w g (.d .fz (.b (decide (A=none)))) (.bool (decide (A=none))) by rw[vr,rdC]);exact this;intro hq;rcases e5 with h|⟨b,o,h,_⟩
 exact h;rw[h] at hq;simp at hq
end
section
variable {P:Program}[ae P]{S:Start}{n:Nat}{ops:Array Oper}{Q:AE->St->Prop}{o:Oper}{l rest:List Oper}{ρ:AE}{σ:St}{d:Nat}{md:cU}
theorem rV (k j:Nat)(L:List (Nat×X))(R:List (Nat×aw))(hk:AL P S ops (λρ' σ'=>GH S ρ' σ' (ofX L) (bc (σ.take j) R)) none (l.take k) ρ σ)(h:AL P S ops Q none (l.drop k) (ofX L) (bc (σ.take j) R)):AL P S ops Q none l ρ σ:=by
 intro i lg hd;have e:l=l.take k++l.drop k:=(Ccz k l).symm;rw[e];refine AT.bind (hk i lg hd) λρ' σ' lg' hd' U=>?_;exact .gh U (h _ _ _)
end
theorem UQ {S1:Md->Nat->Prop}{w:World}{c:D}{v:Value}{m m' : Md}(hc:p8 c=true)(h:rdC (S1 m) w c v):rdC (S1 m') w c v:=by
 cases c<;>first|(rw[rdC] at h ⊢;exact h)|cases hc
theorem MJ {S1:Md->Nat->Prop}{w:World}{m m' : Md}:∀ {ds:List D} {ge:List GC},ds.all p8=true->aL (aP S1 w) (ds.map (Cell.d m)) ge->aL (aP S1 w) (ds.map (Cell.d m')) ge
 | [],ge,_,h=>h
 | x::ds,ge,hf,h=>by
  obtain⟨gc,r,e1,e2,e3⟩:=h;simp only[List.all_cons,Afz] at hf;exact⟨gc,r,e1,⟨e2.1,e2.2.1,UQ hf.1 e2.2.2⟩,MJ hf.2 e3⟩
theorem LS {S1:Md->Nat->Prop}{w:World}{k:Nat}{m m' : Md}:∀ {xs:List D} {gs:List (List GC)},(∀ x∈xs,kv x=true)->aL (eY S1 w k) (xs.map (bN m)) gs->aL (eY S1 w k) (xs.map (bN m')) gs
 | [],gs,_,h=>h
 | x::xs,gs,hf,h=>by
  obtain⟨ge,r,e1,e2,e3⟩:=h;exact⟨ge,r,e1,⟨by have:=e2.1;simpa[bN] using this,MJ (hf x (by simp)) e2.2⟩,LS (λy hy=>hf y (by simp[hy])) e3⟩
theorem Nm {S1:Md->Nat->Prop}{w:World}{g:Nat->G}{z:G}{k:Nat}{m m' : Md}{xs:List D}(hf:∀ x∈xs,kv x=true)(h:gQ S1 w g (.row m k xs) z):gQ S1 w g (.row m' k xs) z:=by
 revert h;cases z<;>intro h<;>try exact h.elim
 exact⟨h.1,by have:=h.2.1;rw[bn] at this ⊢;exact this,LS hf h.2.2⟩
theorem bp.alt {S:Start}{F:Nat->Prop}{g:Nat->G}{σ1 σ2:Nat->aw}{w:World}(h:bp S F g σ1 w)(k:∀ i,gQ (SM F S.B) w g (σ1 i) (g i)->gQ (SM F S.B) w g (σ2 i) (g i)):bp S F g σ2 w:=
 ⟨h.chg,h.bB,h.fmono,h.fnew,h.flt,λi=>k i (h.roots i),h.low,h.hdr,h.nodup,h.disj,h.own⟩
section
variable {P:Program}{S:Start}{o:Oper}{ρ:AE}{σ:St}{rd:List Nat}{v:X}
theorem LT.alt {wr wr' : List (Nat×aw)}(h:LT P S o ρ σ rd v wr)(U:wr'.map (·.1)=wr.map (·.1))(W:∀ (σ1:Nat->aw) (S1:Md->Nat->Prop) (w:World) (g:Nat->G) (i:Nat),gQ S1 w g (cg σ1 wr i) (g i)->gQ S1 w g (cg σ1 wr' i) (g i)):LT P S o ρ σ rd v wr':=by
 intro σ1 F g w ρc K a2 a3 a4;have a3' : ∀ p∈wr,σ1 p.1=ai σ p.1:=λp hp=>by
  have:p.1∈wr'.map (·.1):=by rw[U];exact List.mem_map.2 ⟨p,hp,rfl⟩
  obtain⟨q,hq,e⟩:=List.mem_map.1 this;rw[← e];exact a3 q hq
 have:=h σ1 F g w ρc K a2 a3' a4;revert this;generalize (execOp (E.ev ρc) o).run P w=r;intro h;have key:∀ vc w',(∃ F' g',bp S F' g' (cg σ1 wr) w'/\cj S.B F g w F' g' w'/\vr (SM F' S.B) w' g' v vc)->∃ F' g',bp S F' g' (cg σ1 wr') w'/\cj S.B F g w F' g' w'/\vr (SM F' S.B) w' g' v vc:=λvc w' ⟨F',g',k1,k2,k3⟩=>⟨F',g',k1.alt λi=>W σ1 _ _ _ i,k2,k3⟩
 cases r with
 | ok x w'=>
  cases x<;>simp only[lj] at h ⊢
  case value u=>exact key _ _ h
  case skip=>exact key _ _ h
  case enter f args=>exact h.mono λe w'' ⟨v,k1,k2⟩=>⟨v,k1,key _ _ k2⟩
 | halt x w'=>simp only[lj] at h
end
section
variable {P:Program}[ae P]{S:Start}{ops:Array Oper}{Q:AE->St->Prop}{o:Oper}{rest:List Oper}{ρ:AE}{σ:St}{d:Nat}{md:cU}{T e:Nat}{t te:TI}
theorem Gn {α:Type}{s x:Operand}{X1:X}{m' m0:Md}{f:α->D}{xs ys:List α}{zs:List X}{r b1:Nat}(r' : Nat)(hflat:∀ y,kv (f y)=true)(hmax:((xs.length:Int)+(ys.length:Int))*te.by_<=140737488355328/\(xs.length:Int)+(ys.length:Int)<=9223372036854775807)(h:AL P S ops Q (aZ md (dq X1) [r,r']) rest (av ρ d (.ref r' none)) (aK (aK σ r .dead) r' (.row .fz te.sz ((xs++ys).map f))))
  (ho:o.op=.call { callee:=.builtin .append,args:=#[s,x],argTypes:=#[T,T] }:=by rfl) (hT:(ae.tab P).get T=some t:=by rfl) (he:t.el=some e:=by rfl) (hE:(ae.tab P).get e=some te:=by rfl) (hs:aE ρ s=.ref r none:=by rfl) (hx:aE ρ x=X1:=by rfl) (hsrc:cO (ai σ) X1=some (m',te.sz,ys.map f):=by rfl) (hσ:ai σ r=.row m0 te.sz (xs.map f):=by rfl) (hz:te.z=some zs:=by rfl) (Y:te.by_=b1+1:=by rfl) (hzl:zs.length=te.sz:=by rfl) (hk0:Cyz 0 te.sz=true:=by rfl) (Z:ai σ r'=.none:=by rfl) (hd:o.dst=some d:=by rfl) (hg:aV ops ρ o=some true:=by rfl):AL P S ops Q md (o::rest) ρ σ:=by
 obtain⟨z,U,W⟩:=TI.z' (bK.chk ae.ok hE) hz;refine bX (wr:=[(r,.dead),(r',.row .fz te.sz ((xs++ys).map f))]) (LT.alt (C0 (r':=r') (m:=.bo) ho (cD hT he hE).1 (cD hT he hE).2 (TI.by' (bK.chk ae.ok hE) Y) U (by rw[← hzl,← (W (λ_ _=>True) default (λ_=>.none)).len]) hk0 hs hσ hx hsrc iQ iQ ?_ ?_ Z) rfl λσ1 S1 w g i hi=>?_) h hd hg;simp only[bn];have:=hmax.1;rw[← Int.natCast_add,← Int.natCast_mul] at this;omega;simp only[bn];show _<=9223372036854775807;have:=hmax.2;omega;revert hi;simp only[cg];split;intro hi;rw[← List.map_append] at hi;exact Nm (λx hx=>by obtain⟨y,_,rfl⟩:=List.mem_map.1 hx;exact hflat y) hi;exact id
theorem iu {α:Type}{s x:Operand}{X1:X}{m' m0:Md}{f:α->D}{xs:List α}{y:α}{zs:List X}{r b1:Nat}(r' : Nat)(hflat:∀ y,kv (f y)=true)(B:Nat)(hmax:((xs.length:Int)+1)*(B:Int)<=140737488355328/\(xs.length:Int)+1<=9223372036854775807)(h:AL P S ops Q (aZ md (dq X1) [r,r']) rest (av ρ d (.ref r' none)) (aK (aK σ r .dead) r' (.row .fz te.sz ((xs++[y]).map f))))
  (ho:o.op=.call { callee:=.builtin .append,args:=#[s,x],argTypes:=#[T,T] }:=by rfl) (hT:(ae.tab P).get T=some t:=by rfl) (he:t.el=some e:=by rfl) (hE:(ae.tab P).get e=some te:=by rfl) (hs:aE ρ s=.ref r none:=by rfl) (hx:aE ρ x=X1:=by rfl) (hsrc:cO (ai σ) X1=some (m',te.sz,[y].map f):=by rfl) (hσ:ai σ r=.row m0 te.sz (xs.map f):=by rfl) (hz:te.z=some zs:=by rfl) (Y:te.by_=b1+1:=by rfl) (hzl:zs.length=te.sz:=by rfl) (hk0:Cyz 0 te.sz=true:=by rfl) (Z:ai σ r'=.none:=by rfl) (hB:te.by_=B:=by rfl) (hd:o.dst=some d:=by rfl) (hg:aV ops ρ o=some true:=by rfl):AL P S ops Q md (o::rest) ρ σ:=
 Gn r' hflat (by rw[hB];exact hmax) h ho hT he hE hs hx hsrc hσ hz Y hzl hk0 Z hd hg
theorem Gq {α:Type}{s x:Operand}{X1:X}{m' m0:Md}{f:α->D}{xs:List α}{y:α}{zs:List X}{r b1:Nat}(r' : Nat)(m:Md)(B:Nat)(hmax:((xs.length:Int)+1)*(B:Int)<=140737488355328/\(xs.length:Int)+1<=9223372036854775807)(h:AL P S ops Q (aZ md (dq X1) [r,r']) rest (av ρ d (.ref r' none)) (aK (aK σ r .dead) r' (.row m te.sz ((xs++[y]).map f))))
  (ho:o.op=.call { callee:=.builtin .append,args:=#[s,x],argTypes:=#[T,T] }:=by rfl) (hT:(ae.tab P).get T=some t:=by rfl) (he:t.el=some e:=by rfl) (hE:(ae.tab P).get e=some te:=by rfl) (hs:aE ρ s=.ref r none:=by rfl) (hx:aE ρ x=X1:=by rfl) (hsrc:cO (ai σ) X1=some (m',te.sz,[y].map f):=by rfl) (hσ:ai σ r=.row m0 te.sz (xs.map f):=by rfl) (hz:te.z=some zs:=by rfl) (Y:te.by_=b1+1:=by rfl) (hzl:zs.length=te.sz:=by rfl) (hk0:Cyz 0 te.sz=true:=by rfl) (hm:fR m' m=true:=by first|rfl|exact kL|exact iQ) (hm0:fR m0 m=true:=by first|rfl|exact kL|exact iQ) (Z:ai σ r'=.none:=by rfl) (hB:te.by_=B:=by rfl) (hd:o.dst=some d:=by rfl) (hg:aV ops ρ o=some true:=by rfl):AL P S ops Q md (o::rest) ρ σ:=
 AP r' m (by rw[hB];exact hmax) h ho hT he hE hs hx hsrc hσ hz Y hzl hk0 hm hm0 Z hd hg
def toC:X->Option D
 | .d _ (.a _)=>none
 | .d _ x=>some x
 | .nl k=>some (.sl k [])
 | _=>none
def kO:List X->Option (List D)
 | []=>some []
 | x::xs=>match toC x,kO xs with
  | some y,some ys=>some (y::ys)
  | _,_=>none
def yN:X->Option D
 | .ag cs=>(kO cs).map .a
 | x=>toC x
def kN:List X->Option (List D)
 | []=>some []
 | x::xs=>match yN x,kN xs with
  | some y,some ys=>some (y::ys)
  | _,_=>none
def zQ (m:Md):X->Prop
 | .d m' x=>p8 x=true∨fR m' m=true
 | _=>True
def pV (m:Md):List X->Prop
 | []=>True
 | x::xs=>zQ m x/\pV m xs
def H6 (m:Md):X->Prop
 | .ag cs=>pV m cs
 | x=>zQ m x
def nf (m:Md):List X->Prop
 | []=>True
 | x::xs=>H6 m x/\nf m xs
theorem IN {m:Md}{x:X}{d:D}(h:toC x=some d)(hl:zQ m x):jV m x=some d:=by
 cases x<;>simp only[toC] at h
 case d m' x=>
  cases x<;>simp only[toC] at h<;>simp only[jV]<;>try exact h
  simp only[zQ,p8,Bool.false_eq_true,false_or] at hl;rw[ao hl];exact h
 all_goals first|exact h|cases h
theorem JQ {m:Md}:∀ {xs:List X} {ds:List D},kO xs=some ds->pV m xs->eu m xs=some ds
 | [],_,h,_=>h
 | x::xs,ds,h,hl=>by
  simp only[kO] at h;split at h;rename_i y ys U W;simp only[eu,IN U hl.1,JQ W hl.2];exact h;cases h
theorem Sf {m:Md}{x:X}{d:D}(h:yN x=some d)(hl:H6 m x):wP m x=some d:=by
 cases x
 case ag cs=>
  simp only[yN] at h;cases hc:kO cs with
  | none=>rw[hc] at h;cases h
  | some ds=>rw[hc] at h;simp only[wP,JQ hc hl];exact h
 all_goals (simp only[yN] at h;exact IN (m:=m) h hl)
theorem Ef {m:Md}:∀ {xs:List X} {ds:List D},kN xs=some ds->nf m xs->gi m xs=some ds
 | [],_,h,_=>h
 | x::xs,ds,h,hl=>by
  simp only[kN] at h;split at h;rename_i y ys U W;simp only[gi,Sf U hl.1,Ef W hl.2];exact h;cases h
theorem F7 {α:Type}{m:Md}{f:α->D}{ds:List D}{mm:Nat}{parts:Array (Nat×Operand)}{zs:List X}(r:Nat)(xs:List α)(hf:xs.map f=ds)(h:AL P S ops Q (aZ md [] [r]) rest (av ρ d (.ref r none)) (aK σ r (.row m te.sz (xs.map f))))(ho:o.op=.buildSlice T mm parts:=by rfl)(hT:(ae.tab P).get T=some t:=by rfl)(he:t.el=some e:=by rfl)(hE:(ae.tab P).get e=some te:=by rfl)(hz:te.z=some zs:=by rfl)(hzl:zs.length=te.sz:=by rfl)(hp:parts.toList.map (·.1)=Dbz 0 parts.toList.length:=by rfl)(hds:kN (parts.toList.map λp=>aE ρ p.2)=some ds:=by rfl)(hle:nf m (parts.toList.map λp=>aE ρ p.2):=by repeat (first|exact trivial|refine And.intro ?_ ?_|exact .inl rfl|exact .inr rfl|exact .inr kL|exact .inr iQ))(hw:ds.all (λd=>Aaz d.cells.length te.sz)=true:=by rfl)(hn:ds.length=mm:=by rfl)(hk0:Cyz 0 te.sz=true:=by rfl)(hm:Cyz 0 mm=true:=by rfl)(hm2:Nat.ble (mm*te.sz) 100000=true:=by rfl)(Z:ai σ r=.none:=by rfl)(hd:o.dst=some d:=by rfl)(hg:aV ops ρ o=some true:=by rfl):AL P S ops Q md (o::rest) ρ σ:=by
 subst hf;exact iq r h ho hT he hE hz hzl hp (Ef hds hle) hw hn hk0 hm hm2 Z hd hg
end
end Go.A
