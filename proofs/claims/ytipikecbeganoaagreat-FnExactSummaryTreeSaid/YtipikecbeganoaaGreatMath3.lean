/- What those partial functions come to: plain lemmas on data; each bears its conditions in its statement. -/
import Derived.Test.YtipikecbeganoaaGreatMath2
set_option linter.unusedVariables false
set_option linter.unusedSimpArgs false
set_option linter.ambiguousOpen false
set_option linter.unusedSectionVars false
set_option linter.unnecessarySimpa false
namespace Go.Proofs.YtipikecbeganoaaGreat
open Go Go.E
theorem k2w (x lo hi:Int):q4g x lo hi=some (decide (lo≤x∧x≤hi)):=by
 unfold q4g;by_cases h:lo≤x<;>simp[h]
theorem j6j (x lo hi:Int):q5v x lo hi=some (decide (lo≤x∧x≤hi)):=by
 unfold q5v;by_cases h:lo≤x<;>simp[h]
def lowB (c:UInt8):Bool:=decide (97≤(c.toNat:Int)∧(c.toNat:Int)≤122)
def digB (c:UInt8):Bool:=decide (48≤(c.toNat:Int)∧(c.toNat:Int)≤57)
theorem j0x (c:UInt8):z2V c=some (lowB c):=by
 unfold z2V lowB;by_cases h:97≤(c.toNat:Int)<;>simp[h]
theorem k2x (c:UInt8):z4S c=some (digB c):=by
 unfold z4S digB;by_cases h:48≤(c.toNat:Int)<;>simp[h]
def allN (q:Nat→Bool):Nat→Nat→Bool
 | _,0=>true
 | i,n+1=>q i&&allN q (i+1) n
theorem j4N {q r:Nat→Bool}:∀ {n i:Nat},(∀ k,i≤k→q k=r k)→allN q i n=allN r i n
 | 0,_,_=>rfl
 | n+1,i,h=>by rw[allN,allN,h i (Nat.le_refl _),j4N fun k hk=>h k (by omega)]
theorem j0y {ρ:Type}{c:ρ}{q:Nat→Bool}:∀ {n i:Nat} {f:Nat→Unit→Option (Unit ⊕ ρ)},(∀ k,k<n→f (i+k) ()=some (if q (i+k)=true then .inl () else .inr c))→findN f i n ()=some (if allN q i n=true then .inl () else .inr c)
 | 0,i,f,h=>rfl
 | n+1,i,f,h=>by
  have h0:=h 0 (by omega)
  rw[Nat.add_zero] at h0
  rw[findN,h0]
  by_cases hx:q i=true
  ·rw[ifP hx,bsS]
   show findN f (i+1) n ()=_
   rw[j0y fun k hk=>by have:=h (k+1) (by omega);rwa[show i+(k+1)=i+1+k by omega] at this]
   simp[allN,hx]
  ·rw[ifN hx];simp[allN,hx]
def chr (s:ByteArray)(k:Nat):UInt8:=s.data.getD k 0
theorem j6k {s:ByteArray}{k:Nat}(h:k<s.size):s.data[k]?=some (chr s k):=by
 have h' : k<s.data.size:=h
 unfold chr
 rw[Array.getD_eq_getD_getElem?,Array.getElem?_eq_getElem h'];rfl
def z9L:List ByteArray:=[⟨#[105,102]⟩,⟨#[116,104,101,110]⟩,⟨#[101,108,115,101]⟩,⟨#[116,114,117,101]⟩,⟨#[102,97,108,115,101]⟩,⟨#[108,105,116]⟩,⟨#[110,111,110,101]⟩,⟨#[115,101,108,102]⟩,⟨#[111,102]⟩,⟨#[109,97,120]⟩,⟨#[109,105,110]⟩,⟨#[119,105,116,104]⟩,⟨#[104,97,115]⟩]
def memB (s:ByteArray)(l:List ByteArray):Bool:=l.any fun x=>decide (x=s)
theorem k6c {s:ByteArray}{l:List ByteArray}:memB s l=true↔s∈l:=by
 unfold memB;rw[List.any_eq_true]
 exact⟨fun ⟨x,h1,h2⟩=>by simp at h2;exact h2▸h1,fun h=>⟨s,h,by simp⟩⟩
theorem k6d {s:ByteArray}{l:List ByteArray}(h:s∉l):memB s l=false:=by
 cases hb:memB s l with
 | false=>rfl
 | true=>exact absurd (k6c.1 hb) h
def resB (s:ByteArray):Bool:=memB s z9L
theorem k6e (l:List ByteArray)(s:ByteArray):z1M l s=some (memB s l):=by
 unfold z1M
 have:∀ (l:List ByteArray) (i:Nat),findL (z9f s) i l ()=some (if memB s l=true then .inr true else .inl ()):=by
  intro l
  induction l with
  | nil=>intro i;rfl
  | cons x l ih=>
   intro i
   rw[findL]
   unfold z9f at ih ⊢
   have hc:memB s (x::l)=(decide (x=s)||memB s l):=rfl
   by_cases h:x=s
   ·rw[ifP h,hc];simp[h]
   ·rw[ifN h,bsS]
    show findL _ (i+1) l ()=_
    rw[ih,hc];simp[h]
 rw[this,bsS]
 cases memB s l<;>rfl
theorem k8s (s:ByteArray):z0t s=some (resB s):=by
 unfold z0t z2E
 rw[bsS,k6e];rfl
theorem k8t (s:ByteArray):z0I s=some (resB s):=by
 by_cases h:s∈z9L
 ·unfold z9L at h
  simp only[List.mem_cons,List.not_mem_nil,or_false] at h
  rcases h with h|h|h|h|h|h|h|h|h|h|h|h|h<;>subst h<;>rfl
 ·unfold resB
  rw[k6d h]
  unfold z9L at h
  simp only[List.mem_cons,List.not_mem_nil,or_false,not_or] at h
  obtain⟨h1,h2,h3,h4,h5,h6,h7,h8,h9,h10,h11,h12,h13⟩:=h
  unfold z0I
  rw[ifN h1,ifN h2,ifN h3,ifN h4,ifN h5,ifN h6,ifN h7,ifN h8,ifN h9,ifN h10,ifN h11,ifN h12]
  simp[h13]
def q8b (s:ByteArray):Bool:=decide (0<s.size∧s.size≤8)&&(lowB (chr s 0)&&allN (fun k=>lowB (chr s k)||digB (chr s k)) 1 (s.size-1) && !resB s)
theorem z2N (s:ByteArray):q4B s=some (q8b s):=by
 unfold q4B
 rw[j0y (c:=false) (q:=fun k=>lowB (chr s k)||digB (chr s k)) fun k hk=>by
  rw[Nat.zero_add]
  unfold z6E
  rw[j6k hk,bsS,j0x,bsS]
  cases lowB (chr s k) with
  | true=>rfl
  | false=>
   rw[ifN (by simp),k2x,bsS]
   cases digB (chr s k)<;>rfl]
 rw[bsS]
 by_cases h0:0<s.size
 ·obtain⟨n,hn⟩:∃ n,s.size=n+1:=⟨s.size-1,by omega⟩
  unfold q8b
  rw[hn,allN,Nat.add_sub_cancel]
  cases ha:allN (fun k=>lowB (chr s k)||digB (chr s k)) (0+1) n with
  | false=>
   rw[Bool.and_false,ifN (by simp)]
   rw[Nat.zero_add] at ha
   simp[onr,ha]
  | true=>
   rw[Nat.zero_add] at ha
   try rw[ha]
   simp only[Bool.and_true]
   have hc:=j6k h0
   cases hl:lowB (chr s 0) with
   | false=>
    cases hd:digB (chr s 0) with
    | false=>simp[onr]
    | true=>
     rw[ifP (by simp)]
     show (q4g _ 1 8).bind _=_
     rw[k2w,bsS]
     split
     ·rw[hc,bsS,j0x,hl];simp
     ·simp
   | true=>
    rw[ifP (by simp)]
    show (q4g _ 1 8).bind _=_
    rw[k2w,bsS]
    by_cases h8:n+1≤8
    ·rw[ifP (by simp;omega),hc,bsS,j0x,hl]
     simp[k8t,h8]
    ·rw[ifN (by simp;omega)];simp[h8]
 ·have hs:s.size=0:=by omega
  unfold q8b
  rw[hs,allN,ifP rfl,z4q,k2w,bsS]
  simp
theorem z1d (s:ByteArray):q4N s=some (q8b s):=by
 unfold q4N z7B
 rw[j0y (c:=false) (q:=fun k=>lowB (chr s k)||(decide (k≠0)&&digB (chr s k))) fun k hk=>by
  rw[Nat.zero_add]
  unfold j2v
  rw[j6k hk,bsS]
  have e1:(if 97≤((chr s k).toNat:Int) then some (decide (((chr s k).toNat:Int)≤122)) else some false)=some (lowB (chr s k)):=by
   unfold lowB;by_cases h:97≤((chr s k).toNat:Int)<;>simp[h]
  have e2:(if 48≤((chr s k).toNat:Int) then some (decide (((chr s k).toNat:Int)≤57)) else some false)=some (digB (chr s k)):=by
   unfold digB;by_cases h:48≤((chr s k).toNat:Int)<;>simp[h]
  rw[e1,e2,bsS,bsS]
  cases lowB (chr s k) with
  | true=>rfl
  | false=>
   by_cases hk0:k=0
   ·subst hk0;simp
   ·have:¬ ((k:Int)=0):=by omega
    rw[ifN (by simp),ifN this]
    cases digB (chr s k)<;>simp[hk0]]
 rw[bsS]
 by_cases h0:0<s.size
 ·obtain⟨n,hn⟩:∃ n,s.size=n+1:=⟨s.size-1,by omega⟩
  unfold q8b
  rw[hn,allN,Nat.add_sub_cancel,Nat.zero_add,j4N (n:=n) (i:=1) (q:=fun k=>lowB (chr s k)||(decide (k≠0)&&digB (chr s k))) (r:=fun k=>lowB (chr s k)||digB (chr s k)) fun k hk=>by simp[show k≠0 by omega]]
  have e0:(lowB (chr s 0)||(decide ((0:Nat)≠0)&&digB (chr s 0)))=lowB (chr s 0):=by simp
  rw[e0]
  cases hA:(lowB (chr s 0)&&allN (fun k=>lowB (chr s k)||digB (chr s k)) 1 n) with
  | false=>simp[onr]
  | true=>
   rw[ifP rfl]
   simp only[onr,bsS]
   by_cases h8:n+1≤8
   ·simp[k8s,h8];omega
   ·simp[h8];omega
 ·have hs:s.size=0:=by omega
  unfold q8b
  rw[hs]
  simp[onr,allN]
def satI (v:Int):Int:=if (-1000000:Int) > (if (1000000:Int)<v then (1000000:Int) else v) then (-1000000:Int) else (if (1000000:Int)<v then (1000000:Int) else v)
def truI (b:Bool):Int:=if b=true then 1 else 0
def k3X (v k:Int):Int:=if k=1 then satI v else if k=2 then k1C v 4095 else if k=3 then truI (!decide (v=0)) else if k=4 then (if 0≤v∧v≤999 then v else 0) else 0
theorem k8u (v:Int):z5A v=some (satI v):=rfl
theorem k8v (a b:Int):z9g a b=some (if b<a then b else a):=by
 unfold z9g
 by_cases h:a<b
 ·rw[ifP h,ifN (by omega)]
 ·rw[ifN h]
  split
  ·rfl
  ·congr 1;omega
theorem k8w (v:Int):z3m v=some (satI v):=by
 unfold z3m
 rw[k8v,bsS,j9D,bsS]
 congr 1
 unfold satI
 split<;>split<;>(try split)<;>(try split)<;>omega
theorem k8x (b:Bool):j2B b=some (truI b):=by unfold j2B truI;cases b<;>rfl
theorem k6f (b:Bool):z4N b=some (truI b):=by unfold z4N truI;cases b<;>rfl
theorem k6g (v k:Int):z6H v k=some (k3X v k):=by
 unfold z6H k3X
 rw[k8u,k8x,k2w]
 by_cases h1:k=1
 ·rw[ifP h1,ifP h1];rfl
 by_cases h2:k=2
 ·rw[ifN h1,ifN h1,ifP h2,ifP h2]
 by_cases h3:k=3
 ·rw[ifN h1,ifN h1,ifN h2,ifN h2,ifP h3,ifP h3];rfl
 by_cases h4:k=4
 ·rw[ifN h1,ifN h1,ifN h2,ifN h2,ifN h3,ifN h3,ifP h4,ifP h4,bsS]
  by_cases h:0≤v∧v≤999<;>simp[h]
 ·rw[ifN h1,ifN h1,ifN h2,ifN h2,ifN h3,ifN h3,ifN h4,ifN h4]
theorem k6h (v k:Int):z6v v k=some (k3X v k):=by
 unfold z6v k3X
 rw[k8w,k6f,j6j]
 by_cases h1:k=1
 ·rw[ifP h1,ifP h1];rfl
 by_cases h2:k=2
 ·rw[ifN h1,ifN h1,ifP h2,ifP h2]
 by_cases h3:k=3
 ·rw[ifN h1,ifN h1,ifN h2,ifN h2,ifP h3,ifP h3];rfl
 by_cases h4:k=4
 ·rw[ifN h1,ifN h1,ifN h2,ifN h2,ifN h3,ifN h3,ifP h4,ifP h4,bsS]
  by_cases h:0≤v∧v≤999<;>simp[h]
 ·rw[ifN h1,ifN h1,ifN h2,ifN h2,ifN h3,ifN h3,ifN h4,ifN h4]
def j6l (v k:Int):Bool:=decide (1≤k∧k≤4)&&decide (k3X v k=v)
theorem k6i (v k:Int):z3x v k=some (j6l v k):=by
 unfold z3x z4T j6l
 rw[k2w,bsS,bsS,k6g,bsS]
 by_cases h:1≤k∧k≤4<;>simp[h]
theorem k6j (v k:Int):z3n v k=some (j6l v k):=by
 unfold z3n j6l
 rw[j6j,bsS,k6h,bsS]
 by_cases h:1≤k∧k≤4<;>simp[h]
def opT (n:Int):Int×Int×Int:=
 if 1≤n∧n≤5 then (1,1,1) else if 6≤n∧n≤8 then (2,2,2) else if n=9∨n=10 then (1,1,3) else if n=11 then (2,1,3) else if n=12 then (2,1,2) else (0,0,0)
theorem k9K {n a b c d e:Int}:(if n=a then some (decide (n=a)) else if n=b then some (decide (n=b)) else if n=c then some (decide (n=c)) else if n=d then some (decide (n=d)) else some (decide (n=e)))=some (decide (n=a∨n=b∨n=c∨n=d∨n=e)):=by
 by_cases h1:n=a
 ·simp[h1]
 by_cases h2:n=b
 ·simp[h1,h2]
 by_cases h3:n=c
 ·rw[ifN h1,ifN h2,ifP h3];simp[h3]
 by_cases h4:n=d
 ·rw[ifN h1,ifN h2,ifN h3,ifP h4];simp[h4]
 ·simp[h1,h2,h3,h4]
theorem k9L {n a b c:Int}:(if n=a then some (decide (n=a)) else if n=b then some (decide (n=b)) else some (decide (n=c)))=some (decide (n=a∨n=b∨n=c)):=by
 by_cases h1:n=a
 ·simp[h1]
 by_cases h2:n=b
 ·simp[h1,h2]
 ·simp[h1,h2]
theorem k8y (n:Int):q8P n=some (opT n):=by
 unfold q8P opT
 rw[k9K,k9L]
 simp only[bsS]
 by_cases h1:1≤n∧n≤5
 ·rw[ifP (by simp;omega),ifP h1]
 rw[ifN (by simp;omega),ifN h1]
 by_cases h2:6≤n∧n≤8
 ·rw[ifP (by simp;omega),ifP h2]
 rw[ifN (by simp;omega),ifN h2]
 by_cases h3:n=9
 ·simp[h3]
 by_cases h3' : n=10
 ·simp[h3']
 by_cases h4:n=11
 ·simp[h4]
 by_cases h5:n=12
 ·simp[h5]
 simp[h3,h3',h4,h5]
theorem k8z (n:Int):q8L n=some (opT n):=by
 unfold q8L opT
 rw[j6j,j6j]
 simp only[bsS]
 by_cases h1:1≤n∧n≤5
 ·rw[ifP (by simpa using h1),ifP h1]
 rw[ifN (by simpa using h1),ifN h1]
 by_cases h2:6≤n∧n≤8
 ·rw[ifP (by simpa using h2),ifP h2]
 rw[ifN (by simpa using h2),ifN h2]
 by_cases h3:n=9
 ·rw[ifP h3,ifP (.inl h3)]
 rw[ifN h3]
 by_cases h3' : n=10
 ·rw[ifP h3',ifP (.inr h3')]
 have h33:¬(n=9∨n=10):=by omega
 rw[ifN h3',ifN h33]
 by_cases h4:n=11
 ·rw[ifP h4,ifP h4]
 rw[ifN h4,ifN h4]
 by_cases h5:n=12
 ·rw[ifP h5,ifP h5]
 rw[ifN h5,ifN h5]
theorem k8A (a b:Expr):q6s a b=some (decide (a.Kind=b.Kind)&&(decide (a.N=b.N)&&(decide (a.Pos=b.Pos)&&(decide (a.Type_=b.Type_)&&(decide (a.Symbol=b.Symbol)&&decide (a.Name=b.Name)))))):=by
 unfold q6s
 by_cases h1:a.Kind=b.Kind
 ·rw[ifP h1,bsS]
  by_cases h2:a.N=b.N
  ·by_cases h3:a.Pos=b.Pos
   ·by_cases h4:a.Type_=b.Type_
    ·by_cases h5:a.Symbol=b.Symbol
     ·simp[h1,h2,h3,h4,h5]
     ·simp[h1,h2,h3,h4,h5]
    ·simp[h1,h2,h3,h4]
   ·simp[h1,h2,h3]
  ·simp[h1,h2]
 ·simp[h1]
def k3Y (k:Int):Int:=if k=4 then 2 else if k=5 then 3 else if k=8 then 1 else 0
def k3Z (e:Expr):Bool:=decide ((e.Args.length:Int)=k3Y e.Kind)&&((decide (e.Kind=3∨e.Kind=6)||decide (e.Pos=0))&&((decide (e.Kind=3∨e.Kind=8)||decide (e.Name=⟨#[]⟩))&&((decide (e.Kind=1∨e.Kind=4)||decide (e.N=0))&&((decide (e.Kind=1)||decide (e.Type_=0))&&(decide (e.Kind=8)||decide (e.Symbol=⟨#[]⟩))))))
theorem k8B (e:Expr):z6u e=some (k3Z e):=by
 unfold z6u
 have h0:(if e.Kind=4 then some 2 else if e.Kind=5 then some 3 else if e.Kind=8 then some 1 else some (0:Int))=some (k3Y e.Kind):=by
  unfold k3Y
  split
  ·rfl
  ·split
   ·rfl
   ·split<;>rfl
 have or2:∀ a b:Prop,[Decidable a]→[Decidable b]→(if a then some true else some (decide b))=some (decide (a∨b)):=fun a b _ _=>by
  by_cases h:a<;>simp[h]
 have or1:∀ (a:Prop) (b:Bool),[Decidable a]→(if a then some true else some b)=some (decide a||b):=fun a b _=>by
  by_cases h:a<;>simp[h]
 have orB:∀ a b:Bool,(if a=true then some true else some b)=some (a||b):=fun a b=>by cases a<;>rfl
 have andB:∀ a b:Bool,(if a=true then some b else some false)=some (a&&b):=fun a b=>by cases a<;>rfl
 rw[h0,bsS]
 unfold k3Z
 by_cases hl:(e.Args.length:Int)=k3Y e.Kind
 ·rw[ifP hl]
  simp only[or2,or1,orB,andB,bsS]
  simp[hl,Bool.and_assoc]
 ·rw[ifN hl];simp[hl]
def k8C (e:Expr):Bool:=
 if e.Kind=1 then (decide (1≤e.Type_∧e.Type_≤3)&&j6l e.N e.Type_)&&decide (0≤e.N)
 else if e.Kind=3 then decide (0≤e.Pos∧e.Pos≤3)&&q8b e.Name
 else if e.Kind=6 then decide (0≤e.Pos∧e.Pos≤3)
 else if e.Kind=4 then decide (1≤e.N∧e.N≤12)
 else if e.Kind=8 then q8b e.Symbol&&q8b e.Name
 else true
def z7h (e:Expr):Bool:=(decide (1≤e.Kind∧e.Kind≤8)&&k3Z e)&&k8C e
theorem k6k (e:Expr):z6w e=some (z7h e):=by
 unfold z6w z7h
 rw[j6j,bsS,k8B,bsS]
 by_cases hk:1≤e.Kind∧e.Kind≤8
 ·rw[ifP (by simpa using hk),bsS]
  cases k3Z e with
  | false=>simp
  | true=>
   rw[ifN (by simp)]
   unfold k8C
   by_cases k1:e.Kind=1
   ·rw[ifP k1,ifP k1,j6j,bsS,k6j,bsS]
    by_cases h:1≤e.Type_∧e.Type_≤3
    ·cases j6l e.N e.Type_<;>simp[h,hk]
    ·simp[h,hk]
   rw[ifN k1,ifN k1]
   by_cases k3:e.Kind=3
   ·rw[ifP k3,ifP k3,j6j,bsS,z1d]
    by_cases h:0≤e.Pos∧e.Pos≤3
    ·simp[h,hk]
    ·simp[h,hk]
   rw[ifN k3,ifN k3]
   by_cases k6:e.Kind=6
   ·rw[ifP k6,ifP k6,j6j];simp[hk]
   rw[ifN k6,ifN k6]
   by_cases k4:e.Kind=4
   ·rw[ifP k4,ifP k4,j6j];simp[hk]
   rw[ifN k4,ifN k4]
   by_cases k8:e.Kind=8
   ·rw[ifP k8,ifP k8,z1d,bsS,z1d]
    cases q8b e.Symbol<;>simp[hk]
   rw[ifN k8,ifN k8];simp[hk]
 ·rw[ifN (by simpa using hk)];simp[hk]
theorem k6l (e:Expr):z0K e=some (z7h e):=by
 unfold z0K z7h k3Z k8C k3Y
 simp only[k8A,k2w,k6i,z2N,bsS]
 have hp3:e.Pos=0→(0≤e.Pos∧e.Pos≤3):=fun h=>by omega
 by_cases k1:e.Kind=1
 ·simp[k1]
  have ht:j6l e.N e.Type_=true→1≤e.Type_∧e.Type_≤4:=fun h=>by
   unfold j6l at h;simp at h;exact h.1
  cases hb:j6l e.N e.Type_ with
  | false=>by_cases h4:e.Type_=4<;>simp[h4]
  | true=>
   obtain⟨t1,t2⟩:=ht hb
   by_cases h4:e.Type_=4
   ·simp[h4]
   ·by_cases hn:e.N<0
    ·have:¬ 0≤e.N:=by omega
     simp[h4,hn,this]
    ·have h0:0≤e.N:=by omega
     have h3:e.Type_≤3:=by omega
     by_cases a:e.Args=[]
     ·by_cases p:e.Pos=0
      ·simp[h4,hn,h0,h3,t1,a,p,Bool.and_comm]
      ·simp[h4,hn,h0,h3,t1,a,p]
     ·simp[h4,hn,h0,h3,t1,a]
 by_cases k3:e.Kind=3
 ·simp[k1,k3]
  cases q8b e.Name with
  | false=>simp
  | true=>
   by_cases a:e.Args=[]
   ·by_cases p:0≤e.Pos∧e.Pos≤3
    ·simp[a,p]
    ·have:(decide (0≤e.Pos)&&decide (e.Pos≤3))=false:=by simp;omega
     simp[a,this]
   ·simp[a]
 by_cases k4:e.Kind=4
 ·simp[k1,k3,k4]
  by_cases n:1≤e.N∧e.N≤12
  ·by_cases a:(e.Args.length:Int)=2
   ·by_cases p:e.Pos=0
    ·simp[n,a,p];cases decide (e.Type_=0)<;>cases decide (e.Symbol=⟨#[]⟩)<;>cases decide (e.Name=⟨#[]⟩)<;>rfl
    ·simp[n,a,p]
   ·simp[n,a]
  ·have:(decide (1≤e.N)&&decide (e.N≤12))=false:=by simp;omega
   rw[ifN n,this];simp
 have close3:∀ c:Bool,((if c=true then some (decide (0≤e.Pos)&&decide (e.Pos≤3)) else some false).bind fun s9=>
   if s9=true then some (decide (e.N=0)&&(decide (e.Pos=0)&&(decide (e.Type_=0)&&(decide (e.Symbol=⟨#[]⟩)&&decide (e.Name=⟨#[]⟩))))) else some false) =
  some (c&&(decide (e.Pos=0)&&(decide (e.Name=⟨#[]⟩)&&(decide (e.N=0)&&(decide (e.Type_=0)&&decide (e.Symbol=⟨#[]⟩)))))):=fun c=>by
  cases c with
  | false=>simp
  | true=>
   by_cases p:e.Pos=0
   ·simp[p];cases decide (e.N=0)<;>cases decide (e.Type_=0)<;>cases decide (e.Symbol=⟨#[]⟩)<;>cases decide (e.Name=⟨#[]⟩)<;>rfl
   ·simp[p]
 by_cases k5:e.Kind=5
 ·simp[k1,k3,k4,k5]
  simpa using close3 (decide ((e.Args.length:Int)=3))
 by_cases k6:e.Kind=6
 ·simp[k1,k3,k4,k5,k6]
  by_cases a:e.Args=[]
  ·by_cases p:0≤e.Pos∧e.Pos≤3
   ·simp[a,p];cases decide (e.N=0)<;>cases decide (e.Type_=0)<;>cases decide (e.Symbol=⟨#[]⟩)<;>cases decide (e.Name=⟨#[]⟩)<;>rfl
   ·have:(decide (0≤e.Pos)&&decide (e.Pos≤3))=false:=by simp;omega
    simp[a,this]
  ·simp[a]
 by_cases k8:e.Kind=8
 ·simp[k1,k3,k4,k5,k6,k8]
  cases q8b e.Symbol with
  | false=>simp
  | true=>
   cases q8b e.Name with
   | false=>simp
   | true=>
    by_cases a:(e.Args.length:Int)=1
    ·by_cases p:e.Pos=0
     ·simp[a,p]
     ·simp[a,p]
    ·simp[a]
 by_cases k2:e.Kind=2
 ·simp[k1,k3,k4,k5,k6,k8,k2]
  simpa using close3 (decide (e.Args=[]))
 by_cases k7:e.Kind=7
 ·simp[k1,k3,k4,k5,k6,k8,k2,k7]
  simpa using close3 (decide (e.Args=[]))
 ·simp[k1,k3,k4,k5,k6,k8,k2,k7]
  intro h1 h2;omega
theorem k6m (e:Expr):∀ m,fuE e≤m→z9i m e=some (allE z7h e):=by
 induction e using z2M with
 | h e ih=>
  intro m hm
  obtain⟨m,rfl⟩:∃ q,m=q+1:=⟨m-1,by have:=z7W e;omega⟩
  show z9h (z9i m) e=_
  unfold z9h
  rw[q5j (c:=false) (q:=allE z7h) fun k x hx=>by
   unfold j7q
   rw[ih x hx m (by have:=z7X hx;omega),bsS]
   cases allE z7h x<;>rfl]
  rw[j6i,bsS]
  cases e.Args.all (allE z7h) with
  | true=>rw[ifP rfl,z4q,k6k,Bool.and_true];rfl
  | false=>rw[ifN (by simp),z8a,Bool.and_false]
theorem k8D (e:Expr):j5A e=some (allE z7h e):=q8s (fuE e) fun m hm=>k6m e m hm
theorem j3u {α:Type}(q:α→Bool)(l:List α):(!l.any fun x=>!q x)=l.all q:=by
 induction l with
 | nil=>rfl
 | cons x l ih=>simp[← ih]
theorem k6n (e:Expr):∀ m,fuE e≤m→q5L m e=some (allE z7h e):=by
 induction e using z2M with
 | h e ih=>
  intro m hm
  obtain⟨m,rfl⟩:∃ q,m=q+1:=⟨m-1,by have:=z7W e;omega⟩
  show q5K (q5L m) e=_
  unfold q5K q3X q4d
  rw[k6l,bsS,j6i]
  cases z7h e with
  | false=>rfl
  | true=>
   rw[ifP rfl,j3s (q:=fun x=>!allE z7h x) fun k x hx=>by
    unfold q5t q6c
    rw[ih x hx m (by have:=z7X hx;omega),bsS,bsS]
    cases allE z7h x<;>rfl]
   rw[Bool.true_and,← j3u]
   cases e.Args.any fun x=>!allE z7h x with
   | true=>
    have:(0:Int)≤((0+e.Args.findIdx fun x=>!allE z7h x:Nat):Int):=Int.natCast_nonneg _
    rw[ifP rfl,bsS,z8a,bsS,bsS,decide_eq_true this]
   | false=>rfl
theorem k8E (e:Expr):q7F e=some (allE z7h e):=q8s (fuE e) fun m hm=>k6n e m hm
def j3v (e:Expr):Bool:=decide (cntE e≤24)&&(decide (depE e≤6)&&allE z7h e)
theorem k4a {e:Expr}(h:cntE e≤1099511627776):q9B e=some (j3v e):=by
 unfold q9B j3v
 rw[k3T h,bsS,k3U h,k8E]
 by_cases h1:cntE e≤24
 ·rw[ifP (by omega),bsS,bsS]
  by_cases h2:depE e≤6
  ·rw[ifP (by simp;omega),bsS];simp[h1,h2]
  ·rw[ifN (by simp;omega)];simp[h1,h2]
 ·rw[ifN (by omega)];simp[h1]
theorem k4b {e:Expr}(h:cntE e≤1099511627776):q9v e=some (j3v e):=by
 unfold q9v j3v
 rw[k6b (by omega) (by omega) h,bsS,k3V h,k8D]
 unfold j1D
 by_cases h1:cntE e≤24
 ·have h24:((cntE e:Nat):Int)≤24:=by omega
  rw[ifP h24,ifP (by omega:(0:Int)≤24-((cntE e:Nat):Int)),bsS,bsS]
  by_cases h2:depE e≤6
  ·rw[ifP (by simp;omega),bsS];simp[h1,h2]
  ·rw[ifN (by simp;omega)];simp[h1,h2]
 ·have h24:¬ ((cntE e:Nat):Int)≤24:=by omega
  rw[ifN h24,ifN (by omega:¬ (0:Int)≤-1)];simp[h1]
theorem q6m {α:Type}{q:α→Bool}{xs:List α}{f:Nat→α→Unit→Option (Unit ⊕ Int)}(h:∀ k x,x∈xs→f k x ()=some (if q x=true then .inr (k:Int) else .inl ())) :
  ((findL f 0 xs ()).bind <| onr (fun r1=>some r1) fun _=>some (-1)).bind (fun y1=>some (decide (0≤y1)))=some (xs.any q):=by
 rw[j3s h]
 cases hq:xs.any q with
 | true=>
  have:(0:Int)≤((0+xs.findIdx q:Nat):Int):=Int.natCast_nonneg _
  rw[ifP rfl,bsS,z8a,bsS,decide_eq_true this]
 | false=>rfl
def q4M {α:Type}(bad:List α→α→Bool):List α→List α→Option Nat
 | _,[]=>none
 | pre,x::xs=>if bad pre x=true then some pre.length else q4M bad (pre++[x]) xs
theorem z5n {α β ρ:Type}{bad:List α→α→Bool}{nm:α→β}{c:Nat→ρ}{all:List α}{f:Nat→α→Unit→Option (Unit ⊕ ρ)}{h:Nat→α→List β→Option (List β ⊕ ρ)}
  (hf:∀ pre x post,all=pre++x::post→f pre.length x ()=some (if bad pre x=true then .inr (c pre.length) else .inl ()))
  (hh:∀ pre x post,all=pre++x::post→h pre.length x (pre.map nm)=some (if bad pre x=true then .inr (c pre.length) else .inl ((pre++[x]).map nm))) :
  ∀ (ys pre:List α),all=pre++ys→findL f pre.length ys ()=some (match q4M bad pre ys with|none=>.inl ()|some k=>.inr (c k)) ∧
   findL h pre.length ys (pre.map nm)=some (match q4M bad pre ys with|none=>.inl (all.map nm)|some k=>.inr (c k))
 | [],pre,e=>by
  rw[List.append_nil] at e
  subst e;exact⟨rfl,rfl⟩
 | x::ys,pre,e=>by
  have h1:=hf pre x ys e
  have h2:=hh pre x ys e
  by_cases hb:bad pre x=true
  ·rw[ifP hb] at h1 h2
   simp only[findL,h1,h2,q4M,hb,if_true,bsS]
   exact⟨trivial,trivial⟩
  ·rw[ifN hb] at h1 h2
   have ih:=z5n hf hh ys (pre++[x]) (by rw[e];simp)
   simp only[List.length_append,lnC,List.length_nil,Nat.zero_add] at ih
   simp only[findL,h1,h2,q4M,hb,bsS]
   exact ih
theorem k0T {α:Type}{a:α→Bool}{b:List α→α→Bool}:∀ (xs pre:List α),(q4M (fun p x=>a x||b p x) pre xs).isNone=(xs.all (fun x=>!a x)&&(q4M b pre xs).isNone)
 | [],pre=>rfl
 | x::xs,pre=>by
  have ih:=k0T (a:=a) (b:=b) xs (pre++[x])
  simp only[q4M,List.all_cons]
  by_cases ha:a x=true
  ·simp[ha]
  ·by_cases hb:b pre x=true
   ·simp[ha,hb]
   ·simpa[ha,hb] using ih
def dupB {α:Type}(nm:α→ByteArray)(pre:List α)(x:α):Bool:=pre.any fun o=>decide (nm o=nm x)
def k4c {α:Type}(nm:α→ByteArray)(xs:List α):Bool:=(q4M (dupB nm) [] xs).isNone
theorem j7T {α:Type}{nm:α→ByteArray}:∀ (xs pre:List α),(q4M (dupB id) (pre.map nm) (xs.map nm))=q4M (dupB nm) pre xs
 | [],pre=>rfl
 | x::xs,pre=>by
  have ih:=j7T (nm:=nm) xs (pre++[x])
  have e:dupB id (pre.map nm) (nm x)=dupB nm pre x:=by simp[dupB,List.any_map,Function.comp_def]
  rw[List.map_cons,q4M,q4M,e,lnM]
  rw[List.map_append] at ih
  rw[show [nm x]=[x].map nm from rfl,ih]
theorem z7i {α ρ:Type}{bad:List α→α→Bool}{c:Nat→ρ}{all:List α}{f:Nat→α→Unit→Option (Unit ⊕ ρ)}
  (hf:∀ pre x post,all=pre++x::post→f pre.length x ()=some (if bad pre x=true then .inr (c pre.length) else .inl ())) :
  ∀ (ys pre:List α),all=pre++ys→findL f pre.length ys ()=some (match q4M bad pre ys with|none=>.inl ()|some k=>.inr (c k)):=fun ys pre e=>
 (z5n (nm:=fun _=>()) (h:=fun k x s=>(f k x ()).map fun|.inl _=>.inl (s++[()])|.inr r=>.inr r) hf (fun pre x post e=>by
  rw[hf pre x post e]
  by_cases hb:bad pre x=true
  ·rw[ifP hb,ifP hb];rfl
  ·rw[ifN hb,ifN hb];simp) ys pre e).1
theorem k4d (l:List ByteArray)(s:ByteArray):z1M l s=some (l.any fun o=>decide (o=s)):=by
 unfold z1M
 rw[q5j (c:=true) (q:=fun o=>!decide (o=s)) fun k x hx=>by
  unfold z9f
  by_cases h:x=s
  ·rw[ifP h,ifN (by simp[h])]
  ·rw[ifN h,ifP (by simp[h])]]
 have e:(l.all fun o=>!decide (o=s))=!(l.any fun o=>decide (o=s)):=by rw[List.not_any_eq_all_not]
 rw[e]
 cases l.any fun o=>decide (o=s)<;>rfl
theorem k2y (l:List ByteArray):q9t l=some (k4c id l):=by
 unfold q9t k4c
 rw[show findL (z0u l) 0 l ()=_ from z7i (bad:=dupB id) (c:=fun _=>false) (all:=l) (f:=z0u l) (fun pre x post e=>by
  unfold z0u
  rw[q3N (by rw[e];simp),show l.take pre.length=pre by rw[e];simp,k4d,bsS,← apply_ite some];rfl) l [] rfl]
 cases q4M (dupB id) [] l<;>rfl
def z3S (a:At_):Bool:=q8b a.Name&&(decide (1≤a.Type_∧a.Type_≤4)&&(decide (1≤a.Mode∧a.Mode≤3)&&if a.Mode=3 then decide (a.Type_=2) && !a.Circular else !a.Circular||decide (a.Type_=2)))
theorem k4e (a:At_):q6Q a=some (z3S a):=by
 unfold q6Q z3S z4T
 rw[z2N,bsS]
 cases q8b a.Name with
 | false=>rfl
 | true=>
  rw[ifP rfl,j0W,bsS,bsS,bsS]
  by_cases h1:1≤a.Type_∧a.Type_≤4
  ·rw[decide_eq_true h1,Bool.not_true,ifN (by simp),j0W,bsS,bsS]
   by_cases h2:1≤a.Mode∧a.Mode≤3
   ·rw[decide_eq_true h2,Bool.not_true,ifN (by simp)]
    by_cases h3:a.Mode=3
    ·rw[ifP h3,ifP h3]
     by_cases h4:a.Type_=2
     ·rw[ifP h4,decide_eq_true h4];simp
     ·rw[ifN h4,decide_eq_false h4];rfl
    ·rw[ifN h3,ifN h3]
     cases hc:a.Circular with
     | true=>rw[ifP rfl];simp
     | false=>rw[ifN (by simp)];simp
   ·rw[decide_eq_false h2];rfl
  ·rw[decide_eq_false h1];rfl
theorem k4f (a:At_):q6M a=some (z3S a):=by
 unfold q6M z3S
 rw[z1d,bsS]
 cases q8b a.Name with
 | false=>rfl
 | true=>
  rw[ifP rfl,z7b,bsS,bsS]
  by_cases h1:1≤a.Type_∧a.Type_≤4
  ·rw[decide_eq_true h1,Bool.not_true,ifN (by simp),z7b,bsS,bsS]
   by_cases h2:1≤a.Mode∧a.Mode≤3
   ·rw[decide_eq_true h2,Bool.not_true,ifN (by simp)]
    by_cases h3:a.Mode=3
    ·rw[ifP h3,ifP h3]
     by_cases h4:a.Type_=2
     ·rw[ifP h4,decide_eq_true h4]
      cases hc:a.Circular with
      | true=>rfl
      | false=>rfl
     ·rw[ifN h4,decide_eq_false h4];rfl
    ·rw[ifN h3,ifN h3]
     cases hc:a.Circular with
     | true=>simp
     | false=>simp
   ·rw[decide_eq_false h2];rfl
  ·rw[decide_eq_false h1];rfl
def symB (s:Symbol):Bool:=s.Attributes.all z3S&&(q8b s.Name&&(decide (s.Attributes.length≤4)&&k4c (fun a:At_=>a.Name) s.Attributes))
theorem k6o (s:Symbol):q8d s=some (symB s):=by
 unfold q8d symB
 rw[show findL (q9f s) 0 s.Attributes ()=_ from z7i (bad:=fun p x=>!z3S x||dupB (fun a:At_=>a.Name) p x) (c:=fun _=>false) (all:=s.Attributes) (f:=q9f s) (fun pre x post e=>by
  unfold q9f
  rw[k4e,bsS]
  cases z3S x with
  | false=>rfl
  | true=>
   rw[ifP rfl,q3N (by rw[e];simp),show s.Attributes.take pre.length=pre by rw[e];simp]
   unfold q4c q4l
   rw[q6m (q:=fun o:At_=>decide (o.Name=x.Name)) fun k y hy=>by
    unfold q5G q8B
    rw[bsS]
    by_cases h:y.Name=x.Name
    ·rw[decide_eq_true h];rfl
    ·rw[decide_eq_false h];rfl]
   rw[bsS,← apply_ite some];rfl) s.Attributes [] rfl]
 have hor:=k0T (a:=fun x:At_=>!z3S x) (b:=dupB (fun a:At_=>a.Name)) s.Attributes []
 simp only[Bool.not_not] at hor
 have e2:(s.Attributes.all fun x=>z3S x)=s.Attributes.all z3S:=rfl
 unfold k4c
 rw[e2] at hor
 cases hb:q4M (fun p x=>!z3S x||dupB (fun a:At_=>a.Name) p x) [] s.Attributes with
 | some k=>
  rw[hb] at hor
  show some false=_
  have:(s.Attributes.all z3S&&(q4M (dupB fun a:At_=>a.Name) [] s.Attributes).isNone)=false:=hor.symm
  congr 1
  cases h1:s.Attributes.all z3S with
  | false=>rfl
  | true=>rw[h1] at this;simp at this;simp[this]
 | none=>
  rw[hb] at hor
  have:(s.Attributes.all z3S&&(q4M (dupB fun a:At_=>a.Name) [] s.Attributes).isNone)=true:=hor.symm
  rw[Bool.and_eq_true] at this
  show ((q4B s.Name).bind _)=_
  rw[z2N,bsS,this.1,this.2]
  cases q8b s.Name with
  | false=>rfl
  | true=>
   rw[ifP rfl,bsS]
   congr 1
   simp;omega
theorem k6p {s:Symbol}(h:s.Attributes.length≤1048576):q8c s=some (symB s):=by
 unfold q8c symB
 have hloop:∀ (ys:List At_) (i:Nat) (t:List ByteArray),t.length+ys.length≤1048576→findL q8Z i ys t=some (if ys.all z3S=true then .inl (t++ys.map fun a=>a.Name) else .inr false):=by
  intro ys
  induction ys with
  | nil=>intro i t _;simp[findL]
  | cons y ys ih=>
   intro i t ht
   simp only[lnC] at ht
   simp only[findL]
   have e:q8Z i y t=some (if z3S y=true then .inl (t++[y.Name]) else .inr false):=by
    unfold q8Z
    rw[k4f,bsS]
    cases z3S y with
    | false=>rfl
    | true=>rw[ifP rfl,ifP rfl,q3N (by constructor<;>omega)]
   rw[e,bsS]
   by_cases hy:z3S y=true
   ·rw[ifP hy,show (y::ys).all z3S=ys.all z3S by simp[hy]]
    dsimp only
    rw[ih _ _ (by simp;omega)]
    simp
   ·rw[ifN hy,show (y::ys).all z3S=false by simp[hy]];rfl
 rw[hloop _ _ _ (by simpa using h)]
 cases hA:s.Attributes.all z3S with
 | false=>rfl
 | true=>
  rw[ifP rfl,bsS,z4q,List.nil_append,z1d,bsS]
  cases q8b s.Name with
  | false=>rfl
  | true=>
   rw[ifP rfl,bsS,lnM]
   by_cases hl:s.Attributes.length≤4
   ·rw[decide_eq_true (by omega:(s.Attributes.length:Int)≤4),ifP rfl,k2y,bsS,bsS,decide_eq_true hl]
    have:=j7T (nm:=fun a:At_=>a.Name) s.Attributes []
    unfold k4c
    rw[List.map_nil] at this
    rw[this];rfl
   ·rw[decide_eq_false (by omega:¬ (s.Attributes.length:Int)≤4),ifN (by simp),decide_eq_false hl];rfl
theorem z9M {r:Rule}{q:Cn}(h:q∈r.Contributions):Sz.szd q.Target≤Sz.szd r∧Sz.szd q.Value≤Sz.szd r:=by
 have h1:=z4m r
 have h2:=q8i q
 have h3:=z1c h
 have h4:=q6X q.Target
 have h5:=q6X q.Value
 omega
theorem z3N {g:Gm_}{r:Rule}(h:r∈g.Rules):Sz.szd r≤Sz.szd g:=by
 have h1:=q9Y g
 have h3:=z1c h
 omega
theorem k7z {r:Rule}(h:Sz.szd r≤1048576):r.Equations.length≤1048576∧r.Contributions.length≤1048576:=by
 have h1:=z4m r
 have h2:=q4P r.Equations
 have h3:=q4P r.Contributions
 omega
def q9s (n:Int)(e:Expr):Bool:=allE (fun x=>decide (x.Pos≤n)) e
theorem j9E (n:Int)(e:Expr):∀ m,fuE e≤m→z3p m e n=some (q9s n e):=by
 induction e using z2M with
 | h e ih=>
  intro m hm
  obtain⟨m,rfl⟩:∃ q,m=q+1:=⟨m-1,by have:=z7W e;omega⟩
  show z3o (z3p m) e n=_
  unfold z3o
  rw[q5j (c:=false) (q:=q9s n) fun k x hx=>by
   unfold j0L
   rw[ih x hx m (by have:=z7X hx;omega),bsS]
   cases q9s n x<;>rfl]
  have e1:q9s n e=(decide (e.Pos≤n)&&e.Args.all (q9s n)):=by unfold q9s;rw[j6i]
  rw[e1,bsS]
  cases e.Args.all (q9s n) with
  | true=>rw[ifP rfl,z4q,Bool.and_true]
  | false=>rw[ifN (by simp),z8a,Bool.and_false]
theorem k2z (n:Int)(e:Expr):z8i e n=some (q9s n e):=q8s (fuE e) fun m hm=>j9E n e m hm
theorem j9F (n:Int)(e:Expr):∀ m,fuE e≤m→q6w m e n=some (q9s n e):=by
 induction e using z2M with
 | h e ih=>
  intro m hm
  obtain⟨m,rfl⟩:∃ q,m=q+1:=⟨m-1,by have:=z7W e;omega⟩
  show q6v (q6w m) e n=_
  unfold q6v q4i q4o z9o
  have e1:q9s n e=(decide (e.Pos≤n)&&e.Args.all (q9s n)):=by unfold q9s;rw[j6i]
  rw[bsS,e1]
  cases decide (e.Pos≤n) with
  | false=>rfl
  | true=>
   rw[ifP rfl,q6m (q:=fun x=>!q9s n x) fun k x hx=>by
    unfold q5M q6V
    rw[ih x hx m (by have:=z7X hx;omega),bsS,bsS]
    cases q9s n x<;>rfl]
   rw[Bool.true_and,← j3u];rfl
theorem k2A (n:Int)(e:Expr):q9p e n=some (q9s n e):=q8s (fuE e) fun m hm=>j9F n e m hm
def z4I (e:Expr)(n:Int):Bool:=j3v e&&q9s n e
theorem j6m {e:Expr}(h:Sz.szd e≤1048576)(n:Int):z8l e n=some (z4I e n):=by
 unfold z8l z4I
 have:=k7y h
 rw[k4a (by omega),bsS]
 cases j3v e with
 | false=>rfl
 | true=>rw[ifP rfl,k2A];rfl
theorem j6n {e:Expr}(h:Sz.szd e≤1048576)(n:Int):z3q e n=some (z4I e n):=by
 unfold z3q z4I
 have:=k7y h
 rw[k4b (by omega),bsS]
 cases j3v e with
 | false=>rfl
 | true=>rw[ifP rfl,k2z];rfl
def eqnB (n:Int)(q:Eqn):Bool:=z4I q.Expr n&&(q8b q.At.Name&&decide (0≤q.At.Pos∧q.At.Pos≤n))
def conB (n:Int)(q:Cn):Bool:=(z4I q.Target n&&z4I q.Value n)&&(q8b q.Symbol&&q8b q.Name)
def ruleB (r:Rule):Bool:=(q8b r.Name&&q8b r.Left)&&((decide (r.Right.length≤3)&&decide (r.Contributions.length≤2))&&(r.Right.all q8b&&(r.Equations.all (eqnB (r.Right.length:Int))&&r.Contributions.all (conB (r.Right.length:Int)))))
theorem j7U {α β γ:Type}{p:α→Bool}{q:β→Bool}{t:γ→Bool}(xs:List α)(ys:List β)(zs:List γ) :
  ((some (if xs.all p=true then (.inl ():Unit ⊕ Bool) else .inr false)).bind <| onr (fun r1=>some r1) fun _=>
   (some (if ys.all q=true then (.inl ():Unit ⊕ Bool) else .inr false)).bind <| onr (fun r1=>some r1) fun _=>
   (some (if zs.all t=true then (.inl ():Unit ⊕ Bool) else .inr false)).bind <| onr (fun r1=>some r1) fun _=>some true)=some (xs.all p&&(ys.all q&&zs.all t)):=by
 cases xs.all p<;>cases ys.all q<;>cases zs.all t<;>rfl
theorem k4g {r:Rule}(h:Sz.szd r≤1048576):q9C r=some (ruleB r):=by
 unfold q9C ruleB
 rw[z2N,bsS]
 cases q8b r.Name with
 | false=>rfl
 | true=>
  rw[ifP rfl,z2N,bsS,bsS]
  cases q8b r.Left with
  | false=>rfl
  | true=>
   rw[Bool.not_true,ifN (by simp),bsS]
   by_cases h3:r.Right.length≤3
   ·rw[decide_eq_true h3,decide_eq_false (by omega),ifN (by simp),bsS]
    by_cases h2:r.Contributions.length≤2
    ·rw[decide_eq_true h2,decide_eq_false (by omega),ifN (by simp)]
     rw[q5j (c:=false) (q:=q8b) fun k x hx=>by
      unfold z6I;rw[z2N,bsS];cases q8b x<;>rfl]
     rw[q5j (c:=false) (q:=eqnB (r.Right.length:Int)) fun k x hx=>by
      unfold z6J eqnB
      rw[j6m (Nat.le_trans (z8I hx) h),bsS]
      cases z4I x.Expr (r.Right.length:Int) with
      | false=>rfl
      | true=>
       rw[ifP rfl,z2N,bsS,bsS]
       cases q8b x.At.Name with
       | false=>rfl
       | true=>
        rw[Bool.not_true,ifN (by simp),j0W,bsS,bsS]
        cases decide (0≤x.At.Pos∧x.At.Pos≤(r.Right.length:Int))<;>rfl]
     rw[q5j (c:=false) (q:=conB (r.Right.length:Int)) fun k x hx=>by
      have hs:=z9M hx
      unfold z6K conB
      rw[j6m (Nat.le_trans hs.1 h),bsS]
      cases z4I x.Target (r.Right.length:Int) with
      | false=>rfl
      | true=>
       rw[ifP rfl,j6m (Nat.le_trans hs.2 h),bsS,bsS]
       cases z4I x.Value (r.Right.length:Int) with
       | false=>rfl
       | true=>
        rw[Bool.not_true,ifN (by simp),z2N,bsS,bsS]
        cases q8b x.Symbol with
        | false=>rfl
        | true=>
         rw[Bool.not_true,ifN (by simp),z2N,bsS,bsS]
         cases q8b x.Name<;>rfl]
     exact j7U _ _ _
    ·rw[decide_eq_false h2,decide_eq_true (by omega)];rfl
   ·rw[decide_eq_false h3,decide_eq_true (by omega)];rfl
theorem k4h {r:Rule}(h:Sz.szd r≤1048576):q9w r=some (ruleB r):=by
 unfold q9w ruleB
 rw[z1d,bsS]
 cases q8b r.Name with
 | false=>rfl
 | true=>
  rw[ifP rfl,z1d,bsS,bsS]
  cases q8b r.Left with
  | false=>rfl
  | true=>
   rw[Bool.not_true,ifN (by simp),bsS]
   by_cases h3:r.Right.length≤3
   ·rw[decide_eq_true h3,decide_eq_false (by omega),ifN (by simp),bsS]
    by_cases h2:r.Contributions.length≤2
    ·rw[decide_eq_true h2,decide_eq_false (by omega),ifN (by simp)]
     rw[q5j (c:=false) (q:=q8b) fun k x hx=>by
      unfold z6x;rw[z1d,bsS];cases q8b x<;>rfl]
     rw[q5j (c:=false) (q:=eqnB (r.Right.length:Int)) fun k x hx=>by
      unfold z6y eqnB
      rw[z1d,bsS]
      cases q8b x.At.Name with
      | false=>rw[Bool.false_and,Bool.and_false];rfl
      | true=>
       rw[ifP rfl,z7b,bsS,bsS]
       cases decide (0≤x.At.Pos∧x.At.Pos≤(r.Right.length:Int)) with
       | false=>rw[Bool.and_false,Bool.and_false];rfl
       | true=>
        rw[Bool.not_true,ifN (by simp),j6n (Nat.le_trans (z8I hx) h),bsS,bsS]
        cases z4I x.Expr (r.Right.length:Int)<;>rfl]
     rw[q5j (c:=false) (q:=conB (r.Right.length:Int)) fun k x hx=>by
      have hs:=z9M hx
      unfold z6z conB
      rw[z1d,bsS]
      cases q8b x.Symbol with
      | false=>rw[Bool.false_and,Bool.and_false];rfl
      | true=>
       rw[ifP rfl,z1d,bsS,bsS]
       cases q8b x.Name with
       | false=>rw[Bool.and_false,Bool.and_false];rfl
       | true=>
        rw[Bool.not_true,ifN (by simp),j6n (Nat.le_trans hs.1 h),bsS,bsS]
        cases z4I x.Target (r.Right.length:Int) with
        | false=>rfl
        | true=>
         rw[Bool.not_true,ifN (by simp),j6n (Nat.le_trans hs.2 h),bsS,bsS]
         cases z4I x.Value (r.Right.length:Int)<;>rfl]
     exact j7U _ _ _
    ·rw[decide_eq_false h2,decide_eq_true (by omega)];rfl
   ·rw[decide_eq_false h3,decide_eq_true (by omega)];rfl
def z5o (p:List Symbol)(x:Symbol):Bool:=!symB x||dupB (fun y:Symbol=>y.Name) p x
def z1F (p:List Rule)(x:Rule):Bool:=!ruleB x||dupB (fun y:Rule=>y.Name) p x
def z7Y (g:Gm_):Int:=match q4M z5o [] g.Symbols with
 | some k=>(k:Int)
 | none=>match q4M z1F [] g.Rules with
  | some k=>(k:Int)
  | none=>-1
theorem k4i {g:Gm_}(h:Sz.szd g≤1048576):z0M g=some (z7Y g):=by
 unfold z0M z7Y
 rw[show findL (z1Q g) 0 g.Symbols ()=_ from z7i (bad:=z5o) (c:=fun k=>(k:Int)) (all:=g.Symbols) (f:=z1Q g) (fun pre x post e=>by
  unfold z1Q z5o
  rw[k6o,bsS]
  cases symB x with
  | false=>rfl
  | true=>
   rw[ifP rfl,q3N (by rw[e];simp),show g.Symbols.take pre.length=pre by rw[e];simp]
   unfold q4w q4I
   rw[q6m (q:=fun o:Symbol=>decide (o.Name=x.Name)) fun k y hy=>by
    unfold q6h z0J
    rw[bsS]
    by_cases h:y.Name=x.Name
    ·rw[decide_eq_true h];rfl
    ·rw[decide_eq_false h];rfl]
   rw[bsS,← apply_ite some];rfl) g.Symbols [] rfl]
 rw[show findL (z1R g) 0 g.Rules ()=_ from z7i (bad:=z1F) (c:=fun k=>(k:Int)) (all:=g.Rules) (f:=z1R g) (fun pre x post e=>by
  unfold z1R z1F
  rw[k4g (Nat.le_trans (z3N (by rw[e];simp)) h),bsS]
  cases ruleB x with
  | false=>rfl
  | true=>
   rw[ifP rfl,q3N (by rw[e];simp),show g.Rules.take pre.length=pre by rw[e];simp]
   unfold q4D q4T
   rw[q6m (q:=fun o:Rule=>decide (o.Name=x.Name)) fun k y hy=>by
    unfold q6n z0L
    rw[bsS]
    by_cases h:y.Name=x.Name
    ·rw[decide_eq_true h];rfl
    ·rw[decide_eq_false h];rfl]
   rw[bsS,← apply_ite some];rfl) g.Rules [] rfl]
 cases q4M z5o [] g.Symbols with
 | some k=>rfl
 | none=>cases q4M z1F [] g.Rules<;>rfl
theorem j9G {g:Gm_}(h:Sz.szd g≤1048576):g.Symbols.length≤1048576∧g.Rules.length≤1048576:=by
 have h1:=q9Y g
 have h2:=q4P g.Symbols
 have h3:=q4P g.Rules
 omega
theorem k4j {g:Gm_}(h:Sz.szd g≤1048576):z6A g=some (z7Y g):=by
 have hl:=j9G h
 unfold z6A z7Y
 have h1:=(z5n (bad:=z5o) (nm:=fun y:Symbol=>y.Name) (c:=fun k=>(k:Int)) (all:=g.Symbols) (f:=fun k x _=>some (if z5o (g.Symbols.take k) x=true then .inr (k:Int) else .inl ())) (h:=z7C) (fun pre x post e=>by
   rw[show g.Symbols.take pre.length=pre by rw[e];simp]) (fun pre x post e=>by
  unfold z7C z5o
  rw[k6p (z4C h x (by rw[e];simp)),bsS]
  cases symB x with
  | false=>rfl
  | true=>
   have hp:pre.length≤1048576:=by
     have:g.Symbols.length=pre.length+(post.length+1):=by rw[e];simp
     omega
   rw[ifP rfl,k4d,bsS,List.any_map,q3N (by rw[lnM];constructor<;>omega),List.map_append,← apply_ite some];rfl) g.Symbols [] rfl).2
 have h2:=(z5n (bad:=z1F) (nm:=fun y:Rule=>y.Name) (c:=fun k=>(k:Int)) (all:=g.Rules) (f:=fun k x _=>some (if z1F (g.Rules.take k) x=true then .inr (k:Int) else .inl ())) (h:=z7D) (fun pre x post e=>by
   rw[show g.Rules.take pre.length=pre by rw[e];simp]) (fun pre x post e=>by
  unfold z7D z1F
  rw[k4h (Nat.le_trans (z3N (by rw[e];simp)) h),bsS]
  cases ruleB x with
  | false=>rfl
  | true=>
   have hp:pre.length≤1048576:=by
     have:g.Rules.length=pre.length+(post.length+1):=by rw[e];simp
     omega
   rw[ifP rfl,k4d,bsS,List.any_map,q3N (by rw[lnM];constructor<;>omega),List.map_append,← apply_ite some];rfl) g.Rules [] rfl).2
 rw[show findL z7C 0 g.Symbols []=_ from h1,show findL z7D 0 g.Rules []=_ from h2]
 cases q4M z5o [] g.Symbols with
 | some k=>rfl
 | none=>cases q4M z1F [] g.Rules<;>rfl
end Go.Proofs.YtipikecbeganoaaGreat
