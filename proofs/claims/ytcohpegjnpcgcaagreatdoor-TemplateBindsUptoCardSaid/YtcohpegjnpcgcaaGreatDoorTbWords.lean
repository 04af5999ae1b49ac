/- Proved here: the words of the functional texts and plain facts on them. -/
import GoSem.Core.Sem
import GoSem.Core.Utf8
import GoSem.Op.IntArith
import GoSem.Op.String
set_option linter.unusedVariables false
set_option linter.unusedSimpArgs false
set_option linter.unusedSectionVars false
namespace Go.Ft
open Go
abbrev Str :=List UInt8
abbrev dA (n:Int):Int:=IntKind.i64.wrap n
def BIG :Nat:=18446744073709551616
def OU :Nat:=4294967296
def idx {α:Type} (l:List α) (i:Int):Option α:=if 0≤i then l[i.toNat]? else none
def sl {α:Type} (l:List α) (a b:Int):Option (List α):=if 0≤a∧a≤b∧b≤l.length then some ((l.take b.toNat).drop a.toNat) else none
def app {α:Type} (l m:List α):Option (List α):=if l.length + m.length≤OU then some (l ++ m) else none
def dec (s:Str) (pos:Nat):Nat × Nat:=Utf8.decode ⟨s.toArray⟩ pos
def Ej :List (Str × Int)→Str→Int
 | [],_=>0
 | (k',v) :: r,k=>if k == k' then v else Ej r k
def Bf :List (Str × Int)→Str→Int→List (Str × Int)
 | [],k,n=>[(k,n)]
 | (k',v) :: r,k,n=>if k == k' then (k',n) :: r else (k',v) :: Bf r k n
def chk (b:Bool):Option Unit:=if b then some () else none
def byteOf (n:Int):UInt8:=UInt8.ofNat (n % 256).toNat
def ay {α ρ:Type} (x:Option α) (f:α→Option ρ):Option ρ:=match x with | some a=>f a | none=>none
def fJ {α β ρ:Type} (x:Option (α × β)) (f:α→β→Option ρ):Option ρ:=match x with | some (a,b)=>f a b | none=>none
def wL {α β γ ρ:Type} (x:Option (α × β × γ)) (f:α→β→γ→Option ρ):Option ρ:=match x with | some (a,b,c)=>f a b c | none=>none
def VW {α β γ δ ρ:Type} (x:Option (α × β × γ × δ)) (f:α→β→γ→δ→Option ρ):Option ρ:=match x with | some (a,b,c,d)=>f a b c d | none=>none
def VU {α β γ δ ε ρ:Type} (x:Option (α × β × γ × δ × ε)) (f:α→β→γ→δ→ε→Option ρ):Option ρ:=match x with | some (a,b,c,d,e)=>f a b c d e | none=>none
inductive eX (ε α:Type) where
 | ok (a:α)
 | bad (e:ε)
def f_ {ε α ρ:Type} (x:Option (eX ε α)) (g:ε→Option ρ) (f:α→Option ρ):Option ρ:=match x with | some (.ok a)=>f a | some (.bad e)=>g e | none=>none
def jk {ε α σ ρ:Type} (x:Option (eX ε α × σ)) (g:ε→σ→Option ρ) (f:α→σ→Option ρ):Option ρ:=match x with | some (.ok a,s)=>f a s | some (.bad e,s)=>g e s | none=>none
section
variable {α β γ δ ε ρ : Type}
theorem bS {x:Option (eX ε α)} {g:ε→Option ρ} {f:α→Option ρ} {r:ρ} (h:f_ x g f=some r):(∃ e,x=some (.bad e)∧g e=some r)∨∃ a,x=some (.ok a)∧f a=some r:=by
 match x,h with
 | some (.ok a),h=>exact .inr ⟨a,rfl,h⟩
 | some (.bad e),h=>exact .inl ⟨e,rfl,h⟩
theorem dV {x:Option (eX ε α × β)} {g:ε→β→Option ρ} {f:α→β→Option ρ} {r:ρ} (h:jk x g f=some r):(∃ e s,x=some (.bad e,s)∧g e s=some r)∨∃ a s,x=some (.ok a,s)∧f a s=some r:=by
 match x,h with
 | some (.ok a,s),h=>exact .inr ⟨a,s,rfl,h⟩
 | some (.bad e,s),h=>exact .inl ⟨e,s,rfl,h⟩
@[simp] theorem agd (a:α) (g:ε→Option ρ) (f:α→Option ρ):f_ (some (.ok a)) g f=f a:=rfl
@[simp] theorem aeH (e:ε) (g:ε→Option ρ) (f:α→Option ρ):f_ (some (.bad e)) g f=g e:=rfl
@[simp] theorem aeI (a:α) (s:β) (g:ε→β→Option ρ) (f:α→β→Option ρ):jk (some (.ok a,s)) g f=f a s:=rfl
@[simp] theorem ael (e:ε) (s:β) (g:ε→β→Option ρ) (f:α→β→Option ρ):jk (some (.bad e,s)) g f=g e s:=rfl
@[simp] theorem bA (a:α) (f:α→Option ρ):ay (some a) f=f a:=rfl
@[simp] theorem aev (f:α→Option ρ):ay none f=none:=rfl
@[simp] theorem u6 (a:α) (b:β) (f:α→β→Option ρ):fJ (some (a,b)) f=f a b:=rfl
@[simp] theorem aeu (f:α→β→Option ρ):fJ none f=none:=rfl
@[simp] theorem aer (a:α) (b:β) (c:γ) (f:α→β→γ→Option ρ):wL (some (a,b,c)) f=f a b c:=rfl
@[simp] theorem aes (f:α→β→γ→Option ρ):wL none f=none:=rfl
@[simp] theorem aeo (a:α) (b:β) (c:γ) (d:δ) (f:α→β→γ→δ→Option ρ):VW (some (a,b,c,d)) f=f a b c d:=rfl
@[simp] theorem aep (f:α→β→γ→δ→Option ρ):VW none f=none:=rfl
@[simp] theorem aem (a:α) (b:β) (c:γ) (d:δ) (e:ε) (f:α→β→γ→δ→ε→Option ρ):VU (some (a,b,c,d,e)) f=f a b c d e:=rfl
@[simp] theorem aen (f:α→β→γ→δ→ε→Option ρ):VU none f=none:=rfl
theorem JG {x:Option α} {f:α→Option ρ} {r:ρ} (h:ay x f=some r):∃ a,x=some a∧f a=some r:=by
 cases x with
 | none=>cases h
 | some a=>exact ⟨a,rfl,h⟩
theorem bP {x:Option (α × β)} {f:α→β→Option ρ} {r:ρ} (h:fJ x f=some r):∃ a b,x=some (a,b)∧f a b=some r:=by
 cases x with
 | none=>cases h
 | some a=>exact ⟨a.1,a.2,rfl,h⟩
theorem jM {x:Option (α × β × γ)} {f:α→β→γ→Option ρ} {r:ρ} (h:wL x f=some r):∃ a b c,x=some (a,b,c)∧f a b c=some r:=by
 cases x with
 | none=>cases h
 | some a=>exact ⟨a.1,a.2.1,a.2.2,rfl,h⟩
@[simp] theorem aeL (x:Option α):ay x (fun a=>some a)=x:=by cases x <;> rfl
@[simp] theorem JF (x:Option (α × β)):fJ x (fun a b=>some (a,b))=x:=by cases x <;> rfl
@[simp] theorem Fa (x:Option (α × β × γ)):wL x (fun a b c=>some (a,b,c))=x:=by cases x <;> rfl
@[simp] theorem aeK (x:Option (α × β × γ × δ)):VW x (fun a b c d=>some (a,b,c,d))=x:=by cases x <;> rfl
@[simp] theorem aeJ (x:Option (α × β × γ × δ × ε)):VU x (fun a b c d e=>some (a,b,c,d,e))=x:=by cases x <;> rfl
theorem ab9 {x y:Option α} {f:α→Option ρ} (h:x=y):ay x f=ay y f:=by rw [h]
theorem ab8 {x y:Option (α × β)} {f:α→β→Option ρ} (h:x=y):fJ x f=fJ y f:=by rw [h]
theorem ab7 {x y:Option (α × β × γ)} {f:α→β→γ→Option ρ} (h:x=y):wL x f=wL y f:=by rw [h]
theorem ab6 {x y:Option (α × β × γ × δ)} {f:α→β→γ→δ→Option ρ} (h:x=y):VW x f=VW y f:=by rw [h]
theorem ab5 {x y:Option (α × β × γ × δ × ε)} {f:α→β→γ→δ→ε→Option ρ} (h:x=y):VU x f=VU y f:=by rw [h]
theorem FV {c d:Prop} {ic:Decidable c} {jc:Decidable d} {x y:α} (h:c=d):@ite α c ic x y=@ite α d jc x y:=by
 subst h
 cases ic with
 | isTrue h=>cases jc with
  | isTrue h'=>rfl
  | isFalse h'=>exact absurd h h'
 | isFalse h=>cases jc with
  | isTrue h'=>exact absurd h' h
  | isFalse h'=>rfl
attribute [congr] ab9 ab8 ab7 ab6 ab5
theorem jm {b:Bool} {x y r:α} (h:b=true) (hf:(if b=true then x else y)=r):x=r:=by rw [if_pos h] at hf; exact hf
theorem iO {b:Bool} {x y r:α} (h:b=false) (hf:(if b=true then x else y)=r):y=r:=by rw [if_neg (by simp [h])] at hf; exact hf
theorem bT {r:α} {P:Prop} (h:(none:Option α)=some r):P:=by cases h
theorem uL {l:List α} {i:Int} {a:α} (h:idx l i=some a):0≤i∧l[i.toNat]?=some a:=by
 unfold idx at h
 split at h
 · exact ⟨by assumption,h⟩
 · cases h
theorem abX (l:List α) (i:Nat):idx l (i:Int)=l[i]?:=by simp [idx]
theorem XK {l r:List α} {a b:Int} (h:sl l a b=some r):0≤a∧a≤b∧b≤l.length∧r=(l.take b.toNat).drop a.toNat:=by
 unfold sl at h
 split at h
 ·
  rename_i hc
  simp only [Option.some.injEq] at h
  exact ⟨hc.1,hc.2.1,hc.2.2,h.symm⟩
 · cases h
theorem UU {l:List α} {a b:Int} (h0:0≤a) (h1:a≤b) (h2:b≤l.length):sl l a b=some ((l.take b.toNat).drop a.toNat):=by
 unfold sl; rw [if_pos ⟨h0,h1,h2⟩]
theorem jS {l m r:List α} (h:app l m=some r):l.length + m.length≤OU∧r=l ++ m:=by
 unfold app at h
 split at h
 ·
  simp only [Option.some.injEq] at h
  exact ⟨by assumption,h.symm⟩
 · cases h
theorem Xm {l m:List α} (h:l.length + m.length≤OU):app l m=some (l ++ m):=by unfold app; rw [if_pos h]
theorem VB {b:Bool} {u:Unit} (h:chk b=some u):b=true:=by
 unfold chk at h
 split at h
 · assumption
 · cases h
end
theorem abx {n:Int} (h1:-9223372036854775808≤n) (h2:n≤9223372036854775807):IntKind.i64.wrap n=n:=by
 simp [IntKind.wrap,IntKind.bits,IntKind.signed]
 omega
theorem byteOf_toNat (n:Int):((byteOf n).toNat:Int)=IntKind.u8.wrap n:=by
 simp [byteOf,IntKind.wrap,IntKind.bits,IntKind.signed]
 omega
def fD (c:UInt8):Bool:=(decide (48≤(c.toNat:Int))) && (decide ((c.toNat:Int)≤57))
def jL (p:UInt8→Bool) (l:Str):Nat:=(l.takeWhile p).length
def dz (s:Str):Str:=s.dropWhile fun c=>(c.toNat:Int) == 48
def tO :List Nat→List Nat→Int
 | [],[]=>0
 | [],_ :: _=>-1
 | _ :: _,[]=>1
 | a :: l,b :: m=>if a < b then -1 else if b < a then 1 else tO l m
def P_ :Nat→Str→List Nat
 | 0,_=>[]
 | _ + 1,[]=>[]
 | k + 1,c :: s=>if fD c then
   48 :: (dz ((c :: s).take (jL fD (c :: s)))).length :: ((dz ((c :: s).take (jL fD (c :: s)))).map UInt8.toNat ++ jL fD (c :: s) :: P_ k ((c :: s).drop (jL fD (c :: s))))
  else c.toNat :: P_ k s
def key (s:Str):List Nat:=P_ s.length s
def l8 (a b:Str):Int:=tO (key a) (key b)
def ZO {α:Type} (k:α→Str) (l:List α):Option (List α):=
 if l.length≤OU∧(∀ x∈l,(k x).length < 4611686018427387904)∧(l.map k).Nodup then some (l.mergeSort fun x y=>!decide (l8 (k y) (k x) < 0)) else none
def Bh :Str→Str→Option Nat
 | [],t=>if t.isEmpty then some 0 else none
 | b :: l,t=>if t.isPrefixOf (b :: l) then some 0 else (Bh l t).map (· + 1)
def Fx (t:Str):Nat→Str→List Str
 | 0,s=>[s]
 | k + 1,s=>match Bh s t with
  | none=>[s]
  | some i=>s.take i :: Fx t k (s.drop (i + t.length))
def NC :List Str→Str→Str
 | [],_=>[]
 | [x],_=>x
 | x :: y :: r,t=>x ++ (t ++ NC (y :: r) t)
def YR :Nat→Nat→Str
 | 0,_=>[]
 | k + 1,u=>if u < 10 then [UInt8.ofNat (48 + u)] else YR k (u / 10) ++ [UInt8.ofNat (48 + u % 10)]
def XZ (n:Int):Str:=if n < 0 then 45 :: YR 20 n.natAbs else YR 20 n.toNat
def abU (acc:Nat):Str→Nat × Nat
 | []=>(0,acc)
 | c :: r=>
  if 48≤c.toNat∧c.toNat≤57 then
   if 1844674407370955162≤acc then (2,0)
   else if 18446744073709551616≤acc * 10 + (c.toNat - 48) then (2,0)
   else abU (acc * 10 + (c.toNat - 48)) r
  else (1,0)
def SX (l:Str):Nat × Int:=
 match l with
 | []=>(1,0)
 | c :: r=>
  let m:=if (if c.toNat=43∨c.toNat=45 then r else l)=[] then (1,0) else abU 0 (if c.toNat=43∨c.toNat=45 then r else l)
  if m.1=1 then (1,0)
  else if m.1=2 then (2,if c.toNat=45 then -9223372036854775808 else 9223372036854775807)
  else if c.toNat≠45∧9223372036854775808≤m.2 then (2,if c.toNat=45 then -9223372036854775808 else 9223372036854775807)
  else if c.toNat=45∧9223372036854775808 < m.2 then (2,if c.toNat=45 then -9223372036854775808 else 9223372036854775807)
  else (0,if c.toNat=45 then -(m.2:Int) else m.2)
end Go.Ft
