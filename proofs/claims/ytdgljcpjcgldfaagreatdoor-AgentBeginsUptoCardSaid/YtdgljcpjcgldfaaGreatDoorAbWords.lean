/- Proved here: the words of the functional texts and plain facts on them. -/
import GoSem.Core.Sem
import GoSem.Core.Utf8
import GoSem.Op.IntArith
import GoSem.Op.String
set_option linter.unusedVariables false
set_option linter.unusedSimpArgs false
set_option linter.unusedSectionVars false
namespace Go.Ft
open Go
abbrev Str :=List UInt8
abbrev fJ (n:Int):Int:=IntKind.i64.wrap n
def BIG :Nat:=18446744073709551616
def Jg :Nat:=4294967296
def idx {α:Type} (l:List α) (i:Int):Option α:=if 0≤i then l[i.toNat]? else none
def sl {α:Type} (l:List α) (a b:Int):Option (List α):=if 0≤a∧a≤b∧b≤l.length then some ((l.take b.toNat).drop a.toNat) else none
def app {α:Type} (l m:List α):Option (List α):=if l.length + m.length≤Jg then some (l ++ m) else none
def oD :List (Str × Int)→Str→Int
 | [],_=>0
 | (k',v) :: r,k=>if k == k' then v else oD r k
def m_ :List (Str × Int)→Str→Int→List (Str × Int)
 | [],k,n=>[(k,n)]
 | (k',v) :: r,k,n=>if k == k' then (k',n) :: r else (k',v) :: m_ r k n
def aj {α ρ:Type} (x:Option α) (f:α→Option ρ):Option ρ:=match x with | some a=>f a | none=>none
def mF {α β ρ:Type} (x:Option (α × β)) (f:α→β→Option ρ):Option ρ:=match x with | some (a,b)=>f a b | none=>none
def qI {α β γ ρ:Type} (x:Option (α × β × γ)) (f:α→β→γ→Option ρ):Option ρ:=match x with | some (a,b,c)=>f a b c | none=>none
def CO {α β γ δ ρ:Type} (x:Option (α × β × γ × δ)) (f:α→β→γ→δ→Option ρ):Option ρ:=match x with | some (a,b,c,d)=>f a b c d | none=>none
def CK {α β γ δ ε ρ:Type} (x:Option (α × β × γ × δ × ε)) (f:α→β→γ→δ→ε→Option ρ):Option ρ:=match x with | some (a,b,c,d,e)=>f a b c d e | none=>none
inductive NG (ε α:Type) where
 | ok (a:α)
 | bad (e:ε)
def Jf {ε α ρ:Type} (x:Option (NG ε α)) (g:ε→Option ρ) (f:α→Option ρ):Option ρ:=match x with | some (.ok a)=>f a | some (.bad e)=>g e | none=>none
def GZ {ε α σ ρ:Type} (x:Option (NG ε α × σ)) (g:ε→σ→Option ρ) (f:α→σ→Option ρ):Option ρ:=match x with | some (.ok a,s)=>f a s | some (.bad e,s)=>g e s | none=>none
section
variable {α β γ δ ε ρ : Type}
@[simp] theorem LH (a:α) (g:ε→Option ρ) (f:α→Option ρ):Jf (some (.ok a)) g f=f a:=rfl
@[simp] theorem Kw (e:ε) (g:ε→Option ρ) (f:α→Option ρ):Jf (some (.bad e)) g f=g e:=rfl
@[simp] theorem Ky (a:α) (s:β) (g:ε→β→Option ρ) (f:α→β→Option ρ):GZ (some (.ok a,s)) g f=f a s:=rfl
@[simp] theorem J8 (e:ε) (s:β) (g:ε→β→Option ρ) (f:α→β→Option ρ):GZ (some (.bad e,s)) g f=g e s:=rfl
@[simp] theorem ay (a:α) (f:α→Option ρ):aj (some a) f=f a:=rfl
@[simp] theorem Kh (f:α→Option ρ):aj none f=none:=rfl
@[simp] theorem lU (a:α) (b:β) (f:α→β→Option ρ):mF (some (a,b)) f=f a b:=rfl
@[simp] theorem Kg (f:α→β→Option ρ):mF none f=none:=rfl
@[simp] theorem ru (a:α) (b:β) (c:γ) (f:α→β→γ→Option ρ):qI (some (a,b,c)) f=f a b c:=rfl
@[simp] theorem Ke (f:α→β→γ→Option ρ):qI none f=none:=rfl
@[simp] theorem Ka (a:α) (b:β) (c:γ) (d:δ) (f:α→β→γ→δ→Option ρ):CO (some (a,b,c,d)) f=f a b c d:=rfl
@[simp] theorem Kc (f:α→β→γ→δ→Option ρ):CO none f=none:=rfl
@[simp] theorem J9 (a:α) (b:β) (c:γ) (d:δ) (e:ε) (f:α→β→γ→δ→ε→Option ρ):CK (some (a,b,c,d,e)) f=f a b c d e:=rfl
@[simp] theorem J_ (f:α→β→γ→δ→ε→Option ρ):CK none f=none:=rfl
theorem Fe {x:Option α} {f:α→Option ρ} {r:ρ} (h:aj x f=some r):∃ a,x=some a∧f a=some r:=by
 cases x with
 | none=>cases h
 | some a=>exact ⟨a,rfl,h⟩
theorem jo {x:Option (α × β)} {f:α→β→Option ρ} {r:ρ} (h:mF x f=some r):∃ a b,x=some (a,b)∧f a b=some r:=by
 cases x with
 | none=>cases h
 | some a=>exact ⟨a.1,a.2,rfl,h⟩
theorem za {x:Option (α × β × γ)} {f:α→β→γ→Option ρ} {r:ρ} (h:qI x f=some r):∃ a b c,x=some (a,b,c)∧f a b c=some r:=by
 cases x with
 | none=>cases h
 | some a=>exact ⟨a.1,a.2.1,a.2.2,rfl,h⟩
@[simp] theorem KD (x:Option α):aj x (fun a=>some a)=x:=by cases x <;> rfl
@[simp] theorem Fb (x:Option (α × β)):mF x (fun a b=>some (a,b))=x:=by cases x <;> rfl
@[simp] theorem KC (x:Option (α × β × γ)):qI x (fun a b c=>some (a,b,c))=x:=by cases x <;> rfl
@[simp] theorem KA (x:Option (α × β × γ × δ)):CO x (fun a b c d=>some (a,b,c,d))=x:=by cases x <;> rfl
@[simp] theorem Kz (x:Option (α × β × γ × δ × ε)):CK x (fun a b c d e=>some (a,b,c,d,e))=x:=by cases x <;> rfl
theorem IG {x y:Option α} {f:α→Option ρ} (h:x=y):aj x f=aj y f:=by rw [h]
theorem IE {x y:Option (α × β)} {f:α→β→Option ρ} (h:x=y):mF x f=mF y f:=by rw [h]
theorem IC {x y:Option (α × β × γ)} {f:α→β→γ→Option ρ} (h:x=y):qI x f=qI y f:=by rw [h]
theorem IB {x y:Option (α × β × γ × δ)} {f:α→β→γ→δ→Option ρ} (h:x=y):CO x f=CO y f:=by rw [h]
theorem Iz {x y:Option (α × β × γ × δ × ε)} {f:α→β→γ→δ→ε→Option ρ} (h:x=y):CK x f=CK y f:=by rw [h]
theorem tC {c d:Prop} {ic:Decidable c} {jc:Decidable d} {x y:α} (h:c=d):@ite α c ic x y=@ite α d jc x y:=by
 subst h
 cases ic with
 | isTrue h=>cases jc with
  | isTrue h'=>rfl
  | isFalse h'=>exact absurd h h'
 | isFalse h=>cases jc with
  | isTrue h'=>exact absurd h' h
  | isFalse h'=>rfl
attribute [congr] IG IE IC IB Iz
theorem wL {b:Bool} {x y r:α} (h:b=true) (hf:(if b=true then x else y)=r):x=r:=by rw [if_pos h] at hf; exact hf
theorem uj {b:Bool} {x y r:α} (h:b=false) (hf:(if b=true then x else y)=r):y=r:=by rw [if_neg (by simp [h])] at hf; exact hf
theorem bY {r:α} {P:Prop} (h:(none:Option α)=some r):P:=by cases h
theorem pE {l:List α} {i:Int} {a:α} (h:idx l i=some a):0≤i∧l[i.toNat]?=some a:=by
 unfold idx at h
 split at h
 · exact ⟨by assumption,h⟩
 · cases h
theorem Ic (l:List α) (i:Nat):idx l (i:Int)=l[i]?:=by simp [idx]
theorem Hw {l r:List α} {a b:Int} (h:sl l a b=some r):0≤a∧a≤b∧b≤l.length∧r=(l.take b.toNat).drop a.toNat:=by
 unfold sl at h
 split at h
 ·
  rename_i hc
  simp only [Option.some.injEq] at h
  exact ⟨hc.1,hc.2.1,hc.2.2,h.symm⟩
 · cases h
theorem DU {l:List α} {a b:Int} (h0:0≤a) (h1:a≤b) (h2:b≤l.length):sl l a b=some ((l.take b.toNat).drop a.toNat):=by
 unfold sl; rw [if_pos ⟨h0,h1,h2⟩]
theorem sw {l m r:List α} (h:app l m=some r):l.length + m.length≤Jg∧r=l ++ m:=by
 unfold app at h
 split at h
 ·
  simp only [Option.some.injEq] at h
  exact ⟨by assumption,h.symm⟩
 · cases h
theorem Dz {l m:List α} (h:l.length + m.length≤Jg):app l m=some (l ++ m):=by unfold app; rw [if_pos h]
end
theorem Hq {n:Int} (h1:-9223372036854775808≤n) (h2:n≤9223372036854775807):IntKind.i64.wrap n=n:=by
 simp [IntKind.wrap,IntKind.bits,IntKind.signed]
 omega
def aW (c:UInt8):Bool:=(decide (48≤(c.toNat:Int))) && (decide ((c.toNat:Int)≤57))
def dF (p:UInt8→Bool) (l:Str):Nat:=(l.takeWhile p).length
def dz (s:Str):Str:=s.dropWhile fun c=>(c.toNat:Int) == 48
def oF :List Nat→List Nat→Int
 | [],[]=>0
 | [],_ :: _=>-1
 | _ :: _,[]=>1
 | a :: l,b :: m=>if a < b then -1 else if b < a then 1 else oF l m
def wI :Nat→Str→List Nat
 | 0,_=>[]
 | _ + 1,[]=>[]
 | k + 1,c :: s=>if aW c then
   48 :: (dz ((c :: s).take (dF aW (c :: s)))).length :: ((dz ((c :: s).take (dF aW (c :: s)))).map UInt8.toNat ++ dF aW (c :: s) :: wI k ((c :: s).drop (dF aW (c :: s))))
  else c.toNat :: wI k s
def key (s:Str):List Nat:=wI s.length s
def iY (a b:Str):Int:=oF (key a) (key b)
def dK :Str→Str→Option Nat
 | [],t=>if t.isEmpty then some 0 else none
 | b :: l,t=>if t.isPrefixOf (b :: l) then some 0 else (dK l t).map (· + 1)
end Go.Ft
