/- Proved here: the words of the functional texts and plain facts on them. -/
import GoSem.Core.Sem
import GoSem.Core.Utf8
import GoSem.Op.IntArith
import GoSem.Op.String
set_option linter.unusedVariables false
set_option linter.unusedSimpArgs false
set_option linter.unusedSectionVars false
namespace Go.Ft
open Go
abbrev Str :=List UInt8
abbrev fU (n:Int):Int:=IntKind.i64.wrap n
def BIG :Nat:=18446744073709551616
def E9 :Nat:=4294967296
def idx {α:Type} (l:List α) (i:Int):Option α:=if 0≤i then l[i.toNat]? else none
def sl {α:Type} (l:List α) (a b:Int):Option (List α):=if 0≤a∧a≤b∧b≤l.length then some ((l.take b.toNat).drop a.toNat) else none
def app {α:Type} (l m:List α):Option (List α):=if l.length + m.length≤E9 then some (l ++ m) else none
def aV {α ρ:Type} (x:Option α) (f:α→Option ρ):Option ρ:=match x with | some a=>f a | none=>none
def nK {α β ρ:Type} (x:Option (α × β)) (f:α→β→Option ρ):Option ρ:=match x with | some (a,b)=>f a b | none=>none
def Ba {α β γ ρ:Type} (x:Option (α × β × γ)) (f:α→β→γ→Option ρ):Option ρ:=match x with | some (a,b,c)=>f a b c | none=>none
def A_ {α β γ δ ρ:Type} (x:Option (α × β × γ × δ)) (f:α→β→γ→δ→Option ρ):Option ρ:=match x with | some (a,b,c,d)=>f a b c d | none=>none
def A9 {α β γ δ ε ρ:Type} (x:Option (α × β × γ × δ × ε)) (f:α→β→γ→δ→ε→Option ρ):Option ρ:=match x with | some (a,b,c,d,e)=>f a b c d e | none=>none
inductive Mh (ε α:Type) where
 | ok (a:α)
 | bad (e:ε)
def Gw {ε α ρ:Type} (x:Option (Mh ε α)) (g:ε→Option ρ) (f:α→Option ρ):Option ρ:=match x with | some (.ok a)=>f a | some (.bad e)=>g e | none=>none
def EN {ε α σ ρ:Type} (x:Option (Mh ε α × σ)) (g:ε→σ→Option ρ) (f:α→σ→Option ρ):Option ρ:=match x with | some (.ok a,s)=>f a s | some (.bad e,s)=>g e s | none=>none
section
variable {α β γ δ ε ρ : Type}
@[simp] theorem J4 (a:α) (g:ε→Option ρ) (f:α→Option ρ):Gw (some (.ok a)) g f=f a:=rfl
@[simp] theorem Im (e:ε) (g:ε→Option ρ) (f:α→Option ρ):Gw (some (.bad e)) g f=g e:=rfl
@[simp] theorem Io (a:α) (s:β) (g:ε→β→Option ρ) (f:α→β→Option ρ):EN (some (.ok a,s)) g f=f a s:=rfl
@[simp] theorem Hw (e:ε) (s:β) (g:ε→β→Option ρ) (f:α→β→Option ρ):EN (some (.bad e,s)) g f=g e s:=rfl
@[simp] theorem bK (a:α) (f:α→Option ρ):aV (some a) f=f a:=rfl
@[simp] theorem H8 (f:α→Option ρ):aV none f=none:=rfl
@[simp] theorem BO (a:α) (b:β) (f:α→β→Option ρ):nK (some (a,b)) f=f a b:=rfl
@[simp] theorem H7 (f:α→β→Option ρ):nK none f=none:=rfl
@[simp] theorem HZ (a:α) (b:β) (c:γ) (f:α→β→γ→Option ρ):Ba (some (a,b,c)) f=f a b c:=rfl
@[simp] theorem H6 (f:α→β→γ→Option ρ):Ba none f=none:=rfl
@[simp] theorem HV (a:α) (b:β) (c:γ) (d:δ) (f:α→β→γ→δ→Option ρ):A_ (some (a,b,c,d)) f=f a b c d:=rfl
@[simp] theorem HY (f:α→β→γ→δ→Option ρ):A_ none f=none:=rfl
@[simp] theorem Hy (a:α) (b:β) (c:γ) (d:δ) (e:ε) (f:α→β→γ→δ→ε→Option ρ):A9 (some (a,b,c,d,e)) f=f a b c d e:=rfl
@[simp] theorem Hz (f:α→β→γ→δ→ε→Option ρ):A9 none f=none:=rfl
theorem Dq {x:Option α} {f:α→Option ρ} {r:ρ} (h:aV x f=some r):∃ a,x=some a∧f a=some r:=by
 cases x with
 | none=>cases h
 | some a=>exact ⟨a,rfl,h⟩
theorem o8 {x:Option (α × β)} {f:α→β→Option ρ} {r:ρ} (h:nK x f=some r):∃ a b,x=some (a,b)∧f a b=some r:=by
 cases x with
 | none=>cases h
 | some a=>exact ⟨a.1,a.2,rfl,h⟩
@[simp] theorem Iw (x:Option α):aV x (fun a=>some a)=x:=by cases x <;> rfl
@[simp] theorem Iu (x:Option (α × β)):nK x (fun a b=>some (a,b))=x:=by cases x <;> rfl
@[simp] theorem Ir (x:Option (α × β × γ)):Ba x (fun a b c=>some (a,b,c))=x:=by cases x <;> rfl
@[simp] theorem Iq (x:Option (α × β × γ × δ)):A_ x (fun a b c d=>some (a,b,c,d))=x:=by cases x <;> rfl
@[simp] theorem Ip (x:Option (α × β × γ × δ × ε)):A9 x (fun a b c d e=>some (a,b,c,d,e))=x:=by cases x <;> rfl
theorem FU {x y:Option α} {f:α→Option ρ} (h:x=y):aV x f=aV y f:=by rw [h]
theorem FT {x y:Option (α × β)} {f:α→β→Option ρ} (h:x=y):nK x f=nK y f:=by rw [h]
theorem FR {x y:Option (α × β × γ)} {f:α→β→γ→Option ρ} (h:x=y):Ba x f=Ba y f:=by rw [h]
theorem FQ {x y:Option (α × β × γ × δ)} {f:α→β→γ→δ→Option ρ} (h:x=y):A_ x f=A_ y f:=by rw [h]
theorem FP {x y:Option (α × β × γ × δ × ε)} {f:α→β→γ→δ→ε→Option ρ} (h:x=y):A9 x f=A9 y f:=by rw [h]
theorem yF {c d:Prop} {ic:Decidable c} {jc:Decidable d} {x y:α} (h:c=d):@ite α c ic x y=@ite α d jc x y:=by
 subst h
 cases ic with
 | isTrue h=>cases jc with
  | isTrue h'=>rfl
  | isFalse h'=>exact absurd h h'
 | isFalse h=>cases jc with
  | isTrue h'=>exact absurd h' h
  | isFalse h'=>rfl
attribute [congr] FU FT FR FQ FP
theorem uU {b:Bool} {x y r:α} (h:b=true) (hf:(if b=true then x else y)=r):x=r:=by rw [if_pos h] at hf; exact hf
theorem sH {b:Bool} {x y r:α} (h:b=false) (hf:(if b=true then x else y)=r):y=r:=by rw [if_neg (by simp [h])] at hf; exact hf
theorem dN {r:α} {P:Prop} (h:(none:Option α)=some r):P:=by cases h
theorem Ay {l:List α} {i:Int} {a:α} (h:idx l i=some a):0≤i∧l[i.toNat]?=some a:=by
 unfold idx at h
 split at h
 · exact ⟨by assumption,h⟩
 · cases h
theorem Fx (l:List α) (i:Nat):idx l (i:Int)=l[i]?:=by simp [idx]
theorem G6 {l:List α} {i:Int} (h0:0≤i) (h:i < l.length):idx l i=some (l[i.toNat]'(by omega)):=by
 unfold idx
 rw [if_pos h0,List.getElem?_eq_getElem]
theorem Fe {l r:List α} {a b:Int} (h:sl l a b=some r):0≤a∧a≤b∧b≤l.length∧r=(l.take b.toNat).drop a.toNat:=by
 unfold sl at h
 split at h
 ·
  rename_i hc
  simp only [Option.some.injEq] at h
  exact ⟨hc.1,hc.2.1,hc.2.2,h.symm⟩
 · cases h
theorem IZ {l:List α} {a b:Int} (h0:0≤a) (h1:a≤b) (h2:b≤l.length):sl l a b=some ((l.take b.toNat).drop a.toNat):=by
 unfold sl; rw [if_pos ⟨h0,h1,h2⟩]
theorem kD {l m r:List α} (h:app l m=some r):l.length + m.length≤E9∧r=l ++ m:=by
 unfold app at h
 split at h
 ·
  simp only [Option.some.injEq] at h
  exact ⟨by assumption,h.symm⟩
 · cases h
theorem ES {l m:List α} (h:l.length + m.length≤E9):app l m=some (l ++ m):=by unfold app; rw [if_pos h]
end
theorem E_ {n:Int} (h1:-9223372036854775808≤n) (h2:n≤9223372036854775807):IntKind.i64.wrap n=n:=by
 simp [IntKind.wrap,IntKind.bits,IntKind.signed]
 omega
def Aw (c:UInt8):Bool:=(decide (48≤(c.toNat:Int))) && (decide ((c.toNat:Int)≤57))
def BX (p:UInt8→Bool) (l:Str):Nat:=(l.takeWhile p).length
def dz (s:Str):Str:=s.dropWhile fun c=>(c.toNat:Int) == 48
def G5 :Nat→Str→List Nat
 | 0,_=>[]
 | _ + 1,[]=>[]
 | k + 1,c :: s=>if Aw c then
   48 :: (dz ((c :: s).take (BX Aw (c :: s)))).length :: ((dz ((c :: s).take (BX Aw (c :: s)))).map UInt8.toNat ++ BX Aw (c :: s) :: G5 k ((c :: s).drop (BX Aw (c :: s))))
  else c.toNat :: G5 k s
def key (s:Str):List Nat:=G5 s.length s
end Go.Ft
