/- Proved here: the words of the functional texts and plain facts on them. -/
import GoSem.Core.Sem
import GoSem.Core.Utf8
import GoSem.Op.IntArith
import GoSem.Op.String
set_option linter.unusedVariables false
set_option linter.unusedSimpArgs false
set_option linter.unusedSectionVars false
namespace Go.Ft
open Go
abbrev Str :=List UInt8
abbrev bW (n:Int):Int:=IntKind.i64.wrap n
def BIG :Nat:=18446744073709551616
def GD :Nat:=4294967296
def idx {α:Type} (l:List α) (i:Int):Option α:=if 0≤i then l[i.toNat]? else none
def sl {α:Type} (l:List α) (a b:Int):Option (List α):=if 0≤a∧a≤b∧b≤l.length then some ((l.take b.toNat).drop a.toNat) else none
def app {α:Type} (l m:List α):Option (List α):=if l.length + m.length≤GD then some (l ++ m) else none
def dec (s:Str) (pos:Nat):Nat × Nat:=Utf8.decode ⟨s.toArray⟩ pos
def uw :List (Str × Int)→Str→Int
 | [],_=>0
 | (k',v) :: r,k=>if k == k' then v else uw r k
def pW :List (Str × Int)→Str→Int→List (Str × Int)
 | [],k,n=>[(k,n)]
 | (k',v) :: r,k,n=>if k == k' then (k',n) :: r else (k',v) :: pW r k n
def Ll (b:Bool):Option Unit:=if b then some () else none
def byteOf (n:Int):UInt8:=UInt8.ofNat (n % 256).toNat
def aB {α ρ:Type} (x:Option α) (f:α→Option ρ):Option ρ:=match x with | some a=>f a | none=>none
def fG {α β ρ:Type} (x:Option (α × β)) (f:α→β→Option ρ):Option ρ:=match x with | some (a,b)=>f a b | none=>none
def qA {α β γ ρ:Type} (x:Option (α × β × γ)) (f:α→β→γ→Option ρ):Option ρ:=match x with | some (a,b,c)=>f a b c | none=>none
def Ea {α β γ δ ρ:Type} (x:Option (α × β × γ × δ)) (f:α→β→γ→δ→Option ρ):Option ρ:=match x with | some (a,b,c,d)=>f a b c d | none=>none
def D_ {α β γ δ ε ρ:Type} (x:Option (α × β × γ × δ × ε)) (f:α→β→γ→δ→ε→Option ρ):Option ρ:=match x with | some (a,b,c,d,e)=>f a b c d e | none=>none
inductive gB (ε α:Type) where
 | ok (a:α)
 | bad (e:ε)
def Ak {ε α ρ:Type} (x:Option (gB ε α)) (g:ε→Option ρ) (f:α→Option ρ):Option ρ:=match x with | some (.ok a)=>f a | some (.bad e)=>g e | none=>none
def jM {ε α σ ρ:Type} (x:Option (gB ε α × σ)) (g:ε→σ→Option ρ) (f:α→σ→Option ρ):Option ρ:=match x with | some (.ok a,s)=>f a s | some (.bad e,s)=>g e s | none=>none
section
variable {α β γ δ ε ρ : Type}
theorem uj {x:Option (gB ε α)} {g:ε→Option ρ} {f:α→Option ρ} {r:ρ} (h:Ak x g f=some r):(∃ e,x=some (.bad e)∧g e=some r)∨∃ a,x=some (.ok a)∧f a=some r:=by
 match x,h with
 | some (.ok a),h=>exact .inr ⟨a,rfl,h⟩
 | some (.bad e),h=>exact .inl ⟨e,rfl,h⟩
theorem eZ {x:Option (gB ε α × β)} {g:ε→β→Option ρ} {f:α→β→Option ρ} {r:ρ} (h:jM x g f=some r):(∃ e s,x=some (.bad e,s)∧g e s=some r)∨∃ a s,x=some (.ok a,s)∧f a s=some r:=by
 match x,h with
 | some (.ok a,s),h=>exact .inr ⟨a,s,rfl,h⟩
 | some (.bad e,s),h=>exact .inl ⟨e,s,rfl,h⟩
@[simp] theorem M8 (a:α) (g:ε→Option ρ) (f:α→Option ρ):Ak (some (.ok a)) g f=f a:=rfl
@[simp] theorem LU (e:ε) (g:ε→Option ρ) (f:α→Option ρ):Ak (some (.bad e)) g f=g e:=rfl
@[simp] theorem LV (a:α) (s:β) (g:ε→β→Option ρ) (f:α→β→Option ρ):jM (some (.ok a,s)) g f=f a s:=rfl
@[simp] theorem Lm (e:ε) (s:β) (g:ε→β→Option ρ) (f:α→β→Option ρ):jM (some (.bad e,s)) g f=g e s:=rfl
@[simp] theorem aJ (a:α) (f:α→Option ρ):aB (some a) f=f a:=rfl
@[simp] theorem LC (f:α→Option ρ):aB none f=none:=rfl
@[simp] theorem kM (a:α) (b:β) (f:α→β→Option ρ):fG (some (a,b)) f=f a b:=rfl
@[simp] theorem LB (f:α→β→Option ρ):fG none f=none:=rfl
@[simp] theorem Lx (a:α) (b:β) (c:γ) (f:α→β→γ→Option ρ):qA (some (a,b,c)) f=f a b c:=rfl
@[simp] theorem LA (f:α→β→γ→Option ρ):qA none f=none:=rfl
@[simp] theorem Lu (a:α) (b:β) (c:γ) (d:δ) (f:α→β→γ→δ→Option ρ):Ea (some (a,b,c,d)) f=f a b c d:=rfl
@[simp] theorem Lv (f:α→β→γ→δ→Option ρ):Ea none f=none:=rfl
@[simp] theorem Lp (a:α) (b:β) (c:γ) (d:δ) (e:ε) (f:α→β→γ→δ→ε→Option ρ):D_ (some (a,b,c,d,e)) f=f a b c d e:=rfl
@[simp] theorem Ls (f:α→β→γ→δ→ε→Option ρ):D_ none f=none:=rfl
theorem um {x:Option α} {f:α→Option ρ} {r:ρ} (h:aB x f=some r):∃ a,x=some a∧f a=some r:=by
 cases x with
 | none=>cases h
 | some a=>exact ⟨a,rfl,h⟩
theorem bE {x:Option (α × β)} {f:α→β→Option ρ} {r:ρ} (h:fG x f=some r):∃ a b,x=some (a,b)∧f a b=some r:=by
 cases x with
 | none=>cases h
 | some a=>exact ⟨a.1,a.2,rfl,h⟩
theorem kU {x:Option (α × β × γ)} {f:α→β→γ→Option ρ} {r:ρ} (h:qA x f=some r):∃ a b c,x=some (a,b,c)∧f a b c=some r:=by
 cases x with
 | none=>cases h
 | some a=>exact ⟨a.1,a.2.1,a.2.2,rfl,h⟩
@[simp] theorem LY (x:Option α):aB x (fun a=>some a)=x:=by cases x <;> rfl
@[simp] theorem BF (x:Option (α × β)):fG x (fun a b=>some (a,b))=x:=by cases x <;> rfl
@[simp] theorem Gm (x:Option (α × β × γ)):qA x (fun a b c=>some (a,b,c))=x:=by cases x <;> rfl
@[simp] theorem LX (x:Option (α × β × γ × δ)):Ea x (fun a b c d=>some (a,b,c,d))=x:=by cases x <;> rfl
@[simp] theorem LW (x:Option (α × β × γ × δ × ε)):D_ x (fun a b c d e=>some (a,b,c,d,e))=x:=by cases x <;> rfl
theorem JR {x y:Option α} {f:α→Option ρ} (h:x=y):aB x f=aB y f:=by rw [h]
theorem JQ {x y:Option (α × β)} {f:α→β→Option ρ} (h:x=y):fG x f=fG y f:=by rw [h]
theorem JO {x y:Option (α × β × γ)} {f:α→β→γ→Option ρ} (h:x=y):qA x f=qA y f:=by rw [h]
theorem JN {x y:Option (α × β × γ × δ)} {f:α→β→γ→δ→Option ρ} (h:x=y):Ea x f=Ea y f:=by rw [h]
theorem JM {x y:Option (α × β × γ × δ × ε)} {f:α→β→γ→δ→ε→Option ρ} (h:x=y):D_ x f=D_ y f:=by rw [h]
theorem Co {c d:Prop} {ic:Decidable c} {jc:Decidable d} {x y:α} (h:c=d):@ite α c ic x y=@ite α d jc x y:=by
 subst h
 cases ic with
 | isTrue h=>cases jc with
  | isTrue h'=>rfl
  | isFalse h'=>exact absurd h h'
 | isFalse h=>cases jc with
  | isTrue h'=>exact absurd h' h
  | isFalse h'=>rfl
attribute [congr] JR JQ JO JN JM
theorem gN {b:Bool} {x y r:α} (h:b=true) (hf:(if b=true then x else y)=r):x=r:=by rw [if_pos h] at hf; exact hf
theorem gJ {b:Bool} {x y r:α} (h:b=false) (hf:(if b=true then x else y)=r):y=r:=by rw [if_neg (by simp [h])] at hf; exact hf
theorem aR {r:α} {P:Prop} (h:(none:Option α)=some r):P:=by cases h
theorem iX {l:List α} {i:Int} {a:α} (h:idx l i=some a):0≤i∧l[i.toNat]?=some a:=by
 unfold idx at h
 split at h
 · exact ⟨by assumption,h⟩
 · cases h
theorem Jz (l:List α) (i:Nat):idx l (i:Int)=l[i]?:=by simp [idx]
theorem qV {l:List α} {i:Int} (h0:0≤i) (h:i < l.length):idx l i=some (l[i.toNat]'(by omega)):=by
 unfold idx
 rw [if_pos h0,List.getElem?_eq_getElem]
theorem Fe {l r:List α} {a b:Int} (h:sl l a b=some r):0≤a∧a≤b∧b≤l.length∧r=(l.take b.toNat).drop a.toNat:=by
 unfold sl at h
 split at h
 ·
  rename_i hc
  simp only [Option.some.injEq] at h
  exact ⟨hc.1,hc.2.1,hc.2.2,h.symm⟩
 · cases h
theorem JY {l:List α} {a b:Int} (h0:0≤a) (h1:a≤b) (h2:b≤l.length):sl l a b=some ((l.take b.toNat).drop a.toNat):=by
 unfold sl; rw [if_pos ⟨h0,h1,h2⟩]
theorem oJ {l m r:List α} (h:app l m=some r):l.length + m.length≤GD∧r=l ++ m:=by
 unfold app at h
 split at h
 ·
  simp only [Option.some.injEq] at h
  exact ⟨by assumption,h.symm⟩
 · cases h
theorem vw {l m:List α} (h:l.length + m.length≤GD):app l m=some (l ++ m):=by unfold app; rw [if_pos h]
theorem zR {b:Bool} {u:Unit} (h:Ll b=some u):b=true:=by
 unfold Ll at h
 split at h
 · assumption
 · cases h
end
theorem Jd {n:Int} (h1:-9223372036854775808≤n) (h2:n≤9223372036854775807):IntKind.i64.wrap n=n:=by
 simp [IntKind.wrap,IntKind.bits,IntKind.signed]
 omega
theorem byteOf_toNat (n:Int):((byteOf n).toNat:Int)=IntKind.u8.wrap n:=by
 simp [byteOf,IntKind.wrap,IntKind.bits,IntKind.signed]
 omega
def DK (c:UInt8):Bool:=(decide (48≤(c.toNat:Int))) && (decide ((c.toNat:Int)≤57))
def Fb (p:UInt8→Bool) (l:Str):Nat:=(l.takeWhile p).length
def dz (s:Str):Str:=s.dropWhile fun c=>(c.toNat:Int) == 48
def K9 :Nat→Str→List Nat
 | 0,_=>[]
 | _ + 1,[]=>[]
 | k + 1,c :: s=>if DK c then
   48 :: (dz ((c :: s).take (Fb DK (c :: s)))).length :: ((dz ((c :: s).take (Fb DK (c :: s)))).map UInt8.toNat ++ Fb DK (c :: s) :: K9 k ((c :: s).drop (Fb DK (c :: s))))
  else c.toNat :: K9 k s
def key (s:Str):List Nat:=K9 s.length s
def om :Str→Str→Option Nat
 | [],t=>if t.isEmpty then some 0 else none
 | b :: l,t=>if t.isPrefixOf (b :: l) then some 0 else (om l t).map (· + 1)
def sG (t:Str):Nat→Str→List Str
 | 0,s=>[s]
 | k + 1,s=>match om s t with
  | none=>[s]
  | some i=>s.take i :: sG t k (s.drop (i + t.length))
def Bu :List Str→Str→Str
 | [],_=>[]
 | [x],_=>x
 | x :: y :: r,t=>x ++ (t ++ Bu (y :: r) t)
end Go.Ft
