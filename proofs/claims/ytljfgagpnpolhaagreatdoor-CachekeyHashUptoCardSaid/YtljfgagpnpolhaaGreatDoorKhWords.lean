/- Proved here: the words of the functional texts and plain facts on them. -/
import GoSem.Core.Sem
import GoSem.Core.Utf8
import GoSem.Op.IntArith
import GoSem.Op.String
set_option linter.unusedVariables false
set_option linter.unusedSimpArgs false
set_option linter.unusedSectionVars false
namespace Go.Ft
open Go
abbrev Str :=List UInt8
abbrev bE (n:Int):Int:=IntKind.i64.wrap n
def BIG :Nat:=18446744073709551616
def D6 :Nat:=4294967296
def idx {α:Type} (l:List α) (i:Int):Option α:=if 0≤i then l[i.toNat]? else none
def sl {α:Type} (l:List α) (a b:Int):Option (List α):=if 0≤a∧a≤b∧b≤l.length then some ((l.take b.toNat).drop a.toNat) else none
def app {α:Type} (l m:List α):Option (List α):=if l.length + m.length≤D6 then some (l ++ m) else none
def dec (s:Str) (pos:Nat):Nat × Nat:=Utf8.decode ⟨s.toArray⟩ pos
def vZ :List (Str × Int)→Str→Int
 | [],_=>0
 | (k',v) :: r,k=>if k == k' then v else vZ r k
def qY :List (Str × Int)→Str→Int→List (Str × Int)
 | [],k,n=>[(k,n)]
 | (k',v) :: r,k,n=>if k == k' then (k',n) :: r else (k',v) :: qY r k n
def MK (b:Bool):Option Unit:=if b then some () else none
def byteOf (n:Int):UInt8:=UInt8.ofNat (n % 256).toNat
def aA {α ρ:Type} (x:Option α) (f:α→Option ρ):Option ρ:=match x with | some a=>f a | none=>none
def fV {α β ρ:Type} (x:Option (α × β)) (f:α→β→Option ρ):Option ρ:=match x with | some (a,b)=>f a b | none=>none
def oK {α β γ ρ:Type} (x:Option (α × β × γ)) (f:α→β→γ→Option ρ):Option ρ:=match x with | some (a,b,c)=>f a b c | none=>none
def Gy {α β γ δ ρ:Type} (x:Option (α × β × γ × δ)) (f:α→β→γ→δ→Option ρ):Option ρ:=match x with | some (a,b,c,d)=>f a b c d | none=>none
def Gx {α β γ δ ε ρ:Type} (x:Option (α × β × γ × δ × ε)) (f:α→β→γ→δ→ε→Option ρ):Option ρ:=match x with | some (a,b,c,d,e)=>f a b c d e | none=>none
inductive ig (ε α:Type) where
 | ok (a:α)
 | bad (e:ε)
def CK {ε α ρ:Type} (x:Option (ig ε α)) (g:ε→Option ρ) (f:α→Option ρ):Option ρ:=match x with | some (.ok a)=>f a | some (.bad e)=>g e | none=>none
def kE {ε α σ ρ:Type} (x:Option (ig ε α × σ)) (g:ε→σ→Option ρ) (f:α→σ→Option ρ):Option ρ:=match x with | some (.ok a,s)=>f a s | some (.bad e,s)=>g e s | none=>none
section
variable {α β γ δ ε ρ : Type}
theorem vV {x:Option (ig ε α)} {g:ε→Option ρ} {f:α→Option ρ} {r:ρ} (h:CK x g f=some r):(∃ e,x=some (.bad e)∧g e=some r)∨∃ a,x=some (.ok a)∧f a=some r:=by
 match x,h with
 | some (.ok a),h=>exact .inr ⟨a,rfl,h⟩
 | some (.bad e),h=>exact .inl ⟨e,rfl,h⟩
theorem fU {x:Option (ig ε α × β)} {g:ε→β→Option ρ} {f:α→β→Option ρ} {r:ρ} (h:kE x g f=some r):(∃ e s,x=some (.bad e,s)∧g e s=some r)∨∃ a s,x=some (.ok a,s)∧f a s=some r:=by
 match x,h with
 | some (.ok a,s),h=>exact .inr ⟨a,s,rfl,h⟩
 | some (.bad e,s),h=>exact .inl ⟨e,s,rfl,h⟩
@[simp] theorem Qs (a:α) (g:ε→Option ρ) (f:α→Option ρ):CK (some (.ok a)) g f=f a:=rfl
@[simp] theorem O5 (e:ε) (g:ε→Option ρ) (f:α→Option ρ):CK (some (.bad e)) g f=g e:=rfl
@[simp] theorem O6 (a:α) (s:β) (g:ε→β→Option ρ) (f:α→β→Option ρ):kE (some (.ok a,s)) g f=f a s:=rfl
@[simp] theorem OJ (e:ε) (s:β) (g:ε→β→Option ρ) (f:α→β→Option ρ):kE (some (.bad e,s)) g f=g e s:=rfl
@[simp] theorem ak (a:α) (f:α→Option ρ):aA (some a) f=f a:=rfl
@[simp] theorem OU (f:α→Option ρ):aA none f=none:=rfl
@[simp] theorem eF (a:α) (b:β) (f:α→β→Option ρ):fV (some (a,b)) f=f a b:=rfl
@[simp] theorem OT (f:α→β→Option ρ):fV none f=none:=rfl
@[simp] theorem tO (a:α) (b:β) (c:γ) (f:α→β→γ→Option ρ):oK (some (a,b,c)) f=f a b c:=rfl
@[simp] theorem OQ (f:α→β→γ→Option ρ):oK none f=none:=rfl
@[simp] theorem OO (a:α) (b:β) (c:γ) (d:δ) (f:α→β→γ→δ→Option ρ):Gy (some (a,b,c,d)) f=f a b c d:=rfl
@[simp] theorem OP (f:α→β→γ→δ→Option ρ):Gy none f=none:=rfl
@[simp] theorem OL (a:α) (b:β) (c:γ) (d:δ) (e:ε) (f:α→β→γ→δ→ε→Option ρ):Gx (some (a,b,c,d,e)) f=f a b c d e:=rfl
@[simp] theorem OM (f:α→β→γ→δ→ε→Option ρ):Gx none f=none:=rfl
theorem vW {x:Option α} {f:α→Option ρ} {r:ρ} (h:aA x f=some r):∃ a,x=some a∧f a=some r:=by
 cases x with
 | none=>cases h
 | some a=>exact ⟨a,rfl,h⟩
theorem bL {x:Option (α × β)} {f:α→β→Option ρ} {r:ρ} (h:fV x f=some r):∃ a b,x=some (a,b)∧f a b=some r:=by
 cases x with
 | none=>cases h
 | some a=>exact ⟨a.1,a.2,rfl,h⟩
theorem jr {x:Option (α × β × γ)} {f:α→β→γ→Option ρ} {r:ρ} (h:oK x f=some r):∃ a b c,x=some (a,b,c)∧f a b c=some r:=by
 cases x with
 | none=>cases h
 | some a=>exact ⟨a.1,a.2.1,a.2.2,rfl,h⟩
@[simp] theorem O9 (x:Option α):aA x (fun a=>some a)=x:=by cases x <;> rfl
@[simp] theorem DY (x:Option (α × β)):fV x (fun a b=>some (a,b))=x:=by cases x <;> rfl
@[simp] theorem JH (x:Option (α × β × γ)):oK x (fun a b c=>some (a,b,c))=x:=by cases x <;> rfl
@[simp] theorem O8 (x:Option (α × β × γ × δ)):Gy x (fun a b c d=>some (a,b,c,d))=x:=by cases x <;> rfl
@[simp] theorem O7 (x:Option (α × β × γ × δ × ε)):Gx x (fun a b c d e=>some (a,b,c,d,e))=x:=by cases x <;> rfl
theorem MV {x y:Option α} {f:α→Option ρ} (h:x=y):aA x f=aA y f:=by rw [h]
theorem MU {x y:Option (α × β)} {f:α→β→Option ρ} (h:x=y):fV x f=fV y f:=by rw [h]
theorem MS {x y:Option (α × β × γ)} {f:α→β→γ→Option ρ} (h:x=y):oK x f=oK y f:=by rw [h]
theorem MR {x y:Option (α × β × γ × δ)} {f:α→β→γ→δ→Option ρ} (h:x=y):Gy x f=Gy y f:=by rw [h]
theorem MQ {x y:Option (α × β × γ × δ × ε)} {f:α→β→γ→δ→ε→Option ρ} (h:x=y):Gx x f=Gx y f:=by rw [h]
theorem sV {c d:Prop} {ic:Decidable c} {jc:Decidable d} {x y:α} (h:c=d):@ite α c ic x y=@ite α d jc x y:=by
 subst h
 cases ic with
 | isTrue h=>cases jc with
  | isTrue h'=>rfl
  | isFalse h'=>exact absurd h h'
 | isFalse h=>cases jc with
  | isTrue h'=>exact absurd h' h
  | isFalse h'=>rfl
attribute [congr] MV MU MS MR MQ
theorem iF {b:Bool} {x y r:α} (h:b=true) (hf:(if b=true then x else y)=r):x=r:=by rw [if_pos h] at hf; exact hf
theorem gZ {b:Bool} {x y r:α} (h:b=false) (hf:(if b=true then x else y)=r):y=r:=by rw [if_neg (by simp [h])] at hf; exact hf
theorem aQ {r:α} {P:Prop} (h:(none:Option α)=some r):P:=by cases h
theorem jL {l:List α} {i:Int} {a:α} (h:idx l i=some a):0≤i∧l[i.toNat]?=some a:=by
 unfold idx at h
 split at h
 · exact ⟨by assumption,h⟩
 · cases h
theorem IV (l:List α) (i:Nat):idx l (i:Int)=l[i]?:=by simp [idx]
theorem sW {l:List α} {i:Int} (h0:0≤i) (h:i < l.length):idx l i=some (l[i.toNat]'(by omega)):=by
 unfold idx
 rw [if_pos h0,List.getElem?_eq_getElem]
theorem Iu {l r:List α} {a b:Int} (h:sl l a b=some r):0≤a∧a≤b∧b≤l.length∧r=(l.take b.toNat).drop a.toNat:=by
 unfold sl at h
 split at h
 ·
  rename_i hc
  simp only [Option.some.injEq] at h
  exact ⟨hc.1,hc.2.1,hc.2.2,h.symm⟩
 · cases h
theorem M5 {l:List α} {a b:Int} (h0:0≤a) (h1:a≤b) (h2:b≤l.length):sl l a b=some ((l.take b.toNat).drop a.toNat):=by
 unfold sl; rw [if_pos ⟨h0,h1,h2⟩]
theorem ql {l m r:List α} (h:app l m=some r):l.length + m.length≤D6∧r=l ++ m:=by
 unfold app at h
 split at h
 ·
  simp only [Option.some.injEq] at h
  exact ⟨by assumption,h.symm⟩
 · cases h
theorem kF {l m:List α} (h:l.length + m.length≤D6):app l m=some (l ++ m):=by unfold app; rw [if_pos h]
theorem Ce {b:Bool} {u:Unit} (h:MK b=some u):b=true:=by
 unfold MK at h
 split at h
 · assumption
 · cases h
end
theorem LZ {n:Int} (h1:-9223372036854775808≤n) (h2:n≤9223372036854775807):IntKind.i64.wrap n=n:=by
 simp [IntKind.wrap,IntKind.bits,IntKind.signed]
 omega
theorem byteOf_toNat (n:Int):((byteOf n).toNat:Int)=IntKind.u8.wrap n:=by
 simp [byteOf,IntKind.wrap,IntKind.bits,IntKind.signed]
 omega
def F5 (c:UInt8):Bool:=(decide (48≤(c.toNat:Int))) && (decide ((c.toNat:Int)≤57))
def Ir (p:UInt8→Bool) (l:Str):Nat:=(l.takeWhile p).length
def dz (s:Str):Str:=s.dropWhile fun c=>(c.toNat:Int) == 48
def Ow :Nat→Str→List Nat
 | 0,_=>[]
 | _ + 1,[]=>[]
 | k + 1,c :: s=>if F5 c then
   48 :: (dz ((c :: s).take (Ir F5 (c :: s)))).length :: ((dz ((c :: s).take (Ir F5 (c :: s)))).map UInt8.toNat ++ Ir F5 (c :: s) :: Ow k ((c :: s).drop (Ir F5 (c :: s))))
  else c.toNat :: Ow k s
def key (s:Str):List Nat:=Ow s.length s
def pR :Str→Str→Option Nat
 | [],t=>if t.isEmpty then some 0 else none
 | b :: l,t=>if t.isPrefixOf (b :: l) then some 0 else (pR l t).map (· + 1)
def uL (t:Str):Nat→Str→List Str
 | 0,s=>[s]
 | k + 1,s=>match pR s t with
  | none=>[s]
  | some i=>s.take i :: uL t k (s.drop (i + t.length))
def DN :List Str→Str→Str
 | [],_=>[]
 | [x],_=>x
 | x :: y :: r,t=>x ++ (t ++ DN (y :: r) t)
end Go.Ft
