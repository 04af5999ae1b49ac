/- Proved here: the words of the functional texts and plain facts on them. -/
import GoSem.Core.Sem
import GoSem.Core.Utf8
import GoSem.Op.IntArith
import GoSem.Op.String
set_option linter.unusedVariables false
set_option linter.unusedSimpArgs false
set_option linter.unusedSectionVars false
namespace Go.Ft
open Go
abbrev Str :=List UInt8
abbrev bW (n:Int):Int:=IntKind.i64.wrap n
def BIG :Nat:=18446744073709551616
def xX :Nat:=4294967296
def idx {α:Type} (l:List α) (i:Int):Option α:=if 0≤i then l[i.toNat]? else none
def sl {α:Type} (l:List α) (a b:Int):Option (List α):=if 0≤a∧a≤b∧b≤l.length then some ((l.take b.toNat).drop a.toNat) else none
def app {α:Type} (l m:List α):Option (List α):=if l.length + m.length≤xX then some (l ++ m) else none
def dec (s:Str) (pos:Nat):Nat × Nat:=Utf8.decode ⟨s.toArray⟩ pos
def nN :List (Str × Int)→Str→Int
 | [],_=>0
 | (k',v) :: r,k=>if k == k' then v else nN r k
def rz :List (Str × Int)→Str→Int→List (Str × Int)
 | [],k,n=>[(k,n)]
 | (k',v) :: r,k,n=>if k == k' then (k',n) :: r else (k',v) :: rz r k n
def chk (b:Bool):Option Unit:=if b then some () else none
def byteOf (n:Int):UInt8:=UInt8.ofNat (n % 256).toNat
def au {α ρ:Type} (x:Option α) (f:α→Option ρ):Option ρ:=match x with | some a=>f a | none=>none
def fP {α β ρ:Type} (x:Option (α × β)) (f:α→β→Option ρ):Option ρ:=match x with | some (a,b)=>f a b | none=>none
def H_ {α β γ ρ:Type} (x:Option (α × β × γ)) (f:α→β→γ→Option ρ):Option ρ:=match x with | some (a,b,c)=>f a b c | none=>none
def Zh {α β γ δ ρ:Type} (x:Option (α × β × γ × δ)) (f:α→β→γ→δ→Option ρ):Option ρ:=match x with | some (a,b,c,d)=>f a b c d | none=>none
def Zg {α β γ δ ε ρ:Type} (x:Option (α × β × γ × δ × ε)) (f:α→β→γ→δ→ε→Option ρ):Option ρ:=match x with | some (a,b,c,d,e)=>f a b c d e | none=>none
inductive fJ (ε α:Type) where
 | ok (a:α)
 | bad (e:ε)
def dN {ε α ρ:Type} (x:Option (fJ ε α)) (g:ε→Option ρ) (f:α→Option ρ):Option ρ:=match x with | some (.ok a)=>f a | some (.bad e)=>g e | none=>none
def uO {ε α σ ρ:Type} (x:Option (fJ ε α × σ)) (g:ε→σ→Option ρ) (f:α→σ→Option ρ):Option ρ:=match x with | some (.ok a,s)=>f a s | some (.bad e,s)=>g e s | none=>none
section
variable {α β γ δ ε ρ : Type}
theorem bD {x:Option (fJ ε α)} {g:ε→Option ρ} {f:α→Option ρ} {r:ρ} (h:dN x g f=some r):(∃ e,x=some (.bad e)∧g e=some r)∨∃ a,x=some (.ok a)∧f a=some r:=by
 match x,h with
 | some (.ok a),h=>exact .inr ⟨a,rfl,h⟩
 | some (.bad e),h=>exact .inl ⟨e,rfl,h⟩
theorem lC {x:Option (fJ ε α × β)} {g:ε→β→Option ρ} {f:α→β→Option ρ} {r:ρ} (h:uO x g f=some r):(∃ e s,x=some (.bad e,s)∧g e s=some r)∨∃ a s,x=some (.ok a,s)∧f a s=some r:=by
 match x,h with
 | some (.ok a,s),h=>exact .inr ⟨a,s,rfl,h⟩
 | some (.bad e,s),h=>exact .inl ⟨e,s,rfl,h⟩
@[simp] theorem jm (a:α) (g:ε→Option ρ) (f:α→Option ρ):dN (some (.ok a)) g f=f a:=rfl
@[simp] theorem Vf (e:ε) (g:ε→Option ρ) (f:α→Option ρ):dN (some (.bad e)) g f=g e:=rfl
@[simp] theorem akQ (a:α) (s:β) (g:ε→β→Option ρ) (f:α→β→Option ρ):uO (some (.ok a,s)) g f=f a s:=rfl
@[simp] theorem aks (e:ε) (s:β) (g:ε→β→Option ρ) (f:α→β→Option ρ):uO (some (.bad e,s)) g f=g e s:=rfl
@[simp] theorem av (a:α) (f:α→Option ρ):au (some a) f=f a:=rfl
@[simp] theorem akz (f:α→Option ρ):au none f=none:=rfl
@[simp] theorem dh (a:α) (b:β) (f:α→β→Option ρ):fP (some (a,b)) f=f a b:=rfl
@[simp] theorem aky (f:α→β→Option ρ):fP none f=none:=rfl
@[simp] theorem aaV (a:α) (b:β) (c:γ) (f:α→β→γ→Option ρ):H_ (some (a,b,c)) f=f a b c:=rfl
@[simp] theorem akx (f:α→β→γ→Option ρ):H_ none f=none:=rfl
@[simp] theorem akv (a:α) (b:β) (c:γ) (d:δ) (f:α→β→γ→δ→Option ρ):Zh (some (a,b,c,d)) f=f a b c d:=rfl
@[simp] theorem akw (f:α→β→γ→δ→Option ρ):Zh none f=none:=rfl
@[simp] theorem akt (a:α) (b:β) (c:γ) (d:δ) (e:ε) (f:α→β→γ→δ→ε→Option ρ):Zg (some (a,b,c,d,e)) f=f a b c d e:=rfl
@[simp] theorem aku (f:α→β→γ→δ→ε→Option ρ):Zg none f=none:=rfl
theorem Kk {x:Option α} {f:α→Option ρ} {r:ρ} (h:au x f=some r):∃ a,x=some a∧f a=some r:=by
 cases x with
 | none=>cases h
 | some a=>exact ⟨a,rfl,h⟩
theorem bK {x:Option (α × β)} {f:α→β→Option ρ} {r:ρ} (h:fP x f=some r):∃ a b,x=some (a,b)∧f a b=some r:=by
 cases x with
 | none=>cases h
 | some a=>exact ⟨a.1,a.2,rfl,h⟩
theorem vM {x:Option (α × β × γ)} {f:α→β→γ→Option ρ} {r:ρ} (h:H_ x f=some r):∃ a b c,x=some (a,b,c)∧f a b c=some r:=by
 cases x with
 | none=>cases h
 | some a=>exact ⟨a.1,a.2.1,a.2.2,rfl,h⟩
@[simp] theorem akT (x:Option α):au x (fun a=>some a)=x:=by cases x <;> rfl
@[simp] theorem lG (x:Option (α × β)):fP x (fun a b=>some (a,b))=x:=by cases x <;> rfl
@[simp] theorem OD (x:Option (α × β × γ)):H_ x (fun a b c=>some (a,b,c))=x:=by cases x <;> rfl
@[simp] theorem akS (x:Option (α × β × γ × δ)):Zh x (fun a b c d=>some (a,b,c,d))=x:=by cases x <;> rfl
@[simp] theorem akR (x:Option (α × β × γ × δ × ε)):Zg x (fun a b c d e=>some (a,b,c,d,e))=x:=by cases x <;> rfl
theorem ahX {x y:Option α} {f:α→Option ρ} (h:x=y):au x f=au y f:=by rw [h]
theorem ahW {x y:Option (α × β)} {f:α→β→Option ρ} (h:x=y):fP x f=fP y f:=by rw [h]
theorem ahV {x y:Option (α × β × γ)} {f:α→β→γ→Option ρ} (h:x=y):H_ x f=H_ y f:=by rw [h]
theorem ahU {x y:Option (α × β × γ × δ)} {f:α→β→γ→δ→Option ρ} (h:x=y):Zh x f=Zh y f:=by rw [h]
theorem ahT {x y:Option (α × β × γ × δ × ε)} {f:α→β→γ→δ→ε→Option ρ} (h:x=y):Zg x f=Zg y f:=by rw [h]
theorem gy {c d:Prop} {ic:Decidable c} {jc:Decidable d} {x y:α} (h:c=d):@ite α c ic x y=@ite α d jc x y:=by
 subst h
 cases ic with
 | isTrue h=>cases jc with
  | isTrue h'=>rfl
  | isFalse h'=>exact absurd h h'
 | isFalse h=>cases jc with
  | isTrue h'=>exact absurd h' h
  | isFalse h'=>rfl
attribute [congr] ahX ahW ahV ahU ahT
theorem jN {b:Bool} {x y r:α} (h:b=true) (hf:(if b=true then x else y)=r):x=r:=by rw [if_pos h] at hf; exact hf
theorem jA {b:Bool} {x y r:α} (h:b=false) (hf:(if b=true then x else y)=r):y=r:=by rw [if_neg (by simp [h])] at hf; exact hf
theorem bG {r:α} {P:Prop} (h:(none:Option α)=some r):P:=by cases h
theorem FR {l:List α} {i:Int} {a:α} (h:idx l i=some a):0≤i∧l[i.toNat]?=some a:=by
 unfold idx at h
 split at h
 · exact ⟨by assumption,h⟩
 · cases h
theorem ahB (l:List α) (i:Nat):idx l (i:Int)=l[i]?:=by simp [idx]
theorem aj6 {l:List α} {i:Int} (h0:0≤i) (h:i < l.length):idx l i=some (l[i.toNat]'(by omega)):=by
 unfold idx
 rw [if_pos h0,List.getElem?_eq_getElem]
theorem abt {l r:List α} {a b:Int} (h:sl l a b=some r):0≤a∧a≤b∧b≤l.length∧r=(l.take b.toNat).drop a.toNat:=by
 unfold sl at h
 split at h
 ·
  rename_i hc
  simp only [Option.some.injEq] at h
  exact ⟨hc.1,hc.2.1,hc.2.2,h.symm⟩
 · cases h
theorem QF {l:List α} {a b:Int} (h0:0≤a) (h1:a≤b) (h2:b≤l.length):sl l a b=some ((l.take b.toNat).drop a.toNat):=by
 unfold sl; rw [if_pos ⟨h0,h1,h2⟩]
theorem Gi {l m r:List α} (h:app l m=some r):l.length + m.length≤xX∧r=l ++ m:=by
 unfold app at h
 split at h
 ·
  simp only [Option.some.injEq] at h
  exact ⟨by assumption,h.symm⟩
 · cases h
theorem uQ {l m:List α} (h:l.length + m.length≤xX):app l m=some (l ++ m):=by unfold app; rw [if_pos h]
theorem YN {b:Bool} {u:Unit} (h:chk b=some u):b=true:=by
 unfold chk at h
 split at h
 · assumption
 · cases h
end
theorem aa7 {n:Int} (h1:-9223372036854775808≤n) (h2:n≤9223372036854775807):IntKind.i64.wrap n=n:=by
 simp [IntKind.wrap,IntKind.bits,IntKind.signed]
 omega
theorem aiU {n:Int} (h1:-9223372036854775808≤n) (h2:n < 9223372036854775808):bW n=n:=aa7 h1 (by omega)
theorem akn {b:Bool} (h:b=true):chk b=some ():=by rw [h]; rfl
theorem byteOf_toNat (n:Int):((byteOf n).toNat:Int)=IntKind.u8.wrap n:=by
 simp [byteOf,IntKind.wrap,IntKind.bits,IntKind.signed]
 omega
theorem adE {n:Int} (h1:0≤n) (h2:n < 256):((byteOf n).toNat:Int)=n:=by
 simp [byteOf]; omega
def dF (c:UInt8):Bool:=(decide (48≤(c.toNat:Int))) && (decide ((c.toNat:Int)≤57))
def jv (p:UInt8→Bool) (l:Str):Nat:=(l.takeWhile p).length
def dz (s:Str):Str:=s.dropWhile fun c=>(c.toNat:Int) == 48
def rA :List Nat→List Nat→Int
 | [],[]=>0
 | [],_ :: _=>-1
 | _ :: _,[]=>1
 | a :: l,b :: m=>if a < b then -1 else if b < a then 1 else rA l m
def Rm :Nat→Str→List Nat
 | 0,_=>[]
 | _ + 1,[]=>[]
 | k + 1,c :: s=>if dF c then
   48 :: (dz ((c :: s).take (jv dF (c :: s)))).length :: ((dz ((c :: s).take (jv dF (c :: s)))).map UInt8.toNat ++ jv dF (c :: s) :: Rm k ((c :: s).drop (jv dF (c :: s))))
  else c.toNat :: Rm k s
def key (s:Str):List Nat:=Rm s.length s
def gu (a b:Str):Int:=rA (key a) (key b)
def Uu {α:Type} (k:α→Str) (l:List α):Option (List α):=
 if l.length≤xX∧(∀ x∈l,(k x).length < 4611686018427387904)∧(l.map k).Nodup then some (l.mergeSort fun x y=>!decide (gu (k y) (k x) < 0)) else none
def lN :Str→Str→Option Nat
 | [],t=>if t.isEmpty then some 0 else none
 | b :: l,t=>if t.isPrefixOf (b :: l) then some 0 else (lN l t).map (· + 1)
def nV (t:Str):Nat→Str→List Str
 | 0,s=>[s]
 | k + 1,s=>match lN s t with
  | none=>[s]
  | some i=>s.take i :: nV t k (s.drop (i + t.length))
def nP :List Str→Str→Str
 | [],_=>[]
 | [x],_=>x
 | x :: y :: r,t=>x ++ (t ++ nP (y :: r) t)
def tF :Nat→Nat→Str
 | 0,_=>[]
 | k + 1,u=>if u < 10 then [UInt8.ofNat (48 + u)] else tF k (u / 10) ++ [UInt8.ofNat (48 + u % 10)]
def um (n:Int):Str:=if n < 0 then 45 :: tF 20 n.natAbs else tF 20 n.toNat
def Yk (acc:Nat):Str→Nat × Nat
 | []=>(0,acc)
 | c :: r=>
  if 48≤c.toNat∧c.toNat≤57 then
   if 1844674407370955162≤acc then (2,0)
   else if 18446744073709551616≤acc * 10 + (c.toNat - 48) then (2,0)
   else Yk (acc * 10 + (c.toNat - 48)) r
  else (1,0)
def zG (l:Str):Nat × Int:=
 match l with
 | []=>(1,0)
 | c :: r=>
  let m:=if (if c.toNat=43∨c.toNat=45 then r else l)=[] then (1,0) else Yk 0 (if c.toNat=43∨c.toNat=45 then r else l)
  if m.1=1 then (1,0)
  else if m.1=2 then (2,if c.toNat=45 then -9223372036854775808 else 9223372036854775807)
  else if c.toNat≠45∧9223372036854775808≤m.2 then (2,if c.toNat=45 then -9223372036854775808 else 9223372036854775807)
  else if c.toNat=45∧9223372036854775808 < m.2 then (2,if c.toNat=45 then -9223372036854775808 else 9223372036854775807)
  else (0,if c.toNat=45 then -(m.2:Int) else m.2)
end Go.Ft
