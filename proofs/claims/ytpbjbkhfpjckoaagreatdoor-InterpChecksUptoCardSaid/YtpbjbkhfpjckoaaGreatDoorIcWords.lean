/- Proved here: the words of the functional texts and plain facts on them. -/
import GoSem.Core.Sem
import GoSem.Core.Utf8
import GoSem.Op.IntArith
import GoSem.Op.String
set_option linter.unusedVariables false
set_option linter.unusedSimpArgs false
set_option linter.unusedSectionVars false
namespace Go.Ft
open Go
abbrev Str :=List UInt8
abbrev bL (n:Int):Int:=IntKind.i64.wrap n
def BIG :Nat:=18446744073709551616
def uU :Nat:=4294967296
def idx {α:Type} (l:List α) (i:Int):Option α:=if 0≤i then l[i.toNat]? else none
def sl {α:Type} (l:List α) (a b:Int):Option (List α):=if 0≤a∧a≤b∧b≤l.length then some ((l.take b.toNat).drop a.toNat) else none
def app {α:Type} (l m:List α):Option (List α):=if l.length + m.length≤uU then some (l ++ m) else none
def dec (s:Str) (pos:Nat):Nat × Nat:=Utf8.decode ⟨s.toArray⟩ pos
def oD :List (Str × Int)→Str→Int
 | [],_=>0
 | (k',v) :: r,k=>if k == k' then v else oD r k
def qH :List (Str × Int)→Str→Int→List (Str × Int)
 | [],k,n=>[(k,n)]
 | (k',v) :: r,k,n=>if k == k' then (k',n) :: r else (k',v) :: qH r k n
def UF (b:Bool):Option Unit:=if b then some () else none
def byteOf (n:Int):UInt8:=UInt8.ofNat (n % 256).toNat
def ay {α ρ:Type} (x:Option α) (f:α→Option ρ):Option ρ:=match x with | some a=>f a | none=>none
def dX {α β ρ:Type} (x:Option (α × β)) (f:α→β→Option ρ):Option ρ:=match x with | some (a,b)=>f a b | none=>none
def j_ {α β γ ρ:Type} (x:Option (α × β × γ)) (f:α→β→γ→Option ρ):Option ρ:=match x with | some (a,b,c)=>f a b c | none=>none
def Gg {α β γ δ ρ:Type} (x:Option (α × β × γ × δ)) (f:α→β→γ→δ→Option ρ):Option ρ:=match x with | some (a,b,c,d)=>f a b c d | none=>none
def Nr {α β γ δ ε ρ:Type} (x:Option (α × β × γ × δ × ε)) (f:α→β→γ→δ→ε→Option ρ):Option ρ:=match x with | some (a,b,c,d,e)=>f a b c d e | none=>none
inductive gT (ε α:Type) where
 | ok (a:α)
 | bad (e:ε)
def yh {ε α ρ:Type} (x:Option (gT ε α)) (g:ε→Option ρ) (f:α→Option ρ):Option ρ:=match x with | some (.ok a)=>f a | some (.bad e)=>g e | none=>none
def dZ {ε α σ ρ:Type} (x:Option (gT ε α × σ)) (g:ε→σ→Option ρ) (f:α→σ→Option ρ):Option ρ:=match x with | some (.ok a,s)=>f a s | some (.bad e,s)=>g e s | none=>none
section
variable {α β γ δ ε ρ : Type}
theorem uS {x:Option (gT ε α)} {g:ε→Option ρ} {f:α→Option ρ} {r:ρ} (h:yh x g f=some r):(∃ e,x=some (.bad e)∧g e=some r)∨∃ a,x=some (.ok a)∧f a=some r:=by
 match x,h with
 | some (.ok a),h=>exact .inr ⟨a,rfl,h⟩
 | some (.bad e),h=>exact .inl ⟨e,rfl,h⟩
theorem Np {x:Option (gT ε α × β)} {g:ε→β→Option ρ} {f:α→β→Option ρ} {r:ρ} (h:dZ x g f=some r):(∃ e s,x=some (.bad e,s)∧g e s=some r)∨∃ a s,x=some (.ok a,s)∧f a s=some r:=by
 match x,h with
 | some (.ok a,s),h=>exact .inr ⟨a,s,rfl,h⟩
 | some (.bad e,s),h=>exact .inl ⟨e,s,rfl,h⟩
@[simp] theorem ahL (a:α) (g:ε→Option ρ) (f:α→Option ρ):yh (some (.ok a)) g f=f a:=rfl
@[simp] theorem af0 (e:ε) (g:ε→Option ρ) (f:α→Option ρ):yh (some (.bad e)) g f=g e:=rfl
@[simp] theorem fH (a:α) (s:β) (g:ε→β→Option ρ) (f:α→β→Option ρ):dZ (some (.ok a,s)) g f=f a s:=rfl
@[simp] theorem dV (e:ε) (s:β) (g:ε→β→Option ρ) (f:α→β→Option ρ):dZ (some (.bad e,s)) g f=g e s:=rfl
@[simp] theorem ak (a:α) (f:α→Option ρ):ay (some a) f=f a:=rfl
@[simp] theorem aJ (f:α→Option ρ):ay none f=none:=rfl
@[simp] theorem aC (a:α) (b:β) (f:α→β→Option ρ):dX (some (a,b)) f=f a b:=rfl
@[simp] theorem aI (f:α→β→Option ρ):dX none f=none:=rfl
@[simp] theorem aD (a:α) (b:β) (c:γ) (f:α→β→γ→Option ρ):j_ (some (a,b,c)) f=f a b c:=rfl
@[simp] theorem aH (f:α→β→γ→Option ρ):j_ none f=none:=rfl
@[simp] theorem aF (a:α) (b:β) (c:γ) (d:δ) (f:α→β→γ→δ→Option ρ):Gg (some (a,b,c,d)) f=f a b c d:=rfl
@[simp] theorem afs (f:α→β→γ→δ→Option ρ):Gg none f=none:=rfl
@[simp] theorem aG (a:α) (b:β) (c:γ) (d:δ) (e:ε) (f:α→β→γ→δ→ε→Option ρ):Nr (some (a,b,c,d,e)) f=f a b c d e:=rfl
@[simp] theorem afr (f:α→β→γ→δ→ε→Option ρ):Nr none f=none:=rfl
theorem lG {x:Option α} {f:α→Option ρ} {r:ρ} (h:ay x f=some r):∃ a,x=some a∧f a=some r:=by
 cases x with
 | none=>cases h
 | some a=>exact ⟨a,rfl,h⟩
theorem f_ {x:Option (α × β)} {f:α→β→Option ρ} {r:ρ} (h:dX x f=some r):∃ a b,x=some (a,b)∧f a b=some r:=by
 cases x with
 | none=>cases h
 | some a=>exact ⟨a.1,a.2,rfl,h⟩
theorem qy {x:Option (α × β × γ)} {f:α→β→γ→Option ρ} {r:ρ} (h:j_ x f=some r):∃ a b c,x=some (a,b,c)∧f a b c=some r:=by
 cases x with
 | none=>cases h
 | some a=>exact ⟨a.1,a.2.1,a.2.2,rfl,h⟩
theorem XU {x:Option (α × β × γ × δ)} {f:α→β→γ→δ→Option ρ} {r:ρ} (h:Gg x f=some r):∃ a b c d,x=some (a,b,c,d)∧f a b c d=some r:=by
 cases x with
 | none=>cases h
 | some a=>exact ⟨a.1,a.2.1,a.2.2.1,a.2.2.2,rfl,h⟩
theorem XT {x:Option (α × β × γ × δ × ε)} {f:α→β→γ→δ→ε→Option ρ} {r:ρ} (h:Nr x f=some r):∃ a b c d e,x=some (a,b,c,d,e)∧f a b c d e=some r:=by
 cases x with
 | none=>cases h
 | some a=>exact ⟨a.1,a.2.1,a.2.2.1,a.2.2.2.1,a.2.2.2.2,rfl,h⟩
@[simp] theorem af5 (x:Option α):ay x (fun a=>some a)=x:=by cases x <;> rfl
@[simp] theorem uT (x:Option (α × β)):dX x (fun a b=>some (a,b))=x:=by cases x <;> rfl
@[simp] theorem af4 (x:Option (α × β × γ)):j_ x (fun a b c=>some (a,b,c))=x:=by cases x <;> rfl
@[simp] theorem af3 (x:Option (α × β × γ × δ)):Gg x (fun a b c d=>some (a,b,c,d))=x:=by cases x <;> rfl
@[simp] theorem af2 (x:Option (α × β × γ × δ × ε)):Nr x (fun a b c d e=>some (a,b,c,d,e))=x:=by cases x <;> rfl
theorem acH {x y:Option α} {f:α→Option ρ} (h:x=y):ay x f=ay y f:=by rw [h]
theorem acG {x y:Option (α × β)} {f:α→β→Option ρ} (h:x=y):dX x f=dX y f:=by rw [h]
theorem acF {x y:Option (α × β × γ)} {f:α→β→γ→Option ρ} (h:x=y):j_ x f=j_ y f:=by rw [h]
theorem acE {x y:Option (α × β × γ × δ)} {f:α→β→γ→δ→Option ρ} (h:x=y):Gg x f=Gg y f:=by rw [h]
theorem acD {x y:Option (α × β × γ × δ × ε)} {f:α→β→γ→δ→ε→Option ρ} (h:x=y):Nr x f=Nr y f:=by rw [h]
theorem gK {c d:Prop} {ic:Decidable c} {jc:Decidable d} {x y:α} (h:c=d):@ite α c ic x y=@ite α d jc x y:=by
 subst h
 cases ic with
 | isTrue h=>cases jc with
  | isTrue h'=>rfl
  | isFalse h'=>exact absurd h h'
 | isFalse h=>cases jc with
  | isTrue h'=>exact absurd h' h
  | isFalse h'=>rfl
attribute [congr] acH acG acF acE acD
theorem jP {b:Bool} {x y r:α} (h:b=true) (hf:(if b=true then x else y)=r):x=r:=by rw [if_pos h] at hf; exact hf
theorem ji {b:Bool} {x y r:α} (h:b=false) (hf:(if b=true then x else y)=r):y=r:=by rw [if_neg (by simp [h])] at hf; exact hf
theorem fC {r:α} {P:Prop} (h:(none:Option α)=some r):P:=by cases h
theorem CG {l:List α} {i:Int} {a:α} (h:idx l i=some a):0≤i∧l[i.toNat]?=some a:=by
 unfold idx at h
 split at h
 · exact ⟨by assumption,h⟩
 · cases h
theorem VH (l:List α) (i:Nat):idx l (i:Int)=l[i]?:=by simp [idx]
theorem aff {l:List α} {i:Int} (h0:0≤i) (h:i < l.length):idx l i=some (l[i.toNat]'(by omega)):=by
 unfold idx
 rw [if_pos h0,List.getElem?_eq_getElem]
theorem Vn {l r:List α} {a b:Int} (h:sl l a b=some r):0≤a∧a≤b∧b≤l.length∧r=(l.take b.toNat).drop a.toNat:=by
 unfold sl at h
 split at h
 ·
  rename_i hc
  simp only [Option.some.injEq] at h
  exact ⟨hc.1,hc.2.1,hc.2.2,h.symm⟩
 · cases h
theorem bD {l:List α} {a b:Int} (h0:0≤a) (h1:a≤b) (h2:b≤l.length):sl l a b=some ((l.take b.toNat).drop a.toNat):=by
 unfold sl; rw [if_pos ⟨h0,h1,h2⟩]
theorem CW {l m r:List α} (h:app l m=some r):l.length + m.length≤uU∧r=l ++ m:=by
 unfold app at h
 split at h
 ·
  simp only [Option.some.injEq] at h
  exact ⟨by assumption,h.symm⟩
 · cases h
theorem aR {l m:List α} (h:l.length + m.length≤uU):app l m=some (l ++ m):=by unfold app; rw [if_pos h]
theorem SX {b:Bool} {u:Unit} (h:UF b=some u):b=true:=by
 unfold UF at h
 split at h
 · assumption
 · cases h
end
theorem PS {n:Int} (h1:-9223372036854775808≤n) (h2:n≤9223372036854775807):IntKind.i64.wrap n=n:=by
 simp [IntKind.wrap,IntKind.bits,IntKind.signed]
 omega
theorem aT {n:Int} (h1:-9223372036854775808≤n) (h2:n < 9223372036854775808):bL n=n:=PS h1 (by omega)
theorem aX {α:Type} [Inhabited α] {l:List α} {i:Int} (h0:0≤i) (h:i < (l.length:Int)):idx l i=some (l.getD i.toNat default):=by
 rw [aff h0 h,List.getD_eq_getElem?_getD,List.getElem?_eq_getElem (by omega),Option.getD_some]
theorem aY {b:Bool} (h:b=true):UF b=some ():=by rw [h]; rfl
theorem byteOf_toNat (n:Int):((byteOf n).toNat:Int)=IntKind.u8.wrap n:=by
 simp [byteOf,IntKind.wrap,IntKind.bits,IntKind.signed]
 omega
theorem Pz {n:Int} (h1:0≤n) (h2:n < 256):((byteOf n).toNat:Int)=n:=by
 simp [byteOf]; omega
def bY (c:UInt8):Bool:=(decide (48≤(c.toNat:Int))) && (decide ((c.toNat:Int)≤57))
def iH (p:UInt8→Bool) (l:Str):Nat:=(l.takeWhile p).length
def dz (s:Str):Str:=s.dropWhile fun c=>(c.toNat:Int) == 48
def qI :List Nat→List Nat→Int
 | [],[]=>0
 | [],_ :: _=>-1
 | _ :: _,[]=>1
 | a :: l,b :: m=>if a < b then -1 else if b < a then 1 else qI l m
def MG :Nat→Str→List Nat
 | 0,_=>[]
 | _ + 1,[]=>[]
 | k + 1,c :: s=>if bY c then
   48 :: (dz ((c :: s).take (iH bY (c :: s)))).length :: ((dz ((c :: s).take (iH bY (c :: s)))).map UInt8.toNat ++ iH bY (c :: s) :: MG k ((c :: s).drop (iH bY (c :: s))))
  else c.toNat :: MG k s
def key (s:Str):List Nat:=MG s.length s
def fU (a b:Str):Int:=qI (key a) (key b)
def dd :List Str→List Str
 | []=>[]
 | [x]=>[x]
 | x :: y :: l=>if x=y then dd (y :: l) else x :: dd (y :: l)
def KY (l:List Str):List Str:=l.mergeSort fun x y=>!decide (fU y x < 0)
def uD (l:List Str):List Str:=dd (KY l)
def Au :Str→Str→Option Nat
 | [],t=>if t.isEmpty then some 0 else none
 | b :: l,t=>if t.isPrefixOf (b :: l) then some 0 else (Au l t).map (· + 1)
def Er (t:Str):Nat→Str→List Str
 | 0,s=>[s]
 | k + 1,s=>match Au s t with
  | none=>[s]
  | some i=>s.take i :: Er t k (s.drop (i + t.length))
def Ku :List Str→Str→Str
 | [],_=>[]
 | [x],_=>x
 | x :: y :: r,t=>x ++ (t ++ Ku (y :: r) t)
def sQ :Nat→Nat→Str
 | 0,_=>[]
 | k + 1,u=>if u < 10 then [UInt8.ofNat (48 + u)] else sQ k (u / 10) ++ [UInt8.ofNat (48 + u % 10)]
def VF (n:Int):Str:=if n < 0 then 45 :: sQ 20 n.natAbs else sQ 20 n.toNat
def GH (acc:Nat):Str→Nat × Nat
 | []=>(0,acc)
 | c :: r=>
  if 48≤c.toNat∧c.toNat≤57 then
   if 1844674407370955162≤acc then (2,0)
   else if 18446744073709551616≤acc * 10 + (c.toNat - 48) then (2,0)
   else GH (acc * 10 + (c.toNat - 48)) r
  else (1,0)
def CV (l:Str):Nat × Int:=
 match l with
 | []=>(1,0)
 | c :: r=>
  let m:=if (if c.toNat=43∨c.toNat=45 then r else l)=[] then (1,0) else GH 0 (if c.toNat=43∨c.toNat=45 then r else l)
  if m.1=1 then (1,0)
  else if m.1=2 then (2,if c.toNat=45 then -9223372036854775808 else 9223372036854775807)
  else if c.toNat≠45∧9223372036854775808≤m.2 then (2,if c.toNat=45 then -9223372036854775808 else 9223372036854775807)
  else if c.toNat=45∧9223372036854775808 < m.2 then (2,if c.toNat=45 then -9223372036854775808 else 9223372036854775807)
  else (0,if c.toNat=45 then -(m.2:Int) else m.2)
end Go.Ft
