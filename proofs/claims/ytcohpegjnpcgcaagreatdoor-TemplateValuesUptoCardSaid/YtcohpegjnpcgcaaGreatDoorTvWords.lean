/- Proved here: the words of the functional texts and plain facts on them. -/
import GoSem.Core.Sem
import GoSem.Core.Utf8
import GoSem.Op.IntArith
import GoSem.Op.String
set_option linter.unusedVariables false
set_option linter.unusedSimpArgs false
set_option linter.unusedSectionVars false
namespace Go.Ft
open Go
abbrev Str :=List UInt8
abbrev cZ (n:Int):Int:=IntKind.i64.wrap n
def BIG :Nat:=18446744073709551616
def Ik :Nat:=4294967296
def idx {α:Type} (l:List α) (i:Int):Option α:=if 0≤i then l[i.toNat]? else none
def sl {α:Type} (l:List α) (a b:Int):Option (List α):=if 0≤a∧a≤b∧b≤l.length then some ((l.take b.toNat).drop a.toNat) else none
def app {α:Type} (l m:List α):Option (List α):=if l.length + m.length≤Ik then some (l ++ m) else none
def dec (s:Str) (pos:Nat):Nat × Nat:=Utf8.decode ⟨s.toArray⟩ pos
def wQ :List (Str × Int)→Str→Int
 | [],_=>0
 | (k',v) :: r,k=>if k == k' then v else wQ r k
def xQ :List (Str × Int)→Str→Int→List (Str × Int)
 | [],k,n=>[(k,n)]
 | (k',v) :: r,k,n=>if k == k' then (k',n) :: r else (k',v) :: xQ r k n
def chk (b:Bool):Option Unit:=if b then some () else none
def byteOf (n:Int):UInt8:=UInt8.ofNat (n % 256).toNat
def av {α ρ:Type} (x:Option α) (f:α→Option ρ):Option ρ:=match x with | some a=>f a | none=>none
def fU {α β ρ:Type} (x:Option (α × β)) (f:α→β→Option ρ):Option ρ:=match x with | some (a,b)=>f a b | none=>none
def yg {α β γ ρ:Type} (x:Option (α × β × γ)) (f:α→β→γ→Option ρ):Option ρ:=match x with | some (a,b,c)=>f a b c | none=>none
def XC {α β γ δ ρ:Type} (x:Option (α × β × γ × δ)) (f:α→β→γ→δ→Option ρ):Option ρ:=match x with | some (a,b,c,d)=>f a b c d | none=>none
def XB {α β γ δ ε ρ:Type} (x:Option (α × β × γ × δ × ε)) (f:α→β→γ→δ→ε→Option ρ):Option ρ:=match x with | some (a,b,c,d,e)=>f a b c d e | none=>none
inductive fB (ε α:Type) where
 | ok (a:α)
 | bad (e:ε)
def gD {ε α ρ:Type} (x:Option (fB ε α)) (g:ε→Option ρ) (f:α→Option ρ):Option ρ:=match x with | some (.ok a)=>f a | some (.bad e)=>g e | none=>none
def jE {ε α σ ρ:Type} (x:Option (fB ε α × σ)) (g:ε→σ→Option ρ) (f:α→σ→Option ρ):Option ρ:=match x with | some (.ok a,s)=>f a s | some (.bad e,s)=>g e s | none=>none
section
variable {α β γ δ ε ρ : Type}
theorem bQ {x:Option (fB ε α)} {g:ε→Option ρ} {f:α→Option ρ} {r:ρ} (h:gD x g f=some r):(∃ e,x=some (.bad e)∧g e=some r)∨∃ a,x=some (.ok a)∧f a=some r:=by
 match x,h with
 | some (.ok a),h=>exact .inr ⟨a,rfl,h⟩
 | some (.bad e),h=>exact .inl ⟨e,rfl,h⟩
theorem dX {x:Option (fB ε α × β)} {g:ε→β→Option ρ} {f:α→β→Option ρ} {r:ρ} (h:jE x g f=some r):(∃ e s,x=some (.bad e,s)∧g e s=some r)∨∃ a s,x=some (.ok a,s)∧f a s=some r:=by
 match x,h with
 | some (.ok a,s),h=>exact .inr ⟨a,s,rfl,h⟩
 | some (.bad e,s),h=>exact .inl ⟨e,s,rfl,h⟩
@[simp] theorem ahI (a:α) (g:ε→Option ρ) (f:α→Option ρ):gD (some (.ok a)) g f=f a:=rfl
@[simp] theorem af5 (e:ε) (g:ε→Option ρ) (f:α→Option ρ):gD (some (.bad e)) g f=g e:=rfl
@[simp] theorem af6 (a:α) (s:β) (g:ε→β→Option ρ) (f:α→β→Option ρ):jE (some (.ok a,s)) g f=f a s:=rfl
@[simp] theorem afK (e:ε) (s:β) (g:ε→β→Option ρ) (f:α→β→Option ρ):jE (some (.bad e,s)) g f=g e s:=rfl
@[simp] theorem aF (a:α) (f:α→Option ρ):av (some a) f=f a:=rfl
@[simp] theorem afR (f:α→Option ρ):av none f=none:=rfl
@[simp] theorem iU (a:α) (b:β) (f:α→β→Option ρ):fU (some (a,b)) f=f a b:=rfl
@[simp] theorem afQ (f:α→β→Option ρ):fU none f=none:=rfl
@[simp] theorem rO (a:α) (b:β) (c:γ) (f:α→β→γ→Option ρ):yg (some (a,b,c)) f=f a b c:=rfl
@[simp] theorem afP (f:α→β→γ→Option ρ):yg none f=none:=rfl
@[simp] theorem afN (a:α) (b:β) (c:γ) (d:δ) (f:α→β→γ→δ→Option ρ):XC (some (a,b,c,d)) f=f a b c d:=rfl
@[simp] theorem afO (f:α→β→γ→δ→Option ρ):XC none f=none:=rfl
@[simp] theorem afL (a:α) (b:β) (c:γ) (d:δ) (e:ε) (f:α→β→γ→δ→ε→Option ρ):XB (some (a,b,c,d,e)) f=f a b c d e:=rfl
@[simp] theorem afM (f:α→β→γ→δ→ε→Option ρ):XB none f=none:=rfl
theorem Ku {x:Option α} {f:α→Option ρ} {r:ρ} (h:av x f=some r):∃ a,x=some a∧f a=some r:=by
 cases x with
 | none=>cases h
 | some a=>exact ⟨a,rfl,h⟩
theorem bP {x:Option (α × β)} {f:α→β→Option ρ} {r:ρ} (h:fU x f=some r):∃ a b,x=some (a,b)∧f a b=some r:=by
 cases x with
 | none=>cases h
 | some a=>exact ⟨a.1,a.2,rfl,h⟩
theorem kg {x:Option (α × β × γ)} {f:α→β→γ→Option ρ} {r:ρ} (h:yg x f=some r):∃ a b c,x=some (a,b,c)∧f a b c=some r:=by
 cases x with
 | none=>cases h
 | some a=>exact ⟨a.1,a.2.1,a.2.2,rfl,h⟩
@[simp] theorem af9 (x:Option α):av x (fun a=>some a)=x:=by cases x <;> rfl
@[simp] theorem Kt (x:Option (α × β)):fU x (fun a b=>some (a,b))=x:=by cases x <;> rfl
@[simp] theorem FZ (x:Option (α × β × γ)):yg x (fun a b c=>some (a,b,c))=x:=by cases x <;> rfl
@[simp] theorem af8 (x:Option (α × β × γ × δ)):XC x (fun a b c d=>some (a,b,c,d))=x:=by cases x <;> rfl
@[simp] theorem af7 (x:Option (α × β × γ × δ × ε)):XB x (fun a b c d e=>some (a,b,c,d,e))=x:=by cases x <;> rfl
theorem adE {x y:Option α} {f:α→Option ρ} (h:x=y):av x f=av y f:=by rw [h]
theorem adD {x y:Option (α × β)} {f:α→β→Option ρ} (h:x=y):fU x f=fU y f:=by rw [h]
theorem adC {x y:Option (α × β × γ)} {f:α→β→γ→Option ρ} (h:x=y):yg x f=yg y f:=by rw [h]
theorem adB {x y:Option (α × β × γ × δ)} {f:α→β→γ→δ→Option ρ} (h:x=y):XC x f=XC y f:=by rw [h]
theorem adA {x y:Option (α × β × γ × δ × ε)} {f:α→β→γ→δ→ε→Option ρ} (h:x=y):XB x f=XB y f:=by rw [h]
theorem yP {c d:Prop} {ic:Decidable c} {jc:Decidable d} {x y:α} (h:c=d):@ite α c ic x y=@ite α d jc x y:=by
 subst h
 cases ic with
 | isTrue h=>cases jc with
  | isTrue h'=>rfl
  | isFalse h'=>exact absurd h h'
 | isFalse h=>cases jc with
  | isTrue h'=>exact absurd h' h
  | isFalse h'=>rfl
attribute [congr] adE adD adC adB adA
theorem jF {b:Bool} {x y r:α} (h:b=true) (hf:(if b=true then x else y)=r):x=r:=by rw [if_pos h] at hf; exact hf
theorem iw {b:Bool} {x y r:α} (h:b=false) (hf:(if b=true then x else y)=r):y=r:=by rw [if_neg (by simp [h])] at hf; exact hf
theorem bT {r:α} {P:Prop} (h:(none:Option α)=some r):P:=by cases h
theorem vX {l:List α} {i:Int} {a:α} (h:idx l i=some a):0≤i∧l[i.toNat]?=some a:=by
 unfold idx at h
 split at h
 · exact ⟨by assumption,h⟩
 · cases h
theorem ado (l:List α) (i:Nat):idx l (i:Int)=l[i]?:=by simp [idx]
theorem YS {l r:List α} {a b:Int} (h:sl l a b=some r):0≤a∧a≤b∧b≤l.length∧r=(l.take b.toNat).drop a.toNat:=by
 unfold sl at h
 split at h
 ·
  rename_i hc
  simp only [Option.some.injEq] at h
  exact ⟨hc.1,hc.2.1,hc.2.2,h.symm⟩
 · cases h
theorem YT {l:List α} {a b:Int} (h0:0≤a) (h1:a≤b) (h2:b≤l.length):sl l a b=some ((l.take b.toNat).drop a.toNat):=by
 unfold sl; rw [if_pos ⟨h0,h1,h2⟩]
theorem kF {l m r:List α} (h:app l m=some r):l.length + m.length≤Ik∧r=l ++ m:=by
 unfold app at h
 split at h
 ·
  simp only [Option.some.injEq] at h
  exact ⟨by assumption,h.symm⟩
 · cases h
theorem JV {l m:List α} (h:l.length + m.length≤Ik):app l m=some (l ++ m):=by unfold app; rw [if_pos h]
theorem Xp {b:Bool} {u:Unit} (h:chk b=some u):b=true:=by
 unfold chk at h
 split at h
 · assumption
 · cases h
end
theorem ac1 {n:Int} (h1:-9223372036854775808≤n) (h2:n≤9223372036854775807):IntKind.i64.wrap n=n:=by
 simp [IntKind.wrap,IntKind.bits,IntKind.signed]
 omega
theorem byteOf_toNat (n:Int):((byteOf n).toNat:Int)=IntKind.u8.wrap n:=by
 simp [byteOf,IntKind.wrap,IntKind.bits,IntKind.signed]
 omega
def eX (c:UInt8):Bool:=(decide (48≤(c.toNat:Int))) && (decide ((c.toNat:Int)≤57))
def j_ (p:UInt8→Bool) (l:Str):Nat:=(l.takeWhile p).length
def dz (s:Str):Str:=s.dropWhile fun c=>(c.toNat:Int) == 48
def sZ :List Nat→List Nat→Int
 | [],[]=>0
 | [],_ :: _=>-1
 | _ :: _,[]=>1
 | a :: l,b :: m=>if a < b then -1 else if b < a then 1 else sZ l m
def Ro :Nat→Str→List Nat
 | 0,_=>[]
 | _ + 1,[]=>[]
 | k + 1,c :: s=>if eX c then
   48 :: (dz ((c :: s).take (j_ eX (c :: s)))).length :: ((dz ((c :: s).take (j_ eX (c :: s)))).map UInt8.toNat ++ j_ eX (c :: s) :: Ro k ((c :: s).drop (j_ eX (c :: s))))
  else c.toNat :: Ro k s
def key (s:Str):List Nat:=Ro s.length s
def jo (a b:Str):Int:=sZ (key a) (key b)
def aa9 {α:Type} (k:α→Str) (l:List α):Option (List α):=
 if l.length≤Ik∧(∀ x∈l,(k x).length < 4611686018427387904)∧(l.map k).Nodup then some (l.mergeSort fun x y=>!decide (jo (k y) (k x) < 0)) else none
def Cm :Str→Str→Option Nat
 | [],t=>if t.isEmpty then some 0 else none
 | b :: l,t=>if t.isPrefixOf (b :: l) then some 0 else (Cm l t).map (· + 1)
def Gg (t:Str):Nat→Str→List Str
 | 0,s=>[s]
 | k + 1,s=>match Cm s t with
  | none=>[s]
  | some i=>s.take i :: Gg t k (s.drop (i + t.length))
def OY :List Str→Str→Str
 | [],_=>[]
 | [x],_=>x
 | x :: y :: r,t=>x ++ (t ++ OY (y :: r) t)
def aag :Nat→Nat→Str
 | 0,_=>[]
 | k + 1,u=>if u < 10 then [UInt8.ofNat (48 + u)] else aag k (u / 10) ++ [UInt8.ofNat (48 + u % 10)]
def Y6 (n:Int):Str:=if n < 0 then 45 :: aag 20 n.natAbs else aag 20 n.toNat
def adl (acc:Nat):Str→Nat × Nat
 | []=>(0,acc)
 | c :: r=>
  if 48≤c.toNat∧c.toNat≤57 then
   if 1844674407370955162≤acc then (2,0)
   else if 18446744073709551616≤acc * 10 + (c.toNat - 48) then (2,0)
   else adl (acc * 10 + (c.toNat - 48)) r
  else (1,0)
def UM (l:Str):Nat × Int:=
 match l with
 | []=>(1,0)
 | c :: r=>
  let m:=if (if c.toNat=43∨c.toNat=45 then r else l)=[] then (1,0) else adl 0 (if c.toNat=43∨c.toNat=45 then r else l)
  if m.1=1 then (1,0)
  else if m.1=2 then (2,if c.toNat=45 then -9223372036854775808 else 9223372036854775807)
  else if c.toNat≠45∧9223372036854775808≤m.2 then (2,if c.toNat=45 then -9223372036854775808 else 9223372036854775807)
  else if c.toNat=45∧9223372036854775808 < m.2 then (2,if c.toNat=45 then -9223372036854775808 else 9223372036854775807)
  else (0,if c.toNat=45 then -(m.2:Int) else m.2)
end Go.Ft
