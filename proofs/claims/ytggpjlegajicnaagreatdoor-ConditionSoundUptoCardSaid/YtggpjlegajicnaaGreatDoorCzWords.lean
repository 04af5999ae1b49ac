/- Proved here: the words of the functional texts and plain facts on them. -/
import GoSem.Core.Sem
import GoSem.Core.Utf8
import GoSem.Op.IntArith
import GoSem.Op.String
set_option linter.unusedVariables false
set_option linter.unusedSimpArgs false
set_option linter.unusedSectionVars false
namespace Go.Ft
open Go
abbrev Str :=List UInt8
abbrev bZ (n:Int):Int:=IntKind.i64.wrap n
def BIG :Nat:=18446744073709551616
def wB :Nat:=4294967296
def idx {α:Type} (l:List α) (i:Int):Option α:=if 0≤i then l[i.toNat]? else none
def sl {α:Type} (l:List α) (a b:Int):Option (List α):=if 0≤a∧a≤b∧b≤l.length then some ((l.take b.toNat).drop a.toNat) else none
def app {α:Type} (l m:List α):Option (List α):=if l.length + m.length≤wB then some (l ++ m) else none
def qp :List (Str × Int)→Str→Int
 | [],_=>0
 | (k',v) :: r,k=>if k == k' then v else qp r k
def uX :List (Str × Int)→Str→Int→List (Str × Int)
 | [],k,n=>[(k,n)]
 | (k',v) :: r,k,n=>if k == k' then (k',n) :: r else (k',v) :: uX r k n
def chk (b:Bool):Option Unit:=if b then some () else none
def byteOf (n:Int):UInt8:=UInt8.ofNat (n % 256).toNat
def au {α ρ:Type} (x:Option α) (f:α→Option ρ):Option ρ:=match x with | some a=>f a | none=>none
def fM {α β ρ:Type} (x:Option (α × β)) (f:α→β→Option ρ):Option ρ:=match x with | some (a,b)=>f a b | none=>none
def LH {α β γ ρ:Type} (x:Option (α × β × γ)) (f:α→β→γ→Option ρ):Option ρ:=match x with | some (a,b,c)=>f a b c | none=>none
def adT {α β γ δ ρ:Type} (x:Option (α × β × γ × δ)) (f:α→β→γ→δ→Option ρ):Option ρ:=match x with | some (a,b,c,d)=>f a b c d | none=>none
def adS {α β γ δ ε ρ:Type} (x:Option (α × β × γ × δ × ε)) (f:α→β→γ→δ→ε→Option ρ):Option ρ:=match x with | some (a,b,c,d,e)=>f a b c d e | none=>none
inductive fO (ε α:Type) where
 | ok (a:α)
 | bad (e:ε)
def fH {ε α ρ:Type} (x:Option (fO ε α)) (g:ε→Option ρ) (f:α→Option ρ):Option ρ:=match x with | some (.ok a)=>f a | some (.bad e)=>g e | none=>none
def jR {ε α σ ρ:Type} (x:Option (fO ε α × σ)) (g:ε→σ→Option ρ) (f:α→σ→Option ρ):Option ρ:=match x with | some (.ok a,s)=>f a s | some (.bad e,s)=>g e s | none=>none
section
variable {α β γ δ ε ρ : Type}
theorem bS {x:Option (fO ε α)} {g:ε→Option ρ} {f:α→Option ρ} {r:ρ} (h:fH x g f=some r):(∃ e,x=some (.bad e)∧g e=some r)∨∃ a,x=some (.ok a)∧f a=some r:=by
 match x,h with
 | some (.ok a),h=>exact .inr ⟨a,rfl,h⟩
 | some (.bad e),h=>exact .inl ⟨e,rfl,h⟩
@[simp] theorem kT (a:α) (g:ε→Option ρ) (f:α→Option ρ):fH (some (.ok a)) g f=f a:=rfl
@[simp] theorem ZK (e:ε) (g:ε→Option ρ) (f:α→Option ρ):fH (some (.bad e)) g f=g e:=rfl
@[simp] theorem apb (a:α) (s:β) (g:ε→β→Option ρ) (f:α→β→Option ρ):jR (some (.ok a,s)) g f=f a s:=rfl
@[simp] theorem aoO (e:ε) (s:β) (g:ε→β→Option ρ) (f:α→β→Option ρ):jR (some (.bad e,s)) g f=g e s:=rfl
@[simp] theorem ay (a:α) (f:α→Option ρ):au (some a) f=f a:=rfl
@[simp] theorem aoV (f:α→Option ρ):au none f=none:=rfl
@[simp] theorem bU (a:α) (b:β) (f:α→β→Option ρ):fM (some (a,b)) f=f a b:=rfl
@[simp] theorem aoU (f:α→β→Option ρ):fM none f=none:=rfl
@[simp] theorem Xr (a:α) (b:β) (c:γ) (f:α→β→γ→Option ρ):LH (some (a,b,c)) f=f a b c:=rfl
@[simp] theorem aoT (f:α→β→γ→Option ρ):LH none f=none:=rfl
@[simp] theorem aoR (a:α) (b:β) (c:γ) (d:δ) (f:α→β→γ→δ→Option ρ):adT (some (a,b,c,d)) f=f a b c d:=rfl
@[simp] theorem aoS (f:α→β→γ→δ→Option ρ):adT none f=none:=rfl
@[simp] theorem aoP (a:α) (b:β) (c:γ) (d:δ) (e:ε) (f:α→β→γ→δ→ε→Option ρ):adS (some (a,b,c,d,e)) f=f a b c d e:=rfl
@[simp] theorem aoQ (f:α→β→γ→δ→ε→Option ρ):adS none f=none:=rfl
theorem aN {x:Option α} {f:α→Option ρ} {r:ρ} (h:au x f=some r):∃ a,x=some a∧f a=some r:=by
 cases x with
 | none=>cases h
 | some a=>exact ⟨a,rfl,h⟩
theorem aV {x:Option (α × β)} {f:α→β→Option ρ} {r:ρ} (h:fM x f=some r):∃ a b,x=some (a,b)∧f a b=some r:=by
 cases x with
 | none=>cases h
 | some a=>exact ⟨a.1,a.2,rfl,h⟩
theorem wz {x:Option (α × β × γ)} {f:α→β→γ→Option ρ} {r:ρ} (h:LH x f=some r):∃ a b c,x=some (a,b,c)∧f a b c=some r:=by
 cases x with
 | none=>cases h
 | some a=>exact ⟨a.1,a.2.1,a.2.2,rfl,h⟩
@[simp] theorem aJ (x:Option α):au x (fun a=>some a)=x:=by cases x <;> rfl
@[simp] theorem eH (x:Option (α × β)):fM x (fun a b=>some (a,b))=x:=by cases x <;> rfl
@[simp] theorem Ou (x:Option (α × β × γ)):LH x (fun a b c=>some (a,b,c))=x:=by cases x <;> rfl
@[simp] theorem apd (x:Option (α × β × γ × δ)):adT x (fun a b c d=>some (a,b,c,d))=x:=by cases x <;> rfl
@[simp] theorem apc (x:Option (α × β × γ × δ × ε)):adS x (fun a b c d e=>some (a,b,c,d,e))=x:=by cases x <;> rfl
theorem amm {x y:Option α} {f:α→Option ρ} (h:x=y):au x f=au y f:=by rw [h]
theorem aml {x y:Option (α × β)} {f:α→β→Option ρ} (h:x=y):fM x f=fM y f:=by rw [h]
theorem amk {x y:Option (α × β × γ)} {f:α→β→γ→Option ρ} (h:x=y):LH x f=LH y f:=by rw [h]
theorem amj {x y:Option (α × β × γ × δ)} {f:α→β→γ→δ→Option ρ} (h:x=y):adT x f=adT y f:=by rw [h]
theorem ami {x y:Option (α × β × γ × δ × ε)} {f:α→β→γ→δ→ε→Option ρ} (h:x=y):adS x f=adS y f:=by rw [h]
theorem dZ {c d:Prop} {ic:Decidable c} {jc:Decidable d} {x y:α} (h:c=d):@ite α c ic x y=@ite α d jc x y:=by
 subst h
 cases ic with
 | isTrue h=>cases jc with
  | isTrue h'=>rfl
  | isFalse h'=>exact absurd h h'
 | isFalse h=>cases jc with
  | isTrue h'=>exact absurd h' h
  | isFalse h'=>rfl
attribute [congr] amm aml amk amj ami
theorem cO {b:Bool} {x y r:α} (h:b=true) (hf:(if b=true then x else y)=r):x=r:=by rw [if_pos h] at hf; exact hf
theorem cZ {b:Bool} {x y r:α} (h:b=false) (hf:(if b=true then x else y)=r):y=r:=by rw [if_neg (by simp [h])] at hf; exact hf
theorem bQ {r:α} {P:Prop} (h:(none:Option α)=some r):P:=by cases h
theorem JR {l:List α} {i:Int} {a:α} (h:idx l i=some a):0≤i∧l[i.toNat]?=some a:=by
 unfold idx at h
 split at h
 · exact ⟨by assumption,h⟩
 · cases h
theorem alY (l:List α) (i:Nat):idx l (i:Int)=l[i]?:=by simp [idx]
theorem ajU {l:List α} {i:Int} (h0:0≤i) (h:i < l.length):idx l i=some (l[i.toNat]'(by omega)):=by
 unfold idx
 rw [if_pos h0,List.getElem?_eq_getElem]
theorem af0 {l r:List α} {a b:Int} (h:sl l a b=some r):0≤a∧a≤b∧b≤l.length∧r=(l.take b.toNat).drop a.toNat:=by
 unfold sl at h
 split at h
 ·
  rename_i hc
  simp only [Option.some.injEq] at h
  exact ⟨hc.1,hc.2.1,hc.2.2,h.symm⟩
 · cases h
theorem Vo {l:List α} {a b:Int} (h0:0≤a) (h1:a≤b) (h2:b≤l.length):sl l a b=some ((l.take b.toNat).drop a.toNat):=by
 unfold sl; rw [if_pos ⟨h0,h1,h2⟩]
theorem Ke {l m r:List α} (h:app l m=some r):l.length + m.length≤wB∧r=l ++ m:=by
 unfold app at h
 split at h
 ·
  simp only [Option.some.injEq] at h
  exact ⟨by assumption,h.symm⟩
 · cases h
theorem vN {l m:List α} (h:l.length + m.length≤wB):app l m=some (l ++ m):=by unfold app; rw [if_pos h]
theorem adq {b:Bool} {u:Unit} (h:chk b=some u):b=true:=by
 unfold chk at h
 split at h
 · assumption
 · cases h
end
theorem afG {n:Int} (h1:-9223372036854775808≤n) (h2:n≤9223372036854775807):IntKind.i64.wrap n=n:=by
 simp [IntKind.wrap,IntKind.bits,IntKind.signed]
 omega
theorem aeg {n:Int} (h1:-9223372036854775808≤n) (h2:n < 9223372036854775808):bZ n=n:=afG h1 (by omega)
theorem aoK {b:Bool} (h:b=true):chk b=some ():=by rw [h]; rfl
theorem byteOf_toNat (n:Int):((byteOf n).toNat:Int)=IntKind.u8.wrap n:=by
 simp [byteOf,IntKind.wrap,IntKind.bits,IntKind.signed]
 omega
theorem ahZ {n:Int} (h1:0≤n) (h2:n < 256):((byteOf n).toNat:Int)=n:=by
 simp [byteOf]; omega
def eX (c:UInt8):Bool:=(decide (48≤(c.toNat:Int))) && (decide ((c.toNat:Int)≤57))
def kY (p:UInt8→Bool) (l:Str):Nat:=(l.takeWhile p).length
def dz (s:Str):Str:=s.dropWhile fun c=>(c.toNat:Int) == 48
def uY :List Nat→List Nat→Int
 | [],[]=>0
 | [],_ :: _=>-1
 | _ :: _,[]=>1
 | a :: l,b :: m=>if a < b then -1 else if b < a then 1 else uY l m
def V7 :Nat→Str→List Nat
 | 0,_=>[]
 | _ + 1,[]=>[]
 | k + 1,c :: s=>if eX c then
   48 :: (dz ((c :: s).take (kY eX (c :: s)))).length :: ((dz ((c :: s).take (kY eX (c :: s)))).map UInt8.toNat ++ kY eX (c :: s) :: V7 k ((c :: s).drop (kY eX (c :: s))))
  else c.toNat :: V7 k s
def key (s:Str):List Nat:=V7 s.length s
def iF (a b:Str):Int:=uY (key a) (key b)
def YX {α:Type} (k:α→Str) (l:List α):Option (List α):=
 if l.length≤wB∧(∀ x∈l,(k x).length < 4611686018427387904)∧(l.map k).Nodup then some (l.mergeSort fun x y=>!decide (iF (k y) (k x) < 0)) else none
def om :Str→Str→Option Nat
 | [],t=>if t.isEmpty then some 0 else none
 | b :: l,t=>if t.isPrefixOf (b :: l) then some 0 else (om l t).map (· + 1)
def qD (t:Str):Nat→Str→List Str
 | 0,s=>[s]
 | k + 1,s=>match om s t with
  | none=>[s]
  | some i=>s.take i :: qD t k (s.drop (i + t.length))
def qx :List Str→Str→Str
 | [],_=>[]
 | [x],_=>x
 | x :: y :: r,t=>x ++ (t ++ qx (y :: r) t)
def wP :Nat→Nat→Str
 | 0,_=>[]
 | k + 1,u=>if u < 10 then [UInt8.ofNat (48 + u)] else wP k (u / 10) ++ [UInt8.ofNat (48 + u % 10)]
def xL (n:Int):Str:=if n < 0 then 45 :: wP 20 n.natAbs else wP 20 n.toNat
def acV (acc:Nat):Str→Nat × Nat
 | []=>(0,acc)
 | c :: r=>
  if 48≤c.toNat∧c.toNat≤57 then
   if 1844674407370955162≤acc then (2,0)
   else if 18446744073709551616≤acc * 10 + (c.toNat - 48) then (2,0)
   else acV (acc * 10 + (c.toNat - 48)) r
  else (1,0)
def CB (l:Str):Nat × Int:=
 match l with
 | []=>(1,0)
 | c :: r=>
  let m:=if (if c.toNat=43∨c.toNat=45 then r else l)=[] then (1,0) else acV 0 (if c.toNat=43∨c.toNat=45 then r else l)
  if m.1=1 then (1,0)
  else if m.1=2 then (2,if c.toNat=45 then -9223372036854775808 else 9223372036854775807)
  else if c.toNat≠45∧9223372036854775808≤m.2 then (2,if c.toNat=45 then -9223372036854775808 else 9223372036854775807)
  else if c.toNat=45∧9223372036854775808 < m.2 then (2,if c.toNat=45 then -9223372036854775808 else 9223372036854775807)
  else (0,if c.toNat=45 then -(m.2:Int) else m.2)
end Go.Ft
