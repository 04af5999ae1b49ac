/- Proved here: the words of the functional texts and plain facts on them. -/
import GoSem.Core.Sem
import GoSem.Core.Utf8
import GoSem.Op.IntArith
import GoSem.Op.String
set_option linter.unusedVariables false
set_option linter.unusedSimpArgs false
set_option linter.unusedSectionVars false
namespace Go.Ft
open Go
abbrev Str :=List UInt8
abbrev bQ (n:Int):Int:=IntKind.i64.wrap n
def BIG :Nat:=18446744073709551616
def zl :Nat:=4294967296
def idx {α:Type} (l:List α) (i:Int):Option α:=if 0≤i then l[i.toNat]? else none
def sl {α:Type} (l:List α) (a b:Int):Option (List α):=if 0≤a∧a≤b∧b≤l.length then some ((l.take b.toNat).drop a.toNat) else none
def app {α:Type} (l m:List α):Option (List α):=if l.length + m.length≤zl then some (l ++ m) else none
def dec (s:Str) (pos:Nat):Nat × Nat:=Utf8.decode ⟨s.toArray⟩ pos
def nX :List (Str × Int)→Str→Int
 | [],_=>0
 | (k',v) :: r,k=>if k == k' then v else nX r k
def oQ :List (Str × Int)→Str→Int→List (Str × Int)
 | [],k,n=>[(k,n)]
 | (k',v) :: r,k,n=>if k == k' then (k',n) :: r else (k',v) :: oQ r k n
def byteOf (n:Int):UInt8:=UInt8.ofNat (n % 256).toNat
def ak {α ρ:Type} (x:Option α) (f:α→Option ρ):Option ρ:=match x with | some a=>f a | none=>none
def iV {α β ρ:Type} (x:Option (α × β)) (f:α→β→Option ρ):Option ρ:=match x with | some (a,b)=>f a b | none=>none
def t_ {α β γ ρ:Type} (x:Option (α × β × γ)) (f:α→β→γ→Option ρ):Option ρ:=match x with | some (a,b,c)=>f a b c | none=>none
def NQ {α β γ δ ρ:Type} (x:Option (α × β × γ × δ)) (f:α→β→γ→δ→Option ρ):Option ρ:=match x with | some (a,b,c,d)=>f a b c d | none=>none
def NP {α β γ δ ε ρ:Type} (x:Option (α × β × γ × δ × ε)) (f:α→β→γ→δ→ε→Option ρ):Option ρ:=match x with | some (a,b,c,d,e)=>f a b c d e | none=>none
inductive iT (ε α:Type) where
 | ok (a:α)
 | bad (e:ε)
def vX {ε α ρ:Type} (x:Option (iT ε α)) (g:ε→Option ρ) (f:α→Option ρ):Option ρ:=match x with | some (.ok a)=>f a | some (.bad e)=>g e | none=>none
def kE {ε α σ ρ:Type} (x:Option (iT ε α × σ)) (g:ε→σ→Option ρ) (f:α→σ→Option ρ):Option ρ:=match x with | some (.ok a,s)=>f a s | some (.bad e,s)=>g e s | none=>none
section
variable {α β γ δ ε ρ : Type}
theorem kH {x:Option (iT ε α)} {g:ε→Option ρ} {f:α→Option ρ} {r:ρ} (h:vX x g f=some r):(∃ e,x=some (.bad e)∧g e=some r)∨∃ a,x=some (.ok a)∧f a=some r:=by
 match x,h with
 | some (.ok a),h=>exact .inr ⟨a,rfl,h⟩
 | some (.bad e),h=>exact .inl ⟨e,rfl,h⟩
theorem fq {x:Option (iT ε α × β)} {g:ε→β→Option ρ} {f:α→β→Option ρ} {r:ρ} (h:kE x g f=some r):(∃ e s,x=some (.bad e,s)∧g e s=some r)∨∃ a s,x=some (.ok a,s)∧f a s=some r:=by
 match x,h with
 | some (.ok a,s),h=>exact .inr ⟨a,s,rfl,h⟩
 | some (.bad e,s),h=>exact .inl ⟨e,s,rfl,h⟩
@[simp] theorem Zd (a:α) (g:ε→Option ρ) (f:α→Option ρ):vX (some (.ok a)) g f=f a:=rfl
@[simp] theorem X3 (e:ε) (g:ε→Option ρ) (f:α→Option ρ):vX (some (.bad e)) g f=g e:=rfl
@[simp] theorem X4 (a:α) (s:β) (g:ε→β→Option ρ) (f:α→β→Option ρ):kE (some (.ok a,s)) g f=f a s:=rfl
@[simp] theorem XB (e:ε) (s:β) (g:ε→β→Option ρ) (f:α→β→Option ρ):kE (some (.bad e,s)) g f=g e s:=rfl
@[simp] theorem av (a:α) (f:α→Option ρ):ak (some a) f=f a:=rfl
@[simp] theorem XJ (f:α→Option ρ):ak none f=none:=rfl
@[simp] theorem C9 (a:α) (b:β) (f:α→β→Option ρ):iV (some (a,b)) f=f a b:=rfl
@[simp] theorem XI (f:α→β→Option ρ):iV none f=none:=rfl
@[simp] theorem XG (a:α) (b:β) (c:γ) (f:α→β→γ→Option ρ):t_ (some (a,b,c)) f=f a b c:=rfl
@[simp] theorem XH (f:α→β→γ→Option ρ):t_ none f=none:=rfl
@[simp] theorem XE (a:α) (b:β) (c:γ) (d:δ) (f:α→β→γ→δ→Option ρ):NQ (some (a,b,c,d)) f=f a b c d:=rfl
@[simp] theorem XF (f:α→β→γ→δ→Option ρ):NQ none f=none:=rfl
@[simp] theorem XC (a:α) (b:β) (c:γ) (d:δ) (e:ε) (f:α→β→γ→δ→ε→Option ρ):NP (some (a,b,c,d,e)) f=f a b c d e:=rfl
@[simp] theorem XD (f:α→β→γ→δ→ε→Option ρ):NP none f=none:=rfl
theorem BK {x:Option α} {f:α→Option ρ} {r:ρ} (h:ak x f=some r):∃ a,x=some a∧f a=some r:=by
 cases x with
 | none=>cases h
 | some a=>exact ⟨a,rfl,h⟩
theorem cu {x:Option (α × β)} {f:α→β→Option ρ} {r:ρ} (h:iV x f=some r):∃ a b,x=some (a,b)∧f a b=some r:=by
 cases x with
 | none=>cases h
 | some a=>exact ⟨a.1,a.2,rfl,h⟩
theorem jY {x:Option (α × β × γ)} {f:α→β→γ→Option ρ} {r:ρ} (h:t_ x f=some r):∃ a b c,x=some (a,b,c)∧f a b c=some r:=by
 cases x with
 | none=>cases h
 | some a=>exact ⟨a.1,a.2.1,a.2.2,rfl,h⟩
@[simp] theorem X7 (x:Option α):ak x (fun a=>some a)=x:=by cases x <;> rfl
@[simp] theorem BJ (x:Option (α × β)):iV x (fun a b=>some (a,b))=x:=by cases x <;> rfl
@[simp] theorem EU (x:Option (α × β × γ)):t_ x (fun a b c=>some (a,b,c))=x:=by cases x <;> rfl
@[simp] theorem X6 (x:Option (α × β × γ × δ)):NQ x (fun a b c d=>some (a,b,c,d))=x:=by cases x <;> rfl
@[simp] theorem X5 (x:Option (α × β × γ × δ × ε)):NP x (fun a b c d e=>some (a,b,c,d,e))=x:=by cases x <;> rfl
theorem Vj {x y:Option α} {f:α→Option ρ} (h:x=y):ak x f=ak y f:=by rw [h]
theorem Vi {x y:Option (α × β)} {f:α→β→Option ρ} (h:x=y):iV x f=iV y f:=by rw [h]
theorem Vh {x y:Option (α × β × γ)} {f:α→β→γ→Option ρ} (h:x=y):t_ x f=t_ y f:=by rw [h]
theorem Vg {x y:Option (α × β × γ × δ)} {f:α→β→γ→δ→Option ρ} (h:x=y):NQ x f=NQ y f:=by rw [h]
theorem Vf {x y:Option (α × β × γ × δ × ε)} {f:α→β→γ→δ→ε→Option ρ} (h:x=y):NP x f=NP y f:=by rw [h]
theorem j3 {c d:Prop} {ic:Decidable c} {jc:Decidable d} {x y:α} (h:c=d):@ite α c ic x y=@ite α d jc x y:=by
 subst h
 cases ic with
 | isTrue h=>cases jc with
  | isTrue h'=>rfl
  | isFalse h'=>exact absurd h h'
 | isFalse h=>cases jc with
  | isTrue h'=>exact absurd h' h
  | isFalse h'=>rfl
attribute [congr] Vj Vi Vh Vg Vf
theorem kg {b:Bool} {x y r:α} (h:b=true) (hf:(if b=true then x else y)=r):x=r:=by rw [if_pos h] at hf; exact hf
theorem jH {b:Bool} {x y r:α} (h:b=false) (hf:(if b=true then x else y)=r):y=r:=by rw [if_neg (by simp [h])] at hf; exact hf
theorem aU {r:α} {P:Prop} (h:(none:Option α)=some r):P:=by cases h
theorem xV {l:List α} {i:Int} {a:α} (h:idx l i=some a):0≤i∧l[i.toNat]?=some a:=by
 unfold idx at h
 split at h
 · exact ⟨by assumption,h⟩
 · cases h
theorem UZ (l:List α) (i:Nat):idx l (i:Int)=l[i]?:=by simp [idx]
theorem Uy {l r:List α} {a b:Int} (h:sl l a b=some r):0≤a∧a≤b∧b≤l.length∧r=(l.take b.toNat).drop a.toNat:=by
 unfold sl at h
 split at h
 ·
  rename_i hc
  simp only [Option.some.injEq] at h
  exact ⟨hc.1,hc.2.1,hc.2.2,h.symm⟩
 · cases h
theorem MK {l:List α} {a b:Int} (h0:0≤a) (h1:a≤b) (h2:b≤l.length):sl l a b=some ((l.take b.toNat).drop a.toNat):=by
 unfold sl; rw [if_pos ⟨h0,h1,h2⟩]
theorem D6 {l m r:List α} (h:app l m=some r):l.length + m.length≤zl∧r=l ++ m:=by
 unfold app at h
 split at h
 ·
  simp only [Option.some.injEq] at h
  exact ⟨by assumption,h.symm⟩
 · cases h
theorem bq {l m:List α} (h:l.length + m.length≤zl):app l m=some (l ++ m):=by unfold app; rw [if_pos h]
end
theorem O9 {n:Int} (h1:-9223372036854775808≤n) (h2:n≤9223372036854775807):IntKind.i64.wrap n=n:=by
 simp [IntKind.wrap,IntKind.bits,IntKind.signed]
 omega
theorem Ob {n:Int} (h1:-9223372036854775808≤n) (h2:n < 9223372036854775808):bQ n=n:=O9 h1 (by omega)
theorem byteOf_toNat (n:Int):((byteOf n).toNat:Int)=IntKind.u8.wrap n:=by
 simp [byteOf,IntKind.wrap,IntKind.bits,IntKind.signed]
 omega
theorem Q9 {n:Int} (h1:0≤n) (h2:n < 256):((byteOf n).toNat:Int)=n:=by
 simp [byteOf]; omega
def bR (c:UInt8):Bool:=(decide (48≤(c.toNat:Int))) && (decide ((c.toNat:Int)≤57))
def fH (p:UInt8→Bool) (l:Str):Nat:=(l.takeWhile p).length
def dz (s:Str):Str:=s.dropWhile fun c=>(c.toNat:Int) == 48
def nu :List Nat→List Nat→Int
 | [],[]=>0
 | [],_ :: _=>-1
 | _ :: _,[]=>1
 | a :: l,b :: m=>if a < b then -1 else if b < a then 1 else nu l m
def H7 :Nat→Str→List Nat
 | 0,_=>[]
 | _ + 1,[]=>[]
 | k + 1,c :: s=>if bR c then
   48 :: (dz ((c :: s).take (fH bR (c :: s)))).length :: ((dz ((c :: s).take (fH bR (c :: s)))).map UInt8.toNat ++ fH bR (c :: s) :: H7 k ((c :: s).drop (fH bR (c :: s))))
  else c.toNat :: H7 k s
def key (s:Str):List Nat:=H7 s.length s
def iX (a b:Str):Int:=nu (key a) (key b)
def dd :List Str→List Str
 | []=>[]
 | [x]=>[x]
 | x :: y :: l=>if x=y then dd (y :: l) else x :: dd (y :: l)
def UN (l:List Str):List Str:=l.mergeSort fun x y=>!decide (iX y x < 0)
def SQ (l:List Str):List Str:=dd (UN l)
def vH :Str→Str→Option Nat
 | [],t=>if t.isEmpty then some 0 else none
 | b :: l,t=>if t.isPrefixOf (b :: l) then some 0 else (vH l t).map (· + 1)
def zW (t:Str):Nat→Str→List Str
 | 0,s=>[s]
 | k + 1,s=>match vH s t with
  | none=>[s]
  | some i=>s.take i :: zW t k (s.drop (i + t.length))
def fB :List Str→Str→Str
 | [],_=>[]
 | [x],_=>x
 | x :: y :: r,t=>x ++ (t ++ fB (y :: r) t)
def wu :Nat→Nat→Str
 | 0,_=>[]
 | k + 1,u=>if u < 10 then [UInt8.ofNat (48 + u)] else wu k (u / 10) ++ [UInt8.ofNat (48 + u % 10)]
def Cb (n:Int):Str:=if n < 0 then 45 :: wu 20 n.natAbs else wu 20 n.toNat
def UQ (acc:Nat):Str→Nat × Nat
 | []=>(0,acc)
 | c :: r=>
  if 48≤c.toNat∧c.toNat≤57 then
   if 1844674407370955162≤acc then (2,0)
   else if 18446744073709551616≤acc * 10 + (c.toNat - 48) then (2,0)
   else UQ (acc * 10 + (c.toNat - 48)) r
  else (1,0)
def KJ (l:Str):Nat × Int:=
 match l with
 | []=>(1,0)
 | c :: r=>
  let m:=if (if c.toNat=43∨c.toNat=45 then r else l)=[] then (1,0) else UQ 0 (if c.toNat=43∨c.toNat=45 then r else l)
  if m.1=1 then (1,0)
  else if m.1=2 then (2,if c.toNat=45 then -9223372036854775808 else 9223372036854775807)
  else if c.toNat≠45∧9223372036854775808≤m.2 then (2,if c.toNat=45 then -9223372036854775808 else 9223372036854775807)
  else if c.toNat=45∧9223372036854775808 < m.2 then (2,if c.toNat=45 then -9223372036854775808 else 9223372036854775807)
  else (0,if c.toNat=45 then -(m.2:Int) else m.2)
end Go.Ft
