/- Proved here: the words of the functional texts and plain facts on them. -/
import GoSem.Core.Sem
import GoSem.Core.Utf8
import GoSem.Op.IntArith
import GoSem.Op.String
set_option linter.unusedVariables false
set_option linter.unusedSimpArgs false
set_option linter.unusedSectionVars false
namespace Go.Ft
open Go
abbrev Str :=List UInt8
abbrev bI (n:Int):Int:=IntKind.i64.wrap n
def BIG :Nat:=18446744073709551616
def Fy :Nat:=4294967296
def idx {α:Type} (l:List α) (i:Int):Option α:=if 0≤i then l[i.toNat]? else none
def sl {α:Type} (l:List α) (a b:Int):Option (List α):=if 0≤a∧a≤b∧b≤l.length then some ((l.take b.toNat).drop a.toNat) else none
def app {α:Type} (l m:List α):Option (List α):=if l.length + m.length≤Fy then some (l ++ m) else none
def dec (s:Str) (pos:Nat):Nat × Nat:=Utf8.decode ⟨s.toArray⟩ pos
def uO :List (Str × Int)→Str→Int
 | [],_=>0
 | (k',v) :: r,k=>if k == k' then v else uO r k
def vJ :List (Str × Int)→Str→Int→List (Str × Int)
 | [],k,n=>[(k,n)]
 | (k',v) :: r,k,n=>if k == k' then (k',n) :: r else (k',v) :: vJ r k n
def chk (b:Bool):Option Unit:=if b then some () else none
def byteOf (n:Int):UInt8:=UInt8.ofNat (n % 256).toNat
def aA {α ρ:Type} (x:Option α) (f:α→Option ρ):Option ρ:=match x with | some a=>f a | none=>none
def iA {α β ρ:Type} (x:Option (α × β)) (f:α→β→Option ρ):Option ρ:=match x with | some (a,b)=>f a b | none=>none
def lq {α β γ ρ:Type} (x:Option (α × β × γ)) (f:α→β→γ→Option ρ):Option ρ:=match x with | some (a,b,c)=>f a b c | none=>none
def GK {α β γ δ ρ:Type} (x:Option (α × β × γ × δ)) (f:α→β→γ→δ→Option ρ):Option ρ:=match x with | some (a,b,c,d)=>f a b c d | none=>none
def RY {α β γ δ ε ρ:Type} (x:Option (α × β × γ × δ × ε)) (f:α→β→γ→δ→ε→Option ρ):Option ρ:=match x with | some (a,b,c,d,e)=>f a b c d e | none=>none
inductive iG (ε α:Type) where
 | ok (a:α)
 | bad (e:ε)
def Md {ε α ρ:Type} (x:Option (iG ε α)) (g:ε→Option ρ) (f:α→Option ρ):Option ρ:=match x with | some (.ok a)=>f a | some (.bad e)=>g e | none=>none
def gy {ε α σ ρ:Type} (x:Option (iG ε α × σ)) (g:ε→σ→Option ρ) (f:α→σ→Option ρ):Option ρ:=match x with | some (.ok a,s)=>f a s | some (.bad e,s)=>g e s | none=>none
section
variable {α β γ δ ε ρ : Type}
theorem Eo {x:Option (iG ε α)} {g:ε→Option ρ} {f:α→Option ρ} {r:ρ} (h:Md x g f=some r):(∃ e,x=some (.bad e)∧g e=some r)∨∃ a,x=some (.ok a)∧f a=some r:=by
 match x,h with
 | some (.ok a),h=>exact .inr ⟨a,rfl,h⟩
 | some (.bad e),h=>exact .inl ⟨e,rfl,h⟩
theorem dR {x:Option (iG ε α × β)} {g:ε→β→Option ρ} {f:α→β→Option ρ} {r:ρ} (h:gy x g f=some r):(∃ e s,x=some (.bad e,s)∧g e s=some r)∨∃ a s,x=some (.ok a,s)∧f a s=some r:=by
 match x,h with
 | some (.ok a,s),h=>exact .inr ⟨a,s,rfl,h⟩
 | some (.bad e,s),h=>exact .inl ⟨e,s,rfl,h⟩
@[simp] theorem adv (a:α) (g:ε→Option ρ) (f:α→Option ρ):Md (some (.ok a)) g f=f a:=rfl
@[simp] theorem ab1 (e:ε) (g:ε→Option ρ) (f:α→Option ρ):Md (some (.bad e)) g f=g e:=rfl
@[simp] theorem gY (a:α) (s:β) (g:ε→β→Option ρ) (f:α→β→Option ρ):gy (some (.ok a,s)) g f=f a s:=rfl
@[simp] theorem fJ (e:ε) (s:β) (g:ε→β→Option ρ) (f:α→β→Option ρ):gy (some (.bad e,s)) g f=g e s:=rfl
@[simp] theorem ak (a:α) (f:α→Option ρ):aA (some a) f=f a:=rfl
@[simp] theorem aK (f:α→Option ρ):aA none f=none:=rfl
@[simp] theorem aC (a:α) (b:β) (f:α→β→Option ρ):iA (some (a,b)) f=f a b:=rfl
@[simp] theorem aJ (f:α→β→Option ρ):iA none f=none:=rfl
@[simp] theorem aB (a:α) (b:β) (c:γ) (f:α→β→γ→Option ρ):lq (some (a,b,c)) f=f a b c:=rfl
@[simp] theorem aI (f:α→β→γ→Option ρ):lq none f=none:=rfl
@[simp] theorem aG (a:α) (b:β) (c:γ) (d:δ) (f:α→β→γ→δ→Option ρ):GK (some (a,b,c,d)) f=f a b c d:=rfl
@[simp] theorem abK (f:α→β→γ→δ→Option ρ):GK none f=none:=rfl
@[simp] theorem aH (a:α) (b:β) (c:γ) (d:δ) (e:ε) (f:α→β→γ→δ→ε→Option ρ):RY (some (a,b,c,d,e)) f=f a b c d e:=rfl
@[simp] theorem abJ (f:α→β→γ→δ→ε→Option ρ):RY none f=none:=rfl
theorem Ep {x:Option α} {f:α→Option ρ} {r:ρ} (h:aA x f=some r):∃ a,x=some a∧f a=some r:=by
 cases x with
 | none=>cases h
 | some a=>exact ⟨a,rfl,h⟩
theorem dN {x:Option (α × β)} {f:α→β→Option ρ} {r:ρ} (h:iA x f=some r):∃ a b,x=some (a,b)∧f a b=some r:=by
 cases x with
 | none=>cases h
 | some a=>exact ⟨a.1,a.2,rfl,h⟩
theorem eH {x:Option (α × β × γ)} {f:α→β→γ→Option ρ} {r:ρ} (h:lq x f=some r):∃ a b c,x=some (a,b,c)∧f a b c=some r:=by
 cases x with
 | none=>cases h
 | some a=>exact ⟨a.1,a.2.1,a.2.2,rfl,h⟩
theorem Iq {x:Option (α × β × γ × δ)} {f:α→β→γ→δ→Option ρ} {r:ρ} (h:GK x f=some r):∃ a b c d,x=some (a,b,c,d)∧f a b c d=some r:=by
 cases x with
 | none=>cases h
 | some a=>exact ⟨a.1,a.2.1,a.2.2.1,a.2.2.2,rfl,h⟩
@[simp] theorem ab4 (x:Option α):aA x (fun a=>some a)=x:=by cases x <;> rfl
@[simp] theorem N7 (x:Option (α × β)):iA x (fun a b=>some (a,b))=x:=by cases x <;> rfl
@[simp] theorem oW (x:Option (α × β × γ)):lq x (fun a b c=>some (a,b,c))=x:=by cases x <;> rfl
@[simp] theorem ab3 (x:Option (α × β × γ × δ)):GK x (fun a b c d=>some (a,b,c,d))=x:=by cases x <;> rfl
@[simp] theorem ab2 (x:Option (α × β × γ × δ × ε)):RY x (fun a b c d e=>some (a,b,c,d,e))=x:=by cases x <;> rfl
theorem ZE {x y:Option α} {f:α→Option ρ} (h:x=y):aA x f=aA y f:=by rw [h]
theorem ZB {x y:Option (α × β)} {f:α→β→Option ρ} (h:x=y):iA x f=iA y f:=by rw [h]
theorem ZA {x y:Option (α × β × γ)} {f:α→β→γ→Option ρ} (h:x=y):lq x f=lq y f:=by rw [h]
theorem Zz {x y:Option (α × β × γ × δ)} {f:α→β→γ→δ→Option ρ} (h:x=y):GK x f=GK y f:=by rw [h]
theorem Zy {x y:Option (α × β × γ × δ × ε)} {f:α→β→γ→δ→ε→Option ρ} (h:x=y):RY x f=RY y f:=by rw [h]
theorem iH {c d:Prop} {ic:Decidable c} {jc:Decidable d} {x y:α} (h:c=d):@ite α c ic x y=@ite α d jc x y:=by
 subst h
 cases ic with
 | isTrue h=>cases jc with
  | isTrue h'=>rfl
  | isFalse h'=>exact absurd h h'
 | isFalse h=>cases jc with
  | isTrue h'=>exact absurd h' h
  | isFalse h'=>rfl
attribute [congr] ZE ZB ZA Zz Zy
theorem j_ {b:Bool} {x y r:α} (h:b=true) (hf:(if b=true then x else y)=r):x=r:=by rw [if_pos h] at hf; exact hf
theorem jG {b:Bool} {x y r:α} (h:b=false) (hf:(if b=true then x else y)=r):y=r:=by rw [if_neg (by simp [h])] at hf; exact hf
theorem bQ {r:α} {P:Prop} (h:(none:Option α)=some r):P:=by cases h
theorem uW {l:List α} {i:Int} {a:α} (h:idx l i=some a):0≤i∧l[i.toNat]?=some a:=by
 unfold idx at h
 split at h
 · exact ⟨by assumption,h⟩
 · cases h
theorem OQ (l:List α) (i:Nat):idx l (i:Int)=l[i]?:=by simp [idx]
theorem Fa {l:List α} {i:Int} (h0:0≤i) (h:i < l.length):idx l i=some (l[i.toNat]'(by omega)):=by
 unfold idx
 rw [if_pos h0,List.getElem?_eq_getElem]
theorem Uc {l r:List α} {a b:Int} (h:sl l a b=some r):0≤a∧a≤b∧b≤l.length∧r=(l.take b.toNat).drop a.toNat:=by
 unfold sl at h
 split at h
 ·
  rename_i hc
  simp only [Option.some.injEq] at h
  exact ⟨hc.1,hc.2.1,hc.2.2,h.symm⟩
 · cases h
theorem bW {l:List α} {a b:Int} (h0:0≤a) (h1:a≤b) (h2:b≤l.length):sl l a b=some ((l.take b.toNat).drop a.toNat):=by
 unfold sl; rw [if_pos ⟨h0,h1,h2⟩]
theorem vI {l m r:List α} (h:app l m=some r):l.length + m.length≤Fy∧r=l ++ m:=by
 unfold app at h
 split at h
 ·
  simp only [Option.some.injEq] at h
  exact ⟨by assumption,h.symm⟩
 · cases h
theorem bf {l m:List α} (h:l.length + m.length≤Fy):app l m=some (l ++ m):=by unfold app; rw [if_pos h]
theorem Lv {b:Bool} {u:Unit} (h:chk b=some u):b=true:=by
 unfold chk at h
 split at h
 · assumption
 · cases h
end
theorem Od {n:Int} (h1:-9223372036854775808≤n) (h2:n≤9223372036854775807):IntKind.i64.wrap n=n:=by
 simp [IntKind.wrap,IntKind.bits,IntKind.signed]
 omega
theorem bg {n:Int} (h1:-9223372036854775808≤n) (h2:n < 9223372036854775808):bI n=n:=Od h1 (by omega)
theorem bq {α:Type} [Inhabited α] {l:List α} {i:Int} (h0:0≤i) (h:i < (l.length:Int)):idx l i=some (l.getD i.toNat default):=by
 rw [Fa h0 h,List.getD_eq_getElem?_getD,List.getElem?_eq_getElem (by omega),Option.getD_some]
theorem bA {b:Bool} (h:b=true):chk b=some ():=by rw [h]; rfl
theorem byteOf_toNat (n:Int):((byteOf n).toNat:Int)=IntKind.u8.wrap n:=by
 simp [byteOf,IntKind.wrap,IntKind.bits,IntKind.signed]
 omega
theorem NW {n:Int} (h1:0≤n) (h2:n < 256):((byteOf n).toNat:Int)=n:=by
 simp [byteOf]; omega
def iE (c:UInt8):Bool:=(decide (48≤(c.toNat:Int))) && (decide ((c.toNat:Int)≤57))
def tV (p:UInt8→Bool) (l:Str):Nat:=(l.takeWhile p).length
def dz (s:Str):Str:=s.dropWhile fun c=>(c.toNat:Int) == 48
def abr :Nat→Str→List Nat
 | 0,_=>[]
 | _ + 1,[]=>[]
 | k + 1,c :: s=>if iE c then
   48 :: (dz ((c :: s).take (tV iE (c :: s)))).length :: ((dz ((c :: s).take (tV iE (c :: s)))).map UInt8.toNat ++ tV iE (c :: s) :: abr k ((c :: s).drop (tV iE (c :: s))))
  else c.toNat :: abr k s
def key (s:Str):List Nat:=abr s.length s
def yS :Str→Str→Option Nat
 | [],t=>if t.isEmpty then some 0 else none
 | b :: l,t=>if t.isPrefixOf (b :: l) then some 0 else (yS l t).map (· + 1)
def Da (t:Str):Nat→Str→List Str
 | 0,s=>[s]
 | k + 1,s=>match yS s t with
  | none=>[s]
  | some i=>s.take i :: Da t k (s.drop (i + t.length))
def NG :List Str→Str→Str
 | [],_=>[]
 | [x],_=>x
 | x :: y :: r,t=>x ++ (t ++ NG (y :: r) t)
def vK :Nat→Nat→Str
 | 0,_=>[]
 | k + 1,u=>if u < 10 then [UInt8.ofNat (48 + u)] else vK k (u / 10) ++ [UInt8.ofNat (48 + u % 10)]
def E9 (acc:Nat):Str→Nat × Nat
 | []=>(0,acc)
 | c :: r=>
  if 48≤c.toNat∧c.toNat≤57 then
   if 1844674407370955162≤acc then (2,0)
   else if 18446744073709551616≤acc * 10 + (c.toNat - 48) then (2,0)
   else E9 (acc * 10 + (c.toNat - 48)) r
  else (1,0)
def Bt (l:Str):Nat × Int:=
 match l with
 | []=>(1,0)
 | c :: r=>
  let m:=if (if c.toNat=43∨c.toNat=45 then r else l)=[] then (1,0) else E9 0 (if c.toNat=43∨c.toNat=45 then r else l)
  if m.1=1 then (1,0)
  else if m.1=2 then (2,if c.toNat=45 then -9223372036854775808 else 9223372036854775807)
  else if c.toNat≠45∧9223372036854775808≤m.2 then (2,if c.toNat=45 then -9223372036854775808 else 9223372036854775807)
  else if c.toNat=45∧9223372036854775808 < m.2 then (2,if c.toNat=45 then -9223372036854775808 else 9223372036854775807)
  else (0,if c.toNat=45 then -(m.2:Int) else m.2)
end Go.Ft
