/- Proved here: the words of the functional texts and plain facts on them. -/
import GoSem.Core.Sem
import GoSem.Core.Utf8
import GoSem.Op.IntArith
import GoSem.Op.String
set_option linter.unusedVariables false
set_option linter.unusedSimpArgs false
set_option linter.defProp false
set_option linter.unusedSectionVars false
namespace Go
def an0:=@List.drop_eq_getElem_cons
def an1:=@Int.toNat_natCast
def an5:=@List.length_cons
def an6:=@List.getElem?_eq_getElem
def an7:=@beq_eq_false_iff_ne
def anG:=@if_neg
def anL:=@Bool.false_eq_true
def anN:=@if_pos
def anW:=@if_false
def anX:=@if_true
def anZ:=@decide_eq_true_eq
def an_:=@Bool.and_eq_true
def ao0:=@beq_self_eq_true
def ao1:=@List.drop_drop
def ao2:=@Bool.false_or
def ao4:=@List.cons.inj
def ao5:=@List.length_drop
def ao6:=@List.take_succ_eq_append_getElem
def ao7:=@Bool.and_eq_false_iff
def ao8:=@decide_true
def ao9:=@Bool.eq_iff_iff
def aoA:=@Nat.mul_le_mul_right
def aoB:=@UInt8.toNat_inj
def aoC:=@Bool.not_false
def aoD:=@Nat.lt_or_ge
def aoE:=@Bool.or_eq_false_iff
def aoF:=@bne_iff_ne
def aoG:=@decide_eq_false
def aoH:=@List.length_pos_iff
def aoJ:=@List.mem_cons
def aoK:=@List.sum_cons
def aoL:=@List.eq_nil_of_length_eq_zero
def aoN:=@Nat.zero_le
def aoO:=@decide_false
def aoQ:=@List.getElem?_eq_none
def aoR:=@Bool.not_eq_true'
def aoS:=@List.length_nil
def aoT:=@List.getElem?_eq_some_iff
def aoU:=@Bool.true_and
def aoV:=@List.drop_zero
def aoW:=@List.cons.injEq
def aoX:=@List.mem_singleton
def aoY:=@Bool.false_and
def aoZ:=@List.mem_append
def ao_:=@List.map_map
def aob:=@List.drop_eq_nil_of_le
def aod:=@Nat.le_refl
def aoi:=@beq_iff_eq
def aol:=@List.getElem_mem
def aoq:=@Option.some.injEq
def aor:=@List.map_cons
def aos:=@List.getD_eq_getElem?_getD
def aot:=@Bool.not_true
def aou:=@decide_eq_true
def aov:=@Bool.or_eq_true
def aoy:=@Int.toNat_add
def aoz:=@decide_eq_false_iff_not
def apA:=@Nat.le_trans
def apB:=@Nat.add_sub_cancel_left
def apC:=@List.append_assoc
def apD:=@List.drop_of_length_le
def apE:=@List.map_append
def apF:=@Nat.mul_comm
def apG:=@Option.some.inj
def apH:=@Function.comp_apply
def apI:=@List.dropWhile_cons
def apJ:=@List.getD_cons_succ
def apK:=@Nat.add_mul
def apL:=@Bool.or_false
def apM:=@List.any_cons
def apN:=@Nat.mul_assoc
def apO:=@Decidable.not_not
def apa:=@List.nil_append
def apb:=@List.drop_succ_cons
def apc:=@List.cons_append
def apd:=@List.map_nil
def ape:=@Nat.pow_succ
def apf:=@bne_self_eq_false
def aph:=@Nat.pow_le_pow_right
def apj:=@List.drop_take
def apk:=@List.mem_map
def apl:=@ne_eq
def apm:=@List.zipWith_cons_cons
def apn:=@not_false_eq_true
def apo:=@List.length_singleton
def apq:=@Nat.mod_eq_of_lt
def apr:=@Option.getD_some
def aps:=@List.isPrefixOf_iff_prefix
def apt:=@List.mem_map_of_mem
def apu:=@Int.natCast_inj
def apv:=@List.foldl_cons
def apw:=@List.getElem?_drop
def apx:=@List.length_append
def apy:=@Nat.add_zero
def apz:=@Nat.eq_zero_or_pos
end Go
namespace Go.Ft
open Go
abbrev Str:=List UInt8
abbrev bq(n:Int):Int:=IntKind.i64.wrap n
def BIG:Nat:=18446744073709551616
def w9:Nat:=4294967296
def idx{α:Type}(l:List α)(i:Int):Option α:=if 0≤i then l[i.toNat]? else none
def sl{α:Type}(l:List α)(a b:Int):Option (List α):=if 0≤a∧a≤b∧b≤l.length then some ((l.take b.toNat).drop a.toNat)else none
def app{α:Type}(l m:List α):Option (List α):=if l.length+m.length≤w9 then some (l++m)else none
def dec(s:Str)(pos:Nat):Nat × Nat:=Utf8.decode ⟨s.toArray⟩ pos
def rR:List (Str × Int)→Str→Int
 | [],_=>0
 | (k',v)::r,k=>if k==k' then v else rR r k
def vL:List (Str × Int)→Str→Int→List (Str × Int)
 | [],k,n=>[(k,n)]
 | (k',v)::r,k,n=>if k==k' then (k',n)::r else (k',v)::vL r k n
def OV(b:Bool):Option Unit:=if b then some ()else none
def byteOf(n:Int):UInt8:=UInt8.ofNat (n%256).toNat
def av{α ρ:Type}(x:Option α)(f:α→Option ρ):Option ρ:=match x with|some a=>f a|none=>none
def eD{α β ρ:Type}(x:Option (α × β))(f:α→β→Option ρ):Option ρ:=match x with|some (a,b)=>f a b|none=>none
def mD{α β γ ρ:Type}(x:Option (α × β × γ))(f:α→β→γ→Option ρ):Option ρ:=match x with|some (a,b,c)=>f a b c|none=>none
def Jp{α β γ δ ρ:Type}(x:Option (α × β × γ × δ))(f:α→β→γ→δ→Option ρ):Option ρ:=match x with|some (a,b,c,d)=>f a b c d|none=>none
def Rb{α β γ δ ε ρ:Type}(x:Option (α × β × γ × δ × ε))(f:α→β→γ→δ→ε→Option ρ):Option ρ:=match x with|some (a,b,c,d,e)=>f a b c d e|none=>none
inductive fq (ε α:Type) where
 | ok (a:α)
 | bad (e:ε)
def dM{ε α ρ:Type}(x:Option (fq ε α))(g:ε→Option ρ)(f:α→Option ρ):Option ρ:=match x with|some (.ok a)=>f a|some (.bad e)=>g e|none=>none
def fJ{ε α σ ρ:Type}(x:Option (fq ε α × σ))(g:ε→σ→Option ρ)(f:α→σ→Option ρ):Option ρ:=match x with|some (.ok a,s)=>f a s|some (.bad e,s)=>g e s|none=>none
section
variable {α β γ δ ε ρ : Type}
theorem dW{x:Option (fq ε α)}{g:ε→Option ρ}{f:α→Option ρ}{r:ρ}(h:dM x g f=some r):(∃e,x=some (.bad e)∧g e=some r)∨∃a,x=some (.ok a)∧f a=some r:=by
 match x,h with
 | some (.ok a),h=>exact .inr ⟨a,rfl,h⟩
 | some (.bad e),h=>exact .inl ⟨e,rfl,h⟩
theorem Q_{x:Option (fq ε α × β)}{g:ε→β→Option ρ}{f:α→β→Option ρ}{r:ρ}(h:fJ x g f=some r):(∃e s,x=some (.bad e,s)∧g e s=some r)∨∃a s,x=some (.ok a,s)∧f a s=some r:=by
 match x,h with
 | some (.ok a,s),h=>exact .inr ⟨a,s,rfl,h⟩
 | some (.bad e,s),h=>exact .inl ⟨e,s,rfl,h⟩
@[simp] theorem iW(a:α)(g:ε→Option ρ)(f:α→Option ρ):dM (some (.ok a)) g f=f a:=rfl
@[simp] theorem Un(e:ε)(g:ε→Option ρ)(f:α→Option ρ):dM (some (.bad e)) g f=g e:=rfl
@[simp] theorem gF(a:α)(s:β)(g:ε→β→Option ρ)(f:α→β→Option ρ):fJ (some (.ok a,s)) g f=f a s:=rfl
@[simp] theorem fG(e:ε)(s:β)(g:ε→β→Option ρ)(f:α→β→Option ρ):fJ (some (.bad e,s)) g f=g e s:=rfl
@[simp] theorem aj(a:α)(f:α→Option ρ):av (some a) f=f a:=rfl
@[simp] theorem aK(f:α→Option ρ):av none f=none:=rfl
@[simp] theorem aB(a:α)(b:β)(f:α→β→Option ρ):eD (some (a,b)) f=f a b:=rfl
@[simp] theorem aJ(f:α→β→Option ρ):eD none f=none:=rfl
@[simp] theorem aC(a:α)(b:β)(c:γ)(f:α→β→γ→Option ρ):mD (some (a,b,c)) f=f a b c:=rfl
@[simp] theorem aI(f:α→β→γ→Option ρ):mD none f=none:=rfl
@[simp] theorem aG(a:α)(b:β)(c:γ)(d:δ)(f:α→β→γ→δ→Option ρ):Jp (some (a,b,c,d)) f=f a b c d:=rfl
@[simp] theorem aku(f:α→β→γ→δ→Option ρ):Jp none f=none:=rfl
@[simp] theorem aH(a:α)(b:β)(c:γ)(d:δ)(e:ε)(f:α→β→γ→δ→ε→Option ρ):Rb (some (a,b,c,d,e)) f=f a b c d e:=rfl
@[simp] theorem akt(f:α→β→γ→δ→ε→Option ρ):Rb none f=none:=rfl
theorem jE{x:Option α}{f:α→Option ρ}{r:ρ}(h:av x f=some r):∃a,x=some a∧f a=some r:=by
 cases x with
 | none=>cases h
 | some a=>exact⟨a,rfl,h⟩
theorem lI{x:Option (α × β)}{f:α→β→Option ρ}{r:ρ}(h:eD x f=some r):∃a b,x=some (a,b)∧f a b=some r:=by
 cases x with
 | none=>cases h
 | some a=>exact⟨a.1,a.2,rfl,h⟩
theorem Er{x:Option (α × β × γ)}{f:α→β→γ→Option ρ}{r:ρ}(h:mD x f=some r):∃a b c,x=some (a,b,c)∧f a b c=some r:=by
 cases x with
 | none=>cases h
 | some a=>exact⟨a.1,a.2.1,a.2.2,rfl,h⟩
theorem acS{x:Option (α × β × γ × δ)}{f:α→β→γ→δ→Option ρ}{r:ρ}(h:Jp x f=some r):∃a b c d,x=some (a,b,c,d)∧f a b c d=some r:=by
 cases x with
 | none=>cases h
 | some a=>exact⟨a.1,a.2.1,a.2.2.1,a.2.2.2,rfl,h⟩
theorem acR{x:Option (α × β × γ × δ × ε)}{f:α→β→γ→δ→ε→Option ρ}{r:ρ}(h:Rb x f=some r):∃a b c d e,x=some (a,b,c,d,e)∧f a b c d e=some r:=by
 cases x with
 | none=>cases h
 | some a=>exact⟨a.1,a.2.1,a.2.2.1,a.2.2.2.1,a.2.2.2.2,rfl,h⟩
@[simp] theorem akW(x:Option α):av x (fun a=>some a)=x:=by cases x<;>rfl
@[simp] theorem akV(x:Option (α × β)):eD x (fun a b=>some (a,b))=x:=by cases x<;>rfl
@[simp] theorem akU(x:Option (α × β × γ)):mD x (fun a b c=>some (a,b,c))=x:=by cases x<;>rfl
@[simp] theorem akT(x:Option (α × β × γ × δ)):Jp x (fun a b c d=>some (a,b,c,d))=x:=by cases x<;>rfl
@[simp] theorem akS(x:Option (α × β × γ × δ × ε)):Rb x (fun a b c d e=>some (a,b,c,d,e))=x:=by cases x<;>rfl
theorem ah6{x y:Option α}{f:α→Option ρ}(h:x=y):av x f=av y f:=by rw[h]
theorem ah5{x y:Option (α × β)}{f:α→β→Option ρ}(h:x=y):eD x f=eD y f:=by rw[h]
theorem ah4{x y:Option (α × β × γ)}{f:α→β→γ→Option ρ}(h:x=y):mD x f=mD y f:=by rw[h]
theorem ah3{x y:Option (α × β × γ × δ)}{f:α→β→γ→δ→Option ρ}(h:x=y):Jp x f=Jp y f:=by rw[h]
theorem ah2{x y:Option (α × β × γ × δ × ε)}{f:α→β→γ→δ→ε→Option ρ}(h:x=y):Rb x f=Rb y f:=by rw[h]
theorem fD{c d:Prop}{ic:Decidable c}{jc:Decidable d}{x y:α}(h:c=d):@ite α c ic x y=@ite α d jc x y:=by
 subst h
 cases ic with
 | isTrue h=>cases jc with
  | isTrue h'=>rfl
  | isFalse h'=>exact absurd h h'
 | isFalse h=>cases jc with
  | isTrue h'=>exact absurd h' h
  | isFalse h'=>rfl
attribute [congr] ah6 ah5 ah4 ah3 ah2
theorem nC{b:Bool}{x y r:α}(h:b=true)(hf:(if b=true then x else y)=r):x=r:=by rw[anN h]at hf;exact hf
theorem mO{b:Bool}{x y r:α}(h:b=false)(hf:(if b=true then x else y)=r):y=r:=by rw[anG (by simp[h])]at hf;exact hf
theorem jS{r:α}{P:Prop}(h:(none:Option α)=some r):P:=by cases h
theorem qW{l:List α}{i:Int}{a:α}(h:idx l i=some a):0≤i∧l[i.toNat]?=some a:=by
 unfold idx at h
 split at h
 ·exact⟨by assumption,h⟩
 ·cases h
theorem aaO(l:List α)(i:Nat):idx l (i:Int)=l[i]?:=by simp[idx]
theorem Cn{l:List α}{i:Int}(h0:0≤i)(h:i<l.length):idx l i=some (l[i.toNat]'(by omega)):=by
 unfold idx
 rw[anN h0,an6]
theorem aav{l r:List α}{a b:Int}(h:sl l a b=some r):0≤a∧a≤b∧b≤l.length∧r=(l.take b.toNat).drop a.toNat:=by
 unfold sl at h
 split at h
 ·rename_i hc
  simp only[aoq]at h
  exact⟨hc.1,hc.2.1,hc.2.2,h.symm⟩
 ·cases h
theorem bG{l:List α}{a b:Int}(h0:0≤a)(h1:a≤b)(h2:b≤l.length):sl l a b=some ((l.take b.toNat).drop a.toNat):=by
 unfold sl;rw[anN ⟨h0,h1,h2⟩]
theorem uo{l m r:List α}(h:app l m=some r):l.length+m.length≤w9∧r=l++m:=by
 unfold app at h
 split at h
 ·simp only[aoq]at h
  exact⟨by assumption,h.symm⟩
 ·cases h
theorem aT{l m:List α}(h:l.length+m.length≤w9):app l m=some (l++m):=by unfold app;rw[anN h]
theorem HY{b:Bool}{u:Unit}(h:OV b=some u):b=true:=by
 unfold OV at h
 split at h
 ·assumption
 ·cases h
end
theorem Uy{n:Int}(h1:-9223372036854775808≤n)(h2:n≤9223372036854775807):IntKind.i64.wrap n=n:=by
 simp[IntKind.wrap,IntKind.bits,IntKind.signed]
 omega
theorem aW{n:Int}(h1:-9223372036854775808≤n)(h2:n<9223372036854775808):bq n=n:=Uy h1 (by omega)
theorem bg{α:Type}[Inhabited α]{l:List α}{i:Int}(h0:0≤i)(h:i<(l.length:Int)):idx l i=some (l.getD i.toNat default):=by
 rw[Cn h0 h,aos,an6 (by omega),apr]
theorem bf{b:Bool}(h:b=true):OV b=some ():=by rw[h];rfl
theorem byteOf_toNat(n:Int):((byteOf n).toNat:Int)=IntKind.u8.wrap n:=by
 simp[byteOf,IntKind.wrap,IntKind.bits,IntKind.signed]
 omega
theorem M5{n:Int}(h1:0≤n)(h2:n<256):((byteOf n).toNat:Int)=n:=by
 simp[byteOf];omega
def dh(c:UInt8):Bool:=(decide (48≤(c.toNat:Int)))&&(decide ((c.toNat:Int)≤57))
def iY(p:UInt8→Bool)(l:Str):Nat:=(l.takeWhile p).length
def dz(s:Str):Str:=s.dropWhile fun c=>(c.toNat:Int)==48
def qz:List Nat→List Nat→Int
 | [],[]=>0
 | [],_::_=>-1
 | _::_,[]=>1
 | a::l,b::m=>if a<b then -1 else if b<a then 1 else qz l m
def Qv:Nat→Str→List Nat
 | 0,_=>[]
 | _+1,[]=>[]
 | k+1,c::s=>if dh c then
   48::(dz ((c::s).take (iY dh (c::s)))).length::((dz ((c::s).take (iY dh (c::s)))).map UInt8.toNat++iY dh (c::s)::Qv k ((c::s).drop (iY dh (c::s))))
  else c.toNat::Qv k s
def key(s:Str):List Nat:=Qv s.length s
def f_(a b:Str):Int:=qz (key a) (key b)
def Tj{α:Type}(k:α→Str)(l:List α):Option (List α):=
 if l.length≤w9∧(∀x∈l,(k x).length<4611686018427387904)∧(l.map k).Nodup then some (l.mergeSort fun x y=>!decide (f_ (k y) (k x)<0))else none
def kP:Str→Str→Option Nat
 | [],t=>if t.isEmpty then some 0 else none
 | b::l,t=>if t.isPrefixOf (b::l)then some 0 else (kP l t).map (·+1)
def mR(t:Str):Nat→Str→List Str
 | 0,s=>[s]
 | k+1,s=>match kP s t with
  | none=>[s]
  | some i=>s.take i::mR t k (s.drop (i+t.length))
def lZ:List Str→Str→Str
 | [],_=>[]
 | [x],_=>x
 | x::y::r,t=>x++(t++lZ (y::r) t)
def rz:Nat→Nat→Str
 | 0,_=>[]
 | k+1,u=>if u<10 then [UInt8.ofNat (48+u)]else rz k (u/10)++[UInt8.ofNat (48+u%10)]
def tK(n:Int):Str:=if n<0 then 45::rz 20 n.natAbs else rz 20 n.toNat
def GN(acc:Nat):Str→Nat × Nat
 | []=>(0,acc)
 | c::r=>
  if 48≤c.toNat∧c.toNat≤57 then
   if 1844674407370955162≤acc then (2,0)
   else if 18446744073709551616≤acc*10+(c.toNat-48)then (2,0)
   else GN (acc*10+(c.toNat-48)) r
  else (1,0)
def uj(l:Str):Nat × Int:=
 match l with
 | []=>(1,0)
 | c::r=>
  let m:=if (if c.toNat=43∨c.toNat=45 then r else l)=[]then (1,0)else GN 0 (if c.toNat=43∨c.toNat=45 then r else l)
  if m.1=1 then (1,0)
  else if m.1=2 then (2,if c.toNat=45 then -9223372036854775808 else 9223372036854775807)
  else if c.toNat≠45∧9223372036854775808≤m.2 then (2,if c.toNat=45 then -9223372036854775808 else 9223372036854775807)
  else if c.toNat=45∧9223372036854775808<m.2 then (2,if c.toNat=45 then -9223372036854775808 else 9223372036854775807)
  else (0,if c.toNat=45 then -(m.2:Int)else m.2)
end Go.Ft
