/- Proved here: the words of the functional texts and plain facts on them. -/
import GoSem.Core.Sem
import GoSem.Core.Utf8
import GoSem.Op.IntArith
import GoSem.Op.String
set_option linter.unusedVariables false
set_option linter.unusedSimpArgs false
set_option linter.defProp false
set_option linter.unusedSectionVars false
namespace Go
def an9:=@if_neg
def an_:=@Bool.false_eq_true
def ao0:=@List.mem_singleton
def ao2:=@List.mem_append
def ao4:=@List.mem_map
def ao5:=@List.drop_succ_cons
def ao6:=@List.mem_map_of_mem
def ao7:=@List.cons_append
def ao8:=@List.zipWith_cons_cons
def ao9:=@List.map_nil
def aoA:=@bne_iff_ne
def aoB:=@List.mem_cons
def aoC:=@List.getElem?_eq_some_iff
def aoD:=@UInt8.toNat_inj
def aoE:=@Nat.lt_or_ge
def aoF:=@Bool.or_eq_false_iff
def aoG:=@Bool.not_eq_true'
def aoH:=@List.length_pos_iff
def aoI:=@List.eq_nil_of_length_eq_zero
def aoJ:=@List.sum_cons
def aoK:=@List.getElem?_eq_none
def aoL:=@Bool.false_and
def aoM:=@beq_self_eq_true
def aoN:=@Bool.true_and
def aoO:=@Bool.eq_iff_iff
def aoP:=@List.cons.injEq
def aoQ:=@List.map_map
def aoR:=@List.drop_zero
def aoS:=@List.drop_drop
def aoT:=@bne_self_eq_false
def aoU:=@List.length_nil
def aoV:=@decide_false
def aoW:=@Bool.false_or
def aoX:=@List.cons.inj
def aoY:=@Nat.mod_eq_of_lt
def aoZ:=@Bool.and_eq_false_iff
def ao_:=@List.pairwise_cons
def aoa:=@if_pos
def aob:=@if_false
def aoc:=@if_true
def aod:=@decide_eq_true_eq
def aoe:=@List.drop_eq_getElem_cons
def aof:=@Int.toNat_natCast
def aog:=@List.length_cons
def aoh:=@List.getElem?_eq_getElem
def aoi:=@Option.some.injEq
def aoj:=@Bool.and_eq_true
def aok:=@beq_eq_false_iff_ne
def aom:=@beq_iff_eq
def aon:=@Nat.le_refl
def aoo:=@decide_eq_true
def aop:=@List.drop_eq_nil_of_le
def aoq:=@List.getElem_mem
def aor:=@decide_eq_false
def aos:=@Bool.not_true
def aot:=@List.map_cons
def aou:=@List.getD_eq_getElem?_getD
def aov:=@Bool.or_eq_true
def aow:=@decide_eq_false_iff_not
def aox:=@Int.toNat_add
def aoy:=@Nat.mul_le_mul_right
def aoz:=@Bool.not_false
def apA:=@Decidable.not_not
def apB:=@List.drop_of_length_le
def apC:=@decide_true
def apD:=@Bool.and_true
def apE:=@Bool.or_false
def apF:=@List.length_take
def apG:=@List.take_succ_eq_append_getElem
def apH:=@BitVec.eq_of_toInt_eq
def apI:=@List.mem_cons_of_mem
def apJ:=@List.mem_iff_getElem
def apK:=@List.sum_append
def apL:=@Nat.le_trans
def apM:=@Nat.mul_comm
def apN:=@BitVec.toInt_ofNat'
def apO:=@Function.comp_apply
def apP:=@List.dropWhile_cons
def apQ:=@List.getD_cons_succ
def apR:=@Bool.and_false
def apS:=@Nat.add_mul
def apT:=@BitVec.toInt_ofInt
def apU:=@Bool.true_eq_false
def apV:=@List.mem_cons_self
def apW:=@List.any_cons
def apX:=@Nat.mul_assoc
def apY:=@not_true_eq_false
def apa:=@Nat.pow_succ
def apb:=@List.append_assoc
def apc:=@Nat.pow_le_pow_right
def apd:=@ne_eq
def ape:=@List.drop_take
def apf:=@List.getElem_append_left
def apg:=@List.length_drop
def aph:=@Prod.mk.injEq
def apj:=@BitVec.toNat_ofNat
def apk:=@List.length_append
def apl:=@Option.some.inj
def apm:=@Nat.zero_le
def apn:=@not_false_eq_true
def apo:=@Option.getD_some
def apq:=@List.isPrefixOf_iff_prefix
def apr:=@Int.natCast_inj
def aps:=@List.foldl_cons
def apt:=@List.getElem_append_right
def apu:=@List.map_append
def apv:=@List.nil_append
def apw:=@List.getElem?_drop
def apx:=@Nat.add_zero
def apy:=@Nat.eq_zero_or_pos
def apz:=@Nat.add_sub_cancel_left
end Go
namespace Go.Ft
open Go
abbrev Str:=List UInt8
abbrev bV(n:Int):Int:=IntKind.i64.wrap n
def BIG:Nat:=18446744073709551616
def sI:Nat:=4294967296
def idx{α:Type}(l:List α)(i:Int):Option α:=if 0≤i then l[i.toNat]? else none
def sl{α:Type}(l:List α)(a b:Int):Option (List α):=if 0≤a∧a≤b∧b≤l.length then some ((l.take b.toNat).drop a.toNat)else none
def app{α:Type}(l m:List α):Option (List α):=if l.length+m.length≤sI then some (l++m)else none
def dec(s:Str)(pos:Nat):Nat × Nat:=Utf8.decode ⟨s.toArray⟩ pos
def qz:List (Str × Int)→Str→Int
 | [],_=>0
 | (k',v)::r,k=>if k==k' then v else qz r k
def sZ:List (Str × Int)→Str→Int→List (Str × Int)
 | [],k,n=>[(k,n)]
 | (k',v)::r,k,n=>if k==k' then (k',n)::r else (k',v)::sZ r k n
def chk(b:Bool):Option Unit:=if b then some ()else none
def byteOf(n:Int):UInt8:=UInt8.ofNat (n%256).toNat
def av{α ρ:Type}(x:Option α)(f:α→Option ρ):Option ρ:=match x with|some a=>f a|none=>none
def fI{α β ρ:Type}(x:Option (α × β))(f:α→β→Option ρ):Option ρ:=match x with|some (a,b)=>f a b|none=>none
def Au{α β γ ρ:Type}(x:Option (α × β × γ))(f:α→β→γ→Option ρ):Option ρ:=match x with|some (a,b,c)=>f a b c|none=>none
def ZK{α β γ δ ρ:Type}(x:Option (α × β × γ × δ))(f:α→β→γ→δ→Option ρ):Option ρ:=match x with|some (a,b,c,d)=>f a b c d|none=>none
def ZJ{α β γ δ ε ρ:Type}(x:Option (α × β × γ × δ × ε))(f:α→β→γ→δ→ε→Option ρ):Option ρ:=match x with|some (a,b,c,d,e)=>f a b c d e|none=>none
inductive eX (ε α:Type) where
 | ok (a:α)
 | bad (e:ε)
def eO{ε α ρ:Type}(x:Option (eX ε α))(g:ε→Option ρ)(f:α→Option ρ):Option ρ:=match x with|some (.ok a)=>f a|some (.bad e)=>g e|none=>none
def gV{ε α σ ρ:Type}(x:Option (eX ε α × σ))(g:ε→σ→Option ρ)(f:α→σ→Option ρ):Option ρ:=match x with|some (.ok a,s)=>f a s|some (.bad e,s)=>g e s|none=>none
section
variable {α β γ δ ε ρ : Type}
theorem bM{x:Option (eX ε α)}{g:ε→Option ρ}{f:α→Option ρ}{r:ρ}(h:eO x g f=some r):(∃e,x=some (.bad e)∧g e=some r)∨∃a,x=some (.ok a)∧f a=some r:=by
 match x,h with
 | some (.ok a),h=>exact .inr ⟨a,rfl,h⟩
 | some (.bad e),h=>exact .inl ⟨e,rfl,h⟩
theorem dY{x:Option (eX ε α × β)}{g:ε→β→Option ρ}{f:α→β→Option ρ}{r:ρ}(h:gV x g f=some r):(∃e s,x=some (.bad e,s)∧g e s=some r)∨∃a s,x=some (.ok a,s)∧f a s=some r:=by
 match x,h with
 | some (.ok a,s),h=>exact .inr ⟨a,s,rfl,h⟩
 | some (.bad e,s),h=>exact .inl ⟨e,s,rfl,h⟩
@[simp] theorem jK(a:α)(g:ε→Option ρ)(f:α→Option ρ):eO (some (.ok a)) g f=f a:=rfl
@[simp] theorem VQ(e:ε)(g:ε→Option ρ)(f:α→Option ρ):eO (some (.bad e)) g f=g e:=rfl
@[simp] theorem iB(a:α)(s:β)(g:ε→β→Option ρ)(f:α→β→Option ρ):gV (some (.ok a,s)) g f=f a s:=rfl
@[simp] theorem gH(e:ε)(s:β)(g:ε→β→Option ρ)(f:α→β→Option ρ):gV (some (.bad e,s)) g f=g e s:=rfl
@[simp] theorem aj(a:α)(f:α→Option ρ):av (some a) f=f a:=rfl
@[simp] theorem aM(f:α→Option ρ):av none f=none:=rfl
@[simp] theorem aA(a:α)(b:β)(f:α→β→Option ρ):fI (some (a,b)) f=f a b:=rfl
@[simp] theorem aL(f:α→β→Option ρ):fI none f=none:=rfl
@[simp] theorem aC(a:α)(b:β)(c:γ)(f:α→β→γ→Option ρ):Au (some (a,b,c)) f=f a b c:=rfl
@[simp] theorem aK(f:α→β→γ→Option ρ):Au none f=none:=rfl
@[simp] theorem aH(a:α)(b:β)(c:γ)(d:δ)(f:α→β→γ→δ→Option ρ):ZK (some (a,b,c,d)) f=f a b c d:=rfl
@[simp] theorem akZ(f:α→β→γ→δ→Option ρ):ZK none f=none:=rfl
@[simp] theorem aJ(a:α)(b:β)(c:γ)(d:δ)(e:ε)(f:α→β→γ→δ→ε→Option ρ):ZJ (some (a,b,c,d,e)) f=f a b c d e:=rfl
@[simp] theorem akY(f:α→β→γ→δ→ε→Option ρ):ZJ none f=none:=rfl
theorem EY{x:Option α}{f:α→Option ρ}{r:ρ}(h:av x f=some r):∃a,x=some a∧f a=some r:=by
 cases x with
 | none=>cases h
 | some a=>exact⟨a,rfl,h⟩
theorem dD{x:Option (α × β)}{f:α→β→Option ρ}{r:ρ}(h:fI x f=some r):∃a b,x=some (a,b)∧f a b=some r:=by
 cases x with
 | none=>cases h
 | some a=>exact⟨a.1,a.2,rfl,h⟩
theorem nH{x:Option (α × β × γ)}{f:α→β→γ→Option ρ}{r:ρ}(h:Au x f=some r):∃a b c,x=some (a,b,c)∧f a b c=some r:=by
 cases x with
 | none=>cases h
 | some a=>exact⟨a.1,a.2.1,a.2.2,rfl,h⟩
@[simp] theorem alf(x:Option α):av x (fun a=>some a)=x:=by cases x<;>rfl
@[simp] theorem JR(x:Option (α × β)):fI x (fun a b=>some (a,b))=x:=by cases x<;>rfl
@[simp] theorem JQ(x:Option (α × β × γ)):Au x (fun a b c=>some (a,b,c))=x:=by cases x<;>rfl
@[simp] theorem ale(x:Option (α × β × γ × δ)):ZK x (fun a b c d=>some (a,b,c,d))=x:=by cases x<;>rfl
@[simp] theorem ald(x:Option (α × β × γ × δ × ε)):ZJ x (fun a b c d e=>some (a,b,c,d,e))=x:=by cases x<;>rfl
theorem aiJ{x y:Option α}{f:α→Option ρ}(h:x=y):av x f=av y f:=by rw[h]
theorem aiI{x y:Option (α × β)}{f:α→β→Option ρ}(h:x=y):fI x f=fI y f:=by rw[h]
theorem aiH{x y:Option (α × β × γ)}{f:α→β→γ→Option ρ}(h:x=y):Au x f=Au y f:=by rw[h]
theorem aiG{x y:Option (α × β × γ × δ)}{f:α→β→γ→δ→Option ρ}(h:x=y):ZK x f=ZK y f:=by rw[h]
theorem aiF{x y:Option (α × β × γ × δ × ε)}{f:α→β→γ→δ→ε→Option ρ}(h:x=y):ZJ x f=ZJ y f:=by rw[h]
theorem fH{c d:Prop}{ic:Decidable c}{jc:Decidable d}{x y:α}(h:c=d):@ite α c ic x y=@ite α d jc x y:=by
 subst h
 cases ic with
 | isTrue h=>cases jc with
  | isTrue h'=>rfl
  | isFalse h'=>exact absurd h h'
 | isFalse h=>cases jc with
  | isTrue h'=>exact absurd h' h
  | isFalse h'=>rfl
attribute [congr] aiJ aiI aiH aiG aiF
theorem pV{b:Bool}{x y r:α}(h:b=true)(hf:(if b=true then x else y)=r):x=r:=by rw[aoa h]at hf;exact hf
theorem nU{b:Bool}{x y r:α}(h:b=false)(hf:(if b=true then x else y)=r):y=r:=by rw[an9 (by simp[h])]at hf;exact hf
theorem dH{r:α}{P:Prop}(h:(none:Option α)=some r):P:=by cases h
theorem EP{l:List α}{i:Int}{a:α}(h:idx l i=some a):0≤i∧l[i.toNat]?=some a:=by
 unfold idx at h
 split at h
 ·exact⟨by assumption,h⟩
 ·cases h
theorem ab_(l:List α)(i:Nat):idx l (i:Int)=l[i]?:=by simp[idx]
theorem aaZ{l:List α}{i:Int}(h0:0≤i)(h:i<l.length):idx l i=some (l[i.toNat]'(by omega)):=by
 unfold idx
 rw[aoa h0,aoh]
theorem abT{l r:List α}{a b:Int}(h:sl l a b=some r):0≤a∧a≤b∧b≤l.length∧r=(l.take b.toNat).drop a.toNat:=by
 unfold sl at h
 split at h
 ·rename_i hc
  simp only[aoi]at h
  exact⟨hc.1,hc.2.1,hc.2.2,h.symm⟩
 ·cases h
theorem bS{l:List α}{a b:Int}(h0:0≤a)(h1:a≤b)(h2:b≤l.length):sl l a b=some ((l.take b.toNat).drop a.toNat):=by
 unfold sl;rw[aoa ⟨h0,h1,h2⟩]
theorem qW{l m r:List α}(h:app l m=some r):l.length+m.length≤sI∧r=l++m:=by
 unfold app at h
 split at h
 ·simp only[aoi]at h
  exact⟨by assumption,h.symm⟩
 ·cases h
theorem bg{l m:List α}(h:l.length+m.length≤sI):app l m=some (l++m):=by unfold app;rw[aoa h]
theorem Zu{b:Bool}{u:Unit}(h:chk b=some u):b=true:=by
 unfold chk at h
 split at h
 ·assumption
 ·cases h
end
theorem V5{n:Int}(h1:-9223372036854775808≤n)(h2:n≤9223372036854775807):IntKind.i64.wrap n=n:=by
 simp[IntKind.wrap,IntKind.bits,IntKind.signed]
 omega
theorem bB{n:Int}(h1:-9223372036854775808≤n)(h2:n<9223372036854775808):bV n=n:=V5 h1 (by omega)
theorem bG{α:Type}[Inhabited α]{l:List α}{i:Int}(h0:0≤i)(h:i<(l.length:Int)):idx l i=some (l.getD i.toNat default):=by
 rw[aaZ h0 h,aou,aoh (by omega),apo]
theorem bF{b:Bool}(h:b=true):chk b=some ():=by rw[h];rfl
theorem byteOf_toNat(n:Int):((byteOf n).toNat:Int)=IntKind.u8.wrap n:=by
 simp[byteOf,IntKind.wrap,IntKind.bits,IntKind.signed]
 omega
theorem Oa{n:Int}(h1:0≤n)(h2:n<256):((byteOf n).toNat:Int)=n:=by
 simp[byteOf];omega
def dV(c:UInt8):Bool:=(decide (48≤(c.toNat:Int)))&&(decide ((c.toNat:Int)≤57))
def jM(p:UInt8→Bool)(l:Str):Nat:=(l.takeWhile p).length
def dz(s:Str):Str:=s.dropWhile fun c=>(c.toNat:Int)==48
def qX:List Nat→List Nat→Int
 | [],[]=>0
 | [],_::_=>-1
 | _::_,[]=>1
 | a::l,b::m=>if a<b then -1 else if b<a then 1 else qX l m
def R4:Nat→Str→List Nat
 | 0,_=>[]
 | _+1,[]=>[]
 | k+1,c::s=>if dV c then
   48::(dz ((c::s).take (jM dV (c::s)))).length::((dz ((c::s).take (jM dV (c::s)))).map UInt8.toNat++jM dV (c::s)::R4 k ((c::s).drop (jM dV (c::s))))
  else c.toNat::R4 k s
def key(s:Str):List Nat:=R4 s.length s
def gI(a b:Str):Int:=qX (key a) (key b)
def dd:List Str→List Str
 | []=>[]
 | [x]=>[x]
 | x::y::l=>if x=y then dd (y::l)else x::dd (y::l)
def aie(l:List Str):List Str:=l.mergeSort fun x y=>!decide (gI y x<0)
def afO(l:List Str):List Str:=dd (aie l)
def U8{α:Type}(k:α→Str)(l:List α):Option (List α):=
 if l.length≤sI∧(∀x∈l,(k x).length<4611686018427387904)∧(l.map k).Nodup then some (l.mergeSort fun x y=>!decide (gI (k y) (k x)<0))else none
def mo:Str→Str→Option Nat
 | [],t=>if t.isEmpty then some 0 else none
 | b::l,t=>if t.isPrefixOf (b::l)then some 0 else (mo l t).map (·+1)
def nZ(t:Str):Nat→Str→List Str
 | 0,s=>[s]
 | k+1,s=>match mo s t with
  | none=>[s]
  | some i=>s.take i::nZ t k (s.drop (i+t.length))
def nT:List Str→Str→Str
 | [],_=>[]
 | [x],_=>x
 | x::y::r,t=>x++(t++nT (y::r) t)
def sG:Nat→Nat→Str
 | 0,_=>[]
 | k+1,u=>if u<10 then [UInt8.ofNat (48+u)]else sG k (u/10)++[UInt8.ofNat (48+u%10)]
def um(n:Int):Str:=if n<0 then 45::sG 20 n.natAbs else sG 20 n.toNat
def Iq(acc:Nat):Str→Nat × Nat
 | []=>(0,acc)
 | c::r=>
  if 48≤c.toNat∧c.toNat≤57 then
   if 1844674407370955162≤acc then (2,0)
   else if 18446744073709551616≤acc*10+(c.toNat-48)then (2,0)
   else Iq (acc*10+(c.toNat-48)) r
  else (1,0)
def uM(l:Str):Nat × Int:=
 match l with
 | []=>(1,0)
 | c::r=>
  let m:=if (if c.toNat=43∨c.toNat=45 then r else l)=[]then (1,0)else Iq 0 (if c.toNat=43∨c.toNat=45 then r else l)
  if m.1=1 then (1,0)
  else if m.1=2 then (2,if c.toNat=45 then -9223372036854775808 else 9223372036854775807)
  else if c.toNat≠45∧9223372036854775808≤m.2 then (2,if c.toNat=45 then -9223372036854775808 else 9223372036854775807)
  else if c.toNat=45∧9223372036854775808<m.2 then (2,if c.toNat=45 then -9223372036854775808 else 9223372036854775807)
  else (0,if c.toNat=45 then -(m.2:Int)else m.2)
end Go.Ft
