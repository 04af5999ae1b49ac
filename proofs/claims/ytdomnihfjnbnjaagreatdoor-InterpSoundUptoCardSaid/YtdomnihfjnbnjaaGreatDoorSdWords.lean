/- Proved here: the words of the functional texts and plain facts on them. -/
import GoSem.Core.Sem
import GoSem.Core.Utf8
import GoSem.Op.IntArith
import GoSem.Op.String
set_option linter.unusedVariables false
set_option linter.unusedSimpArgs false
set_option linter.defProp false
set_option linter.unusedSectionVars false
namespace Go
def ar0:=@List.drop_eq_getElem_cons
def ar4:=@beq_iff_eq
def ar7:=@Int.toNat_natCast
def arF:=@if_neg
def arG:=@Bool.false_eq_true
def arK:=@if_pos
def arN:=@if_false
def arO:=@if_true
def arP:=@decide_eq_true_eq
def arV:=@Bool.and_eq_true
def as0:=@UInt8.toNat_inj
def as1:=@Bool.not_false
def as2:=@bne_self_eq_false
def as3:=@Bool.not_eq_true'
def as5:=@List.eq_nil_of_length_eq_zero
def as6:=@Bool.true_and
def as8:=@List.cons.injEq
def as9:=@List.sum_cons
def asB:=@Option.some.injEq
def asC:=@Bool.not_true
def asD:=@List.getD_eq_getElem?_getD
def asE:=@Int.toNat_add
def asG:=@List.mem_cons
def asI:=@decide_eq_false_iff_not
def asL:=@bne_iff_ne
def asN:=@Bool.or_eq_false_iff
def asQ:=@Nat.lt_or_ge
def asT:=@Bool.false_or
def asU:=@decide_eq_true
def asV:=@Nat.mul_le_mul_right
def asZ:=@Bool.eq_iff_iff
def as_:=@List.length_pos_iff
def asb:=@List.getElem?_eq_getElem
def ase:=@List.length_cons
def asq:=@Bool.or_eq_true
def asr:=@beq_eq_false_iff_ne
def asv:=@List.getElem_mem
def asw:=@List.drop_eq_nil_of_le
def asx:=@Nat.le_refl
def asy:=@List.map_cons
def at0:=@Bool.true_or
def at1:=@Nat.le_trans
def at7:=@Nat.mul_comm
def atA:=@Bool.not_eq_true
def atB:=@List.length_drop
def atC:=@Option.getD_some
def atD:=@ne_eq
def atE:=@List.any_cons
def atF:=@List.map_append
def atG:=@List.mem_append
def atH:=@Nat.zero_le
def atI:=@List.append_assoc
def atJ:=@not_false_eq_true
def atK:=@List.all_eq_true
def atL:=@Nat.mod_eq_of_lt
def atM:=@Bool.or_false
def atN:=@List.isPrefixOf_iff_prefix
def atO:=@Int.natCast_inj
def atP:=@List.foldl_cons
def atQ:=@List.getElem?_drop
def atS:=@Nat.add_zero
def atT:=@Nat.eq_zero_or_pos
def atU:=@and_self
def atW:=@Nat.add_sub_cancel_left
def atX:=@List.getElem_cons_zero
def atZ:=@List.all_cons
def ata:=@List.getElem?_eq_none
def atb:=@List.cons.inj
def atc:=@decide_eq_false
def atd:=@beq_self_eq_true
def ate:=@List.getElem?_eq_some_iff
def atf:=@List.map_nil
def atg:=@List.map_map
def ath:=@decide_false
def ati:=@Bool.false_and
def atl:=@List.drop_zero
def atm:=@Bool.and_eq_false_iff
def atn:=@List.mem_map
def ato:=@List.drop_drop
def atq:=@List.length_nil
def atr:=@List.drop_succ_cons
def att:=@List.mem_map_of_mem
def atu:=@List.cons_append
def atv:=@List.zipWith_cons_cons
def atw:=@List.mem_singleton
def atx:=@Nat.pow_succ
def aty:=@Nat.pow_le_pow_right
def atz:=@List.drop_take
def aua:=@Function.comp_apply
def aub:=@List.dropWhile_cons
def auc:=@List.getD_cons_succ
def aud:=@Bool.and_assoc
def aue:=@and_true
def auf:=@Nat.add_mul
def aug:=@decide_true
def auh:=@List.contains_cons
def aui:=@List.length_append
def auj:=@Int.lt_irrefl
def auk:=@Nat.mul_assoc
def aul:=@Prod.mk.injEq
def aum:=@Decidable.not_not
def aun:=@List.getElem_take
def auo:=@List.take_add_one
end Go
namespace Go.Ft
open Go
abbrev Str:=List UInt8
abbrev bF(n:Int):Int:=IntKind.i64.wrap n
def BIG:Nat:=18446744073709551616
def wX:Nat:=4294967296
def idx{α:Type}(l:List α)(i:Int):Option α:=if 0≤i then l[i.toNat]? else none
def sl{α:Type}(l:List α)(a b:Int):Option (List α):=if 0≤a∧a≤b∧b≤l.length then some ((l.take b.toNat).drop a.toNat)else none
def app{α:Type}(l m:List α):Option (List α):=if l.length+m.length≤wX then some (l++m)else none
def dec(s:Str)(pos:Nat):Nat × Nat:=Utf8.decode ⟨s.toArray⟩ pos
def nX:List (Str × Int)→Str→Int
 | [],_=>0
 | (k',v)::r,k=>if k==k' then v else nX r k
def sJ:List (Str × Int)→Str→Int→List (Str × Int)
 | [],k,n=>[(k,n)]
 | (k',v)::r,k,n=>if k==k' then (k',n)::r else (k',v)::sJ r k n
def Zg(b:Bool):Option Unit:=if b then some ()else none
def byteOf(n:Int):UInt8:=UInt8.ofNat (n%256).toNat
def au{α ρ:Type}(x:Option α)(f:α→Option ρ):Option ρ:=match x with|some a=>f a|none=>none
def fD{α β ρ:Type}(x:Option (α × β))(f:α→β→Option ρ):Option ρ:=match x with|some (a,b)=>f a b|none=>none
def mq{α β γ ρ:Type}(x:Option (α × β × γ))(f:α→β→γ→Option ρ):Option ρ:=match x with|some (a,b,c)=>f a b c|none=>none
def Me{α β γ δ ρ:Type}(x:Option (α × β × γ × δ))(f:α→β→γ→δ→Option ρ):Option ρ:=match x with|some (a,b,c,d)=>f a b c d|none=>none
def UZ{α β γ δ ε ρ:Type}(x:Option (α × β × γ × δ × ε))(f:α→β→γ→δ→ε→Option ρ):Option ρ:=match x with|some (a,b,c,d,e)=>f a b c d e|none=>none
inductive fG (ε α:Type) where
 | ok (a:α)
 | bad (e:ε)
def dU{ε α ρ:Type}(x:Option (fG ε α))(g:ε→Option ρ)(f:α→Option ρ):Option ρ:=match x with|some (.ok a)=>f a|some (.bad e)=>g e|none=>none
def fZ{ε α σ ρ:Type}(x:Option (fG ε α × σ))(g:ε→σ→Option ρ)(f:α→σ→Option ρ):Option ρ:=match x with|some (.ok a,s)=>f a s|some (.bad e,s)=>g e s|none=>none
section
variable {α β γ δ ε ρ : Type}
theorem eD{x:Option (fG ε α)}{g:ε→Option ρ}{f:α→Option ρ}{r:ρ}(h:dU x g f=some r):(∃e,x=some (.bad e)∧g e=some r)∨∃a,x=some (.ok a)∧f a=some r:=by
 match x,h with
 | some (.ok a),h=>exact .inr ⟨a,rfl,h⟩
 | some (.bad e),h=>exact .inl ⟨e,rfl,h⟩
theorem UW{x:Option (fG ε α × β)}{g:ε→β→Option ρ}{f:α→β→Option ρ}{r:ρ}(h:fZ x g f=some r):(∃e s,x=some (.bad e,s)∧g e s=some r)∨∃a s,x=some (.ok a,s)∧f a s=some r:=by
 match x,h with
 | some (.ok a,s),h=>exact .inr ⟨a,s,rfl,h⟩
 | some (.bad e,s),h=>exact .inl ⟨e,s,rfl,h⟩
@[simp] theorem jJ(a:α)(g:ε→Option ρ)(f:α→Option ρ):dU (some (.ok a)) g f=f a:=rfl
@[simp] theorem XI(e:ε)(g:ε→Option ρ)(f:α→Option ρ):dU (some (.bad e)) g f=g e:=rfl
@[simp] theorem gW(a:α)(s:β)(g:ε→β→Option ρ)(f:α→β→Option ρ):fZ (some (.ok a,s)) g f=f a s:=rfl
@[simp] theorem fO(e:ε)(s:β)(g:ε→β→Option ρ)(f:α→β→Option ρ):fZ (some (.bad e,s)) g f=g e s:=rfl
@[simp] theorem aj(a:α)(f:α→Option ρ):au (some a) f=f a:=rfl
@[simp] theorem aL(f:α→Option ρ):au none f=none:=rfl
@[simp] theorem aC(a:α)(b:β)(f:α→β→Option ρ):fD (some (a,b)) f=f a b:=rfl
@[simp] theorem aK(f:α→β→Option ρ):fD none f=none:=rfl
@[simp] theorem aD(a:α)(b:β)(c:γ)(f:α→β→γ→Option ρ):mq (some (a,b,c)) f=f a b c:=rfl
@[simp] theorem aJ(f:α→β→γ→Option ρ):mq none f=none:=rfl
@[simp] theorem aH(a:α)(b:β)(c:γ)(d:δ)(f:α→β→γ→δ→Option ρ):Me (some (a,b,c,d)) f=f a b c d:=rfl
@[simp] theorem aoN(f:α→β→γ→δ→Option ρ):Me none f=none:=rfl
@[simp] theorem aI(a:α)(b:β)(c:γ)(d:δ)(e:ε)(f:α→β→γ→δ→ε→Option ρ):UZ (some (a,b,c,d,e)) f=f a b c d e:=rfl
@[simp] theorem aoM(f:α→β→γ→δ→ε→Option ρ):UZ none f=none:=rfl
theorem lq{x:Option α}{f:α→Option ρ}{r:ρ}(h:au x f=some r):∃a,x=some a∧f a=some r:=by
 cases x with
 | none=>cases h
 | some a=>exact⟨a,rfl,h⟩
theorem gy{x:Option (α × β)}{f:α→β→Option ρ}{r:ρ}(h:fD x f=some r):∃a b,x=some (a,b)∧f a b=some r:=by
 cases x with
 | none=>cases h
 | some a=>exact⟨a.1,a.2,rfl,h⟩
theorem wK{x:Option (α × β × γ)}{f:α→β→γ→Option ρ}{r:ρ}(h:mq x f=some r):∃a b c,x=some (a,b,c)∧f a b c=some r:=by
 cases x with
 | none=>cases h
 | some a=>exact⟨a.1,a.2.1,a.2.2,rfl,h⟩
theorem ags{x:Option (α × β × γ × δ)}{f:α→β→γ→δ→Option ρ}{r:ρ}(h:Me x f=some r):∃a b c d,x=some (a,b,c,d)∧f a b c d=some r:=by
 cases x with
 | none=>cases h
 | some a=>exact⟨a.1,a.2.1,a.2.2.1,a.2.2.2,rfl,h⟩
theorem agr{x:Option (α × β × γ × δ × ε)}{f:α→β→γ→δ→ε→Option ρ}{r:ρ}(h:UZ x f=some r):∃a b c d e,x=some (a,b,c,d,e)∧f a b c d e=some r:=by
 cases x with
 | none=>cases h
 | some a=>exact⟨a.1,a.2.1,a.2.2.1,a.2.2.2.1,a.2.2.2.2,rfl,h⟩
@[simp] theorem apd(x:Option α):au x (fun a=>some a)=x:=by cases x<;>rfl
@[simp] theorem zh(x:Option (α × β)):fD x (fun a b=>some (a,b))=x:=by cases x<;>rfl
@[simp] theorem apc(x:Option (α × β × γ)):mq x (fun a b c=>some (a,b,c))=x:=by cases x<;>rfl
@[simp] theorem apb(x:Option (α × β × γ × δ)):Me x (fun a b c d=>some (a,b,c,d))=x:=by cases x<;>rfl
@[simp] theorem apa(x:Option (α × β × γ × δ × ε)):UZ x (fun a b c d e=>some (a,b,c,d,e))=x:=by cases x<;>rfl
theorem al7{x y:Option α}{f:α→Option ρ}(h:x=y):au x f=au y f:=by rw[h]
theorem al6{x y:Option (α × β)}{f:α→β→Option ρ}(h:x=y):fD x f=fD y f:=by rw[h]
theorem al5{x y:Option (α × β × γ)}{f:α→β→γ→Option ρ}(h:x=y):mq x f=mq y f:=by rw[h]
theorem al4{x y:Option (α × β × γ × δ)}{f:α→β→γ→δ→Option ρ}(h:x=y):Me x f=Me y f:=by rw[h]
theorem al3{x y:Option (α × β × γ × δ × ε)}{f:α→β→γ→δ→ε→Option ρ}(h:x=y):UZ x f=UZ y f:=by rw[h]
theorem eO{c d:Prop}{ic:Decidable c}{jc:Decidable d}{x y:α}(h:c=d):@ite α c ic x y=@ite α d jc x y:=by
 subst h
 cases ic with
 | isTrue h=>cases jc with
  | isTrue h'=>rfl
  | isFalse h'=>exact absurd h h'
 | isFalse h=>cases jc with
  | isTrue h'=>exact absurd h' h
  | isFalse h'=>rfl
attribute [congr] al7 al6 al5 al4 al3
theorem ql{b:Bool}{x y r:α}(h:b=true)(hf:(if b=true then x else y)=r):x=r:=by rw[arK h]at hf;exact hf
theorem nZ{b:Bool}{x y r:α}(h:b=false)(hf:(if b=true then x else y)=r):y=r:=by rw[arF (by simp[h])]at hf;exact hf
theorem lM{r:α}{P:Prop}(h:(none:Option α)=some r):P:=by cases h
theorem GQ{l:List α}{i:Int}{a:α}(h:idx l i=some a):0≤i∧l[i.toNat]?=some a:=by
 unfold idx at h
 split at h
 ·exact⟨by assumption,h⟩
 ·cases h
theorem aea(l:List α)(i:Nat):idx l (i:Int)=l[i]?:=by simp[idx]
theorem aiJ{l:List α}{i:Int}(h0:0≤i)(h:i<l.length):idx l i=some (l[i.toNat]'(by omega)):=by
 unfold idx
 rw[arK h0,asb]
theorem adP{l r:List α}{a b:Int}(h:sl l a b=some r):0≤a∧a≤b∧b≤l.length∧r=(l.take b.toNat).drop a.toNat:=by
 unfold sl at h
 split at h
 ·rename_i hc
  simp only[asB]at h
  exact⟨hc.1,hc.2.1,hc.2.2,h.symm⟩
 ·cases h
theorem bI{l:List α}{a b:Int}(h0:0≤a)(h1:a≤b)(h2:b≤l.length):sl l a b=some ((l.take b.toNat).drop a.toNat):=by
 unfold sl;rw[arK ⟨h0,h1,h2⟩]
theorem Fa{l m r:List α}(h:app l m=some r):l.length+m.length≤wX∧r=l++m:=by
 unfold app at h
 split at h
 ·simp only[asB]at h
  exact⟨by assumption,h.symm⟩
 ·cases h
theorem aU{l m:List α}(h:l.length+m.length≤wX):app l m=some (l++m):=by unfold app;rw[arK h]
theorem aa8{b:Bool}{u:Unit}(h:Zg b=some u):b=true:=by
 unfold Zg at h
 split at h
 ·assumption
 ·cases h
end
theorem XT{n:Int}(h1:-9223372036854775808≤n)(h2:n≤9223372036854775807):IntKind.i64.wrap n=n:=by
 simp[IntKind.wrap,IntKind.bits,IntKind.signed]
 omega
theorem aX{n:Int}(h1:-9223372036854775808≤n)(h2:n<9223372036854775808):bF n=n:=XT h1 (by omega)
theorem bn{α:Type}[Inhabited α]{l:List α}{i:Int}(h0:0≤i)(h:i<(l.length:Int)):idx l i=some (l.getD i.toNat default):=by
 rw[aiJ h0 h,asD,asb (by omega),atC]
theorem bg{b:Bool}(h:b=true):Zg b=some ():=by rw[h];rfl
theorem byteOf_toNat(n:Int):((byteOf n).toNat:Int)=IntKind.u8.wrap n:=by
 simp[byteOf,IntKind.wrap,IntKind.bits,IntKind.signed]
 omega
theorem Qk{n:Int}(h1:0≤n)(h2:n<256):((byteOf n).toNat:Int)=n:=by
 simp[byteOf];omega
def dF(c:UInt8):Bool:=(decide (48≤(c.toNat:Int)))&&(decide ((c.toNat:Int)≤57))
def jM(p:UInt8→Bool)(l:Str):Nat:=(l.takeWhile p).length
def dz(s:Str):Str:=s.dropWhile fun c=>(c.toNat:Int)==48
def sK:List Nat→List Nat→Int
 | [],[]=>0
 | [],_::_=>-1
 | _::_,[]=>1
 | a::l,b::m=>if a<b then -1 else if b<a then 1 else sK l m
def Uf:Nat→Str→List Nat
 | 0,_=>[]
 | _+1,[]=>[]
 | k+1,c::s=>if dF c then
   48::(dz ((c::s).take (jM dF (c::s)))).length::((dz ((c::s).take (jM dF (c::s)))).map UInt8.toNat++jM dF (c::s)::Uf k ((c::s).drop (jM dF (c::s))))
  else c.toNat::Uf k s
def key(s:Str):List Nat:=Uf s.length s
def gF(a b:Str):Int:=sK (key a) (key b)
def dd:List Str→List Str
 | []=>[]
 | [x]=>[x]
 | x::y::l=>if x=y then dd (y::l)else x::dd (y::l)
def alA(l:List Str):List Str:=l.mergeSort fun x y=>!decide (gF y x<0)
def aio(l:List Str):List Str:=dd (alA l)
def WM{α:Type}(k:α→Str)(l:List α):Option (List α):=
 if l.length≤wX∧(∀x∈l,(k x).length<4611686018427387904)∧(l.map k).Nodup then some (l.mergeSort fun x y=>!decide (gF (k y) (k x)<0))else none
def mE:Str→Str→Option Nat
 | [],t=>if t.isEmpty then some 0 else none
 | b::l,t=>if t.isPrefixOf (b::l)then some 0 else (mE l t).map (·+1)
def ou(t:Str):Nat→Str→List Str
 | 0,s=>[s]
 | k+1,s=>match mE s t with
  | none=>[s]
  | some i=>s.take i::ou t k (s.drop (i+t.length))
def nA:List Str→Str→Str
 | [],_=>[]
 | [x],_=>x
 | x::y::r,t=>x++(t++nA (y::r) t)
def uo:Nat→Nat→Str
 | 0,_=>[]
 | k+1,u=>if u<10 then [UInt8.ofNat (48+u)]else uo k (u/10)++[UInt8.ofNat (48+u%10)]
def vF(n:Int):Str:=if n<0 then 45::uo 20 n.natAbs else uo 20 n.toNat
def Kg(acc:Nat):Str→Nat × Nat
 | []=>(0,acc)
 | c::r=>
  if 48≤c.toNat∧c.toNat≤57 then
   if 1844674407370955162≤acc then (2,0)
   else if 18446744073709551616≤acc*10+(c.toNat-48)then (2,0)
   else Kg (acc*10+(c.toNat-48)) r
  else (1,0)
def vR(l:Str):Nat × Int:=
 match l with
 | []=>(1,0)
 | c::r=>
  let m:=if (if c.toNat=43∨c.toNat=45 then r else l)=[]then (1,0)else Kg 0 (if c.toNat=43∨c.toNat=45 then r else l)
  if m.1=1 then (1,0)
  else if m.1=2 then (2,if c.toNat=45 then -9223372036854775808 else 9223372036854775807)
  else if c.toNat≠45∧9223372036854775808≤m.2 then (2,if c.toNat=45 then -9223372036854775808 else 9223372036854775807)
  else if c.toNat=45∧9223372036854775808<m.2 then (2,if c.toNat=45 then -9223372036854775808 else 9223372036854775807)
  else (0,if c.toNat=45 then -(m.2:Int)else m.2)
end Go.Ft
