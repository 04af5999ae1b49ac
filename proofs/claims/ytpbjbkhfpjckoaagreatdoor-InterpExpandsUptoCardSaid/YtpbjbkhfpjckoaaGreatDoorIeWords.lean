/- Proved here: the words of the functional texts and plain facts on them. -/
import GoSem.Core.Sem
import GoSem.Core.Utf8
import GoSem.Op.IntArith
import GoSem.Op.String
set_option linter.unusedVariables false
set_option linter.unusedSimpArgs false
set_option linter.defProp false
set_option linter.unusedSectionVars false
namespace Go
def aq0:=@Int.toNat_natCast
def aq1:=@List.getElem?_eq_getElem
def aq2:=@List.length_cons
def aq4:=@beq_eq_false_iff_ne
def aq5:=@Bool.and_eq_true
def aq7:=@beq_iff_eq
def aq9:=@Nat.le_refl
def aqH:=@if_neg
def aqJ:=@if_pos
def aqS:=@Bool.false_eq_true
def aqT:=@if_false
def aqV:=@if_true
def aqW:=@decide_eq_true_eq
def aqZ:=@List.drop_eq_getElem_cons
def ar0:=@Bool.false_or
def ar1:=@List.cons.inj
def ar2:=@Nat.mod_eq_of_lt
def ar3:=@Bool.and_eq_false_iff
def ar4:=@List.mem_map
def ar5:=@List.drop_succ_cons
def ar6:=@List.mem_map_of_mem
def ar7:=@List.cons_append
def ar8:=@List.zipWith_cons_cons
def arA:=@bne_iff_ne
def arB:=@List.mem_cons
def arC:=@decide_eq_true
def arD:=@UInt8.toNat_inj
def arE:=@Nat.lt_or_ge
def arF:=@Bool.or_eq_false_iff
def arH:=@Bool.not_eq_true'
def arI:=@List.eq_nil_of_length_eq_zero
def arJ:=@List.sum_cons
def arL:=@decide_eq_false
def arM:=@List.length_pos_iff
def arN:=@List.getElem?_eq_none
def arO:=@beq_self_eq_true
def arP:=@List.getElem?_eq_some_iff
def arQ:=@Bool.true_and
def arR:=@Bool.eq_iff_iff
def arS:=@List.cons.injEq
def arT:=@List.map_map
def arU:=@List.drop_zero
def arV:=@Bool.false_and
def arW:=@List.drop_drop
def arX:=@bne_self_eq_false
def arY:=@List.length_nil
def arZ:=@decide_false
def ar_:=@List.map_nil
def ara:=@List.drop_eq_nil_of_le
def arf:=@Bool.not_true
def arj:=@List.getElem_mem
def aro:=@Option.some.injEq
def arp:=@List.getD_eq_getElem?_getD
def arq:=@List.map_cons
def ars:=@Bool.or_eq_true
def aru:=@decide_eq_false_iff_not
def arv:=@Int.toNat_add
def arx:=@Nat.mul_le_mul_right
def arz:=@Bool.not_false
def asA:=@Nat.add_sub_cancel_left
def asB:=@decide_true
def asC:=@Bool.and_true
def asD:=@Bool.or_false
def asE:=@List.length_take
def asF:=@BitVec.eq_of_toInt_eq
def asG:=@List.mem_iff_getElem
def asH:=@List.sum_append
def asI:=@Nat.le_trans
def asJ:=@Nat.mul_comm
def asK:=@BitVec.toInt_ofNat'
def asL:=@Function.comp_apply
def asM:=@List.dropWhile_cons
def asN:=@List.getD_cons_succ
def asO:=@Bool.and_false
def asP:=@Nat.add_mul
def asQ:=@Nat.zero_le
def asR:=@BitVec.toInt_ofInt
def asS:=@Bool.true_eq_false
def asT:=@List.any_cons
def asU:=@Nat.mul_assoc
def asV:=@Decidable.not_not
def asW:=@List.append_assoc
def asX:=@not_true_eq_false
def asa:=@List.mem_singleton
def asb:=@List.pairwise_cons
def asc:=@Nat.pow_succ
def ase:=@Nat.pow_le_pow_right
def asf:=@List.drop_take
def asg:=@List.length_drop
def ash:=@ne_eq
def asi:=@BitVec.toNat_ofNat
def asj:=@List.length_append
def asl:=@List.mem_append
def asn:=@not_false_eq_true
def aso:=@Option.getD_some
def asq:=@List.isPrefixOf_iff_prefix
def asr:=@Int.natCast_inj
def asu:=@List.foldl_cons
def asv:=@List.map_append
def asw:=@List.nil_append
def asx:=@List.getElem?_drop
def asy:=@Nat.add_zero
def asz:=@Nat.eq_zero_or_pos
end Go
namespace Go.Ft
open Go
abbrev Str:=List UInt8
abbrev bq(n:Int):Int:=IntKind.i64.wrap n
def BIG:Nat:=18446744073709551616
def rM:Nat:=4294967296
def idx{α:Type}(l:List α)(i:Int):Option α:=if 0≤i then l[i.toNat]? else none
def sl{α:Type}(l:List α)(a b:Int):Option (List α):=if 0≤a∧a≤b∧b≤l.length then some ((l.take b.toNat).drop a.toNat)else none
def app{α:Type}(l m:List α):Option (List α):=if l.length+m.length≤rM then some (l++m)else none
def dec(s:Str)(pos:Nat):Nat × Nat:=Utf8.decode ⟨s.toArray⟩ pos
def qJ:List (Str × Int)→Str→Int
 | [],_=>0
 | (k',v)::r,k=>if k==k' then v else qJ r k
def uz:List (Str × Int)→Str→Int→List (Str × Int)
 | [],k,n=>[(k,n)]
 | (k',v)::r,k,n=>if k==k' then (k',n)::r else (k',v)::uz r k n
def VW(b:Bool):Option Unit:=if b then some ()else none
def byteOf(n:Int):UInt8:=UInt8.ofNat (n%256).toNat
def av{α ρ:Type}(x:Option α)(f:α→Option ρ):Option ρ:=match x with|some a=>f a|none=>none
def eO{α β ρ:Type}(x:Option (α × β))(f:α→β→Option ρ):Option ρ:=match x with|some (a,b)=>f a b|none=>none
def lN{α β γ ρ:Type}(x:Option (α × β × γ))(f:α→β→γ→Option ρ):Option ρ:=match x with|some (a,b,c)=>f a b c|none=>none
def Lj{α β γ δ ρ:Type}(x:Option (α × β × γ × δ))(f:α→β→γ→δ→Option ρ):Option ρ:=match x with|some (a,b,c,d)=>f a b c d|none=>none
def Tw{α β γ δ ε ρ:Type}(x:Option (α × β × γ × δ × ε))(f:α→β→γ→δ→ε→Option ρ):Option ρ:=match x with|some (a,b,c,d,e)=>f a b c d e|none=>none
inductive fE (ε α:Type) where
 | ok (a:α)
 | bad (e:ε)
def dR{ε α ρ:Type}(x:Option (fE ε α))(g:ε→Option ρ)(f:α→Option ρ):Option ρ:=match x with|some (.ok a)=>f a|some (.bad e)=>g e|none=>none
def fU{ε α σ ρ:Type}(x:Option (fE ε α × σ))(g:ε→σ→Option ρ)(f:α→σ→Option ρ):Option ρ:=match x with|some (.ok a,s)=>f a s|some (.bad e,s)=>g e s|none=>none
section
variable {α β γ δ ε ρ : Type}
theorem eD{x:Option (fE ε α)}{g:ε→Option ρ}{f:α→Option ρ}{r:ρ}(h:dR x g f=some r):(∃e,x=some (.bad e)∧g e=some r)∨∃a,x=some (.ok a)∧f a=some r:=by
 match x,h with
 | some (.ok a),h=>exact .inr ⟨a,rfl,h⟩
 | some (.bad e),h=>exact .inl ⟨e,rfl,h⟩
theorem Tt{x:Option (fE ε α × β)}{g:ε→β→Option ρ}{f:α→β→Option ρ}{r:ρ}(h:fU x g f=some r):(∃e s,x=some (.bad e,s)∧g e s=some r)∨∃a s,x=some (.ok a,s)∧f a s=some r:=by
 match x,h with
 | some (.ok a,s),h=>exact .inr ⟨a,s,rfl,h⟩
 | some (.bad e,s),h=>exact .inl ⟨e,s,rfl,h⟩
@[simp] theorem jo(a:α)(g:ε→Option ρ)(f:α→Option ρ):dR (some (.ok a)) g f=f a:=rfl
@[simp] theorem VZ(e:ε)(g:ε→Option ρ)(f:α→Option ρ):dR (some (.bad e)) g f=g e:=rfl
@[simp] theorem gY(a:α)(s:β)(g:ε→β→Option ρ)(f:α→β→Option ρ):fU (some (.ok a,s)) g f=f a s:=rfl
@[simp] theorem fM(e:ε)(s:β)(g:ε→β→Option ρ)(f:α→β→Option ρ):fU (some (.bad e,s)) g f=g e s:=rfl
@[simp] theorem ak(a:α)(f:α→Option ρ):av (some a) f=f a:=rfl
@[simp] theorem aL(f:α→Option ρ):av none f=none:=rfl
@[simp] theorem aC(a:α)(b:β)(f:α→β→Option ρ):eO (some (a,b)) f=f a b:=rfl
@[simp] theorem aK(f:α→β→Option ρ):eO none f=none:=rfl
@[simp] theorem aD(a:α)(b:β)(c:γ)(f:α→β→γ→Option ρ):lN (some (a,b,c)) f=f a b c:=rfl
@[simp] theorem aJ(f:α→β→γ→Option ρ):lN none f=none:=rfl
@[simp] theorem aH(a:α)(b:β)(c:γ)(d:δ)(f:α→β→γ→δ→Option ρ):Lj (some (a,b,c,d)) f=f a b c d:=rfl
@[simp] theorem anl(f:α→β→γ→δ→Option ρ):Lj none f=none:=rfl
@[simp] theorem aI(a:α)(b:β)(c:γ)(d:δ)(e:ε)(f:α→β→γ→δ→ε→Option ρ):Tw (some (a,b,c,d,e)) f=f a b c d e:=rfl
@[simp] theorem ank(f:α→β→γ→δ→ε→Option ρ):Tw none f=none:=rfl
theorem kV{x:Option α}{f:α→Option ρ}{r:ρ}(h:av x f=some r):∃a,x=some a∧f a=some r:=by
 cases x with
 | none=>cases h
 | some a=>exact⟨a,rfl,h⟩
theorem gL{x:Option (α × β)}{f:α→β→Option ρ}{r:ρ}(h:eO x f=some r):∃a b,x=some (a,b)∧f a b=some r:=by
 cases x with
 | none=>cases h
 | some a=>exact⟨a.1,a.2,rfl,h⟩
theorem uf{x:Option (α × β × γ)}{f:α→β→γ→Option ρ}{r:ρ}(h:lN x f=some r):∃a b c,x=some (a,b,c)∧f a b c=some r:=by
 cases x with
 | none=>cases h
 | some a=>exact⟨a.1,a.2.1,a.2.2,rfl,h⟩
theorem aew{x:Option (α × β × γ × δ)}{f:α→β→γ→δ→Option ρ}{r:ρ}(h:Lj x f=some r):∃a b c d,x=some (a,b,c,d)∧f a b c d=some r:=by
 cases x with
 | none=>cases h
 | some a=>exact⟨a.1,a.2.1,a.2.2.1,a.2.2.2,rfl,h⟩
theorem aev{x:Option (α × β × γ × δ × ε)}{f:α→β→γ→δ→ε→Option ρ}{r:ρ}(h:Tw x f=some r):∃a b c d e,x=some (a,b,c,d,e)∧f a b c d e=some r:=by
 cases x with
 | none=>cases h
 | some a=>exact⟨a.1,a.2.1,a.2.2.1,a.2.2.2.1,a.2.2.2.2,rfl,h⟩
@[simp] theorem an2(x:Option α):av x (fun a=>some a)=x:=by cases x<;>rfl
@[simp] theorem DC(x:Option (α × β)):eO x (fun a b=>some (a,b))=x:=by cases x<;>rfl
@[simp] theorem an1(x:Option (α × β × γ)):lN x (fun a b c=>some (a,b,c))=x:=by cases x<;>rfl
@[simp] theorem an0(x:Option (α × β × γ × δ)):Lj x (fun a b c d=>some (a,b,c,d))=x:=by cases x<;>rfl
@[simp] theorem anZ(x:Option (α × β × γ × δ × ε)):Tw x (fun a b c d e=>some (a,b,c,d,e))=x:=by cases x<;>rfl
theorem aks{x y:Option α}{f:α→Option ρ}(h:x=y):av x f=av y f:=by rw[h]
theorem akr{x y:Option (α × β)}{f:α→β→Option ρ}(h:x=y):eO x f=eO y f:=by rw[h]
theorem akq{x y:Option (α × β × γ)}{f:α→β→γ→Option ρ}(h:x=y):lN x f=lN y f:=by rw[h]
theorem akp{x y:Option (α × β × γ × δ)}{f:α→β→γ→δ→Option ρ}(h:x=y):Lj x f=Lj y f:=by rw[h]
theorem ako{x y:Option (α × β × γ × δ × ε)}{f:α→β→γ→δ→ε→Option ρ}(h:x=y):Tw x f=Tw y f:=by rw[h]
theorem gq{c d:Prop}{ic:Decidable c}{jc:Decidable d}{x y:α}(h:c=d):@ite α c ic x y=@ite α d jc x y:=by
 subst h
 cases ic with
 | isTrue h=>cases jc with
  | isTrue h'=>rfl
  | isFalse h'=>exact absurd h h'
 | isFalse h=>cases jc with
  | isTrue h'=>exact absurd h' h
  | isFalse h'=>rfl
attribute [congr] aks akr akq akp ako
theorem kX{b:Bool}{x y r:α}(h:b=true)(hf:(if b=true then x else y)=r):x=r:=by rw[aqJ h]at hf;exact hf
theorem kE{b:Bool}{x y r:α}(h:b=false)(hf:(if b=true then x else y)=r):y=r:=by rw[aqH (by simp[h])]at hf;exact hf
theorem kI{r:α}{P:Prop}(h:(none:Option α)=some r):P:=by cases h
theorem Gy{l:List α}{i:Int}{a:α}(h:idx l i=some a):0≤i∧l[i.toNat]?=some a:=by
 unfold idx at h
 split at h
 ·exact⟨by assumption,h⟩
 ·cases h
theorem acp(l:List α)(i:Nat):idx l (i:Int)=l[i]?:=by simp[idx]
theorem aa4{l:List α}{i:Int}(h0:0≤i)(h:i<l.length):idx l i=some (l[i.toNat]'(by omega)):=by
 unfold idx
 rw[aqJ h0,aq1]
theorem ab6{l r:List α}{a b:Int}(h:sl l a b=some r):0≤a∧a≤b∧b≤l.length∧r=(l.take b.toNat).drop a.toNat:=by
 unfold sl at h
 split at h
 ·rename_i hc
  simp only[aro]at h
  exact⟨hc.1,hc.2.1,hc.2.2,h.symm⟩
 ·cases h
theorem bL{l:List α}{a b:Int}(h0:0≤a)(h1:a≤b)(h2:b≤l.length):sl l a b=some ((l.take b.toNat).drop a.toNat):=by
 unfold sl;rw[aqJ ⟨h0,h1,h2⟩]
theorem Ab{l m r:List α}(h:app l m=some r):l.length+m.length≤rM∧r=l++m:=by
 unfold app at h
 split at h
 ·simp only[aro]at h
  exact⟨by assumption,h.symm⟩
 ·cases h
theorem aV{l m:List α}(h:l.length+m.length≤rM):app l m=some (l++m):=by unfold app;rw[aqJ h]
theorem Zy{b:Bool}{u:Unit}(h:VW b=some u):b=true:=by
 unfold VW at h
 split at h
 ·assumption
 ·cases h
end
theorem Wj{n:Int}(h1:-9223372036854775808≤n)(h2:n≤9223372036854775807):IntKind.i64.wrap n=n:=by
 simp[IntKind.wrap,IntKind.bits,IntKind.signed]
 omega
theorem aW{n:Int}(h1:-9223372036854775808≤n)(h2:n<9223372036854775808):bq n=n:=Wj h1 (by omega)
theorem bg{α:Type}[Inhabited α]{l:List α}{i:Int}(h0:0≤i)(h:i<(l.length:Int)):idx l i=some (l.getD i.toNat default):=by
 rw[aa4 h0 h,arp,aq1 (by omega),aso]
theorem bf{b:Bool}(h:b=true):VW b=some ():=by rw[h];rfl
theorem byteOf_toNat(n:Int):((byteOf n).toNat:Int)=IntKind.u8.wrap n:=by
 simp[byteOf,IntKind.wrap,IntKind.bits,IntKind.signed]
 omega
theorem OX{n:Int}(h1:0≤n)(h2:n<256):((byteOf n).toNat:Int)=n:=by
 simp[byteOf];omega
def dI(c:UInt8):Bool:=(decide (48≤(c.toNat:Int)))&&(decide ((c.toNat:Int)≤57))
def jr(p:UInt8→Bool)(l:Str):Nat:=(l.takeWhile p).length
def dz(s:Str):Str:=s.dropWhile fun c=>(c.toNat:Int)==48
def rO:List Nat→List Nat→Int
 | [],[]=>0
 | [],_::_=>-1
 | _::_,[]=>1
 | a::l,b::m=>if a<b then -1 else if b<a then 1 else rO l m
def Sl:Nat→Str→List Nat
 | 0,_=>[]
 | _+1,[]=>[]
 | k+1,c::s=>if dI c then
   48::(dz ((c::s).take (jr dI (c::s)))).length::((dz ((c::s).take (jr dI (c::s)))).map UInt8.toNat++jr dI (c::s)::Sl k ((c::s).drop (jr dI (c::s))))
  else c.toNat::Sl k s
def key(s:Str):List Nat:=Sl s.length s
def fT(a b:Str):Int:=rO (key a) (key b)
def dd:List Str→List Str
 | []=>[]
 | [x]=>[x]
 | x::y::l=>if x=y then dd (y::l)else x::dd (y::l)
def ajS(l:List Str):List Str:=l.mergeSort fun x y=>!decide (fT y x<0)
def agG(l:List Str):List Str:=dd (ajS l)
def Vi{α:Type}(k:α→Str)(l:List α):Option (List α):=
 if l.length≤rM∧(∀x∈l,(k x).length<4611686018427387904)∧(l.map k).Nodup then some (l.mergeSort fun x y=>!decide (fT (k y) (k x)<0))else none
def lW:Str→Str→Option Nat
 | [],t=>if t.isEmpty then some 0 else none
 | b::l,t=>if t.isPrefixOf (b::l)then some 0 else (lW l t).map (·+1)
def nU(t:Str):Nat→Str→List Str
 | 0,s=>[s]
 | k+1,s=>match lW s t with
  | none=>[s]
  | some i=>s.take i::nU t k (s.drop (i+t.length))
def ng:List Str→Str→Str
 | [],_=>[]
 | [x],_=>x
 | x::y::r,t=>x++(t++ng (y::r) t)
def tL:Nat→Nat→Str
 | 0,_=>[]
 | k+1,u=>if u<10 then [UInt8.ofNat (48+u)]else tL k (u/10)++[UInt8.ofNat (48+u%10)]
def u6(n:Int):Str:=if n<0 then 45::tL 20 n.natAbs else tL 20 n.toNat
def JH(acc:Nat):Str→Nat × Nat
 | []=>(0,acc)
 | c::r=>
  if 48≤c.toNat∧c.toNat≤57 then
   if 1844674407370955162≤acc then (2,0)
   else if 18446744073709551616≤acc*10+(c.toNat-48)then (2,0)
   else JH (acc*10+(c.toNat-48)) r
  else (1,0)
def vC(l:Str):Nat × Int:=
 match l with
 | []=>(1,0)
 | c::r=>
  let m:=if (if c.toNat=43∨c.toNat=45 then r else l)=[]then (1,0)else JH 0 (if c.toNat=43∨c.toNat=45 then r else l)
  if m.1=1 then (1,0)
  else if m.1=2 then (2,if c.toNat=45 then -9223372036854775808 else 9223372036854775807)
  else if c.toNat≠45∧9223372036854775808≤m.2 then (2,if c.toNat=45 then -9223372036854775808 else 9223372036854775807)
  else if c.toNat=45∧9223372036854775808<m.2 then (2,if c.toNat=45 then -9223372036854775808 else 9223372036854775807)
  else (0,if c.toNat=45 then -(m.2:Int)else m.2)
end Go.Ft
