/- Proved here: a calculus of abstract values over the given model of Go: what a call does with memory, told without the memory. -/
import Derived.Orders
import Derived.Tactics
import Derived.Laws.AppendOwn
import Derived.Laws.OwnMore
import Derived.BigFrame
import Derived.Laws.Strings
import Derived.Deep.AppendSrc
import Derived.Lib.ConvBytes
import Derived.Laws.BytesArg
import Derived.DeepKeys
import Derived.ChangeSlices
import Derived.RowKit
import Derived.Below
import Derived.Carry
import GoSem.ClaimJoined
set_option linter.unusedVariables false
set_option linter.unusedSimpArgs false
set_option linter.defProp false
set_option linter.unusedSectionVars false
namespace Go
def Aq:=@Nat.eq_of_beq_eq_true
def CF:=@List.getElem?_eq_none
def FQ:=@List.set_eq_take_append_cons_drop
def ZR:=@Array.getElem?_eq_none
def aaS:=@List.getElem?_eq_getElem
def ab4:=@Array.getD_eq_getD_getElem?
def abq:=@Nat.le_of_ble_eq_true
def abr:=@Nat.le_refl
def abv:=@List.eq_nil_of_length_eq_zero
def ac3:=@List.flatMap_cons
def acj:=@List.mem_of_getElem?
def ae0:=@List.take_append_drop
def afW:=@Go.Addr.add_lit
def agD:=@List.all_eq_true
def agI:=@List.mem_flatMap
def agJ:=@List.singleton_append
def agK:=@List.mem_append
def agf:=@List.map_cons
def agh:=@List.mem_cons
def agj:=@Go.World.cell?_of_block
def ahC:=@if_neg
def ahH:=@if_pos
def ahK:=@Bool.and_eq_true
def ahw:=@Nat.zero_add
def aiG:=@List.flatten_cons
def aiH:=@List.drop_eq_getElem_cons
def aiM:=@List.length_cons
def aiq:=@Nat.add_mul
def aj0:=@congrArg
def ajB:=@List.mem_singleton
def ajC:=@cond_true
def ajq:=@BitVec.toNat_ofInt
def ajr:=@List.length_append
def ak1:=@if_false
def ak2:=@Go.setRow_heap
def akF:=@List.getElem?_take
def akG:=@List.set_cons_succ
def akH:=@Option.toList_some
def akI:=@List.nodup_append
def akJ:=@Go.cell_of_row
def akK:=@List.length_take
def akL:=@List.mem_cons_of_mem
def akM:=@Nat.add_zero
def akO:=@Nat.min_eq_left
def akP:=@cond_false
def akQ:=@List.mapM_cons
def akg:=@Array.toList_setIfInBounds
def akh:=@Array.length_toList
def akr:=@List.getElem?_eq_some_iff
def ala:=@List.getElem?_drop
def ale:=@List.mem_cons_self
def alm:=@Nat.add_assoc
def alr:=@List.size_toArray
def jQ:=@Go.Result.andThen_ok
def jW:=@Option.some.injEq
def vE:=@Go.run_underlying
def zJ:=@Nat.lt_or_ge
def zf:=@Go.Sem.run_pure
end Go
namespace Go.Abs
open Go
inductive PV where
 | undef
 | int (k:IntKind) (n:Int)
 | bool (b:Bool)
 | str (s:List UInt8)
 | list (l:List (List PV))
 | agg (cs:List PV)
 | tuple (vs:List PV)
 | val (v:Value)
 | iface (t:TypeId) (p:PV)
 | fn (f:FuncId) (caps:List PV)
 | ref (cs:List PV)
 | own (v:Value) (l:List (List PV))
 | err (e:Option TypeId)
abbrev jd:=Nat→Nat→Prop
mutual
def cu(w:World)(m:jd):PV→Value→Prop
 | .undef,_=>True
 | .int k n,v=>v=.int k n
 | .bool b,v=>v=.bool b
 | .str s,v=>v=.string ⟨s.toArray⟩
 | .list l,v=>∃a cap,v=.slice a l.length cap∧l.length≤cap∧(l=[]∨∃b off sz,a=some ⟨b,off,none⟩∧iX w m b sz off l)
 | .agg cs,v=>∃vs:List Value,v=.agg vs.toArray∧aX w m cs vs
 | .tuple cs,v=>∃vs:List Value,v=.tuple vs.toArray∧aX w m cs vs
 | .val x,v=>v=x
 | .iface t p,v=>∃x,v=.iface t x∧cu w m p x
 | .fn f caps,v=>∃cs:List Value,v=.func (.func f) #[] cs.toArray∧aX w m caps cs
 | .ref cs,v=>∃b off,v=.pointer (some ⟨b,off,none⟩)∧ou w m b off cs
 | .own x l,v=>v=x∧∃a cap,v=.slice a l.length cap∧l.length≤cap∧(l=[]∨∃b off sz,a=some ⟨b,off,none⟩∧iX w m b sz off l)
 | .err e,v=>match e with
  | none=>v=.nilIface
  | some t=>∃x,v=.iface t x
def aX(w:World)(m:jd):List PV→List Value→Prop
 | [],vs=>vs=[]
 | p::ps,vs=>∃v vs',vs=v::vs'∧cu w m p v∧aX w m ps vs'
def ou(w:World)(m:jd)(b off:Nat):List PV→Prop
 | []=>True
 | c::cs=>(∃v,m b off∧w.cell? ⟨b,off,none⟩=some v∧cu w m c v)∧ou w m b (off+1) cs
def iX(w:World)(m:jd)(b sz off:Nat):List (List PV)→Prop
 | []=>True
 | e::es=>(e.length=sz∧ou w m b off e)∧iX w m b sz (off+sz) es
end
def Le(w:World)(m:jd)(w':World)(m':jd):Prop:=
 ∀b off,m b off→m' b off∧w'.cell? ⟨b,off,none⟩=w.cell? ⟨b,off,none⟩
theorem Le.refl(w:World)(m:jd):Le w m w m:=fun _ _ h=>⟨h,rfl⟩
theorem Le.trans{w w1 w2:World}{m m1 m2:jd}(h:Le w m w1 m1)(k:Le w1 m1 w2 m2):Le w m w2 m2:=
 fun b off hm=>let⟨h1,h2⟩:=h b off hm;let⟨k1,k2⟩:=k b off h1;⟨k1,k2.trans h2⟩
class gD where
 G:World→jd→Prop
 mono:∀ {w w':World} {m m':jd},Le w m w' m'→G w m→G w' m'
 D:Prop
variable [gD]
mutual
theorem cu.mono{w w':World}{m m':jd}(h:Le w m w' m'):∀(p:PV) (v:Value),cu w m p v→cu w' m' p v
 | .undef,_,_=>trivial
 | .int _ _,_,hr=>by simp only[cu]at hr⊢;exact hr
 | .bool _,_,hr=>by simp only[cu]at hr⊢;exact hr
 | .str _,_,hr=>by simp only[cu]at hr⊢;exact hr
 | .list l,_,hr=>by
  simp only[cu]at hr⊢;obtain⟨a,cap,h1,h2,h3⟩:=hr;refine⟨a,cap,h1,h2,?_⟩;rcases h3 with h3|⟨b,off,sz,h4,h5⟩
  ·exact .inl h3
  ·exact .inr ⟨b,off,sz,h4,iX.mono h l b sz off h5⟩
 | .agg cs,_,hr=>by
  simp only[cu]at hr⊢;obtain⟨vs,h1,h2⟩:=hr;exact⟨vs,h1,aX.mono h cs vs h2⟩
 | .tuple cs,_,hr=>by
  simp only[cu]at hr⊢;obtain⟨vs,h1,h2⟩:=hr;exact⟨vs,h1,aX.mono h cs vs h2⟩
 | .val _,_,hr=>by simp only[cu]at hr⊢;exact hr
 | .iface t p,_,hr=>by
  simp only[cu]at hr⊢;obtain⟨x,h1,h2⟩:=hr;exact⟨x,h1,cu.mono h p x h2⟩
 | .fn f cs,_,hr=>by
  simp only[cu]at hr⊢;obtain⟨vs,h1,h2⟩:=hr;exact⟨vs,h1,aX.mono h cs vs h2⟩
 | .ref cs,_,hr=>by
  simp only[cu]at hr⊢;obtain⟨b,off,h1,h2⟩:=hr;exact⟨b,off,h1,ou.mono h cs b off h2⟩
 | .own _ l,_,hr=>by
  simp only[cu]at hr⊢;obtain⟨h0,a,cap,h1,h2,h3⟩:=hr;refine⟨h0,a,cap,h1,h2,?_⟩;rcases h3 with h3|⟨b,off,sz,h4,h5⟩
  ·exact .inl h3
  ·exact .inr ⟨b,off,sz,h4,iX.mono h l b sz off h5⟩
 | .err _,_,hr=>by simp only[cu]at hr⊢;exact hr
theorem aX.mono{w w':World}{m m':jd}(h:Le w m w' m'):∀(ps:List PV) (vs:List Value),aX w m ps vs→aX w' m' ps vs
 | [],_,hr=>by simp only[aX]at hr⊢;exact hr
 | p::ps,_,hr=>by
  simp only[aX]at hr⊢;obtain⟨v,vs',h1,h2,h3⟩:=hr;exact⟨v,vs',h1,cu.mono h p v h2,aX.mono h ps vs' h3⟩
theorem ou.mono{w w':World}{m m':jd}(h:Le w m w' m'):∀(cs:List PV) (b off:Nat),ou w m b off cs→ou w' m' b off cs
 | [],_,_,_=>by simp only[ou]
 | c::cs,b,off,hr=>by
  simp only[ou]at hr⊢;obtain⟨⟨v,h1,h2,h3⟩,h4⟩:=hr;exact⟨⟨v,(h b off h1).1,(h b off h1).2.trans h2,cu.mono h c v h3⟩,ou.mono h cs b (off+1) h4⟩
theorem iX.mono{w w':World}{m m':jd}(h:Le w m w' m'):∀(l:List (List PV)) (b sz off:Nat),iX w m b sz off l→iX w' m' b sz off l
 | [],_,_,_,_=>by simp only[iX]
 | e::es,b,sz,off,hr=>by
  simp only[iX]at hr⊢;obtain⟨⟨h1,h2⟩,h3⟩:=hr;exact⟨⟨h1,ou.mono h e b off h2⟩,iX.mono h es b sz (off+sz) h3⟩
end
section
variable {w : World} {m : jd}
theorem aX.length_eq:∀ {ps:List PV} {vs:List Value},aX w m ps vs→vs.length=ps.length
 | [],_,h=>by simp only[aX]at h;simp[h]
 | p::ps,_,h=>by
  simp only[aX]at h;obtain⟨v,vs',rfl,_,h3⟩:=h;simp[aX.length_eq h3]
theorem aX.cons{p:PV}{ps:List PV}{v:Value}{vs:List Value}(h:cu w m p v)(k:aX w m ps vs):aX w m (p::ps) (v::vs):=by
 simp only[aX];exact⟨v,vs,rfl,h,k⟩
theorem aX.nil:aX w m [] []:=by simp only[aX]
theorem aX.append:∀ {ps qs:List PV} {vs us:List Value},aX w m ps vs→aX w m qs us→aX w m (ps++qs) (vs++us)
 | [],_,_,_,h,k=>by simp only[aX]at h;simpa[h]using k
 | p::ps,_,_,_,h,k=>by
  simp only[aX]at h;obtain⟨v,vs',rfl,h2,h3⟩:=h;exact aX.cons h2 (aX.append h3 k)
theorem aX.get:∀ {ps:List PV} {vs:List Value} (_:aX w m ps vs) (i:Nat),cu w m (ps.getD i .undef) (vs.getD i Go.undef)
 | [],_,h,i=>by simp[cu]
 | p::ps,_,h,i=>by
  simp only[aX]at h;obtain⟨v,vs',rfl,h2,h3⟩:=h;cases i with
  | zero=>simpa using h2
  | succ i=>simpa using aX.get h3 i
theorem aX.get?:∀ {ps:List PV} {vs:List Value} (_:aX w m ps vs) (i:Nat) {p:PV},ps[i]?=some p→∃v,vs[i]?=some v∧cu w m p v
 | [],_,h,i,p,hp=>by simp at hp
 | q::ps,_,h,i,p,hp=>by
  simp only[aX]at h;obtain⟨v,vs',rfl,h2,h3⟩:=h;cases i with
  | zero=>simp at hp;subst hp;exact⟨v,by simp,h2⟩
  | succ i=>simp at hp;simpa using aX.get? h3 i hp
theorem mF:∀ {cs:List PV} {b off:Nat},ou w m b off cs↔∃vs,aX w m cs vs∧∀i v,vs[i]?=some v→m b (off+i)∧w.cell? ⟨b,off+i,none⟩=some v
 | [],b,off=>by
  simp only[ou,true_iff];exact⟨[],aX.nil,fun i v h=>by simp at h⟩
 | c::cs,b,off=>by
  simp only[ou];constructor
  ·rintro⟨⟨v,h1,h2,h3⟩,h4⟩;obtain⟨vs,k1,k2⟩:=mF.1 h4;refine⟨v::vs,aX.cons h3 k1,fun i u hu=>?_⟩;cases i with
   | zero=>simp at hu;subst hu;exact⟨h1,h2⟩
   | succ i=>
    have:=k2 i u (by simpa using hu);simpa[alm,Nat.add_comm 1 i]using this
  ·rintro⟨vs,k1,k2⟩;simp only[aX]at k1;obtain⟨v,vs',rfl,h2,h3⟩:=k1;have k0:=k2 0 v (by simp);refine⟨⟨v,by simpa using k0.1,by simpa using k0.2,h2⟩,mF.2 ⟨vs',h3,fun i u hu=>?_⟩⟩;have:=k2 (i+1) u (by simpa using hu);simpa[alm,Nat.add_comm 1 i]using this
theorem BJ{b:Nat}:∀ {cs ds:List PV} {off:Nat},ou w m b off (cs++ds)↔ou w m b off cs∧ou w m b (off+cs.length) ds
 | [],ds,off=>by simp[ou]
 | c::cs,ds,off=>by
  simp only[List.cons_append,ou,BJ,aiM];rw[show off+1+cs.length=off+(cs.length+1)from by omega,and_assoc]
theorem oo{b sz:Nat}:∀ {l:List (List PV)} {off:Nat},iX w m b sz off l↔(∀e∈l,e.length=sz)∧ou w m b off l.flatten
 | [],off=>by simp[iX,ou]
 | e::es,off=>by
  simp only[iX,aiG,BJ,oo,agh,forall_eq_or_imp];constructor
  ·rintro⟨⟨h1,h2⟩,h3,h4⟩;exact⟨⟨h1,h3⟩,h2,by rw[h1];exact h4⟩
  ·rintro⟨⟨h1,h3⟩,h2,h4⟩;exact⟨⟨h1,h2⟩,h3,by rw[h1]at h4;exact h4⟩
theorem Kh{b:Nat}{cs:List PV}{off:Nat}(h:ou w m b off cs)(k:Nat)(hk:k≤cs.length):ou w m b (off+k) (cs.drop k):=by
 have:=(BJ (cs:=cs.take k) (ds:=cs.drop k) (off:=off) (b:=b)).1 (by simpa using h);simpa[akO hk]using this.2
theorem Z4{b:Nat}{cs:List PV}{off:Nat}(h:ou w m b off cs)(k:Nat):ou w m b off (cs.take k):=by
 have:=(BJ (cs:=cs.take k) (ds:=cs.drop k) (off:=off) (b:=b)).1 (by simpa using h);exact this.1
theorem Ic{b sz:Nat}:∀ {l:List (List PV)} {off:Nat} (_:iX w m b sz off l) (k:Nat),iX w m b sz (off+k*sz) (l.drop k)
 | [],_,_,_=>by simp[iX]
 | e::es,off,h,0=>by simpa using h
 | e::es,off,h,k+1=>by
  simp only[iX]at h;have:=Ic h.2 k;simpa[aiq,alm,Nat.add_comm sz]using this
theorem Oa{b sz:Nat}:∀ {l:List (List PV)} {off:Nat} (_:iX w m b sz off l) (k:Nat),iX w m b sz off (l.take k)
 | [],_,_,_=>by simp[iX]
 | e::es,off,h,0=>by simp[iX]
 | e::es,off,h,k+1=>by
  simp only[iX,List.take_succ_cons]at h⊢;exact⟨h.1,Oa h.2 k⟩
theorem Z0{b sz:Nat}{l:List (List PV)}{off:Nat}(h:iX w m b sz off l){i:Nat}{e:List PV}(he:l[i]?=some e):e.length=sz∧ou w m b (off+i*sz) e:=by
 have h1:=Ic h i
 have hi:i<l.length:=by
  rcases zJ i l.length with h'|h'
  ·exact h'
  ·simp[CF h']at he
 rw[aiH hi]at h1;simp only[iX]at h1;have:l[i]=e:=by rw[aaS hi]at he;simpa using he
 rw[this]at h1;exact h1.1
end
def rU(w:World)(e:TypeId)(sz:Nat)(v:Value)(n:Nat)(xs:List Value):Prop:=
 xs.length=n*sz∧((v=.slice none 0 0∧n=0)∨
  ∃g cap cur fz,v=.slice (some ⟨g,0,none⟩) n cap∧w.heap[g]?=some (.cells cur e fz)∧(fz.1=fz.2∨cur.size≤fz.1)∧n≤cap∧cap≤maxLen∧cur.size=cap*sz∧cur.toList.take (n*sz)=xs)
def ac2(w:World)(m:jd):List (Nat × PV × PV)→List MapEntry→Prop
 | [],es=>es=[]
 | (i,k,v)::r,es=>∃e es',es=e::es'∧e.born=i∧cu w m k e.key∧cu w m v e.val∧ac2 w m r es'
theorem ac2.mono{w w':World}{m m':jd}(h:Le w m w' m'):∀ {l:List (Nat × PV × PV)} {es:List MapEntry},ac2 w m l es→ac2 w' m' l es
 | [],_,hr=>hr
 | (_,_,_)::_,_,⟨e,es',h1,h2,h3,h4,h5⟩=>⟨e,es',h1,h2,h3.mono h _ _,h4.mono h _ _,ac2.mono h h5⟩
inductive aS where
 | box (b:Nat) (cs:List PV)
 | row (v:Value) (n sz:Nat) (e:TypeId)
 | buf (v:Value) (n sz:Nat) (e:TypeId) (cs:List PV)
 | kK (b:Nat) (ty:TypeId) (cs:List PV)
 | obj (b:Nat) (o:Obj)
 | Kj (b:Nat) (v:Value) (ty e:TypeId) (bs:List UInt8)
 | mp (b:Nat) (es:List (Nat × PV × PV)) (n:Nat)
 | since (w0:World) (m0:jd)
def roomy:Value→Bool
 | .slice none 0 0=>true
 | .slice (some _) _ c=>c !=0
 | _=>false
def aS.fp:aS→List Nat
 | .box b _=>[b]
 | .row v _ _ _=>v.ownBlock.toList
 | .buf v _ _ _ _=>v.ownBlock.toList
 | .kK b _ _=>[b]
 | .obj b _=>[b]
 | .mp b _ _=>[b]
 | .Kj b v _ _ _=>b::v.ownBlock.toList
 | .since _ _=>[]
def aS.holds(w:World)(m:jd):aS→Prop
 | .box b cs=>∃vs:List Value,∃ty,w.heap[b]?=some (.cells vs.toArray ty (0,0))∧aX w m cs vs∧∀off,¬m b off
 | .row v n sz e=>∃xs,rU w e sz v n xs∧∀b,v.ownBlock=some b→∀off,m b off→off<n*sz
 | .buf v n sz e cs=>∃xs,rU w e sz v n xs∧aX w m cs xs∧∀b,v.ownBlock=some b→∀off,¬m b off
 | .kK b ty cs=>∃vs:List Value,w.heap[b]?=some (.cells vs.toArray ty (0,0))∧aX w m cs vs∧∀off,¬m b off
 | .obj b o=>w.heap[b]?=some o∧∀off,¬m b off
 | .Kj b v ty e bs=>(∃p,(p=Value.pointer none∨p=.pointer (some ⟨b,0,none⟩))∧w.heap[b]?=some (.cells #[p,v] ty (0,0)))∧(∀off,¬m b off)∧roomy v=true∧
   rU w e 1 v bs.length (bs.map fun c=>.int .u8 (c.toNat:Int))∧∀g,v.ownBlock=some g→∀off,m g off→off<bs.length*1
 | .mp b es n=>(∃ents:List MapEntry,w.heap[b]?=some (.map ents.toArray n)∧ac2 w m es ents)∧∀off,¬m b off
 | .since w0 m0=>Le w0 m0 w m
def j_(σ:List aS):List Nat:=σ.flatMap aS.fp
structure Conc(w:World)(m:jd)(σ:List aS):Prop where
 each:∀r∈σ,r.holds w m
 apart:(j_ σ).Nodup
 wf:∀b off,m b off→b<w.heap.size
 qY:gD.G w m
structure Trans(w:World)(m:jd)(σ:List aS)(w':World)(m':jd)(σ':List aS):Prop where
 os:w'.os=w.os
 tape:w'.tape=w.tape
 output:w'.output=w.output
 size:w.heap.size≤w'.heap.size
 le:Le w m w' m'
 keep:∀b,b<w.heap.size→b∉j_ σ→w'.heap[b]?=w.heap[b]?∧∀off,m' b off→m b off
 fresh:∀b∈j_ σ',b∈j_ σ∨w.heap.size≤b
 drawn:gD.D→w.drawn≤w'.drawn
theorem Trans.refl(w:World)(m:jd)(σ:List aS):Trans w m σ w m σ:=
 ⟨rfl,rfl,rfl,abr _,Le.refl _ _,fun _ _ _=>⟨rfl,fun _ h=>h⟩,fun _ h=>.inl h,fun _=>abr _⟩
theorem Trans.trans{w w1 w2:World}{m m1 m2:jd}{σ σ1 σ2:List aS}(h:Trans w m σ w1 m1 σ1)(k:Trans w1 m1 σ1 w2 m2 σ2):Trans w m σ w2 m2 σ2:=by
 refine⟨k.os.trans h.os,k.tape.trans h.tape,k.output.trans h.output,Nat.le_trans h.size k.size,h.le.trans k.le,fun b hb hn=>?_,fun b hb=>?_,fun d=>Nat.le_trans (h.drawn d) (k.drawn d)⟩
 ·have h1:=h.keep b hb hn
  have hn1:b∉j_ σ1:=fun hf=>by
   rcases h.fresh b hf with h'|h'
   ·exact hn h'
   ·omega
  have h2:=k.keep b (Nat.lt_of_lt_of_le hb h.size) hn1;exact⟨h2.1.trans h1.1,fun off ho=>h1.2 off (h2.2 off ho)⟩
 ·rcases k.fresh b hb with h'|h'
  ·exact h.fresh b h'
  ·exact .inr (Nat.le_trans h.size h')
theorem aS.nX{w w':World}{m m':jd}{r:aS}(h:r.holds w m)(hle:Le w m w' m')
  (hk:∀b∈r.fp,w'.heap[b]?=w.heap[b]?∧∀off,m' b off→m b off):r.holds w' m':=by
 cases r with
 | box b cs=>
  obtain⟨vs,ty,h1,h2,h3⟩:=h;have:=hk b (by simp[aS.fp]);exact⟨vs,ty,by rw[this.1];exact h1,aX.mono hle cs vs h2,fun off ho=>h3 off (this.2 off ho)⟩
 | row v n sz e=>
  obtain⟨xs,⟨h1,h2⟩,h3⟩:=h;refine⟨xs,⟨h1,?_⟩,fun b hb off ho=>h3 b hb off ((hk b (by simp[aS.fp,hb])).2 off ho)⟩;rcases h2 with h2|⟨g,cap,cur,fz,rfl,hg,r⟩
  ·exact .inl h2
  ·exact .inr ⟨g,cap,cur,fz,rfl,by rw[(hk g (by simp[aS.fp,Value.ownBlock])).1];exact hg,r⟩
 | buf v n sz e cs=>
  obtain⟨xs,⟨h1,h2⟩,hr,h3⟩:=h;refine⟨xs,⟨h1,?_⟩,aX.mono hle cs xs hr,fun b hb off ho=>h3 b hb off ((hk b (by simp[aS.fp,hb])).2 off ho)⟩;rcases h2 with h2|⟨g,cap,cur,fz,rfl,hg,r⟩
  ·exact .inl h2
  ·exact .inr ⟨g,cap,cur,fz,rfl,by rw[(hk g (by simp[aS.fp,Value.ownBlock])).1];exact hg,r⟩
 | kK b ty cs=>
  obtain⟨vs,h1,h2,h3⟩:=h;have:=hk b (by simp[aS.fp]);exact⟨vs,by rw[this.1];exact h1,aX.mono hle cs vs h2,fun off ho=>h3 off (this.2 off ho)⟩
 | obj b o=>
  have:=hk b (by simp[aS.fp]);exact⟨by rw[this.1];exact h.1,fun off ho=>h.2 off (this.2 off ho)⟩
 | Kj b v ty e bs=>
  obtain⟨⟨p,hp,h1⟩,h2,h3,⟨h4,h5⟩,h6⟩:=h;have hb:=hk b (by simp[aS.fp]);refine⟨⟨p,hp,by rw[hb.1];exact h1⟩,fun off ho=>h2 off (hb.2 off ho),h3,⟨h4,?_⟩,fun g hg off ho=>h6 g hg off ((hk g (by simp[aS.fp,hg])).2 off ho)⟩;rcases h5 with h5|⟨g,cap,cur,fz,rfl,hg,r⟩
  ·exact .inl h5
  ·exact .inr ⟨g,cap,cur,fz,rfl,by rw[(hk g (by simp[aS.fp,Value.ownBlock])).1];exact hg,r⟩
 | mp b es n=>
  obtain⟨⟨ents,h1,h2⟩,h3⟩:=h;have:=hk b (by simp[aS.fp]);exact⟨⟨ents,by rw[this.1];exact h1,h2.mono hle⟩,fun off ho=>h3 off (this.2 off ho)⟩
 | since w0 m0=>exact Le.trans h hle
theorem aS.ae5{w:World}{m:jd}{r:aS}(h:r.holds w m):∀b∈r.fp,b<w.heap.size:=by
 intro b hb;cases r with
 | box b' cs=>
  simp[aS.fp]at hb;subst hb;obtain⟨vs,ty,h1,_,_⟩:=h;rcases zJ b w.heap.size with h'|h'
  ·exact h'
  ·simp[ZR h']at h1
 | row v n sz e=>
  obtain⟨xs,⟨h1,h2⟩,h3⟩:=h;simp[aS.fp]at hb;rcases h2 with⟨rfl,_⟩|⟨g,cap,cur,fz,rfl,hg,r⟩
  ·simp[Value.ownBlock]at hb
  ·simp[Value.ownBlock]at hb;subst hb;rcases zJ g w.heap.size with h'|h'
   ·exact h'
   ·simp[ZR h']at hg
 | buf v n sz e cs=>
  obtain⟨xs,⟨h1,h2⟩,_,h3⟩:=h;simp[aS.fp]at hb;rcases h2 with⟨rfl,_⟩|⟨g,cap,cur,fz,rfl,hg,r⟩
  ·simp[Value.ownBlock]at hb
  ·simp[Value.ownBlock]at hb;subst hb;rcases zJ g w.heap.size with h'|h'
   ·exact h'
   ·simp[ZR h']at hg
 | kK b' ty cs=>
  simp[aS.fp]at hb;subst hb;obtain⟨vs,h1,_,_⟩:=h;rcases zJ b w.heap.size with h'|h'
  ·exact h'
  ·simp[ZR h']at h1
 | obj b' o=>
  simp[aS.fp]at hb;subst hb;rcases zJ b w.heap.size with h'|h'
  ·exact h'
  ·have:=h.1;simp[ZR h']at this
 | Kj b' v ty e bs=>
  obtain⟨⟨p,hp,h1⟩,_,_,⟨_,h5⟩,_⟩:=h;simp only[aS.fp,agh]at hb;rcases hb with rfl|hb
  ·rcases zJ b w.heap.size with h'|h'
   ·exact h'
   ·simp[ZR h']at h1
  ·rcases h5 with⟨rfl,_⟩|⟨g,cap,cur,fz,rfl,hg,r⟩
   ·simp[Value.ownBlock]at hb
   ·simp[Value.ownBlock]at hb;subst hb;rcases zJ b w.heap.size with h'|h'
    ·exact h'
    ·simp[ZR h']at hg
 | mp b' es n=>
  simp[aS.fp]at hb;subst hb;obtain⟨⟨ents,h1,_⟩,_⟩:=h;rcases zJ b w.heap.size with h'|h'
  ·exact h'
  ·simp[ZR h']at h1
 | since w0 m0=>simp[aS.fp]at hb
theorem Conc.G6{w:World}{m:jd}{σ:List aS}(h:Conc w m σ):∀b∈j_ σ,b<w.heap.size:=by
 intro b hb;simp only[j_,agI]at hb;obtain⟨r,hr,hb⟩:=hb;exact aS.ae5 (h.each r hr) b hb
end Go.Abs
namespace Go.Abs
variable [gD]
open Go
theorem vD{a b:Nat}(h:a≠b):Nat.beq a b=false:=by
 cases e:Nat.beq a b with
 | false=>rfl
 | true=>exact absurd (Aq e) h
abbrev Env:=List (Nat × PV)
def Env.get:Env→Nat→PV
 | [],_=>.undef
 | (t',p)::r,t=>bif Nat.beq t' t then p else Env.get r t
def xO:Value→PV
 | .int k n=>.int k n
 | .bool b=>.bool b
 | .string s=>.str s.data.toList
 | .slice none 0 0=>.own (.slice none 0 0) []
 | v=>.val v
def ofConst:Value→PV
 | .agg cs=>.agg (cs.toList.map xO)
 | v=>xO v
def Env.ev(env:Env):Operand→PV
 | .tmp t=>env.get t
 | .const v=>ofConst v
 | .global g=>.val (.pointer (some ⟨g,0,none⟩))
 | .func f=>.fn f []
theorem KH(w:World)(m:jd)(v:Value):cu w m (xO v) v:=by
 unfold xO;split<;>simp[cu]
theorem zA(w:World)(m:jd):∀vs:List Value,aX w m (vs.map xO) vs
 | []=>aX.nil
 | v::vs=>aX.cons (KH w m v) (zA w m vs)
theorem WU(w:World)(m:jd)(v:Value):cu w m (ofConst v) v:=by
 unfold ofConst;split
 ·rename_i cs;simp only[cu];exact⟨cs.toList,by simp,zA w m _⟩
 ·exact KH w m v
def CP(w:World)(m:jd)(env:Env)(tmps:Array Value):Prop:=∀t,cu w m (env.get t) (tmps.getD t Go.undef)
theorem CP.mono{w w':World}{m m':jd}(h:Le w m w' m'){env:Env}{tmps:Array Value}(k:CP w m env tmps):CP w' m' env tmps:=
 fun t=>cu.mono h _ _ (k t)
theorem CP.ev{w:World}{m:jd}{env:Env}{a:Act}(h:CP w m env a.tmps)(x:Operand):cu w m (env.ev x) (a.eval x):=by
 cases x with
 | tmp t=>exact h t
 | const v=>exact WU w m v
 | global g=>simp[Env.ev,cu,Act.eval]
 | func f=>simp only[Env.ev,cu,Act.eval];exact⟨[],rfl,aX.nil⟩
theorem CP.put{w:World}{m:jd}{env:Env}{tmps:Array Value}(h:CP w m env tmps){t:Nat}{p:PV}{v:Value}(hv:cu w m p v)(ht:t<tmps.size):
  CP w m ((t,p)::env) (tmps.setIfInBounds t v):=by
 intro u;simp only[Env.get];by_cases e:t=u
 ·subst e;simp[Array.getD,ht,hv]
 ·have:Nat.beq t u=false:=vD e;rw[this];have h':=h u;simp only[akP];rw[show (tmps.setIfInBounds t v).getD u Go.undef=tmps.getD u Go.undef from by simp[ab4,e]];exact h'
structure om(w:World)(m:jd)(n:Nat)(env:Env)(σ:List aS)(ds:List Deferred)(a:Act):Prop where
 size:a.tmps.size=n
 ds:a.defers=ds
 env:CP w m env a.tmps
 gY:Conc w m σ
inductive AX where
 | normal
 | exit (id:Nat)
 | ret
 | panic (p:PV)
def amY(w:World)(m:jd):AX→Exit→Prop
 | .normal,x=>x=.normal
 | .exit id,x=>x=.exit id
 | .ret,x=>x=.ret
 | .panic p,x=>∃v,x=.panic [{v,recovered:=false}]∧cu w m p v
abbrev Post:=AX→Env→List aS→List Deferred→Prop
def Acc(n:Nat)(Q:Post)(w:World)(m:jd)(σ:List aS)(QC:Exit→Act→World→Prop):Prop:=
 ∀x ex env' σ' ds' a' w' m',Q x env' σ' ds'→amY w' m' x ex→om w' m' n env' σ' ds' a'→Trans w m σ w' m' σ'→QC ex a' w'
theorem Acc.step{n:Nat}{Q:Post}{w w1:World}{m m1:jd}{σ σ1:List aS}{QC:Exit→Act→World→Prop}
  (h:Acc n Q w m σ QC) (t:Trans w m σ w1 m1 σ1):Acc n Q w1 m1 σ1 QC:=
 fun x ex env' σ' ds' a' w' m' hq hx hs ht=>h x ex env' σ' ds' a' w' m' hq hx hs (t.trans ht)
def AW(P:Program)(n:Nat)(c:Code)(env:Env)(σ:List aS)(ds:List Deferred)(Q:Post):Prop:=
 ∀w m a QC,om w m n env σ ds a→Acc n Q w m σ QC→c.wp P QC a w
inductive dO where
 | ret (p:PV)
 | panic (p:PV)
def Ar(w:World)(m:jd):dO→Ending→Prop
 | .ret p,e=>∃v,e=.returned v∧cu w m p v
 | .panic p,e=>∃v,e=.panicked [{v,recovered:=false}]∧cu w m p v
def AC(P:Program)(f:FuncId)(args:List PV)(σ:List aS)(R:dO→List aS→Prop):Prop:=
 ∀w m vs,Conc w m σ→aX w m args vs→Calls P f vs.toArray w fun e w'=>
  ∃out σ' m',R out σ'∧Ar w' m' out e∧Conc w' m' σ'∧Trans w m σ w' m' σ'
theorem AC.mono{P:Program}{f:FuncId}{args:List PV}{σ:List aS}{R R':dO→List aS→Prop}(h:AC P f args σ R)
  (hr:∀out σ',R out σ'→R' out σ'):AC P f args σ R':=
 fun w m vs hc hv=>(h w m vs hc hv).mono fun _ _ ⟨out,σ',m',h1,h2⟩=>⟨out,σ',m',hr _ _ h1,h2⟩
theorem AW.mono{P:Program}{n:Nat}{c:Code}{env:Env}{σ:List aS}{ds:List Deferred}{Q Q':Post}(h:AW P n c env σ ds Q)(hq:∀x e s d,Q x e s d→Q' x e s d):AW P n c env σ ds Q':=
 fun w m a QC hs ha=>h w m a QC hs fun x ex env' σ' ds' a' w' m' h1 h2 h3 h4=>ha x ex env' σ' ds' a' w' m' (hq _ _ _ _ h1) h2 h3 h4
section
variable {P : Program} {n : Nat} {env : Env} {σ : List aS} {ds : List Deferred} {Q : Post}
theorem AW.skip(h:Q .normal env σ ds):AW P n .skip env σ ds Q:=
 fun w m a _ hs ha=>wp_skip (ha .normal .normal env σ ds a w m h rfl hs (Trans.refl ..))
theorem AW.label{l:Nat}(h:Q .normal env σ ds):AW P n (.label l) env σ ds Q:=
 fun w m a _ hs ha=>wp_label (ha .normal .normal env σ ds a w m h rfl hs (Trans.refl ..))
theorem AW.exit{id:Nat}(h:Q (.exit id) env σ ds):AW P n (.exit id) env σ ds Q:=
 fun w m a _ hs ha=>wp_exit (ha (.exit id) (.exit id) env σ ds a w m h rfl hs (Trans.refl ..))
theorem AW.ret(h:Q .ret env σ ds):AW P n .ret env σ ds Q:=
 fun w m a _ hs ha=>wp_ret (ha .ret .ret env σ ds a w m h rfl hs (Trans.refl ..))
def AX.then(next:Env→List aS→List Deferred→Prop)(Q:Post):Post
 | .normal,e,s,d=>next e s d
 | x,e,s,d=>Q x e s d
theorem AW.seq{c d:Code}(h:AW P n c env σ ds (AX.then (fun e s ds=>AW P n d e s ds Q) Q)):AW P n (.seq c d) env σ ds Q:=by
 intro w m a QC hs ha;refine wp_seq (h w m a _ hs ?_);intro x ex e1 σ1 d1 a1 w1 m1 hq hx hs1 ht;cases x with
 | normal=>cases hx;exact hq w1 m1 a1 QC hs1 (ha.step ht)
 | exit id=>cases hx;exact ha (.exit id) _ e1 σ1 d1 a1 w1 m1 hq rfl hs1 ht
 | ret=>cases hx;exact ha .ret _ e1 σ1 d1 a1 w1 m1 hq rfl hs1 ht
 | panic p=>obtain⟨v,rfl,hv⟩:=hx;exact ha (.panic p) _ e1 σ1 d1 a1 w1 m1 hq ⟨v,rfl,hv⟩ hs1 ht
theorem AW.cond{c:Operand}{x y:Code}{b:Bool}(hc:env.ev c=.bool b)(ht:b=true→AW P n x env σ ds Q)(hf:b=false→AW P n y env σ ds Q):
  AW P n (.cond c x y) env σ ds Q:=by
 intro w m a QC hs ha;have he:=hs.env.ev c;rw[hc]at he;simp only[cu]at he;exact wp_cond_split he (fun h=>ht h w m a QC hs ha) (fun h=>hf h w m a QC hs ha)
def AX.inBlock(id:Nat)(Q:Post):Post
 | .exit id',e,s,d=>bif Nat.beq id' id then Q .normal e s d else Q (.exit id') e s d
 | x,e,s,d=>Q x e s d
theorem AW.block{id:Nat}{c:Code}(h:AW P n c env σ ds (AX.inBlock id Q)):AW P n (.block id c) env σ ds Q:=by
 intro w m a QC hs ha;refine wp_block (h w m a _ hs ?_);intro x ex e1 σ1 d1 a1 w1 m1 hq hx hs1 ht;cases x with
 | normal=>cases hx;exact ha .normal _ e1 σ1 d1 a1 w1 m1 hq rfl hs1 ht
 | exit id'=>
  cases hx;simp only[Exit.inBlock];simp only[AX.inBlock]at hq;by_cases e:id'=id
  ·subst e;simp only[Nat.beq_refl,ajC]at hq;rw[ahH rfl];exact ha .normal _ e1 σ1 d1 a1 w1 m1 hq rfl hs1 ht
  ·have:Nat.beq id' id=false:=vD e;simp only[this,akP]at hq;rw[ahC e];exact ha (.exit id') _ e1 σ1 d1 a1 w1 m1 hq rfl hs1 ht
 | ret=>cases hx;exact ha .ret _ e1 σ1 d1 a1 w1 m1 hq rfl hs1 ht
 | panic p=>obtain⟨v,rfl,hv⟩:=hx;exact ha (.panic p) _ e1 σ1 d1 a1 w1 m1 hq ⟨v,rfl,hv⟩ hs1 ht
theorem wp_loop_ghost{α:Type}{c:Code}{QC:Exit→Act→World→Prop}(I:α→Act→World→Prop)(μ:α→Nat)
  (round:∀x a w,I x a w→c.wp P (Exit.then (fun a' w'=>∃y,I y a' w'∧μ y<μ x) QC) a w) {x:α} {a:Act} {w:World} (h0:I x a w):(Code.loop c).wp P QC a w:=by
 intro b k cs
 have key:∀n x a w,μ x=n→I x a w→
   ∃e a' w',QC e a' w'∧Arrives P (lone (b.at a (.code c::.inLoop c::k)) cs w) b k cs e a' w':=by
  intro n
  induction n using Nat.strongRecOn with
  | _ n ih=>
   intro x a w hn hI;obtain⟨e,a₁,w₁,hq,harr⟩:=round x a w hI b (.inLoop c::k) cs;cases e with
   | normal=>
    obtain⟨y,hI₁,hlt⟩:=hq;obtain⟨e₂,a₂,w₂,hq₂,harr₂⟩:=ih (μ y) (hn ▸ hlt) y a₁ w₁ rfl hI₁;exact⟨e₂,a₂,w₂,hq₂,.of_steps (Steps.trans harr (.one step_inLoop)) harr₂⟩
   | exit id=>exact⟨_,a₁,w₁,hq,.pass (x:=.inLoop c) rfl (fun _ _=>.inl (by simp)) harr⟩
   | goto l=>exact⟨_,a₁,w₁,hq,.pass (x:=.inLoop c) rfl (fun _ _=>.inl (by simp)) harr⟩
   | ret=>exact⟨_,a₁,w₁,hq,.pass (x:=.inLoop c) rfl (fun _ _=>.inl (by simp)) harr⟩
   | panic ch=>exact⟨_,a₁,w₁,hq,.pass (x:=.inLoop c) rfl (fun _ _=>.inl (by simp)) harr⟩
   | outgrown=>exact⟨_,a₁,w₁,hq,.pass (x:=.inLoop c) rfl (fun _ _=>.inl (by simp)) harr⟩
 obtain⟨e,a',w',hq,harr⟩:=key _ x a w rfl h0;exact⟨e,a',w',hq,.of_steps (.one step_loop) harr⟩
theorem AW.loop{α:Type}{c:Code}(E:α→Env)(T:α→List aS)(I:α→Prop)(μ:α→Nat)(x0:α)(h0:env=E x0)(h1:σ=T x0)(h2:I x0)
  (round:∀x,I x→AW P n c (E x) (T x) ds (AX.then (fun e s d=>∃y,e=E y∧s=T y∧d=ds∧I y∧μ y<μ x) Q)):AW P n (.loop c) env σ ds Q:=by
 subst h0 h1;intro w0 m0 a0 QC hs0 ha0;refine wp_loop_ghost (fun x a w=>I x∧∃m,om w m n (E x) (T x) ds a∧Acc n Q w m (T x) QC) μ ?_ ⟨h2,m0,hs0,ha0⟩;rintro x a w ⟨hI,m,hs,ha⟩;refine round x hI w m a _ hs ?_;intro y ex e1 σ1 d1 a1 w1 m1 hq hx hs1 ht;cases y with
 | normal=>
  cases hx;obtain⟨y,rfl,rfl,rfl,hI',hlt⟩:=hq;exact⟨y,⟨hI',m1,hs1,ha.step ht⟩,hlt⟩
 | exit id=>cases hx;exact ha (.exit id) _ e1 σ1 d1 a1 w1 m1 hq rfl hs1 ht
 | ret=>cases hx;exact ha .ret _ e1 σ1 d1 a1 w1 m1 hq rfl hs1 ht
 | panic p=>obtain⟨v,rfl,hv⟩:=hx;exact ha (.panic p) _ e1 σ1 d1 a1 w1 m1 hq ⟨v,rfl,hv⟩ hs1 ht
def PV.force:PV→Option PV
 | .undef=>some .undef
 | .int k n=>some (.int k n)
 | .bool b=>some (.bool b)
 | .str s=>some (.str s)
 | .list l=>some (.list l)
 | .agg cs=>some (.agg cs)
 | .tuple vs=>some (.tuple vs)
 | .val v=>some (.val v)
 | .iface t p=>some (.iface t p)
 | .fn f caps=>some (.fn f caps)
 | .ref cs=>some (.ref cs)
 | .own v l=>some (.own v l)
 | .err e=>some (.err e)
theorem PV.force_eq{p q:PV}(h:p.force=some q):p=q:=by
 cases p<;>simp only[PV.force,jW]at h<;>exact h
def settle:List Nat→Env→Option Env
 | [],_=>some []
 | t::ts,env=>match (env.get t).force with
  | some p=>match settle ts env with
   | some r=>some ((t,p)::r)
   | none=>none
  | none=>none
theorem JZ{env:Env}:∀ {ps:List Nat} {env':Env},settle ps env=some env'→∀t,env'.get t=.undef∨env'.get t=env.get t
 | [],_,h,t=>by simp only[settle,jW]at h;subst h;exact .inl rfl
 | u::ps,_,h,t=>by
  simp only[settle]at h;split at h
  ·rename_i p hp;split at h
   ·rename_i r hr;simp only[jW]at h;subst h;simp only[Env.get];by_cases e:u=t
    ·subst e;simp[←PV.force_eq hp]
    ·rw[vD e];exact JZ hr t
   ·cases h
  ·cases h
theorem CP.settle{w:World}{m:jd}{env env':Env}{tmps:Array Value}{ps:List Nat}(hs:settle ps env=some env')(h:CP w m env tmps):CP w m env' tmps:=by
 intro t;rcases JZ hs t with e|e
 ·rw[e];simp[cu]
 ·rw[e];exact h t
theorem AW.settle{c:Code}{env':Env}(ps:List Nat)(hs:Abs.settle ps env=some env')(h:AW P n c env' σ ds Q):AW P n c env σ ds Q:=
 fun w m a QC qX ha=>h w m a QC ⟨qX.size,qX.ds,qX.env.settle hs,qX.gY⟩ ha
theorem Conc.sub{w:World}{m:jd}{σ σ':List aS}(h:Conc w m σ)(hs:σ'.Sublist σ):Conc w m σ':=
 ⟨fun r hr=>h.each r (hs.subset hr),by
  refine List.Nodup.sublist ?_ h.apart;clear h
  induction hs with
  | slnil=>simp[j_]
  | cons r _ ih=>
   refine ih.trans ?_;simp only[j_,ac3];exact List.sublist_append_right _ _
  | cons_cons r _ ih=>
   simp only[j_,ac3]
   exact List.Sublist.append (List.Sublist.refl _) ih,h.wf,h.qY⟩
theorem aaX{σ σ':List aS}(hs:σ'.Sublist σ):∀b∈j_ σ',b∈j_ σ:=by
 intro b hb;simp only[j_,agI]at hb⊢;obtain⟨r,hr,hb⟩:=hb;exact⟨r,hs.subset hr,hb⟩
theorem Trans.sub{w w':World}{m m':jd}{σ σ' ak3:List aS}(h:Trans w m σ w' m' σ')(hs:ak3.Sublist σ'):Trans w m σ w' m' ak3:=
 ⟨h.os,h.tape,h.output,h.size,h.le,h.keep,fun b hb=>h.fresh b (aaX hs b hb),h.drawn⟩
theorem AW.drop{c:Code}(σ':List aS)(hs:σ'.Sublist σ)(h:AW P n c env σ' ds Q):AW P n c env σ ds Q:=
 fun w m a QC qX ha=>h w m a QC ⟨qX.size,qX.ds,qX.env,qX.gY.sub hs⟩
  (ha.step (Trans.sub (Trans.refl w m σ) hs))
end
end Go.Abs
namespace Go.Abs
variable [gD]
open Go
def AO(P:Program)(o:Oper)(ρ:Operand→PV)(σ:List aS)(R S:PV→List aS→Prop):Prop:=
 ∀w m a K QC,(∀x∈o.op.operands,cu w m (ρ x) (a.eval x))→Conc w m σ→
  (∀p σ' v w' m',R p σ'→cu w' m' p v→Conc w' m' σ'→Trans w m σ w' m' σ'→K (a.put o.dst v) w')→
  (∀p σ' v w' m',S p σ'→cu w' m' p v→Conc w' m' σ'→Trans w m σ w' m' σ'→QC (.panic [{v,recovered:=false}]) a w')→
  o.wp P a w K QC
def AR(P:Program)(n:Nat)(all:Array Oper)(l:List Oper)(env:Env)(σ:List aS)(ds:List Deferred)(Q:Post):Prop:=
 ∀w m a QC,om w m n env σ ds a→Acc n Q w m σ QC→wpList P all QC l a w
section
variable {P : Program} {n : Nat} {env : Env} {σ : List aS} {ds : List Deferred} {Q : Post} {all : Array Oper} {rest : List Oper} {o : Oper}
theorem AR.nil{env':Env}(ps:List Nat)(hs:settle ps env=some env')(h:Q .normal env' σ ds):AR P n all [] env σ ds Q:=
 fun w m a _ qX ha=>ha .normal .normal _ _ _ a w m h rfl ⟨qX.size,qX.ds,qX.env.settle hs,qX.gY⟩ (Trans.refl ..)
theorem AW.region{id:Nat}{l:List Oper}(h:AR P n l.toArray l env σ ds Q):AW P n (.region id l.toArray false) env σ ds Q:=
 fun w m a QC hs ha=>wp_region_lit (h w m a QC hs ha)
theorem om.put{w w':World}{m m':jd}{a:Act}{σ':List aS}(hs:om w m n env σ ds a){dst:Option Tmp}{t:Nat}(hd:dst=some t)(ht:t<n)
  {v:Value} {p:PV} (hv:cu w' m' p v) (hc:Conc w' m' σ') (hle:Le w m w' m'):om w' m' n ((t,p)::env) σ' ds (a.put dst v):=by
 subst hd;refine⟨by simp[Act.put,hs.size],by simp[Act.put,hs.ds],?_,hc⟩;have:=(hs.env.mono hle).put hv (by rw[hs.size];exact ht);simpa[Act.put]using this
theorem om.Xa{w w':World}{m m':jd}{a:Act}{σ':List aS}(hs:om w m n env σ ds a){dst:Option Tmp}(hd:dst=none)
  {v:Value} (hc:Conc w' m' σ') (hle:Le w m w' m'):om w' m' n env σ' ds (a.put dst v):=by
 subst hd;exact⟨hs.size,hs.ds,hs.env.mono hle,hc⟩
theorem AR.step{t:Nat}(hg:o.guard=none)(hd:o.dst=some t)(ht:Nat.blt t n=true)
  (h:AO P o env.ev σ (fun p σ'=>AR P n all rest ((t,p)::env) σ' ds Q) (fun p σ'=>Q (.panic p) env σ' ds)):
  AR P n all (o::rest) env σ ds Q:=by
 intro w m a QC hs ha;have ht:t<n:=abq ht;refine wpList_plain hg fun K hK=>?_;refine h w m a K QC (fun x _=>hs.env.ev x) hs.gY ?_ ?_
 ·intro p σ' v w' m' hr hv hc htr;exact hK _ _ (hr w' m' _ QC (hs.put hd ht hv hc htr.le) (ha.step htr))
 ·intro p σ' v w' m' hr hv hc htr;exact ha (.panic p) _ _ _ _ a w' m' hr ⟨v,rfl,hv⟩ ⟨hs.size,hs.ds,hs.env.mono htr.le,hc⟩ htr
theorem AR.bO(hg:o.guard=none)(hd:o.dst=none)
  (h:AO P o env.ev σ (fun _ σ'=>AR P n all rest env σ' ds Q) (fun p σ'=>Q (.panic p) env σ' ds)):
  AR P n all (o::rest) env σ ds Q:=by
 intro w m a QC hs ha;refine wpList_plain hg fun K hK=>?_;refine h w m a K QC (fun x _=>hs.env.ev x) hs.gY ?_ ?_
 ·intro p σ' v w' m' hr hv hc htr;exact hK _ _ (hr w' m' _ QC (hs.Xa hd hc htr.le) (ha.step htr))
 ·intro p σ' v w' m' hr hv hc htr;exact ha (.panic p) _ _ _ _ a w' m' hr ⟨v,rfl,hv⟩ ⟨hs.size,hs.ds,hs.env.mono htr.le,hc⟩ htr
theorem AR.guard{t u j:Nat}{want b:Bool}{oj:Oper}(hg:o.guard=some (j,want))(hj:all[j]?=some oj)(hu:oj.dst=some u)(hb:env.get u=.bool b)(hd:o.dst=some t)(ht:Nat.blt t n=true)
  (h1:b=want→AR P n all ({o with guard:=none}::rest) env σ ds Q)
  (h2:b=!want→AR P n all rest ((t,.undef)::env) σ ds Q):AR P n all (o::rest) env σ ds Q:=by
 intro w m a QC hs ha;have ht:t<n:=abq ht;have hv:=hs.env u;rw[hb]at hv;simp only[cu]at hv
 have hy:yielded all a.tmps j=some b:=by
  have ht':a.tmps[u]?=some (.bool b):=by
   cases e:a.tmps[u]? with
   | none=>simp[ab4,e,Go.undef]at hv
   | some x=>simpa[ab4,e]using hv
  simp[yielded,hj,hu,ht']
 by_cases e:b=want
 ·have h:=h1 e w m a QC hs ha;unfold wpList at h⊢;rw[ahH (by simp[Region.wanted])]at h;rw[ahH (by simp[Region.wanted,hg,hy,e])];exact h
 ·have e':b=!want:=by cases b<;>cases want<;>simp_all
  unfold wpList;rw[ahC (by simp[Region.wanted,hg,hy,e])];exact h2 e' w m _ QC (hs.put (p:=.undef) hd ht trivial hs.gY (Le.refl _ _)) ha
end
def kEq:IntKind→IntKind→Bool
 | .i8,.i8|.i16,.i16|.i32,.i32|.i64,.i64|.u8,.u8|.u16,.u16|.u32,.u32|.u64,.u64=>true
 | _,_=>false
theorem aj6{k k':IntKind}(h:kEq k k'=true):k=k':=by
 cases k<;>cases k'<;>first|rfl|simp[kEq]at h
def afy(op:BinOp):PV→PV→Option PV
 | .int k a,.int k' b=>bif kEq k k' then
   match op with
   | .add=>some (.int k (k.wrap (a+b)))
   | .sub=>some (.int k (k.wrap (a-b)))
   | .mul=>some (.int k (k.wrap (a*b)))
   | .and=>some (.int k (k.wrap (BitVec.ofInt k.bits a &&& BitVec.ofInt k.bits b).toNat))
   | .or=>some (.int k (k.wrap (BitVec.ofInt k.bits a ||| BitVec.ofInt k.bits b).toNat))
   | .xor=>some (.int k (k.wrap (BitVec.ofInt k.bits a ^^^ BitVec.ofInt k.bits b).toNat))
   | .andNot=>some (.int k (k.wrap (BitVec.ofInt k.bits a &&& ~~~ BitVec.ofInt k.bits b).toNat))
   | .eql=>some (.bool (a==b))
   | .neq=>some (.bool (a !=b))
   | .lss=>some (.bool (decide (a<b)))
   | .leq=>some (.bool (decide (a≤b)))
   | .gtr=>some (.bool (decide (b<a)))
   | .geq=>some (.bool (decide (b≤a)))
   | _=>none
  else none
 | .str a,.str b=>
   match op with
   | .eql=>some (.bool (a==b))
   | .neq=>some (.bool (!(a==b)))
   | .lss=>some (.bool (Op.bytesLess a b))
   | .leq=>some (.bool (Op.bytesLess a b||a==b))
   | .gtr=>some (.bool (!(Op.bytesLess a b||a==b)))
   | .geq=>some (.bool (!Op.bytesLess a b))
   | _=>none
 | _,_=>none
def ajv(op:UnOp):PV→Option PV
 | .int k n=>match op with
  | .neg=>some (.int k (k.wrap (0-n)))
  | .xor=>some (.int k (k.wrap (BitVec.ofInt k.bits (if k.signed then -1 else k.max) ^^^ BitVec.ofInt k.bits n).toNat))
  | _=>none
 | .bool b=>match op with
  | .not=>some (.bool (!b))
  | _=>none
 | _=>none
def Y6(g:Bool):PV→PV→Option PV
 | .bool x,.bool y=>some (.bool (bif g then x else y))
 | x,y=>(bif g then x else y).force
def Xc(ρ:Operand→PV):Op→Option PV
 | .move x|.assign x=>(ρ x).force
 | .pick c a b=>match ρ c with
  | .bool g=>Y6 g (ρ a) (ρ b)
  | _=>none
 | .binOp op _ x y _=>afy op (ρ x) (ρ y)
 | .unOp op _ x=>ajv op (ρ x)
 | .makeFunc (.func f) first captured=>bif first.isEmpty then some (.fn f (captured.toList.map ρ))else none
 | .extract x i=>match ρ x with
  | .tuple vs=>match vs[i]? with
   | some p=>p.force
   | none=>none
  | _=>none
 | _=>none
theorem aX.map{w:World}{m:jd}{ρ:Operand→PV}{ev:Operand→Value}:∀ {xs:List Operand},(∀x∈xs,cu w m (ρ x) (ev x))→aX w m (xs.map ρ) (xs.map ev)
 | [],_=>aX.nil
 | x::xs,h=>aX.cons (h x (by simp)) (aX.map fun y hy=>h y (by simp[hy]))
theorem Yc{w:World}{m:jd}{P:Program}{op:BinOp}{t:TypeId}{p q r:PV}{x y:Operand}{u v:Value}(h:afy op p q=some r)(hu:cu w m p u)(hv:cu w m q v):
  ∃z,((do eqGuard op t x y u v;binOp op t u v):Sem Value).run P w=.ok z w∧cu w m r z:=by
 cases p<;>cases q<;>simp only[afy,reduceCtorEq]at h
 ·rename_i k a k' b;simp only[cu]at hu hv;subst hu hv;cases e:kEq k k' with
  | false=>simp[e]at h
  | true=>
   cases aj6 e;simp only[e,ajC]at h;cases op<;>simp only[reduceCtorEq,jW]at h<;>subst h<;>simp[eqGuard,binOp,Op.intArith,Op.intBits,Op.intCmp,cu]
 ·rename_i a b;simp only[cu]at hu hv;subst hu hv;cases op<;>simp only[reduceCtorEq,jW]at h<;>subst h<;>simp[eqGuard,binOp,Op.stringOp,cu,ByteArray.toList_mk]
theorem YO{w:World}{m:jd}{P:Program}{op:UnOp}{p r:PV}{u:Value}(h:ajv op p=some r)(hu:cu w m p u):
  ∃z,(Op.unary op u).run P w=.ok z w∧cu w m r z:=by
 cases p<;>simp only[ajv,reduceCtorEq]at h<;>simp only[cu]at hu<;>subst hu<;>cases op<;>simp only[reduceCtorEq,jW]at h<;>subst h <;>
  simp[Op.unary,Op.intArith,Op.intBits,cu]
theorem U5{w:World}{m:jd}{g:Bool}{p q r:PV}{u v:Value}(h:Y6 g p q=some r)(hu:cu w m p u)(hv:cu w m q v):cu w m r (bif g then u else v):=by
 unfold Y6 at h;split at h
 ·simp only[jW]at h;subst h;simp only[cu]at hu hv⊢;subst hu hv;cases g<;>rfl
 ·have:=PV.force_eq h;subst this;cases g
  ·exact hv
  ·exact hu
theorem abY{w:World}{m:jd}{P:Program}{o:Oper}{ρ:Operand→PV}{ev:Operand→Value}{p:PV}(h:Xc ρ o.op=some p)(hr:∀x∈o.op.operands,cu w m (ρ x) (ev x)):
  ∃v,(execOp ev o).run P w=.ok (.value v) w∧cu w m p v:=by
 obtain⟨dst,op,ty,pos,after,guard⟩:=o;simp only at h hr;unfold execOp;cases op<;>simp only[Xc,reduceCtorEq]at h
 case move x=>have h:=PV.force_eq h;subst h;exact⟨ev x,by simp,hr x (by simp[Op.operands])⟩
 case assign x=>have h:=PV.force_eq h;subst h;exact⟨ev x,by simp,hr x (by simp[Op.operands])⟩
 case pick c a b=>
  have hc:=hr c (by simp[Op.operands]);have hA:=hr a (by simp[Op.operands]);have hB:=hr b (by simp[Op.operands]);split at h
  ·rename_i g e;rw[e]at hc;simp only[cu]at hc;refine⟨_,?_,U5 h hA hB⟩;cases g<;>simp[hc,asBool]
  ·cases h
 case binOp op t x y yt=>
  obtain⟨z,h1,h2⟩:=Yc (P:=P) (t:=t) (x:=x) (y:=y) h (hr x (by simp[Op.operands])) (hr y (by simp[Op.operands]));exact⟨z,by simp only[Sem.run_bind]at h1⊢;rw[h1];simp,h2⟩
 case unOp op t x=>
  obtain⟨z,h1,h2⟩:=YO (P:=P) h (hr x (by simp[Op.operands]));exact⟨z,by simp only[Sem.run_bind];rw[h1];simp,h2⟩
 case makeFunc fn first captured=>
  cases fn<;>simp only[reduceCtorEq]at h;rename_i fid;cases e:first.isEmpty with
  | false=>simp[e]at h
  | true=>
   simp only[e,ajC,jW]at h;subst h;have e':first=#[]:=by simpa using e
   subst e';refine⟨.func (.func fid) #[] (captured.map ev),by simp[Instr.makeFunc],?_⟩;simp only[cu];exact⟨captured.toList.map ev,by rw[←Array.toList_map],aX.map fun x hx=>hr x (by simp[Op.operands];simpa using hx)⟩
 case extract x i=>
  have hx:=hr x (by simp[Op.operands]);split at h
  ·rename_i vs e;split at h
   ·rename_i q hq;have h:=PV.force_eq h;subst h;rw[e]at hx;simp only[cu]at hx;obtain⟨us,h1,h2⟩:=hx;obtain⟨v,h3,h4⟩:=h2.get? i hq;exact⟨v,by simp[Instr.extract,h1,h3],h4⟩
   ·cases h
  ·cases h
theorem AO.of_run{P:Program}{o:Oper}{ρ:Operand→PV}{σ:List aS}{R S:PV→List aS→Prop}{p:PV}{σ':List aS}(hR:R p σ')
  (h:∀w m ev,(∀x∈o.op.operands,cu w m (ρ x) (ev x))→Conc w m σ→∃v w' m',(execOp ev o).run P w=.ok (.value v) w'∧cu w' m' p v∧Conc w' m' σ'∧Trans w m σ w' m' σ'):
  AO P o ρ σ R S:=by
 intro w m a K QC hr hc hK _;obtain⟨v,w',m',h1,h2,h3,h4⟩:=h w m a.eval hr hc;unfold Oper.wp;rw[h1];exact hK p σ' v w' m' hR h2 h3 h4
theorem AO.of_same{P:Program}{o:Oper}{ρ:Operand→PV}{σ:List aS}{R S:PV→List aS→Prop}{p:PV}(hR:R p σ)
  (h:∀w m ev,(∀x∈o.op.operands,cu w m (ρ x) (ev x))→Conc w m σ→∃v,(execOp ev o).run P w=.ok (.value v) w∧cu w m p v):
  AO P o ρ σ R S:=
 AO.of_run hR fun w m ev hr hc=>let⟨v,h1,h2⟩:=h w m ev hr hc;⟨v,w,m,h1,h2,hc,Trans.refl ..⟩
theorem AO.calc'{P:Program}{o:Oper}{ρ:Operand→PV}{σ:List aS}{R S:PV→List aS→Prop}{p:PV}(h:Xc ρ o.op=some p)(hR:R p σ):AO P o ρ σ R S:=
 AO.of_same hR fun _ _ _ hr _=>abY h hr
end Go.Abs
namespace Go.Abs
variable [gD]
open Go
theorem wG(σ τ:List aS):j_ (σ++τ)=j_ σ++j_ τ:=by simp[j_]
theorem Conc.left{w:World}{m:jd}{σ τ:List aS}(h:Conc w m (σ++τ)):Conc w m σ:=h.sub (List.sublist_append_left _ _)
theorem Conc.right{w:World}{m:jd}{σ τ:List aS}(h:Conc w m (σ++τ)):Conc w m τ:=h.sub (List.sublist_append_right _ _)
theorem Conc.frame{w w':World}{m m':jd}{σ σ' τ:List aS}(h:Conc w m (σ++τ))(hc:Conc w' m' σ')(ht:Trans w m σ w' m' σ'):Conc w' m' (σ'++τ)∧Trans w m (σ++τ) w' m' (σ'++τ):=by
 have hap:=h.apart;rw[wG,akI]at hap;have hτ:∀b∈j_ τ,b∉j_ σ:=fun b hb hs=>hap.2.2 b hs b hb rfl;have hlt:=h.right.G6;refine⟨⟨?_,?_,hc.wf,hc.qY⟩,⟨ht.os,ht.tape,ht.output,ht.size,ht.le,?_,?_,ht.drawn⟩⟩
 ·intro r hr;rcases agK.1 hr with hr|hr
  ·exact hc.each r hr
  ·refine aS.nX (h.each r (by simp[hr])) ht.le fun b hb=>?_;have hb':b∈j_ τ:=by simp only[j_,agI];exact⟨r,hr,hb⟩
   exact ht.keep b (hlt b hb') (hτ b hb')
 ·rw[wG,akI];refine⟨hc.apart,hap.2.1,?_⟩;intro a ha b hb e;subst e;rcases ht.fresh a ha with h'|h'
  ·exact hτ a hb h'
  ·have:=hlt a hb;omega
 ·intro b hb hn;rw[wG,agK]at hn;exact ht.keep b hb fun hf=>hn (.inl hf)
 ·intro b hb;rw[wG,agK]at hb⊢;rcases hb with hb|hb
  ·rcases ht.fresh b hb with h'|h'
   ·exact .inl (.inl h')
   ·exact .inr h'
  ·exact .inl (.inr hb)
theorem Lg{σ τ:List aS}(h:σ.Perm τ):(j_ σ).Perm (j_ τ):=List.Perm.flatMap_right _ h
theorem Conc.perm{w:World}{m:jd}{σ τ:List aS}(hp:σ.Perm τ)(h:Conc w m σ):Conc w m τ:=
 ⟨fun r hr=>h.each r (hp.mem_iff.2 hr),(Lg hp).nodup_iff.1 h.apart,h.wf,h.qY⟩
theorem Trans.perm{w w':World}{m m':jd}{σ τ σ' τ':List aS}(hp:σ.Perm τ)(hq:σ'.Perm τ')(h:Trans w m σ w' m' σ'):Trans w m τ w' m' τ':=
 ⟨h.os,h.tape,h.output,h.size,h.le,fun b hb hn=>h.keep b hb fun hf=>hn ((Lg hp).mem_iff.1 hf),fun b hb=>by
  rcases h.fresh b ((Lg hq).mem_iff.2 hb)with h'|h'
  ·exact .inl ((Lg hp).mem_iff.1 h')
  ·exact .inr h',h.drawn⟩
theorem AC.frame{P:Program}{f:FuncId}{args:List PV}{σ τ:List aS}{R:dO→List aS→Prop}(h:AC P f args σ fun out σ'=>R out (σ'++τ)):AC P f args (σ++τ) R:=by
 intro w m vs hc hv;refine(h w m vs hc.left hv).mono ?_;rintro e w' ⟨out,σ',m',h1,h2,h3,h4⟩;obtain⟨k1,k2⟩:=Conc.frame hc h3 h4;exact⟨out,σ'++τ,m',h1,h2,k1,k2⟩
theorem AC.perm{P:Program}{f:FuncId}{args:List PV}{σ τ:List aS}{R:dO→List aS→Prop}(hp:τ.Perm σ)(h:AC P f args σ R):AC P f args τ R:=by
 intro w m vs hc hv;refine(h w m vs (hc.perm hp) hv).mono ?_;rintro e w' ⟨out,σ',m',h1,h2,h3,h4⟩;exact⟨out,σ',m',h1,h2,h3,h4.perm hp.symm (List.Perm.refl _)⟩
theorem AC.none{P:Program}{f:FuncId}{args:List PV}{τ:List aS}{R:dO→List aS→Prop}(h:AC P f args [] fun out σ'=>R out (σ'++τ)):AC P f args τ R:=
 AC.frame (σ:=[]) h
theorem run_typeInfo{P:Program}{t:TypeId}{i:TypeInfo}(h:P.info? t=some i)(w:World):(typeInfo t).run P w=.ok i w:=by
 simp[typeInfo,h]
def PV.wN:PV→PV
 | .own _ l=>.list l
 | .undef=>.undef
 | .int k n=>.int k n
 | .bool b=>.bool b
 | .str s=>.str s
 | .list l=>.list l
 | .agg cs=>.agg cs
 | .tuple vs=>.tuple vs
 | .val v=>.val v
 | .iface t p=>.iface t p
 | .fn f caps=>.fn f caps
 | .ref cs=>.ref cs
 | .err e=>.err e
def PV.weak:PV→PV
 | .own _ l=>.list l
 | .agg cs=>.agg (cs.map PV.wN)
 | .undef=>.undef
 | .int k n=>.int k n
 | .bool b=>.bool b
 | .str s=>.str s
 | .list l=>.list l
 | .tuple vs=>.tuple vs
 | .val v=>.val v
 | .iface t p=>.iface t p
 | .fn f caps=>.fn f caps
 | .ref cs=>.ref cs
 | .err e=>.err e
theorem cu.wN{w:World}{m:jd}{p:PV}{v:Value}(h:cu w m p v):cu w m p.wN v:=by
 cases p<;>first
  | exact h
  | (simp only[cu,PV.wN]at h⊢;exact h.2)
theorem aX.wN{w:World}{m:jd}:∀ {ps:List PV} {vs:List Value},aX w m ps vs→aX w m (ps.map PV.wN) vs
 | [],_,h=>h
 | p::ps,_,h=>by
  simp only[aX]at h;obtain⟨v,vs',rfl,h1,h2⟩:=h;exact aX.cons h1.wN (aX.wN h2)
theorem cu.weak{w:World}{m:jd}{p:PV}{v:Value}(h:cu w m p v):cu w m p.weak v:=by
 cases p<;>first
  | exact h
  | (simp only[cu,PV.weak]at h⊢;exact h.2)
  | skip
 case agg cs=>
  simp only[cu,PV.weak]at h⊢;obtain⟨vs,h1,h2⟩:=h;exact⟨vs,h1,h2.wN⟩
theorem aX.weak{w:World}{m:jd}:∀ {ps:List PV} {vs:List Value},aX w m ps vs→aX w m (ps.map PV.weak) vs
 | [],_,h=>h
 | p::ps,_,h=>by
  simp only[aX]at h;obtain⟨v,vs',rfl,h1,h2⟩:=h;exact aX.cons h1.weak (aX.weak h2)
def dA(P:Program)(f:FuncId):Bool:=
 match P.funcs[f]? with
 | some fn=>fn.name != "runtime.NumGoroutine"&&fn.body.isSome
 | none=>false
theorem uH{P:Program}{f:FuncId}(h:dA P f=true)(args:Array Value)(w:World):(callFunc f args).run P w=.ok (.enter f args) w:=by
 unfold dA at h;split at h
 ·rename_i fn hf;simp only[ahK,bne_iff_ne,ne_eq]at h
  have hb:fn.body≠none:=by
   cases e:fn.body<;>simp_all
  simp[callFunc,hf,h.1,hb]
 ·cases h
theorem AO.call{P:Program}{o:Oper}{ρ:Operand→PV}{σ:List aS}{R S:PV→List aS→Prop}{c:Call}{f:FuncId}{caps:List PV}
  (ho:o.op=.call c) (FT:Operand) (iB:c.callee=.value FT) (hf:ρ FT=.fn f caps) (hp:dA P f=true)
  (h:AC P f ((c.args.toList.map ρ).map PV.weak++caps) σ fun out σ'=>match out with|.ret p=>R p σ'|.panic p=>S p σ'):AO P o ρ σ R S:=by
 intro w m a K QC hr hc hK hS;have hcr:=hr FT (by simp[ho,Op.operands,Call.operands,iB]);rw[hf]at hcr;simp only[cu]at hcr;obtain⟨cs,hcv,hcs⟩:=hcr;have hargs:aX w m (c.args.toList.map ρ) (c.args.toList.map a.eval):=aX.map fun x hx=>hr x (by simp[ho,Op.operands,Call.operands,iB];exact .inr (by simpa using hx))
 have hrun:(execOp a.eval o).run P w=.ok (.enter f (c.args.toList.map a.eval++cs).toArray) w:=by
  unfold execOp;simp only[ho,resolve,iB,hcv,Deferred.ofValue,invoke,Sem.run_bind,zf,jQ];rw[uH hp];congr 2;apply Array.ext';simp
 unfold Oper.wp;rw[hrun,Oper.upon_enter];refine(h w m _ hc (hargs.weak.append hcs)).mono ?_;rintro e w' ⟨out,σ',m',h1,h2,h3,h4⟩;cases out with
 | ret p=>
  obtain⟨v,rfl,hv⟩:=h2;exact hK p σ' v w' m' h1 hv h3 h4
 | panic p=>
  obtain⟨v,rfl,hv⟩:=h2;exact hS p σ' v w' m' h1 hv h3 h4
def fZ(P:Program)(t:TypeId):Option (Bool × Nat):=
 match P.underlying t,P.info? t with
 | some (.struct _),some i|some (.array _ _),some i=>some (true,i.size)
 | some _,some i=>some (false,i.size)
 | _,_=>none
def I_:Nat→List PV→Option (List PV)
 | 0,_=>some []
 | k+1,[]=>none
 | k+1,c::cs=>match c.force with
  | some c'=>match I_ k cs with
   | some r=>some (c'::r)
   | none=>none
  | none=>none
theorem Ga:∀ {k:Nat} {cs r:List PV},I_ k cs=some r→r=cs.take k∧k≤cs.length
 | 0,cs,r,h=>by simp only[I_,jW]at h;subst h;simp
 | k+1,[],r,h=>by simp[I_]at h
 | k+1,c::cs,r,h=>by
  simp only[I_]at h;split at h
  ·rename_i c' hc;have hc:=PV.force_eq hc;subst hc;split at h
   ·rename_i t ht;simp only[jW]at h;subst h;have:=Ga ht;simp[this.1];exact this.2
   ·cases h
  ·cases h
def Ay:Nat→List PV→Option (List PV)
 | 0,[]=>some []
 | 0,c::cs=>some (c::cs)
 | _+1,[]=>none
 | k+1,_::cs=>Ay k cs
theorem Cz:∀ {k:Nat} {cs r:List PV},Ay k cs=some r→r=cs.drop k∧k≤cs.length
 | 0,[],r,h=>by simp only[Ay,jW]at h;subst h;simp
 | 0,c::cs,r,h=>by simp only[Ay,jW]at h;subst h;simp
 | k+1,[],r,h=>by simp[Ay]at h
 | k+1,c::cs,r,h=>by
  have:=Cz (k:=k) (cs:=cs) (r:=r) (by simpa[Ay]using h);simp[this.1];exact this.2
def wE(ag:Bool)(k:Nat)(cs:List PV):Option PV:=
 bif ag then (match I_ k cs with|some r=>some (.agg r)|none=>none)else (match cs with|c::_=>c.force|[]=>none)
theorem wQ{P:Program}{t:TypeId}{ag:Bool}{k:Nat}(h:fZ P t=some (ag,k))(w:World):(isAgg t).run P w=.ok ag w∧(sizeOf t).run P w=.ok k w:=by
 unfold fZ at h;split at h
 ·rename_i fs i e1 e2;simp at h;simp[isAgg,vE e1,sizeOf,run_typeInfo e2,h]
 ·rename_i fs n i e1 e2;simp at h;simp[isAgg,vE e1,sizeOf,run_typeInfo e2,h]
 ·rename_i d i h1 h2 e1 e2;simp at h;constructor
  ·simp only[isAgg,Sem.run_bind,vE e1,jQ];cases d<;>simp_all
  ·simp[sizeOf,run_typeInfo e2,h]
 ·cases h
theorem AP{P:Program}{t:TypeId}{ag:Bool}{k:Nat}(h:fZ P t=some (ag,k)){w:World}{m:jd}{b off:Nat}{cs:List PV}{p:PV}(hp:wE ag k cs=some p)
  {vs:List Value} (hv:aX w m cs vs) (hcell:∀i v,vs[i]?=some v→w.cell? ⟨b,off+i,none⟩=some v):
  ∃v,(loadVar t ⟨b,off,none⟩).run P w=.ok v w∧cu w m p v:=by
 obtain⟨h1,h2⟩:=wQ h w;unfold wE at hp;cases ag with
 | true=>
  simp only[ajC]at hp;split at hp
  ·rename_i r hr;simp only[jW]at hp;subst hp;obtain⟨rfl,hk⟩:=Ga hr;have hl:=hv.length_eq
   have hc:=run_loadCells_list (P:=P) w ⟨b,off,none⟩ (vs.take k) (by
    intro j v hj;rw[akF]at hj;split at hj
    ·have:=hcell j v hj;simpa[afW]using this
    ·cases hj)
   rw[akK,akO (by omega)]at hc;refine⟨.agg (vs.take k).toArray,?_,?_⟩
   ·simp only[loadVar,Sem.run_bind,h1,jQ,if_true,h2,hc,zf]
   ·simp only[cu];refine⟨vs.take k,rfl,?_⟩;clear hc hcell hl h1 h2 h hr
    induction k generalizing cs vs with
    | zero=>simpa using aX.nil
    | succ k ih=>
     cases cs with
     | nil=>simp at hk
     | cons c cs=>
      simp only[aX]at hv;obtain⟨v,vs',rfl,h3,h4⟩:=hv;exact aX.cons h3 (ih h4 (by simpa using hk))
  ·cases hp
 | false=>
  simp only[akP]at hp;split at hp
  ·rename_i c cs';have hp:=PV.force_eq hp;subst hp;simp only[aX]at hv;obtain⟨v,vs',rfl,h3,h4⟩:=hv;refine⟨v,?_,h3⟩;have:=hcell 0 v (by simp);simp only[akM]at this;simp[loadVar,Sem.run_bind,h1,load,Sem.run,this]
  ·cases hp
def ZY(P:Program)(env:Env)(σ:List aS):ResultVar→PV→Prop
 | .tmp t,p=>(env.get t).force=some p
 | .cell a t,p=>∃(b:Nat) (cs:List PV) (i:Nat) (ag:Bool) (k:Nat),env.get a=.val (.pointer (some ⟨b,0,none⟩))∧σ[i]?=some (aS.box b cs)∧fZ P t=some (ag,k)∧wE ag k cs=some p
def BI(P:Program)(env:Env)(σ:List aS):List ResultVar→List PV→Prop
 | [],ps=>ps=[]
 | r::rs,ps=>∃p ps',ps=p::ps'∧ZY P env σ r p∧BI P env σ rs ps'
def ji:List PV→PV
 | [p]=>p
 | ps=>.tuple ps
theorem Conc.box{w:World}{m:jd}{σ:List aS}(h:Conc w m σ){i b:Nat}{cs:List PV}(hi:σ[i]?=some (aS.box b cs)):
  ∃vs:List Value,∃ty,w.heap[b]?=some (.cells vs.toArray ty (0,0))∧aX w m cs vs∧∀off,¬m b off:=
 h.each _ (acj hi)
theorem CZ{P:Program}{env:Env}{σ:List aS}{w:World}{m:jd}{tmps:Array Value}(he:CP w m env tmps)(hc:Conc w m σ):∀ {rs:List ResultVar} {ps:List PV},BI P env σ rs ps→
  ∃vs:List Value,(rs.mapM fun(r:ResultVar)=>(match r with|.tmp t=>pure (tmps.getD t Go.undef)|.cell a t=>do loadVar t (←asAddr (tmps.getD a Go.undef)):Sem Value)).run P w=.ok vs w∧aX w m ps vs
 | [],ps,h=>by
  simp only[BI]at h;subst h;exact⟨[],by simp,aX.nil⟩
 | r::rs,ps,h=>by
  simp only[BI]at h;obtain⟨p,ps',rfl,h1,h2⟩:=h;obtain⟨vs,k1,k2⟩:=CZ he hc h2;cases r with
  | tmp t=>
   simp only[ZY]at h1;have h1:=PV.force_eq h1;subst h1;refine⟨tmps.getD t Go.undef::vs,?_,aX.cons (he t) k2⟩;rw[akQ];simp only[Sem.run_bind,zf,jQ,k1]
  | cell a t=>
   simp only[ZY]at h1;obtain⟨b,cs,i,ag,k,e1,e2,e3,e4⟩:=h1;have ha:=he a;rw[e1]at ha;simp only[cu]at ha;obtain⟨us,ty,g1,g2,_⟩:=hc.box e2
   obtain⟨v,f1,f2⟩:=AP e3 (b:=b) (off:=0) e4 g2 (by
    intro j u hj;rw[akJ w b (0+j) us.toArray ty (0,0) g1]
    simpa using hj)
   refine⟨v::vs,?_,aX.cons f2 k2⟩;rw[akQ];have ha':(asAddr (tmps.getD a Go.undef)).run P w=.ok ⟨b,0,none⟩ w:=by rw[ha];rfl
   simp only[Sem.run_bind,zf,jQ,ha',f1,k1]
def Ob(P:Program)(rs:List ResultVar)(R:dO→List aS→Prop):Post
 | .normal,e,s,d|.ret,e,s,d=>d=[]∧∃ps,BI P e s rs ps∧∃s',s'.Sublist s∧R (.ret (ji (ps.map PV.weak))) s'
 | .panic p,_,s,d=>d=[]∧∃s',s'.Sublist s∧R (.panic p) s'
 | _,_,_,_=>False
def um:Nat→List PV→Env
 | _,[]=>[]
 | i,p::ps=>(i,p)::um (i+1) ps
theorem yO{w:World}{m:jd}(extra:List Value):∀ {ps:List PV} {vs:List Value} (pre:List Value),aX w m ps vs→CP w m (um pre.length ps) (pre++vs++extra).toArray
 | [],_,pre,h=>by intro t;simp[um,Env.get,cu]
 | p::ps,_,pre,h=>by
  simp only[aX]at h;obtain⟨v,vs',rfl,h1,h2⟩:=h;intro t;simp only[um,Env.get];by_cases e:pre.length=t
  ·subst e;simp[h1]
  ·rw[vD e];have:=yO extra (pre++[v]) h2 t;simpa using this
theorem AC.kE{P:Program}{f:FuncId}{fn:Func}{c:Code}{args:List PV}{σ:List aS}{R:dO→List aS→Prop}(n:Nat)(rs:List ResultVar)(ts:List Nat){env:Env}
  (hf:P.funcs[f]?=some fn) (hb:fn.body=some c) (hn:fn.ntmps=n) (hl:Nat.ble args.length n=true) (hrs:fn.results.toList=rs) (Co:settle ts (um 0 args)=some env)
  (h:AW P n c env σ [] (Ob P rs R)):AC P f args σ R:=by
 intro w m vs hc hv;have hl:args.length≤n:=abq hl;have hvl:=hv.length_eq;refine calls_of_wp hf hb ?_;refine h w m _ _ ⟨?_,rfl,?_,hc⟩ ?_
 ·simp[hvl,hn];omega
 ·have:=yO (List.replicate (fn.ntmps-vs.toArray.size) Go.undef) [] hv;rw[show vs.toArray++Array.replicate (fn.ntmps-vs.toArray.size) Go.undef=([]++vs++List.replicate (fn.ntmps-vs.toArray.size) Go.undef).toArray from by simp];exact CP.settle Co this
 ·intro x ex env' σ' ds' a' w' m' hq hx hs ht
  have hend:∀ps s',ds'=[]→BI P env' σ' rs ps→s'.Sublist σ'→R (.ret (ji (ps.map PV.weak))) s'→a'.defers=[]∧∃v,(results fn a'.tmps).run P w'=.ok v w'∧∃out σ' m',R out σ'∧Ar w' m' out (.returned v)∧Conc w' m' σ'∧Trans w m σ w' m' σ':=by
   intro ps s' hd h1 hsub h2;obtain⟨us,k1,k2⟩:=CZ hs.env hs.gY h1;have hl2:=k2.length_eq;refine⟨by rw[hs.ds,hd],?_⟩
   have hrun:(results fn a'.tmps).run P w'=.ok (if h:us.toArray.size=1 then us.toArray[0]else .tuple us.toArray) w':=by
    unfold results;rw[Array.mapM_eq_mapM_toList,hrs];have k1':=k1;simp only[Sem.run_bind,Sem.run_map]
    erw [k1']
    rfl
   have k2:=k2.weak;have hl2:us.length=(ps.map PV.weak).length:=by simpa using hl2
   refine⟨_,hrun,.ret (ji (ps.map PV.weak)),s',m',h2,⟨_,rfl,?_⟩,hs.gY.sub hsub,ht.sub hsub⟩;clear h1 h2;generalize ps.map PV.weak=ps at k2 hl2⊢
   match ps,us,k2,hl2 with
   | [],us,k2,hl2=>
    simp only[aX]at k2;subst k2;simp only[ji,cu];exact⟨[],by simp,aX.nil⟩
   | [p],us,k2,hl2=>
    simp only[aX]at k2;obtain⟨v,vs',rfl,h3,rfl⟩:=k2;simpa[ji]using h3
   | p::q::ps,us,k2,hl2=>
    rw[dif_neg (by simp[hl2])];simp only[ji,cu];exact⟨us,rfl,k2⟩
  cases x with
  | normal=>cases hx;obtain⟨hd,ps,h1,s',hsub,h2⟩:=hq;exact hend ps s' hd h1 hsub h2
  | ret=>cases hx;obtain⟨hd,ps,h1,s',hsub,h2⟩:=hq;exact hend ps s' hd h1 hsub h2
  | exit id=>exact hq.elim
  | panic p=>
   obtain⟨v,rfl,hv'⟩:=hx;obtain⟨hd,s',hsub,h2⟩:=hq;exact⟨by rw[hs.ds,hd],.panic p,s',m',h2,⟨v,rfl,hv'⟩,hs.gY.sub hsub,ht.sub hsub⟩
end Go.Abs
namespace Go.Abs
variable [gD]
open Go
def PV.one:PV→Bool
 | .undef|.agg _|.tuple _=>false
 | .val v=>v.oneCell'
 | _=>true
def PV.cells:PV→List PV
 | .agg cs=>cs
 | p=>[p]
def PV.yC:PV→Option (List PV)
 | .agg cs=>some cs
 | .int k n=>some [.int k n]
 | .bool b=>some [.bool b]
 | .str s=>some [.str s]
 | .list l=>some [.list l]
 | .own v l=>some [.own v l]
 | .iface t p=>some [.iface t p]
 | .fn f cs=>some [.fn f cs]
 | .ref cs=>some [.ref cs]
 | .val v=>bif v.oneCell' then some [.val v]else none
 | _=>none
def FY:List PV→Option (List PV)
 | []=>some []
 | c::cs=>match c.wN.force with
  | some c'=>match FY cs with
   | some r=>some (c'::r)
   | none=>none
  | none=>none
theorem Ko:∀ {cs r:List PV},FY cs=some r→r=cs.map PV.wN
 | [],r,h=>by simp only[FY,jW]at h;subst h;rfl
 | c::cs,r,h=>by
  simp only[FY]at h;split at h
  ·rename_i c' hc;split at h
   ·rename_i t ht;simp only[jW]at h;subst h;simp[Ko ht,PV.force_eq hc]
   ·cases h
  ·cases h
def PV.abd:PV→Bool
 | .agg _=>true
 | p=>p.one
theorem cu.oneCell{w:World}{m:jd}{p:PV}{v:Value}(h:cu w m p v)(ho:p.one=true):v.oneCell'=true:=by
 cases p<;>simp only[PV.one,reduceCtorEq]at ho<;>simp only[cu]at h
 case int=>subst h;rfl
 case bool=>subst h;rfl
 case str=>subst h;rfl
 case list=>obtain⟨a,cap,rfl,_⟩:=h;rfl
 case val=>subst h;exact ho
 case iface=>obtain⟨x,rfl,_⟩:=h;rfl
 case fn=>obtain⟨x,rfl,_⟩:=h;rfl
 case ref=>obtain⟨x,y,rfl,_⟩:=h;rfl
 case own=>obtain⟨_,a,cap,rfl,_⟩:=h;rfl
 case err e=>
  cases e with
  | none=>subst h;rfl
  | some t=>obtain⟨x,rfl⟩:=h;rfl
theorem Fe{v:Value}(h:v.oneCell'=true):v.cells=#[v]:=by
 cases v<;>first|rfl|simp[Value.oneCell']at h
theorem cu.cells{w:World}{m:jd}{p:PV}{v:Value}(h:cu w m p v)(ho:p.abd=true):aX w m p.cells v.cells.toList:=by
 by_cases e:∃cs,p=.agg cs
 ·obtain⟨cs,rfl⟩:=e;simp only[cu]at h;obtain⟨vs,rfl,h2⟩:=h;simpa[PV.cells,Value.cells]using h2
 ·have h1:p.one=true:=by
   cases p<;>first|exact ho|(exfalso;exact e ⟨_,rfl⟩)
  have h2:p.cells=[p]:=by
   cases p<;>first|rfl|(exfalso;exact e ⟨_,rfl⟩)
  rw[h2,Fe (h.oneCell h1)];exact aX.cons h aX.nil
theorem Ep{p:PV}{cs:List PV}(h:p.yC=some cs):cs=p.cells∧p.abd=true:=by
 cases p<;>simp only[PV.yC,reduceCtorEq,jW]at h
 case val v=>
  cases e:v.oneCell' with
  | false=>rw[e]at h;cases h
  | true=>rw[e]at h;simp only[ajC,jW]at h;exact⟨h.symm,e⟩
 all_goals exact⟨h.symm,rfl⟩
theorem aX.oneCell{w:World}{m:jd}:∀ {cs:List PV} {vs:List Value},aX w m cs vs→cs.all PV.one=true→∀v∈vs,v.oneCell'=true
 | [],_,h,_=>by simp only[aX]at h;subst h;intro v hv;cases hv
 | c::cs,_,h,ho=>by
  simp only[aX]at h;obtain⟨v,vs',rfl,h2,h3⟩:=h;simp only[List.all_cons,ahK]at ho;intro u hu;rcases agh.1 hu with rfl|hu
  ·exact h2.oneCell ho.1
  ·exact aX.oneCell h3 ho.2 u hu
theorem QY(v:Value):(xO v).cells=[xO v]:=by
 unfold xO;split<;>rfl
theorem UU{w:World}{m:jd}(z:Value)(h:(match z with|.tuple _=>false|_=>true)=true):aX w m (ofConst z).cells z.cells.toList:=by
 by_cases e:∃cs,z=.agg cs
 ·obtain⟨cs,rfl⟩:=e;exact zA w m _
 ·have h1:ofConst z=xO z:=by
   unfold ofConst;split
   ·rename_i cs;exact absurd ⟨cs,rfl⟩ e
   ·rfl
  have h2:z.cells=#[z]:=by
   cases z<;>first|rfl|(exfalso;exact e ⟨_,rfl⟩)|(simp at h;done)
  rw[h1,QY,h2];exact zA w m [z]
theorem Et(w:World)(m:jd)(o:Obj)(hwf:∀b off,m b off→b<w.heap.size)(N:Nat→Prop):
  Le w m (w.alloc o) (fun b off=>m b off∨(b=w.heap.size∧N off)):=by
 intro b off hm;exact⟨.inl hm,World.cell?_alloc_lt w o ⟨b,off,none⟩ (hwf b off hm)⟩
theorem iF{w:World}{m:jd}{σ σ':List aS}(hc:Conc w m σ)(o:Obj)(N:Nat→Prop)(hf:∀b∈j_ σ',b∈j_ σ∨b=w.heap.size):
  Trans w m σ (w.alloc o) (fun b off=>m b off∨(b=w.heap.size∧N off)) σ':=by
 refine⟨rfl,rfl,rfl,by simp,Et w m o hc.wf N,fun b hb _=>⟨heap_alloc_old w o b hb,fun off h=>?_⟩,fun b hb=>?_,fun _=>abr _⟩
 ·rcases h with h|⟨h,_⟩
  ·exact h
  ·omega
 ·rcases hf b hb with h|h
  ·exact .inl h
  ·exact .inr (by omega)
theorem pU{w:World}{m:jd}{σ:List aS}(hc:Conc w m σ)(o:Obj)(N:Nat→Prop):Conc (w.alloc o) (fun b off=>m b off∨(b=w.heap.size∧N off)) σ:=by
 refine⟨fun r hr=>?_,hc.apart,?_,gD.mono (Et w m o hc.wf N) hc.qY⟩
 ·have hlt:=aS.ae5 (hc.each r hr);refine aS.nX (hc.each r hr) (Et w m o hc.wf N) fun b hb=>⟨heap_alloc_old w o b (hlt b hb),fun off h=>?_⟩;rcases h with h|⟨h,_⟩
  ·exact h
  ·have:=hlt b hb;omega
 ·intro b off h;rcases h with h|⟨h,_⟩
  ·have:=hc.wf b off h;simp;omega
  ·simp;omega
theorem Es{w:World}{m:jd}{σ:List aS}(hc:Conc w m σ)(vs:List Value)(cs:List PV)(h:aX w m cs vs)(t:TypeId):
  ou (w.alloc (.cells vs.toArray t)) (fun b off=>m b off∨(b=w.heap.size∧True)) w.heap.size 0 cs:=by
 refine mF.2 ⟨vs,aX.mono (Et w m _ hc.wf _) cs vs h,fun i v hv=>⟨.inr ⟨rfl,trivial⟩,?_⟩⟩;rw[ahw,World.cell?_alloc_new];simpa using hv
theorem Ur{w:World}{m:jd}{σ:List aS}(hc:Conc w m σ)(vs:List Value)(cs:List PV)(h:aX w m cs vs)(t:TypeId):
  Conc (w.alloc (.cells vs.toArray t)) (fun b off=>m b off∨(b=w.heap.size∧False)) (.box w.heap.size cs::σ):=by
 have hc':=pU hc (.cells vs.toArray t) (fun _=>False);refine⟨fun r hr=>?_,?_,hc'.wf,hc'.qY⟩
 ·rcases agh.1 hr with rfl|hr
  ·refine⟨vs,t,heap_alloc_new w _,aX.mono (Et w m _ hc.wf _) cs vs h,fun off ho=>?_⟩;rcases ho with ho|⟨_,ho⟩
   ·have:=hc.wf _ off ho;omega
   ·exact ho
  ·exact hc'.each r hr
 ·simp only[j_,ac3,aS.fp,agJ,List.nodup_cons];refine⟨fun hm=>?_,hc.apart⟩;have:=hc.G6 _ hm;omega
theorem AO.of_run'{P:Program}{o:Oper}{ρ:Operand→PV}{σ:List aS}{R S:PV→List aS→Prop}
  (h:∀w m ev,(∀x∈o.op.operands,cu w m (ρ x) (ev x))→Conc w m σ→∃p σ' v w' m',R p σ'∧(execOp ev o).run P w=.ok (.value v) w'∧cu w' m' p v∧Conc w' m' σ'∧Trans w m σ w' m' σ'):
  AO P o ρ σ R S:=by
 intro w m a K QC hr hc hK _;obtain⟨p,σ',v,w',m',hR,h1,h2,h3,h4⟩:=h w m a.eval hr hc;unfold Oper.wp;rw[h1];exact hK p σ' v w' m' hR h2 h3 h4
section
variable {P : Program} {o : Oper} {ρ : Operand → PV} {σ : List aS} {R S : PV → List aS → Prop}
theorem AO.IL{e:TypeId}{x:Operand}{cs cs':List PV}(ho:o.op=.box e x)(hcs:(ρ x).yC=some cs)(hwk:FY cs=some cs')(hR:R (.ref cs') σ):AO P o ρ σ R S:=by
 obtain⟨rfl,hok⟩:=Ep hcs;have hwk:=Ko hwk;subst hwk;refine AO.of_run hR fun w m ev hr hc=>?_;have hx:=hr x (by simp[ho,Op.operands]);refine⟨.pointer (some ⟨w.heap.size,0,none⟩),_,_,?_,?_,pU hc (.cells (ev x).cells e) (fun _=>True),iF hc _ _ fun b hb=>.inl hb⟩
 ·simp[execOp,ho,Instr.box,newVar,newRow,go_sem]
 ·simp only[cu];refine⟨_,_,rfl,?_⟩;have:=Es hc (ev x).cells.toList _ (hx.cells hok).wN e;simpa using this
theorem AO.ahZ{e:TypeId}{x:Operand}{cs:List PV}(ho:o.op=.box e x)(hcs:(ρ x).yC=some cs)(hR:∀b,R (.val (.pointer (some ⟨b,0,none⟩))) (.box b cs::σ)):AO P o ρ σ R S:=by
 obtain⟨rfl,hok⟩:=Ep hcs;refine AO.of_run' fun w m ev hr hc=>?_;have hx:=hr x (by simp[ho,Op.operands]);have:=Ur hc (ev x).cells.toList _ (hx.cells hok) e;refine⟨_,_,.pointer (some ⟨w.heap.size,0,none⟩),_,_,hR w.heap.size,?_,by simp[cu],this,iF hc _ _ fun b hb=>?_⟩
 ·simp[execOp,ho,Instr.box,newVar,newRow,go_sem]
 ·simp[j_,aS.fp]at hb⊢;rcases hb with hb|hb
  ·exact .inr hb
  ·exact .inl hb
def j6(P:Program)(t:TypeId):Option (List PV):=
 match P.info? t with
 | some i=>match i.zero with
  | some z=>bif (match z with|.tuple _=>false|_=>true)then some (ofConst z).cells else none
  | none=>none
 | none=>none
theorem DX{t:TypeId}{cs:List PV}(h:j6 P t=some cs)(w:World):∃z:Value,(zeroValue t).run P w=.ok z w∧∀m,aX w m cs z.cells.toList:=by
 unfold j6 at h;split at h
 ·rename_i i hi;split at h
  ·rename_i z hz;cases e:(match z with|.tuple _=>false|_=>true)with
   | false=>rw[e]at h;cases h
   | true=>
    rw[e]at h;simp only[ajC,jW]at h;subst h;exact⟨z,by simp[zeroValue,run_typeInfo hi,hz],fun m=>UU z e⟩
  ·cases h
 ·cases h
theorem AO.bQ{e:TypeId}{cs:List PV}(ho:o.op=.alloc e)(hz:j6 P e=some cs)(hR:∀b,R (.val (.pointer (some ⟨b,0,none⟩))) (.box b cs::σ)):AO P o ρ σ R S:=by
 refine AO.of_run' fun w m ev hr hc=>?_;obtain⟨z,h1,h2⟩:=DX hz w;have:=Ur hc z.cells.toList _ (h2 m) e;refine⟨_,_,.pointer (some ⟨w.heap.size,0,none⟩),_,_,hR w.heap.size,?_,by simp[cu],this,iF hc _ _ fun b hb=>?_⟩
 ·simp[execOp,ho,Instr.alloc,newVar,newRow,h1,go_sem]
 ·simp[j_,aS.fp]at hb⊢;rcases hb with hb|hb
  ·exact .inr hb
  ·exact .inl hb
theorem AO.Es{e:TypeId}{cs cs':List PV}(ho:o.op=.alloc e)(hz:j6 P e=some cs)(hwk:FY cs=some cs')(hR:R (.ref cs') σ):AO P o ρ σ R S:=by
 have hwk:=Ko hwk;subst hwk;refine AO.of_run hR fun w m ev hr hc=>?_;obtain⟨z,h1,h2⟩:=DX hz w;refine⟨.pointer (some ⟨w.heap.size,0,none⟩),_,_,?_,?_,pU hc (.cells z.cells e) (fun _=>True),iF hc _ _ fun b hb=>.inl hb⟩
 ·simp[execOp,ho,Instr.alloc,newVar,newRow,h1,go_sem]
 ·simp only[cu];refine⟨_,_,rfl,?_⟩;have:=Abs.Es hc z.cells.toList _ (h2 m).wN e;simpa using this
theorem AO.GQ{t:TypeId}{x:Operand}{cs:List PV}{ag:Bool}{k:Nat}{p:PV}(ho:o.op=.load t x)(hx:ρ x=.ref cs)(ht:fZ P t=some (ag,k))(hp:wE ag k cs=some p)(hR:R p σ):AO P o ρ σ R S:=by
 refine AO.of_same hR fun w m ev hr hc=>?_;have h:=hr x (by simp[ho,Op.operands]);rw[hx]at h;simp only[cu]at h;obtain⟨b,off,h1,h2⟩:=h;obtain⟨vs,h3,h4⟩:=mF.1 h2;obtain⟨v,h5,h6⟩:=AP ht hp h3 (b:=b) (off:=off) fun i v hv=>(h4 i v hv).2;exact⟨v,by simp[execOp,ho,Instr.loadAt,h1,Instr.sureAddr,h5],h6⟩
theorem aX.drop{w:World}{m:jd}:∀ {cs:List PV} {vs:List Value} (_:aX w m cs vs) (k:Nat),aX w m (cs.drop k) (vs.drop k)
 | [],_,h,k=>by simp only[aX]at h;subst h;simpa using aX.nil
 | c::cs,_,h,0=>by simpa using h
 | c::cs,_,h,k+1=>by
  simp only[aX]at h;obtain⟨v,vs',rfl,_,h3⟩:=h;simpa using aX.drop h3 k
theorem aX.take{w:World}{m:jd}:∀ {cs:List PV} {vs:List Value} (_:aX w m cs vs) (k:Nat),aX w m (cs.take k) (vs.take k)
 | [],_,h,k=>by simp only[aX]at h;subst h;simpa using aX.nil
 | c::cs,_,h,0=>by simpa using aX.nil
 | c::cs,_,h,k+1=>by
  simp only[aX]at h;obtain⟨v,vs',rfl,h2,h3⟩:=h;simpa using aX.cons h2 (aX.take h3 k)
theorem AO.dP{t:TypeId}{x:Operand}{cs:List PV}{b off i:Nat}{ag:Bool}{k:Nat}{p:PV}(ho:o.op=.load t x)(hx:ρ x=.val (.pointer (some ⟨b,off,none⟩)))(hi:σ[i]?=some (aS.box b cs))
  (ht:fZ P t=some (ag,k)) {cs':List PV} (hd:Ay off cs=some cs') (hp:wE ag k cs'=some p) (hR:R p σ):AO P o ρ σ R S:=by
 obtain⟨rfl,_⟩:=Cz hd;refine AO.of_same hR fun w m ev hr hc=>?_;have h:=hr x (by simp[ho,Op.operands]);rw[hx]at h;simp only[cu]at h;obtain⟨vs,ty,g1,g2,_⟩:=hc.box hi
 obtain⟨v,h5,h6⟩:=AP ht hp (g2.drop off) (b:=b) (off:=off) fun i v hv=>by
  rw[akJ w b (off+i) vs.toArray ty (0,0) g1];simpa[ala]using hv
 exact⟨v,by simp[execOp,ho,Instr.loadAt,h,Instr.sureAddr,h5],h6⟩
def putCells(cs:List PV)(off:Nat)(new:List PV):List PV:=cs.take off++(new++cs.drop (off+new.length))
def P7:List PV→List PV→Option (List PV)
 | cs,[]=>some cs
 | [],_::_=>none
 | _::cs,n::ns=>match P7 cs ns with
  | some r=>some (n::r)
  | none=>none
def R5:List PV→Nat→List PV→Option (List PV)
 | cs,0,new=>P7 cs new
 | [],_+1,_=>none
 | c::cs,k+1,new=>match R5 cs k new with
  | some r=>some (c::r)
  | none=>none
theorem Xd:∀ {cs new r:List PV},P7 cs new=some r→r=new++cs.drop new.length∧new.length≤cs.length
 | cs,[],r,h=>by
  have:cs=r:=by cases cs<;>simpa[P7]using h
  simp[this]
 | [],_::_,r,h=>by simp[P7]at h
 | c::cs,n::ns,r,h=>by
  simp only[P7]at h;split at h
  ·rename_i t ht;simp only[jW]at h;subst h;have:=Xd ht;simp[this.1];exact this.2
  ·cases h
theorem KS:∀ {cs:List PV} {off:Nat} {new r:List PV},R5 cs off new=some r→r=putCells cs off new∧off+new.length≤cs.length
 | cs,0,new,r,h=>by
  have h':P7 cs new=some r:=by cases cs<;>simpa[R5]using h
  have:=Xd h';simp[putCells,this.1];exact this.2
 | [],_+1,_,r,h=>by simp[R5]at h
 | c::cs,k+1,new,r,h=>by
  simp only[R5]at h;split at h
  ·rename_i t ht;simp only[jW]at h;subst h;have:=KS ht;simp only[putCells]at this;simp[putCells,this.1,Nat.add_right_comm];omega
  ·cases h
def DW:List aS→Nat→aS→Option (List aS)
 | [],_,_=>none
 | _::rs,0,x=>some (x::rs)
 | r::rs,i+1,x=>match DW rs i x with
  | some t=>some (r::t)
  | none=>none
theorem Oz:∀ {σ:List aS} {i:Nat} {x:aS} {σ':List aS},DW σ i x=some σ'→σ'=σ.set i x
 | [],_,_,_,h=>by simp[DW]at h
 | _::rs,0,x,_,h=>by simp only[DW,jW]at h;simp[←h]
 | r::rs,i+1,x,_,h=>by
  simp only[DW]at h;split at h
  ·rename_i t ht;simp only[jW]at h;simp[←h,Oz ht]
  ·cases h
theorem Ul{w:World}{m:jd}{σ:List aS}{i b:Nat}{cs cs':List PV}(hc:Conc w m σ)(hi:σ[i]?=some (aS.box b cs)){vs:List Value}{ty:TypeId}
  (_hg:w.heap[b]?=some (.cells vs.toArray ty (0,0))) {vs':List Value} (hg':(w.setRow b vs'.toArray).heap[b]?=some (.cells vs'.toArray ty (0,0))) (hl:aX w m cs' vs'):
  Conc (w.setRow b vs'.toArray) m (σ.set i (.box b cs'))∧Trans w m σ (w.setRow b vs'.toArray) m (σ.set i (.box b cs')):=by
 have hm:∀off,¬m b off:=(hc.box hi).choose_spec.choose_spec.2.2;have hother:∀k,k≠b→(w.setRow b vs'.toArray).heap[k]?=w.heap[k]?:=fun k hk=>setRow_other w b k _ hk;have hsz:(w.setRow b vs'.toArray).heap.size=w.heap.size:=by simp[World.setRow]
 have hle:Le w m (w.setRow b vs'.toArray) m:=by
  intro c off hco;refine⟨hco,agj (w:=w) (hother c ?_)⟩;intro e;subst e;exact hm off hco
 have hilt:i<σ.length:=by
  rcases zJ i σ.length with h|h
  ·exact h
  ·simp[CF h]at hi
 have hfp:j_ (σ.set i (.box b cs'))=j_ σ:=by
  rw[FQ,ahH hilt]
  conv=>rhs;rw[←ae0 i σ]
  rw[aiH hilt];have:σ[i]=aS.box b cs:=by rw[aaS hilt]at hi;simpa using hi
  rw[this];simp[j_,aS.fp]
 have hb:b∈j_ σ:=by
  simp only[j_,agI];exact⟨_,acj hi,by simp[aS.fp]⟩
 refine⟨⟨fun r hr=>?_,by rw[hfp];exact hc.apart,fun c off hco=>by rw[hsz];exact hc.wf c off hco,gD.mono hle hc.qY⟩,⟨rfl,rfl,rfl,by omega,hle,fun c hcl hn=>⟨hother c fun e=>hn (e ▸ hb),fun _ h=>h⟩,fun c hcf=>.inl (by rw[hfp]at hcf;exact hcf),fun _=>abr _⟩⟩;rcases List.mem_or_eq_of_mem_set hr with hr'|rfl
 ·
  by_cases hbr:b∈r.fp
  ·
   obtain⟨j,hj,hjr⟩:=List.mem_iff_getElem.1 hr;rw[List.length_set]at hj;by_cases hij:i=j
   ·subst hij;have:r=aS.box b cs':=by rw[←hjr];simp
    subst this;exact⟨vs',ty,hg',aX.mono hle cs' vs' hl,hm⟩
   ·exfalso;rw[List.getElem_set_ne hij]at hjr;have hap:=hc.apart;have h1:σ[i]=aS.box b cs:=by rw[aaS hilt]at hi;simpa using hi
    rcases zJ i j with hlt|hge
    ·rw[←ae0 j σ,wG,akI]at hap;refine hap.2.2 b ?_ b ?_ rfl
     ·simp only[j_,agI];exact⟨aS.box b cs,by rw[←h1];exact List.mem_take_iff_getElem.2 ⟨i,by omega,rfl⟩,by simp[aS.fp]⟩
     ·simp only[j_,agI];exact⟨r,by rw[←hjr];exact List.mem_drop_iff_getElem.2 ⟨0,by omega,by simp⟩,hbr⟩
    ·rw[←ae0 i σ,wG,akI]at hap;refine hap.2.2 b ?_ b ?_ rfl
     ·simp only[j_,agI];exact⟨r,by rw[←hjr];exact List.mem_take_iff_getElem.2 ⟨j,by omega,rfl⟩,hbr⟩
     ·simp only[j_,agI];exact⟨aS.box b cs,by rw[←h1];exact List.mem_drop_iff_getElem.2 ⟨0,by omega,by simp⟩,by simp[aS.fp]⟩
  ·refine aS.nX (hc.each r hr') hle fun c hcf=>⟨hother c fun e=>hbr (e ▸ hcf),fun _ h=>h⟩
 ·exact⟨vs',ty,hg',aX.mono hle cs' vs' hl,hm⟩
theorem AO.eH{t:TypeId}{x y:Operand}{cs new cs':List PV}{b off i:Nat}{ag:Bool}{k:Nat}{σ':List aS}(ho:o.op=.store t x y)(hx:ρ x=.val (.pointer (some ⟨b,off,none⟩)))(hi:σ[i]?=some (aS.box b cs))
  (ht:fZ P t=some (ag,k)) (hnew:(ρ y).yC=some new) (hone:new.all PV.one=true) (hk:Nat.beq new.length k=true) (hput:R5 cs off new=some cs') (hset:DW σ i (.box b cs')=some σ') (hR:R .undef σ'):AO P o ρ σ R S:=by
 obtain⟨hnew,hok⟩:=Ep hnew;have hnew:=hnew.symm;have hk:=Aq hk;obtain⟨rfl,hfit⟩:=KS hput;have hset:=Oz hset;subst hset;intro w m a K QC hr hc hK _;have h:=hr x (by simp[ho,Op.operands]);have hy:=hr y (by simp[ho,Op.operands]);rw[hx]at h;simp only[cu]at h;obtain⟨vs,ty,g1,g2,g3⟩:=hc.box hi;have hyl:=hy.cells hok;rw[hnew]at hyl;have hl:=hyl.length_eq;have hl2:=g2.length_eq;have hst:=run_storeCells_at P b off ty (a.eval y).cells.toList 0 vs.toArray w g1 (by simp at hl⊢;omega) (hyl.oneCell hone);obtain⟨_,hsz⟩:=wQ ht w;have hsize:(a.eval y).cells.size=k:=by rw[←akh,hl,hk]
 have hrun:(execOp a.eval o).run P w=.ok .skip (w.setRow b (vs.take off++((a.eval y).cells.toList++vs.drop (off+(a.eval y).cells.toList.length))).toArray):=by
  simp only[execOp,ho,Instr.storeAt,h,Instr.sureAddr,storeVar,Sem.run_bind,zf,jQ,hsz,hsize,ne_eq,not_true_eq_false,ak1];rw[hst];simp
 have hl':aX w m (putCells cs off new) (vs.take off++((a.eval y).cells.toList++vs.drop (off+(a.eval y).cells.toList.length))):=by
  unfold putCells;refine(g2.take off).append (hyl.append ?_);rw[hl];exact g2.drop _
 obtain⟨k1,k2⟩:=Ul hc hi g1 (ak2 w b _ _ ty _ g1) hl';unfold Oper.wp;rw[hrun];exact hK .undef _ _ _ m hR trivial k1 k2
def tV(P:Program)(s:TypeId)(f:Nat):Option Nat:=
 match P.underlying s with
 | some (.struct fs)=>match fs[f]? with
  | some fl=>match P.info? fl.type with
   | some i=>bif Nat.beq i.size 0 then none else some fl.offset
   | none=>none
  | none=>none
 | _=>none
theorem Nu{s:TypeId}{f off:Nat}(h:tV P s f=some off)(w:World)(b k:Nat):
  (Instr.fieldAt s (.pointer (some ⟨b,k,none⟩)) f).run P w=.ok (.pointer (some ⟨b,k+off,none⟩)) w:=by
 unfold tV at h;split at h
 ·rename_i fs hu;split at h
  ·rename_i fl hf;split at h
   ·rename_i i hi;cases e:Nat.beq i.size 0 with
    | true=>simp[e]at h
    | false=>
     simp only[e,akP,jW]at h;subst h;have hne:¬i.size=0:=fun hz=>by rw[hz]at e;cases e
     simp[Instr.fieldAt,vE hu,hf,Instr.sureAddr,fieldPlace,sizeOf,run_typeInfo hi,hne,afW]
   ·cases h
  ·cases h
 ·cases h
theorem AO.Sk{s:TypeId}{x:Operand}{f off:Nat}{cs cs':List PV}(ho:o.op=.fieldAddr s x f)(hx:ρ x=.ref cs)(hf:tV P s f=some off)(hd:Ay off cs=some cs')(hR:R (.ref cs') σ):AO P o ρ σ R S:=by
 obtain⟨rfl,hle⟩:=Cz hd;refine AO.of_same hR fun w m ev hr hc=>?_;have h:=hr x (by simp[ho,Op.operands]);rw[hx]at h;simp only[cu]at h;obtain⟨b,k,h1,h2⟩:=h;refine⟨.pointer (some ⟨b,k+off,none⟩),by simp[execOp,ho,h1,Nu hf],?_⟩;simp only[cu];exact⟨b,k+off,rfl,Kh h2 off hle⟩
theorem AO.bP{s:TypeId}{x:Operand}{f off b k:Nat}(ho:o.op=.fieldAddr s x f)(hx:ρ x=.val (.pointer (some ⟨b,k,none⟩)))(hf:tV P s f=some off)(hR:R (.val (.pointer (some ⟨b,k+off,none⟩))) σ):AO P o ρ σ R S:=by
 refine AO.of_same hR fun w m ev hr hc=>?_;have h:=hr x (by simp[ho,Op.operands]);rw[hx]at h;simp only[cu]at h;exact⟨.pointer (some ⟨b,k+off,none⟩),by simp[execOp,ho,h,Nu hf],by simp[cu]⟩
def PV.els:PV→Option (List (List PV))
 | .list l=>some l
 | .own _ l=>some l
 | _=>none
theorem cu.els{w:World}{m:jd}{p:PV}{l:List (List PV)}{v:Value}(he:p.els=some l)(h:cu w m p v):
  ∃a cap,v=.slice a l.length cap∧l.length≤cap∧(l=[]∨∃b off sz,a=some ⟨b,off,none⟩∧iX w m b sz off l):=by
 cases p<;>simp only[PV.els,reduceCtorEq,jW]at he<;>subst he<;>simp only[cu]at h
 ·exact h
 ·exact h.2
def elemSize(P:Program)(t:TypeId):Option Nat:=
 match P.underlying t with
 | some (.slice e)=>(P.info? e).map (·.size)
 | _=>none
theorem uG{t:TypeId}{sz:Nat}(h:elemSize P t=some sz):∃e i,P.underlying t=some (.slice e)∧P.info? e=some i∧i.size=sz:=by
 unfold elemSize at h;split at h
 ·rename_i e hu;cases hi:P.info? e with
  | none=>simp[hi]at h
  | some i=>simp[hi]at h;exact⟨e,i,hu,hi,h⟩
 ·cases h
theorem AO.indexAddr{t:TypeId}{x i:Operand}{l:List (List PV)}{k:IntKind}{n:Int}{sz:Nat}{e:List PV}(ho:o.op=.indexAddr t x i)(hx:(ρ x).els=some l)(hi:ρ i=.int k n)(hs:elemSize P t=some sz)
  (h0:0≤n) (he:l[n.toNat]?=some e) (hl:e.length=sz) (hR:R (.ref e) σ):AO P o ρ σ R S:=by
 refine AO.of_same hR fun w m ev hr hc=>?_;have h1:=hr x (by simp[ho,Op.operands]);have h2:=hr i (by simp[ho,Op.operands]);rw[hi]at h2;simp only[cu]at h2;obtain⟨a,cap,e1,e2,e3⟩:=h1.els hx
 have hlt:n.toNat<l.length:=by
  rcases zJ n.toNat l.length with h|h
  ·exact h
  ·simp[CF h]at he
 rcases e3 with rfl|⟨b,off,sz',rfl,e4⟩
 ·simp at hlt
 obtain⟨e5,e6⟩:=Z0 e4 he;have hsz:sz'=sz:=by omega
 subst hsz;obtain⟨el,inf,g1,g2,g3⟩:=uG hs;have hlt':n<(l.length:Int):=by omega
 refine⟨.pointer (some ⟨b,off+n.toNat*sz',none⟩),?_,?_⟩
 ·simp[execOp,ho,Instr.indexAt,e1,h2,asIntOf,vE g1,h0,hlt',sizeOf,run_typeInfo g2,g3,afW]
 ·simp only[cu];exact⟨b,_,rfl,e6⟩
theorem AO.acf{x:Operand}{t:TypeId}{l:List (List PV)}{sz:Nat}{c:Call}(ho:o.op=.call c)(iB:c.callee=.builtin .len)(hargs:c.args=#[x])(hty:c.argTypes=#[t])(hs:elemSize P t=some sz)(hx:(ρ x).els=some l)
  (hR:R (.int .i64 l.length) σ):AO P o ρ σ R S:=by
 refine AO.of_same hR fun w m ev hr hc=>?_;have h1:=hr x (by simp[ho,Op.operands,Call.operands,iB,hargs]);obtain⟨a,cap,e1,e2,e3⟩:=h1.els hx;obtain⟨el,inf,g1,g2,g3⟩:=uG hs;refine⟨.int .i64 l.length,?_,by simp[cu]⟩;simp[execOp,ho,resolve,iB,hargs,hty,invoke,builtin,Builtin.len_,vE g1,e1,goInt]
theorem size_mk(s:List UInt8):(ByteArray.mk s.toArray).size=s.length:=by
 show s.toArray.size=_;simp
theorem AO.rZ{x:Operand}{t:TypeId}{s:List UInt8}{c:Call}(ho:o.op=.call c)(iB:c.callee=.builtin .len)(hargs:c.args=#[x])(hty:c.argTypes=#[t])(hs:P.underlying t=some .string)(hx:ρ x=.str s)
  (hR:R (.int .i64 s.length) σ):AO P o ρ σ R S:=by
 refine AO.of_same hR fun w m ev hr hc=>?_;have h1:=hr x (by simp[ho,Op.operands,Call.operands,iB,hargs]);rw[hx]at h1;simp only[cu]at h1;refine⟨.int .i64 s.length,?_,by simp[cu]⟩;simp[execOp,ho,resolve,iB,hargs,hty,invoke,builtin,Builtin.len_,vE hs,h1,goInt,size_mk]
theorem AO.acn{t:TypeId}{x i:Operand}{s:List UInt8}{k:IntKind}{n:Int}{c:UInt8}(ho:o.op=.index t x i)(hs:P.underlying t=some .string)(hx:ρ x=.str s)(hi:ρ i=.int k n)
  (h0:0≤n) (hc:s[n.toNat]?=some c) (hR:R (.int .u8 c.toNat) σ):AO P o ρ σ R S:=by
 refine AO.of_same hR fun w m ev hr _=>?_;have h1:=hr x (by simp[ho,Op.operands]);have h2:=hr i (by simp[ho,Op.operands]);rw[hx]at h1;rw[hi]at h2;simp only[cu]at h1 h2;refine⟨.int .u8 c.toNat,?_,by simp[cu]⟩
 have hg:(ByteArray.mk s.toArray)[n.toNat]?=some c:=by
  obtain⟨hlt,he⟩:=akr.1 hc;rw[getElem?_pos _ _ (by simpa[ByteArray.size]using hlt)];simp only[jW];exact he
 simp[execOp,ho,Instr.index,h1,h2,asIntOf,vE hs,h0,hg]
theorem AO.field{t:TypeId}{x:Operand}{f:Nat}{cs:List PV}{off k:Nat}{ag:Bool}{fl:Field}{fs:Array Field}{p:PV}(ho:o.op=.field t x f)(hu:P.underlying t=some (.struct fs))(hf:fs[f]?=some fl)(hoff:fl.offset=off)
  (ht:fZ P fl.type=some (ag,k)) (hx:ρ x=.agg cs) {cs':List PV} (hd:Ay off cs=some cs') (hp:wE ag k cs'=some p) (hR:R p σ):AO P o ρ σ R S:=by
 obtain⟨rfl,_⟩:=Cz hd;refine AO.of_same hR fun w m ev hr _=>?_;have h1:=hr x (by simp[ho,Op.operands]);rw[hx]at h1;simp only[cu]at h1;obtain⟨vs,e1,e2⟩:=h1;subst hoff;obtain⟨hA,hS⟩:=wQ ht w;have e3:=e2.drop fl.offset;unfold wE at hp;cases ag with
 | true=>
  simp only[ajC]at hp;split at hp
  ·rename_i r hr;simp only[jW]at hp;subst hp;obtain⟨rfl,hk⟩:=Ga hr;refine⟨.agg ((vs.drop fl.offset).take k).toArray,?_,by simp only[cu];exact⟨_,rfl,e3.take k⟩⟩;simp only[execOp,ho,Instr.field,Sem.run_bind,vE hu,jQ,hf,e1,asAgg,zf,part,hA,if_true,hS];congr 3;apply Array.ext';simp
  ·cases hp
 | false=>
  simp only[akP]at hp;split at hp
  ·rename_i c cs' hd';have hp:=PV.force_eq hp;subst hp;rw[hd']at e3;simp only[aX]at e3;obtain⟨v,vs',e4,e5,e6⟩:=e3;refine⟨v,?_,e5⟩
   have:vs[fl.offset]?=some v:=by
    have:=aj0 (·[0]?) e4;simpa[ala]using this
   simp[execOp,ho,Instr.field,vE hu,hf,e1,asAgg,part,hA,this]
  ·cases hp
end
end Go.Abs
namespace Go.Abs
variable [gD]
open Go
section
variable {P : Program} {o : Oper} {ρ : Operand → PV} {σ : List aS} {R S : PV → List aS → Prop}
theorem AO.shl{t u:TypeId}{x y:Operand}{k yk:IntKind}{a b:Int}(ho:o.op=.binOp .shl t x y u)(hx:ρ x=.int k a)(hy:ρ y=.int yk b)(h0:0≤b)
  (hR:R (.int k (k.wrap (a*2 ^ (min b.toNat k.bits)))) σ):AO P o ρ σ R S:=by
 refine AO.of_same hR fun w m ev hr _=>?_;have h1:=hr x (by simp[ho,Op.operands]);have h2:=hr y (by simp[ho,Op.operands]);rw[hx]at h1;rw[hy]at h2;simp only[cu]at h1 h2;have:¬b<0:=by omega
 exact⟨_,by simp only[execOp,ho,h1,h2];simp[eqGuard,binOp,Op.shift,this];rfl,by simp only[cu]⟩
theorem AO.shr{t u:TypeId}{x y:Operand}{k yk:IntKind}{a b:Int}(ho:o.op=.binOp .shr t x y u)(hx:ρ x=.int k a)(hy:ρ y=.int yk b)(h0:0≤b)
  (hR:R (.int k (a.fdiv (2 ^ (min b.toNat k.bits)))) σ):AO P o ρ σ R S:=by
 refine AO.of_same hR fun w m ev hr _=>?_;have h1:=hr x (by simp[ho,Op.operands]);have h2:=hr y (by simp[ho,Op.operands]);rw[hx]at h1;rw[hy]at h2;simp only[cu]at h1 h2;have:¬b<0:=by omega
 exact⟨_,by simp only[execOp,ho,h1,h2];simp[eqGuard,binOp,Op.shift,this];rfl,by simp only[cu]⟩
theorem AO.quo{t u:TypeId}{x y:Operand}{k:IntKind}{a b:Int}(ho:o.op=.binOp .quo t x y u)(hx:ρ x=.int k a)(hy:ρ y=.int k b)(h0:b≠0)
  (hR:R (.int k (k.wrap (a.tdiv b))) σ):AO P o ρ σ R S:=by
 refine AO.of_same hR fun w m ev hr _=>?_;have h1:=hr x (by simp[ho,Op.operands]);have h2:=hr y (by simp[ho,Op.operands]);rw[hx]at h1;rw[hy]at h2;simp only[cu]at h1 h2;exact⟨.int k (k.wrap (a.tdiv b)),by simp only[execOp,ho,h1,h2];simp[eqGuard,binOp,Op.intDiv,h0],by simp only[cu]⟩
theorem AO.rem{t u:TypeId}{x y:Operand}{k:IntKind}{a b:Int}(ho:o.op=.binOp .rem t x y u)(hx:ρ x=.int k a)(hy:ρ y=.int k b)(h0:b≠0)
  (hR:R (.int k (a.tmod b)) σ):AO P o ρ σ R S:=by
 refine AO.of_same hR fun w m ev hr _=>?_;have h1:=hr x (by simp[ho,Op.operands]);have h2:=hr y (by simp[ho,Op.operands]);rw[hx]at h1;rw[hy]at h2;simp only[cu]at h1 h2;exact⟨.int k (a.tmod b),by simp only[execOp,ho,h1,h2];simp[eqGuard,binOp,Op.intDiv,h0],by simp only[cu]⟩
theorem AO.concat{t u:TypeId}{x y:Operand}{a b:List UInt8}(ho:o.op=.binOp .add t x y u)(hx:ρ x=.str a)(hy:ρ y=.str b)(hl:a.length+b.length≤9223372036854775807)
  (hR:R (.str (a++b)) σ):AO P o ρ σ R S:=by
 refine AO.of_same hR fun w m ev hr _=>?_;have h1:=hr x (by simp[ho,Op.operands]);have h2:=hr y (by simp[ho,Op.operands]);rw[hx]at h1;rw[hy]at h2;simp only[cu]at h1 h2;refine⟨.string ⟨(a++b).toArray⟩,?_,by simp only[cu]⟩
 have hn:¬((((ByteArray.mk a.toArray).size+(ByteArray.mk b.toArray).size:Nat):Int)>IntKind.i64.max):=by
  rw[size_mk,size_mk];simp[IntKind.max,IntKind.signed,IntKind.bits];omega
 simp only[execOp,ho,h1,h2,eqGuard,binOp,Op.stringOp];rw[ahC hn];simp;apply ByteArray.ext;simp
theorem run_equal_bool{t:TypeId}(hu:P.underlying t=some .bool)(a b:Bool)(w:World):(Op.equal t (.bool a) (.bool b)).run P w=.ok (a==b) w:=by
 show (Op.equalIn (9999+1) t (.bool a) (.bool b)).run P w=_;generalize 9999=d;unfold Op.equalIn;simp only[Sem.run_bind,vE hu,jQ,zf]
theorem AO.X_{t u:TypeId}{x y:Operand}{a b:Bool}(ho:o.op=.binOp .eql t x y u)(hu:P.underlying t=some .bool)(hx:ρ x=.bool a)(hy:ρ y=.bool b)
  (hR:R (.bool (a==b)) σ):AO P o ρ σ R S:=by
 refine AO.of_same hR fun w m ev hr _=>?_;have h1:=hr x (by simp[ho,Op.operands]);have h2:=hr y (by simp[ho,Op.operands]);rw[hx]at h1;rw[hy]at h2;simp only[cu]at h1 h2;refine⟨.bool (a==b),?_,by simp only[cu]⟩;have e1:binOp .eql t (.bool a) (.bool b)=(do pure (.bool (←Op.equal t (.bool a) (.bool b)))):=rfl;simp only[execOp,ho,h1,h2,e1,Sem.run_bind,run_equal_bool hu,jQ,zf];simp[eqGuard]
theorem AO.X9{t u:TypeId}{x y:Operand}{a b:Bool}(ho:o.op=.binOp .neq t x y u)(hu:P.underlying t=some .bool)(hx:ρ x=.bool a)(hy:ρ y=.bool b)
  (hR:R (.bool (!(a==b))) σ):AO P o ρ σ R S:=by
 refine AO.of_same hR fun w m ev hr _=>?_;have h1:=hr x (by simp[ho,Op.operands]);have h2:=hr y (by simp[ho,Op.operands]);rw[hx]at h1;rw[hy]at h2;simp only[cu]at h1 h2;refine⟨.bool (!(a==b)),?_,by simp only[cu]⟩;have e1:binOp .neq t (.bool a) (.bool b)=(do pure (.bool (!(←Op.equal t (.bool a) (.bool b))))):=rfl;simp only[execOp,ho,h1,h2,e1,Sem.run_bind,run_equal_bool hu,jQ,zf];simp[eqGuard]
theorem AO.Ae{src dst:TypeId}{x:Operand}{d:TypeDesc}{k k':IntKind}{n:Int}(ho:o.op=.convert src dst x)(hs:P.underlying src=some d)(hd:P.underlying dst=some (.int k'))(hx:ρ x=.int k n)
  (hR:R (.int k' (k'.wrap n)) σ):AO P o ρ σ R S:=by
 refine AO.of_same hR fun w m ev hr _=>?_;have h1:=hr x (by simp[ho,Op.operands]);rw[hx]at h1;simp only[cu]at h1;exact⟨.int k' (k'.wrap n),by simp[execOp,ho,h1,convert,vE hs,vE hd,Conv.intToInt],by simp only[cu]⟩
def PV.notNil:PV→Bool
 | .ref _=>true
 | .fn _ _=>true
 | .val (.pointer (some _))=>true
 | _=>false
theorem AO.nilCheck{x:Operand}(ho:o.op=.nilCheck x)(hn:(ρ x).notNil=true)(hR:R (ρ x) σ):AO P o ρ σ R S:=by
 refine AO.of_same hR fun w m ev hr _=>?_;have h1:=hr x (by simp[ho,Op.operands]);refine⟨ev x,?_,h1⟩;revert hn h1;generalize ρ x=p;intro hn h1;cases p<;>simp only[PV.notNil,reduceCtorEq]at hn<;>simp only[cu]at h1
 case val v=>
  subst h1;split at hn
  ·rename_i e;cases e
  ·rename_i e;cases e
  ·rename_i a e;have e':ev x=.pointer (some a):=by injection e
   simp[execOp,ho,e']
  ·cases hn
 case fn f caps=>obtain⟨cs,h1,_⟩:=h1;simp[execOp,ho,h1]
 case ref cs=>obtain⟨b,off,h1,_⟩:=h1;simp[execOp,ho,h1]
def bound(ρ:Operand→PV)(o:Option Operand)(a d:Nat):Prop:=
 match o with
 | some y=>∃k,ρ y=.int k a
 | none=>a=d
theorem Tv{ρ:Operand→PV}{y:Option Operand}{a d e:Nat}{w:World}{m:jd}{ev:Operand→Value}{code:BoundsCode}(h:bound ρ y a d)(hr:∀x∈y.toArray,cu w m (ρ x) (ev x))(hle:a≤e):
  (match y.map ev with|some v=>Instr.sliceBound v e code|none=>(pure d:Sem Nat)).run P w=.ok a w:=by
 cases y with
 | none=>simp[bound]at h⊢;exact h.symm
 | some y=>
  obtain⟨k,hk⟩:=h;have:=hr y (by simp);rw[hk]at this;simp only[cu]at this;simp[this,Instr.sliceBound,asIntOf,hle]
theorem Fv{ρ:Operand→PV}{lo hi:Option Operand}{len cap a b:Nat}{isSlice:Bool}{w:World}{m:jd}{ev:Operand→Value}(hlo:bound ρ lo a 0)(hhi:bound ρ hi b len)(h1:a≤b)(h2:b≤len)(h3:len≤cap)
  (hr1:∀x∈lo.toArray,cu w m (ρ x) (ev x)) (hr2:∀x∈hi.toArray,cu w m (ρ x) (ev x)):
  (Instr.sliceBounds isSlice len cap (lo.map ev) (hi.map ev) none).run P w=.ok (a,b,cap) w:=by
 have e1:=Tv (P:=P) (code:=if isSlice then .sliceAcap else .sliceAlen) hhi hr2 (e:=cap) (by omega);have e2:=Tv (P:=P) (code:=.sliceB) hlo hr1 h1
 have:Instr.sliceBounds isSlice len cap (lo.map ev) (hi.map ev) none=(do
   let h ←(match hi.map ev with|some v=>Instr.sliceBound v cap (if isSlice then .sliceAcap else .sliceAlen)|none=>pure len)
   let l ←(match lo.map ev with|some v=>Instr.sliceBound v h .sliceB|none=>pure 0)
   pure (l,h,cap)):=by
  cases lo<;>cases hi<;>simp[Instr.sliceBounds]
 rw[this];simp only[Sem.run_bind,e1,jQ,e2,zf]
theorem AO.abL{t:TypeId}{x:Operand}{lo hi:Option Operand}{s:List UInt8}{a b:Nat}(ho:o.op=.slice t x lo hi none)(hu:P.underlying t=some .string)(hx:ρ x=.str s)
  (hlo:bound ρ lo a 0) (hhi:bound ρ hi b s.length) (h1:a≤b) (h2:b≤s.length)
  (hR:R (.str ((s.take b).drop a)) σ):AO P o ρ σ R S:=by
 refine AO.of_same hR fun w m ev hr _=>?_;have hs:=hr x (by simp[ho,Op.operands]);rw[hx]at hs;simp only[cu]at hs;refine⟨.string ⟨((s.take b).drop a).toArray⟩,?_,by simp only[cu]⟩;have hb:=Fv (P:=P) (isSlice:=false) hlo hhi h1 h2 (abr _) (w:=w) (m:=m) (ev:=ev) (fun y hy=>hr y (by simp[ho,Op.operands]at hy⊢;simp_all)) (fun y hy=>hr y (by simp[ho,Op.operands]at hy⊢;simp_all));simp only[execOp,ho,Instr.sliceAt,Sem.run_bind,vE hu,jQ,Instr.slice,hs,size_mk,hb,zf,Option.map_none,Option.isSome_none,Bool.false_eq_true,ak1];congr 3;apply ByteArray.ext;apply Array.ext';simp[List.drop_take]
theorem AO.YZ{t:TypeId}{x:Operand}{lo hi:Option Operand}{l:List (List PV)}{sz a b:Nat}(ho:o.op=.slice t x lo hi none)(hs:elemSize P t=some sz)(hx:(ρ x).els=some l)(hsz:∀e∈l,e.length=sz)
  (hlo:bound ρ lo a 0) (hhi:bound ρ hi b l.length) (h1:a≤b) (h2:b≤l.length)
  (hR:R (.list ((l.take b).drop a)) σ):AO P o ρ σ R S:=by
 refine AO.of_same hR fun w m ev hr _=>?_;have hv:=hr x (by simp[ho,Op.operands]);obtain⟨ad,cap,e1,e2,e3⟩:=hv.els hx;obtain⟨el,inf,g1,g2,g3⟩:=uG hs;have hb:=Fv (P:=P) (isSlice:=true) hlo hhi h1 h2 e2 (w:=w) (m:=m) (ev:=ev) (fun y hy=>hr y (by simp[ho,Op.operands]at hy⊢;simp_all)) (fun y hy=>hr y (by simp[ho,Op.operands]at hy⊢;simp_all));refine⟨.slice (if cap=a then ad else ad.map (·.add (a*sz))) (b-a) (cap-a),?_,?_⟩
 ·simp only[execOp,ho,Instr.sliceAt,Sem.run_bind,vE g1,jQ,Instr.slice,e1,hb,zf,Option.map_none,sizeOf,run_typeInfo g2,g3]
 ·simp only[cu];have hlen:((l.take b).drop a).length=b-a:=by simp[akO h2]
  refine⟨_,cap-a,by rw[hlen],by omega,?_⟩;by_cases hab:a=b
  ·left;apply abv;omega
  ·right;rcases e3 with rfl|⟨bk,off,sz',rfl,e4⟩
   ·simp at h2;omega
   ·have hne:¬cap=a:=by omega
    have hsz':sz'=sz:=by
     cases l with
     | nil=>simp at h2;omega
     | cons e es=>
      simp only[iX]at e4;rw[←e4.1.1];exact hsz e (by simp)
    subst hsz';refine⟨bk,off+a*sz',sz',by simp[hne,afW],?_⟩;exact Ic (Oa e4 b) a
end
end Go.Abs
namespace Go.Abs
variable [gD]
open Go
def AF(P:Program)(o:Oper)(ρ:Operand→PV)(σ:List aS)(p:PV):Prop:=AO P o ρ σ (fun p' σ'=>p'=p∧σ'=σ) (fun _ _=>False)
def sJ(P:Program)(all:Array Oper)(env:Env)(σ:List aS)(o:Oper)(p:PV):Prop:=
 (o.guard=none∧AF P o env.ev σ p)∨
 (∃(j:Nat) (want:Bool) (oj:Oper) (u:Nat),o.guard=some (j,want)∧all[j]?=some oj∧oj.dst=some u∧
  ((env.get u=.bool want∧AF P {o with guard:=none} env.ev σ p)∨((env.get u=.bool (!want)∨env.get u=.val Go.undef)∧p=.val Go.undef)))
def Ev(P:Program)(n:Nat)(all:Array Oper)(σ:List aS):Env→List Oper→(Env→Prop)→Prop
 | env,[],K=>K env
 | env,o::rest,K=>∃t p,o.dst=some t∧Nat.blt t n=true∧sJ P all env σ o p∧Ev P n all σ ((t,p)::env) rest K
section
variable {P : Program} {n : Nat} {all : Array Oper} {env : Env} {σ : List aS} {o : Oper} {rest : List Oper} {K : Env → Prop}
theorem Ev.nil(h:K env):Ev P n all σ env [] K:=h
theorem Ev.cons{t:Nat}{p:PV}(hg:o.guard=none)(hd:o.dst=some t)(ht:Nat.blt t n=true)(h:AO P o env.ev σ (fun p' σ'=>p'=p∧σ'=σ) (fun _ _=>False))(hk:Ev P n all σ ((t,p)::env) rest K):
  Ev P n all σ env (o::rest) K:=⟨t,p,hd,ht,.inl ⟨hg,h⟩,hk⟩
theorem Ev.run{t u j:Nat}{want b:Bool}{oj:Oper}{p:PV}(hg:o.guard=some (j,want))(hj:all[j]?=some oj)(hu:oj.dst=some u)(hb:env.get u=.bool b)(hd:o.dst=some t)(ht:Nat.blt t n=true)
  (hw:b=want) (h:AO P {o with guard:=none} env.ev σ (fun p' σ'=>p'=p∧σ'=σ) (fun _ _=>False)) (hk:Ev P n all σ ((t,p)::env) rest K):Ev P n all σ env (o::rest) K:=
 ⟨t,p,hd,ht,.inr ⟨j,want,oj,u,hg,hj,hu,.inl ⟨hw ▸ hb,h⟩⟩,hk⟩
theorem Ev.skip{t u j:Nat}{want b:Bool}{oj:Oper}(hg:o.guard=some (j,want))(hj:all[j]?=some oj)(hu:oj.dst=some u)(hb:env.get u=.bool b)(hd:o.dst=some t)(ht:Nat.blt t n=true)
  (hw:b=!want) (hk:Ev P n all σ ((t,.val Go.undef)::env) rest K):Ev P n all σ env (o::rest) K:=
 ⟨t,.val Go.undef,hd,ht,.inr ⟨j,want,oj,u,hg,hj,hu,.inr ⟨.inl (hw ▸ hb),rfl⟩⟩,hk⟩
theorem Ev.Tn{t u j:Nat}{want:Bool}{oj:Oper}(hg:o.guard=some (j,want))(hj:all[j]?=some oj)(hu:oj.dst=some u)(hb:env.get u=.val Go.undef)(hd:o.dst=some t)(ht:Nat.blt t n=true)
  (hk:Ev P n all σ ((t,.val Go.undef)::env) rest K):Ev P n all σ env (o::rest) K:=
 ⟨t,.val Go.undef,hd,ht,.inr ⟨j,want,oj,u,hg,hj,hu,.inr ⟨.inr hb,rfl⟩⟩,hk⟩
end
def ET(ops:List Oper)(o:Oper):List Nat:=
 (match o.dst with|some t=>[t]|none=>[])++(o.op.operands.toList.filterMap fun|.tmp t=>some t|_=>none) ++
 (match o.guard with
  | some (g,_)=>(match ops[g]? with|some og=>(match og.dst with|some t=>[t]|none=>[])|none=>[])
  | none=>[])
def fI(o:Oper):List Nat:=(o.after.toList.filter (Region.binds .any)).map (·.on)
def XV(ops:List Oper):Nat→List Nat→List Nat
 | 0,S=>S
 | x+1,S=>XV ops x (if S.any fun y=>Nat.beq y x then (match ops[x]? with|some o=>fI o|none=>[])++S else S)
def Iq(ops:List Oper)(k:Nat):Bool:=
 (List.range ops.length).all fun i=>match ops[i]? with
  | none=>true
  | some o=>((fI o).all fun x=>Nat.blt x i) &&
   if Nat.blt i k then
    (List.range k).all fun j=>Nat.beq i j||(match ops[j]? with
     | none=>true
     | some oj=>match oj.dst with
      | none=>true
      | some t=>!((ET ops o).any fun x=>Nat.beq x t)||(if Nat.blt j i then (fI o).any fun x=>Nat.beq x j else (fI oj).any fun x=>Nat.beq x i))
   else if Nat.beq i k then (List.range k).all fun j=>(XV ops k (fI o)).any fun x=>Nat.beq x j
   else (fI o).any fun x=>Nat.beq (x+1) i
section
variable {P : Program} {n : Nat} {σ : List aS} {ds : List Deferred} {ops : List Oper} {k : Nat}
theorem AO.congr{o:Oper}{ρ ρ':Operand→PV}{R S:PV→List aS→Prop}(h:AO P o ρ σ R S)(he:∀x∈o.op.operands,ρ' x=ρ x):AO P o ρ' σ R S:=
 fun w m a K QC hr hc=>h w m a K QC (fun x hx=>he x hx ▸ hr x hx) hc
theorem Hg{env env':Env}{x:Operand}(h:∀t,x=.tmp t→env'.get t=env.get t):env'.ev x=env.ev x:=by
 cases x with
 | tmp t=>exact h t rfl
 | _=>rfl
def kZ(S:Nat→Bool)(d:Nat→Nat)(p:Nat→PV)(QK:Env):Nat→Env
 | 0=>QK
 | j+1=>if S j then (d j,p j)::kZ S d p QK j else kZ S d p QK j
theorem fO{S:Nat→Bool}{d:Nat→Nat}{p:Nat→PV}{QK:Env}{t:Nat}:∀ {k i:Nat},i≤k→(∀j,i≤j→j<k→S j=true→d j≠t)→(kZ S d p QK k).get t=(kZ S d p QK i).get t
 | 0,i,h,_=>by
  have:i=0:=by omega
  subst this;rfl
 | k+1,i,h,hd=>by
  by_cases e:i=k+1
  ·subst e;rfl
  ·have h':i≤k:=by omega
   simp only[kZ];split
   ·rename_i hs;simp only[Env.get];rw[vD (hd k h' (by omega) hs)];exact fO h' fun j h1 h2=>hd j h1 (by omega)
   ·exact fO h' fun j h1 h2=>hd j h1 (by omega)
theorem xZ{S T:Nat→Bool}{d:Nat→Nat}{p:Nat→PV}{QK:Env}{t:Nat}:∀ {k:Nat},(∀j,j<k→d j=t→S j=T j)→(kZ S d p QK k).get t=(kZ T d p QK k).get t
 | 0,_=>rfl
 | k+1,h=>by
  have ih:=xZ (k:=k) (S:=S) (T:=T) (d:=d) (p:=p) (QK:=QK) (t:=t) fun j hj=>h j (by omega);simp only[kZ];by_cases e:d k=t
  ·have:=h k (by omega) e;rw[this];split
   ·simp[Env.get,e]
   ·exact ih
  ·cases hs:S k<;>cases ht:T k<;>simp[Env.get,vD e]<;>exact ih
theorem Ev.facts{all:Array Oper}:∀ {pre:List Oper} {env:Env} {K:Env→Prop},Ev P n all σ env pre K→
  ∃(d:Nat→Nat) (p:Nat→PV),(∀i o,pre[i]?=some o→o.dst=some (d i)∧d i<n∧sJ P all (kZ (fun _=>true) d p env i) σ o (p i))∧K (kZ (fun _=>true) d p env pre.length)
 | [],env,K,h=>⟨fun _=>0,fun _=>.undef,fun i o h'=>by simp at h',h⟩
 | o::rest,env,K,h=>by
  obtain⟨t,p0,h1,h2,h3,h4⟩:=h;obtain⟨d,p,h5,h6⟩:=Ev.facts h4
  have shift:∀i,kZ (fun _=>true) (fun i=>if i=0 then t else d (i-1)) (fun i=>if i=0 then p0 else p (i-1)) env (i+1)=kZ (fun _=>true) d p ((t,p0)::env) i:=by
   intro i
   induction i with
   | zero=>simp[kZ]
   | succ i ih=>
    rw[kZ,ih];simp[kZ]
  refine⟨fun i=>if i=0 then t else d (i-1),fun i=>if i=0 then p0 else p (i-1),fun i o' ho'=>?_,?_⟩
  ·cases i with
   | zero=>
    simp at ho';subst ho';refine⟨by simpa using h1,(by have:=abq h2;simp;omega),by simpa[kZ]using h3⟩
   | succ i=>
    have:=h5 i o' (by simpa using ho');refine⟨by simpa using this.1,by simpa using this.2.1,?_⟩;rw[shift];simpa using this.2.2
  ·rw[aiM,shift];exact h6
theorem m_{a b:Nat}:Nat.blt a b=true↔a<b:=⟨fun h=>abq h,fun h=>Nat.ble_eq_true_of_le h⟩
theorem any_beq{l:List Nat}{a:Nat}:(l.any fun x=>Nat.beq x a)=true↔a∈l:=by
 rw[List.any_eq_true];constructor
 ·rintro⟨x,hx,he⟩;rw[←Aq he];exact hx
 ·intro h;exact⟨a,h,Nat.beq_refl a⟩
structure Order(L:List Oper)(k:Nat):Prop where
 before:∀i o,L[i]?=some o→∀j∈fI o,j<i
 pre:∀i o j oj t,i<k→L[i]?=some o→j<k→L[j]?=some oj→i≠j→oj.dst=some t→t∈ET L o→(j<i→j∈fI o)∧(i<j→i∈fI oj)
 aar:∀o,L[k]?=some o→∀listed:Nat→Prop,(∀j∈fI o,listed j)→(∀i oi,i<k→L[i]?=some oi→listed i→∀j∈fI oi,listed j)→∀q,q<k→listed q
 tails:∀i o,k<i→L[i]?=some o→∃j∈fI o,j+1=i
theorem Bw{L:List Oper}{k:Nat}{listed:Nat→Prop}(hd:∀i oi,i<k→L[i]?=some oi→listed i→∀j∈fI oi,listed j):∀(m:Nat) (S:List Nat),m≤k→(∀j∈S,listed j)→∀j∈XV L m S,listed j
 | 0,S,_,h,j,hj=>h j hj
 | x+1,S,hm,h,j,hj=>by
  unfold XV at hj;refine Bw hd x _ (by omega) ?_ j hj;intro q hq;split at hq
  ·rename_i hany;rw[agK]at hq;rcases hq with hq|hq
   ·rw[List.any_eq_true]at hany;obtain⟨y,hy,hyx⟩:=hany;have:=Aq hyx;subst this;cases ho:L[y]? with
    | none=>rw[ho]at hq;cases hq
    | some o=>rw[ho]at hq;exact hd y o (by omega) ho (h y hy) q hq
   ·exact h q hq
  ·exact h q hq
theorem Xe{L:List Oper}{k:Nat}(h:Iq L k=true):Order L k:=by
 unfold Iq at h;rw[agD]at h
 have h1:∀i o,L[i]?=some o→((fI o).all fun x=>Nat.blt x i)=true∧_:=fun i o ho=>by
  have hi:i<L.length:=by
   rcases zJ i L.length with h'|h'
   ·exact h'
   ·simp[CF h']at ho
  have:=h i (by simpa using hi);rw[ho]at this;simpa only[ahK]using this
 refine⟨fun i o ho j hj=>?_,fun i o j oj t hi ho hj hoj hne ht hmem=>?_,fun o ho listed hp hd q hq=>?_,fun i o hi ho=>?_⟩
 ·have:=(h1 i o ho).1;rw[agD]at this;exact m_.1 (this j hj)
 ·have:=(h1 i o ho).2;rw[ahH (m_.2 hi),agD]at this;have:=this j (by simpa using hj);rw[vD hne,Bool.false_or,hoj]at this;simp only[ht,any_beq.2 hmem,Bool.not_true,Bool.false_or]at this;constructor
  ·intro hlt;rw[ahH (m_.2 hlt)]at this;exact any_beq.1 this
  ·intro hlt;rw[ahC (fun hh=>by have:=m_.1 hh;omega)]at this;exact any_beq.1 this
 ·have:=(h1 k o ho).2;rw[ahC (fun hh=>by have:=m_.1 hh;omega),ahH (Nat.beq_refl k),agD]at this;have h2:=any_beq.1 (this q (by simpa using hq));exact Bw hd k _ (abr _) hp q h2
 ·have:=(h1 i o ho).2;rw[ahC (fun hh=>by have:=m_.1 hh;omega),ahC (fun hh=>by have:=Aq hh;omega),List.any_eq_true]at this;obtain⟨x,hx,hxi⟩:=this;exact⟨x,hx,Aq hxi⟩
theorem count_set{l:List Bool}{i:Nat}(h:l[i]?=some false):(l.set i true).count false+1=l.count false:=by
 induction l generalizing i with
 | nil=>simp at h
 | cons b l ih=>
  cases i with
  | zero=>simp at h;subst h;simp
  | succ i=>
   simp at h;have:=ih h;simp only[akG,List.count_cons];omega
theorem mem_ready{md:Region.Mode}{A:Array Oper}{listed:Array Bool}{i:Nat}:i∈Region.ready md A listed↔i<A.size∧listed.getD i true=false∧∃o,A[i]?=some o∧∀e∈o.after,Region.binds md e=true→listed.getD e.on false=true:=by
 unfold Region.ready;rw[List.mem_filter];simp only[List.mem_range,ahK,Bool.not_eq_true'];constructor
 ·rintro⟨h1,h2,h3⟩;cases ho:A[i]? with
  | none=>simp[ho]at h3
  | some o=>
   refine⟨h1,h2,o,rfl,?_⟩;rw[ho]at h3;simp at h3;intro e he hb;rw[Array.mem_iff_getElem]at he;obtain⟨q,hq,rfl⟩:=he;have h4:=h3 q hq;simp[hb]at h4;simpa using h4
 ·rintro⟨h1,h2,o,ho,h3⟩;refine⟨h1,h2,?_⟩;rw[ho];simp;intro q hq;cases hb:Region.binds md o.after[q]with
  | false=>simp
  | true=>simpa using h3 _ (Array.getElem_mem hq) hb
theorem uM{o:Oper}{j:Nat}:j∈fI o↔∃e∈o.after,Region.binds .any e=true∧e.on=j:=by
 unfold fI;simp[List.mem_map,List.mem_filter,and_assoc]
theorem Lf{listed:Array Bool}{i:Nat}(hi:i<listed.size)(j:Nat):(listed.setIfInBounds i true).getD j true=if i=j then true else listed.getD j true:=by
 by_cases e:i=j
 ·subst e;simp[Array.getD,hi]
 ·simp only[e,ak1];by_cases hj:j<listed.size
  ·simp[Array.getD,hj,e]
  ·simp[Array.getD,hj]
theorem O5{L:List Oper}(hob:∀i o,L[i]?=some o→∀j∈fI o,j<i)(hot:∀i o,k<i→L[i]?=some o→∃j∈fI o,j+1=i){QC:Exit→Act→World→Prop}:∀(fuel i:Nat) (listed:Array Bool) (a:Act) (w:World),k≤i→i≤L.length→listed.size=L.length→
  (∀j,j<L.length→(listed.getD j true=true↔j<i))→L.length≤i+fuel→wpList P L.toArray QC (L.drop i) a w→wpAny P .any L.toArray QC fuel listed a w:=by
 intro fuel
 induction fuel with
 | zero=>
  intro i listed a w _ hi hsz hl hf h;have Jk:i=L.length:=by omega
  subst Jk;refine⟨?_,by simpa[wpList]using h⟩;rw[List.eq_nil_iff_forall_not_mem];intro j hj;obtain⟨h1,h2,_⟩:=mem_ready.1 hj;have:=(hl j (by simpa using h1)).2 (by simpa using h1);rw[this]at h2;cases h2
 | succ fuel ih=>
  intro i listed a w hk hi hsz hl hf h;by_cases Jk:i=L.length
  ·subst Jk
   have QE:Region.ready .any L.toArray listed=[]:=by
    rw[List.eq_nil_iff_forall_not_mem];intro j hj;obtain⟨h1,h2,_⟩:=mem_ready.1 hj;have:=(hl j (by simpa using h1)).2 (by simpa using h1);rw[this]at h2;cases h2
   have h':QC .normal a w:=by simpa[wpList]using h
   refine⟨fun _=>h',?_⟩;rw[QE];intro j hj;cases hj
  ·have hlt:i<L.length:=by omega
   have hoi:L[i]?=some L[i]:=aaS hlt
   have hin:i∈Region.ready .any L.toArray listed:=by
    refine mem_ready.2 ⟨by simpa using hlt,?_,L[i],by simp[hlt],fun e he hb=>?_⟩
    ·cases e:listed.getD i true with
     | false=>rfl
     | true=>have:=(hl i hlt).1 e;omega
    ·have hj:e.on<i:=hob i _ hoi e.on (uM.2 ⟨e,he,hb,rfl⟩);have:=(hl e.on (by omega)).2 hj;have hs:e.on<listed.size:=by omega
     simpa[Array.getD,hs]using this
   refine⟨fun h0=>(by rw[h0]at hin;cases hin),fun j hj=>?_⟩
   have hji:j=i:=by
    obtain⟨h1,h2,o,h3,h4⟩:=mem_ready.1 hj;have h1:j<L.length:=by simpa using h1
    have h5:¬j<i:=fun hlt'=>by have:=(hl j h1).2 hlt';rw[this]at h2;cases h2
    rcases zJ i j with h6|h6
    ·exfalso;obtain⟨q,hq,hqj⟩:=hot j o (by omega) (by simpa using h3);obtain⟨e,he,hb,hon⟩:=uM.1 hq;have h7:=h4 e he hb;rw[hon]at h7;have hs:q<listed.size:=by omega
     have h8:=(hl q (by omega)).1 (by simpa[Array.getD,hs]using h7);omega
    ·omega
   subst hji;rw[aiH hlt]at h
   have hnext:∀a w,wpList P L.toArray QC (L.drop (j+1)) a w→wpAny P .any L.toArray QC fuel (listed.setIfInBounds j true) a w:=by
    intro a w h;refine ih (j+1) _ a w (by omega) (by omega) (by simpa using hsz) (fun q hq=>?_) (by omega) h;rw[Lf (by omega)];have:=hl q hq;by_cases e:j=q
    ·subst e;simp
    ·rw[ahC e,this];omega
   unfold wpOp;rw[show L.toArray[j]?=some L[j]from by simp[hlt]];simp only;unfold wpList at h;split
   ·rename_i hw;rw[ahH hw]at h;rcases h with h|h
    ·exact .inl (Oper.wp_mono hnext h)
    ·exact .inr h
   ·rename_i hw;rw[ahC hw]at h;exact hnext _ _ h
theorem sJ.congr{all:Array Oper}{env env':Env}{o:Oper}{p:PV}{L:List Oper}(hall:all=L.toArray)(h:sJ P all env σ o p)(he:∀t∈ET L o,env'.get t=env.get t):sJ P all env' σ o p:=by
 subst hall
 have hop:∀x∈o.op.operands,env'.ev x=env.ev x:=fun x hx=>Hg fun t ht=>he t (by
  subst ht;unfold ET;refine agK.2 (.inl (agK.2 (.inr (List.mem_filterMap.2 ⟨.tmp t,by simpa using hx,rfl⟩))))
 )
 rcases h with⟨hg,h⟩|⟨j,want,oj,u,hg,hj,hu,h⟩
 ·exact .inl ⟨hg,AO.congr h hop⟩
 ·have hu':env'.get u=env.get u:=by
   rw[he u];unfold ET;refine agK.2 (.inr ?_);rw[hg];simp only;rw[show L[j]?=some oj from by simpa using hj];simp[hu]
  refine .inr ⟨j,want,oj,u,hg,hj,hu,?_⟩;rw[hu'];rcases h with⟨h1,h2⟩|h
  ·exact .inl ⟨h1,AO.congr h2 hop⟩
  ·exact .inr h
theorem AA{all:Array Oper}{env:Env}{a:Act}{w:World}{m:jd}{j u:Nat}{oj:Oper}{b:Bool}(hs:om w m n env σ ds a)(hj:all[j]?=some oj)(hu:oj.dst=some u)(hb:env.get u=.bool b):yielded all a.tmps j=some b:=by
 have hv:=hs.env u;rw[hb]at hv;simp only[cu]at hv
 have ht':a.tmps[u]?=some (.bool b):=by
  cases e:a.tmps[u]? with
  | none=>simp[ab4,e,Go.undef]at hv
  | some x=>simpa[ab4,e]using hv
 simp[yielded,hj,hu,ht']
theorem I8{all:Array Oper}{env:Env}{a:Act}{w:World}{m:jd}{j u:Nat}{oj:Oper}(hs:om w m n env σ ds a)(hj:all[j]?=some oj)(hu:oj.dst=some u)(hb:env.get u=.val Go.undef):yielded all a.tmps j=none:=by
 have hv:=hs.env u;rw[hb]at hv;simp only[cu]at hv;cases e:a.tmps[u]? with
 | none=>simp[yielded,hj,hu,e]
 | some x=>
  have:x=Go.undef:=by simpa[ab4,e]using hv
  subst this;simp[yielded,hj,hu,e,Go.undef]
theorem om.Mq{env:Env}{a:Act}{w:World}{m:jd}{t:Nat}{dst:Option Tmp}(hs:om w m n env σ ds a)(hd:dst=some t)(ht:t<n):om w m n ((t,.val Go.undef)::env) σ ds (a.put dst Go.undef):=
 hs.put (p:=.val Go.undef) hd ht (by simp[cu]) hs.gY (Le.refl _ _)
theorem Jv{all:Array Oper}{env:Env}{o:Oper}{p:PV}{i t:Nat}{QC:Exit→Act→World→Prop}{KK:Act→World→Prop}{w:World}{m:jd}{a:Act}
  (hi:all[i]?=some o) (hd:o.dst=some t) (ht:t<n) (h:sJ P all env σ o p) (hs:om w m n env σ ds a)
  (hK:∀a' w' m',om w' m' n ((t,p)::env) σ ds a'→Trans w m σ w' m' σ→KK a' w'):wpOp P all QC i KK a w:=by
 unfold wpOp;rw[hi];simp only
 have go:∀o':Oper,o'.dst=some t→o'.op=o.op→o'.type=o.type→AF P o' env.ev σ p→o'.wp P a w KK QC:=by
  intro o' hd' _ _ hf;refine hf w m a KK QC (fun x _=>hs.env.ev x) hs.gY ?_ ?_
  ·rintro p' σ' v w' m' ⟨rfl,rfl⟩ hv hc htr;exact hK _ w' m' (hs.put hd' ht hv hc htr.le) htr
  ·intro _ _ _ _ _ h';exact h'.elim
 rcases h with⟨hg,h⟩|⟨j,want,oj,u,hg,hj,hu,h⟩
 ·rw[ahH (by simp[Region.wanted,hg])];exact .inl (go o hd rfl rfl h)
 ·rcases h with⟨hb,h⟩|⟨hb,rfl⟩
  ·rw[ahH (by simp[Region.wanted,hg,AA hs hj hu hb])];exact .inl (go {o with guard:=none} hd rfl rfl h)
  ·have hw:Region.wanted o (yielded all a.tmps)=false:=by
    rcases hb with hb|hb
    ·simp[Region.wanted,hg,AA hs hj hu hb]
    ·simp[Region.wanted,hg,I8 hs hj hu hb]
   rw[ahC (by simp[hw])];exact hK _ w m (hs.Mq hd ht) (Trans.refl ..)
theorem om.congr{w:World}{m:jd}{env env':Env}{a:Act}(h:om w m n env σ ds a)(he:∀t,env'.get t=.undef∨env'.get t=env.get t):om w m n env' σ ds a:=
 ⟨h.size,h.ds,fun t=>by
  rcases he t with e|e
  ·rw[e];exact trivial
  ·rw[e];exact h.env t,h.gY⟩
theorem SH{L:List Oper}{env:Env}{d:Nat→Nat}{p:Nat→PV}(hk:k≤L.length)(ho:Order L k)
  (hf:∀i o,i<k→L[i]?=some o→o.dst=some (d i)∧d i<n∧sJ P L.toArray (kZ (fun _=>true) d p env i) σ o (p i)) {QC:Exit→Act→World→Prop} {w0:World} {m0:jd}
  (hT:∀w m a,om w m n (kZ (fun _=>true) d p env k) σ ds a→Trans w0 m0 σ w m σ→wpList P L.toArray QC (L.drop k) a w):
  ∀(fuel:Nat) (listed:Array Bool) (a:Act) (w:World) (m:jd),listed.size=L.length→listed.toList.count false≤fuel→
   (∀j,k≤j→j<L.length→listed.getD j true=false)→(∀i o,i<k→L[i]?=some o→listed.getD i true=true→∀j∈fI o,listed.getD j true=true)→
   om w m n (kZ (fun j=>listed.getD j true) d p env k) σ ds a→Trans w0 m0 σ w m σ→wpAny P .any L.toArray QC fuel listed a w:=by
 have done:∀(fuel:Nat) (listed:Array Bool) (a:Act) (w:World) (m:jd),listed.size=L.length→listed.toList.count false≤fuel→
   (∀j,k≤j→j<L.length→listed.getD j true=false)→(∀j,j<k→listed.getD j true=true)→
   om w m n (kZ (fun j=>listed.getD j true) d p env k) σ ds a→Trans w0 m0 σ w m σ→wpAny P .any L.toArray QC fuel listed a w:=by
  intro fuel listed a w m hsz hcnt hun hall hs htr
  have hl:∀j,j<L.length→(listed.getD j true=true↔j<k):=by
   intro j hj;rcases zJ j k with h|h
   ·simp[hall j h,h]
   ·simp[hun j h hj];omega
  refine O5 ho.before ho.tails fuel k listed a w (abr _) hk hsz hl ?_ ?_
  ·have hc:(listed.toList.drop k).count false=L.length-k:=by
    have:listed.toList.drop k=List.replicate (L.length-k) false:=by
     apply List.ext_getElem
     ·simp[hsz]
     ·intro j h1 h2;simp at h1 h2⊢;have h3:=hun (k+j) (by omega) (by omega);have h4:k+j<listed.size:=by omega
      simpa[Array.getD,h4]using h3
    rw[this];simp
   have:(listed.toList.drop k).count false≤listed.toList.count false:=List.Sublist.count_le _ (List.drop_sublist _ _);omega
  ·refine hT w m a (hs.congr fun t=>.inr ?_) htr;exact xZ fun j hj _=>(hall j hj).symm
 intro fuel
 induction fuel with
 | zero=>
  intro listed a w m hsz hcnt hun Ed hs htr;refine done 0 listed a w m hsz hcnt hun (fun j hj=>?_) hs htr;have h0:listed.toList.count false=0:=by omega
  rw[List.count_eq_zero]at h0;have hj':j<listed.size:=by omega
  cases e:listed.getD j true with
  | true=>rfl
  | false=>
   exfalso;apply h0;have:listed[j]=false:=by simpa[Array.getD,hj']using e
   rw[←this];simp
 | succ fuel ih=>
  intro listed a w m hsz hcnt hun Ed hs htr;by_cases hall:∀j,j<k→listed.getD j true=true
  ·exact done (fuel+1) listed a w m hsz hcnt hun hall hs htr
  ·
   have hex:∃i,i<k∧listed.getD i true=false∧∀j,j<i→listed.getD j true=true:=by
    have key:∀c,(∀j,j<c→j<k→listed.getD j true=true)∨∃i,i<k∧listed.getD i true=false∧∀j,j<i→listed.getD j true=true:=by
     intro c
     induction c with
     | zero=>exact .inl fun j hj=>by omega
     | succ c ihc=>
      rcases ihc with h|h
      ·by_cases hc:c<k∧listed.getD c true=false
       ·exact .inr ⟨c,hc.1,hc.2,fun j hj=>h j hj (by omega)⟩
       ·refine .inl fun j hj hjk=>?_;by_cases e:j=c
        ·subst e;cases e:listed.getD j true with
         | true=>rfl
         | false=>exact absurd ⟨hjk,e⟩ hc
        ·exact h j (by omega) hjk
      ·exact .inr h
    rcases key k with h|h
    ·exact absurd (fun j hj=>h j hj hj) hall
    ·exact h
   have E5:∀j b,j<L.length→listed.getD j b=listed.getD j true:=by
    intro j b hj;have:j<listed.size:=by omega
    simp[Array.getD,this]
   refine⟨fun h0=>?_,fun i hi=>?_⟩
   ·exfalso;obtain⟨i,hik,hif,hlow⟩:=hex;have Jk:i<L.length:=by omega
    have:i∈Region.ready .any L.toArray listed:=by
     refine mem_ready.2 ⟨by simpa using Jk,hif,L[i],by simp[Jk],fun e he hb=>?_⟩;have hj:=ho.before i _ (aaS Jk) e.on (uM.2 ⟨e,he,hb,rfl⟩);rw[E5 _ _ (by omega)];exact hlow _ hj
    rw[h0]at this;cases this
   ·obtain⟨h1,h2,o,h3,h4⟩:=mem_ready.1 hi;have Jk:i<L.length:=by simpa using h1
    have hoi:L[i]?=some o:=by simpa using h3
    have hik:i<k:=by
     rcases zJ i k with h|h
     ·exact h
     ·exfalso;obtain⟨q,hqk,hqf,_⟩:=hex
      have hpl:∀j∈fI o,listed.getD j true=true:=by
       intro j hj;obtain⟨e,he,hb,hon⟩:=uM.1 hj;have h5:=h4 e he hb;rw[hon,E5 _ _ (by have:=ho.before i o hoi j hj;omega)]at h5;exact h5
      rcases zJ k i with h'|h'
      ·obtain⟨j,hj,hji⟩:=ho.tails i o h' hoi;have h6:=hpl j hj;rw[hun j (by omega) (by omega)]at h6;cases h6
      ·have hik:i=k:=by omega
       subst hik;have h6:=ho.aar o hoi (fun j=>listed.getD j true=true) hpl (fun a b c d e=>Ed a b c d e) q hqk;rw[hqf]at h6;cases h6
    have hpred:∀j∈fI o,listed.getD j true=true:=by
     intro j hj;obtain⟨e,he,hb,hon⟩:=uM.1 hj;have h5:=h4 e he hb;rw[hon,E5 _ _ (by have:=ho.before i o hoi j hj;omega)]at h5;exact h5
    obtain⟨hd,hdn,hev⟩:=hf i o hik hoi
    have hget:∀t∈ET L o,(kZ (fun j=>listed.getD j true) d p env k).get t=(kZ (fun _=>true) d p env i).get t:=by
     intro t ht;rw[fO (i:=i) (by omega)]
     ·refine xZ fun j hj hdj=>?_;have hoj:L[j]?=some L[j]:=aaS (by omega);exact hpred j ((ho.pre i o j _ t hik hoi (by omega) hoj (by omega) (by rw[(hf j _ (by omega) hoj).1,hdj]) ht).1 hj)
     ·intro j hij hjk hS hdj;by_cases e:i=j
      ·subst e;rw[h2]at hS;cases hS
      ·have hoj:L[j]?=some L[j]:=aaS (by omega);have:=(ho.pre i o j _ t hik hoi hjk hoj e (by rw[(hf j _ hjk hoj).1,hdj]) ht).2 (by omega);have h5:=Ed j _ hjk hoj hS i this;rw[h5]at h2;cases h2
    refine Jv (t:=d i) h3 hd hdn (sJ.congr rfl hev hget) hs fun a' w' m' hs' MK=>?_;have hset:∀j,(listed.setIfInBounds i true).getD j true=if i=j then true else listed.getD j true:=Lf (by omega);refine ih _ a' w' m' (by simpa using hsz) ?_ ?_ ?_ ?_ (htr.trans MK)
    ·have hil:listed.toList[i]?=some false:=by
      have hi':i<listed.size:=by omega
      have:listed[i]=false:=by simpa[Array.getD,hi']using h2
      simp[hi',this]
     have:=count_set hil;rw[akg];omega
    ·intro j hkj hj;rw[hset,ahC (by omega)];exact hun j hkj hj
    ·intro q oq hq hoq hl j hj;rw[hset]at hl⊢;by_cases e:i=j
     ·simp[e]
     ·simp only[e,ak1];by_cases e2:i=q
      ·subst e2;rw[hoi]at hoq;cases hoq;exact hpred j hj
      ·simp only[e2,ak1]at hl;exact Ed q oq hq hoq hl j hj
    ·refine hs'.congr fun t=>.inr ?_;simp only[Env.get]
     have hother:∀j,i+1≤j→j<k→(listed.setIfInBounds i true).getD j true=true→d j≠d i:=by
      intro j hij hjk hS hdj;rw[hset,ahC (by omega)]at hS;have hoj:L[j]?=some L[j]:=aaS (by omega);have:=(ho.pre i o j _ (d i) hik hoi hjk hoj (by omega) (by rw[(hf j _ hjk hoj).1,hdj]) (by unfold ET;rw[hd];simp)).2 (by omega);have h5:=Ed j _ hjk hoj hS i this;rw[h5]at h2;cases h2
     by_cases e:d i=t
     ·subst e;rw[Nat.beq_refl,ajC,fO (i:=i+1) (by omega) hother];simp only[kZ,hset,if_true];simp[Env.get]
     ·rw[vD e,akP];refine xZ fun j hj hdj=>?_;rw[hset,ahC (fun h=>e (by rw[h];exact hdj))]
theorem AW.draw{env:Env}{Q:Post}{id:Nat}{L:List Oper}(k:Nat)(hm:P.follows .mixedOrders=true)(ho:Iq L k=true)(hk:Nat.ble k L.length=true)
  (h:Ev P n L.toArray σ env (L.take k) fun env'=>AR P n L.toArray (L.drop k) env' σ ds Q):AW P n (.region id L.toArray true) env σ ds Q:=by
 intro w m a QC hs ha;have hk:k≤L.length:=abq hk;obtain⟨d,p,h1,h2⟩:=Ev.facts h;rw[akK,akO hk]at h2;have r_:Trans w m σ {w with drawn:=w.drawn+1} m σ:=⟨rfl,rfl,rfl,abr _,fun _ _ h=>⟨h,rfl⟩,fun _ _ _=>⟨rfl,fun _ h=>h⟩,fun _ h=>.inl h,fun _=>Nat.le_succ _⟩
 have hs':om {w with drawn:=w.drawn+1} m n env σ ds a:=⟨hs.size,hs.ds,hs.env.mono r_.le,
  ⟨fun r hr=>aS.nX (hs.gY.each r hr) r_.le fun _ _=>⟨rfl,fun _ h=>h⟩,hs.gY.apart,hs.gY.wf,gD.mono r_.le hs.gY.qY⟩⟩
 refine wp_region_any hm ?_;refine SH (d:=d) (p:=p) (env:=env) (σ:=σ) (ds:=ds) (n:=n) (w0:=w) (m0:=m) hk (Xe ho) (fun i o hi hoi=>h1 i o (by rw[List.getElem?_take_of_lt hi];exact hoi)) ?_ _ _ a _ m (by simp) ?_ ?_ ?_ ?_ r_
 ·intro w1 m1 a1 hs1 htr;exact h2 w1 m1 a1 QC hs1 (ha.step htr)
 ·simp
 ·intro j _ hj;simp[Array.getD,hj]
 ·intro i o hi hoi hl;have Jk:i<L.length:=by omega
  simp[Array.getD,Jk]at hl
 ·refine hs'.congr fun t=>.inr ?_
  have:(kZ (fun j=>(Array.replicate L.toArray.size false).getD j true) d p env k).get t=(kZ (fun j=>(Array.replicate L.toArray.size false).getD j true) d p env 0).get t:=
   fO (Nat.zero_le _) fun j _ hj hS=>by
    have hjL:j<L.length:=by omega
    simp[Array.getD,hjL]at hS
  rw[this];rfl
end
theorem AR.join{P:Program}{n:Nat}{σ:List aS}{ds:List Deferred}{env:Env}{Q:Post}{all:Array Oper}{l:List Oper}(k g t:Nat)(want:Bool)(keep:List Nat){b x y:Bool}{env':Env}
  (_hb:env.get g=.bool b) (_hk:settle keep env=some env')
  (h1:b=want→AR P n all (l.take k) env σ ds fun ax e s d=>ax=.normal∧e=(t,.bool x)::env'∧s=σ∧d=ds)
  (h2:b=!want→AR P n all (l.take k) env σ ds fun ax e s d=>ax=.normal∧e=(t,.bool y)::env'∧s=σ∧d=ds)
  (h3:AR P n all (l.drop k) ((t,.bool (bif b==want then x else y))::env') σ ds Q):AR P n all l env σ ds Q:=by
 intro w m a QC hs ha
 have key:∀z:Bool,(AR P n all (l.take k) env σ ds fun ax e s d=>ax=.normal∧e=(t,.bool z)::env'∧s=σ∧d=ds)→(bif b==want then x else y)=z→wpList P all QC l a w:=by
  intro z h hz;rw[hz]at h3;rw[←ae0 k l]
  have happ:∀(l1 l2:List Oper) (a:Act) (w:World),wpList P all (fun ex a' w'=>match ex with|.normal=>wpList P all QC l2 a' w'|e=>QC e a' w') l1 a w→wpList P all QC (l1++l2) a w:=by
   intro l1 l2
   induction l1 with
   | nil=>intro a w h;exact h
   | cons o l1 ih=>
    intro a w h;rw[List.cons_append];unfold wpList at h⊢;split
    ·rename_i hw;rw[ahH hw]at h;rcases h with h|⟨h,h'⟩
     ·left;unfold Oper.wp at h⊢;generalize (execOp a.eval o).run P w=r at h⊢;cases r with
      | ok nx w'=>
       cases nx<;>simp only[Oper.upon]at h⊢<;>first
        | exact ih _ _ h
        | exact Calls.mono h (fun e w'' he=>by
          cases e with
          | returned v=>exact ih _ _ he
          | panicked c=>exact he
          | outgrown=>obtain⟨a0,w0,h0⟩:=he;exact⟨a0,w0,h0⟩)
        | exact Rows.mono h (fun v w'' he=>ih _ _ he)
      | halt x w'=>cases x<;>simp only[Oper.upon]at h⊢<;>exact h
     ·right;obtain⟨a0,w0,h0⟩:=h';exact⟨h,a0,w0,h0⟩
    ·rename_i hw;rw[ahC hw]at h;exact ih _ _ h
  refine happ _ _ a w (h w m a _ hs ?_);rintro ax ex e s d a' w' m' ⟨rfl,rfl,rfl,rfl⟩ hx hs' htr;cases hx;exact h3 w' m' a' QC hs' (ha.step htr)
 by_cases e:b=want
 ·exact key x (h1 e) (by subst e;simp)
 ·have e':b=!want:=by cases b<;>cases want<;>simp_all
  exact key y (h2 e') (by subst e';cases want<;>rfl)
theorem AR.and{P:Program}{n:Nat}{σ:List aS}{ds:List Deferred}{env:Env}{Q:Post}{all:Array Oper}{l:List Oper}(k g t:Nat)(keep:List Nat){b x:Bool}{env':Env}
  (hb:env.get g=.bool b) (hk:settle keep env=some env')
  (h1:b=true→AR P n all (l.take k) env σ ds fun ax e s d=>ax=.normal∧e=(t,.bool x)::env'∧s=σ∧d=ds)
  (h2:b=false→AR P n all (l.take k) env σ ds fun ax e s d=>ax=.normal∧e=(t,.bool false)::env'∧s=σ∧d=ds)
  (h3:AR P n all (l.drop k) ((t,.bool (b&&x))::env') σ ds Q):AR P n all l env σ ds Q:=
 AR.join k g t true keep (x:=x) (y:=false) hb hk h1 h2 (by cases b<;>exact h3)
theorem AR.or{P:Program}{n:Nat}{σ:List aS}{ds:List Deferred}{env:Env}{Q:Post}{all:Array Oper}{l:List Oper}(k g t:Nat)(keep:List Nat){b x:Bool}{env':Env}
  (hb:env.get g=.bool b) (hk:settle keep env=some env')
  (h1:b=false→AR P n all (l.take k) env σ ds fun ax e s d=>ax=.normal∧e=(t,.bool x)::env'∧s=σ∧d=ds)
  (h2:b=true→AR P n all (l.take k) env σ ds fun ax e s d=>ax=.normal∧e=(t,.bool true)::env'∧s=σ∧d=ds)
  (h3:AR P n all (l.drop k) ((t,.bool (b||x))::env') σ ds Q):AR P n all l env σ ds Q:=
 AR.join k g t false keep (x:=x) (y:=true) hb hk h1 h2 (by cases b<;>exact h3)
section
variable {P : Program} {o : Oper} {ρ : Operand → PV} {σ : List aS} {R S : PV → List aS → Prop}
end
theorem AR.run{P:Program}{n:Nat}{env:Env}{σ:List aS}{ds:List Deferred}{Q:Post}{all:Array Oper}{rest:List Oper}{o:Oper}
  {t u j:Nat} {want b:Bool} {oj:Oper} (hg:o.guard=some (j,want)) (hj:all[j]?=some oj) (hu:oj.dst=some u) (hb:env.get u=.bool b) (hd:o.dst=some t) (ht:Nat.blt t n=true) (hw:b=want)
  (h:AR P n all ({o with guard:=none}::rest) env σ ds Q):AR P n all (o::rest) env σ ds Q:=
 AR.guard hg hj hu hb hd ht (fun _=>h) (fun h'=>by subst hw;cases b<;>cases h')
theorem AR.skip{P:Program}{n:Nat}{env:Env}{σ:List aS}{ds:List Deferred}{Q:Post}{all:Array Oper}{rest:List Oper}{o:Oper}
  {t u j:Nat} {want b:Bool} {oj:Oper} (hg:o.guard=some (j,want)) (hj:all[j]?=some oj) (hu:oj.dst=some u) (hb:env.get u=.bool b) (hd:o.dst=some t) (ht:Nat.blt t n=true) (hw:b=!want)
  (h:AR P n all rest ((t,.val Go.undef)::env) σ ds Q):AR P n all (o::rest) env σ ds Q:=by
 intro w m a QC hs ha;subst hw;unfold wpList;rw[ahC (by simp[Region.wanted,hg,AA hs hj hu hb])];exact h w m _ QC (hs.Mq hd (abq ht)) ha
theorem AR.Tn{P:Program}{n:Nat}{env:Env}{σ:List aS}{ds:List Deferred}{Q:Post}{all:Array Oper}{rest:List Oper}{o:Oper}
  {t u j:Nat} {want:Bool} {oj:Oper} (hg:o.guard=some (j,want)) (hj:all[j]?=some oj) (hu:oj.dst=some u) (hb:env.get u=.val Go.undef) (hd:o.dst=some t) (ht:Nat.blt t n=true)
  (h:AR P n all rest ((t,.val Go.undef)::env) σ ds Q):AR P n all (o::rest) env σ ds Q:=by
 intro w m a QC hs ha;unfold wpList;rw[ahC (by simp[Region.wanted,hg,I8 hs hj hu hb])];exact h w m _ QC (hs.Mq hd (abq ht)) ha
end Go.Abs
namespace Go.Abs
variable [gD]
open Go
theorem xD(P:Program)(g o:Nat)(t:TypeId)(fz:Nat × Nat):∀(vs:List Value) (i:Nat) (cur:Array Value) (w:World),w.heap[g]?=some (.cells cur t fz)→o+i+vs.length≤cur.size→
  (∀j,j<cur.size→¬(fz.1≤j∧j<fz.2))→(∀v∈vs,v.oneCell'=true)→
  (storeCells ⟨g,o,none⟩ vs i).run P w=.ok () (w.setRow g (cur.toList.take (o+i)++vs++cur.toList.drop (o+i+vs.length)).toArray)
 | [],i,cur,w,hg,_,_,_=>by
  simp only[storeCells,List.append_nil,List.length_nil,akM,ae0,Array.toArray_toList];rw[setRow_self w g cur t fz hg];rfl
 | v::rest,i,cur,w,hg,hl,hf,h1=>by
  have hi:o+i<cur.size:=by simp at hl;omega
  have hadd:(⟨g,o,none⟩:Addr).add i=⟨g,o+i,none⟩:=afW ..;have hcell:w.cell? ⟨g,o+i,none⟩=some cur[o+i]:=by simp[World.cell?,hg,hi]
  have hfro:w.frozen? ⟨g,o+i,none⟩=false:=by
   have:=hf (o+i) hi;simp only[World.frozen?,hg];obtain⟨lo,hi'⟩:=fz;simp only at this⊢;simp only[Bool.and_eq_false_iff,decide_eq_false_iff_not];omega
  have hst:(store ((⟨g,o,none⟩:Addr).add i) v).run P w=.ok () (w.setRow g (cur.setIfInBounds (o+i) v)):=by
   rw[hadd,run_store P w _ v _ (h1 v (by simp)),hcell];simp[hfro,setCell_eq_setRow w g (o+i) cur t fz v hg]
  have ih:=xD P g o t fz rest (i+1) (cur.setIfInBounds (o+i) v) (w.setRow g (cur.setIfInBounds (o+i) v)) (ak2 w g cur _ t _ hg) (by simp at hl⊢;omega) (by simpa using hf) (fun x hx=>h1 x (by simp[hx]));simp only[storeCells,Sem.run_bind,hst,jQ,ih,setRow_setRow];congr 3;have e:=list_seg_step cur.toList (o+i) v rest (by simp at hl⊢;omega);simpa[akg,alm]using e
theorem Gg{P:Program}{w:World}{t tx ty e:TypeId}{i:TypeInfo}{z:Value}(ht:P.underlying t=some (.slice e))(hi:P.info? e=some i)(hz:i.zero=some z)(hzs:z.cells.size=i.size)
  {v x:Value} {n m:Nat} {xs news:List Value} (hown:rU w e i.size v n xs) (hs:Src P i.size tx x m news w) (h63:n+m≤maxLen) (hbytes:(n+m)*i.bytes≤140737488355328):
  ∃v' w',(Builtin.append_ #[t,tx] ty #[v,x]).run P w=.ok v' w'∧rU w' e i.size v' (n+m) (xs++news)∧((v'.ownBlock=v.ownBlock∧w.grownBy w' v.ownBlock)∨(v'.ownBlock=some w.heap.size∧w.grownBy w' none))∧(roomy v=true→roomy v'=true)∧w.drawn≤w'.drawn:=by
 have hlen:(xs++news).length=(n+m)*i.size:=by rw[ajr,hown.1,hs.newsLen,aiq]
 have grown:∀(old:Nat),old<n+m→∀(row:Option Nat),
   rU (w.drew.alloc (.cells ((xs++news).toArray++Builtin.zeroCells z.cells (grownCap w (n+m) old e-(n+m))) e)) e i.size
    (.slice (some ⟨w.heap.size,0,none⟩) (n+m) (grownCap w (n+m) old e)) (n+m) (xs++news)∧
   w.grownBy (w.drew.alloc (.cells ((xs++news).toArray++Builtin.zeroCells z.cells (grownCap w (n+m) old e-(n+m))) e)) row:=by
  intro old ho row;have hge:=grownCap_ge w (n+m) old e;have hcm:grownCap w (n+m) old e≤maxLen:=grownCap_le_maxLen w (n+m) old e h63;refine⟨⟨hlen,.inr ⟨w.heap.size,_,_,(0,0),rfl,heap_alloc_new w.drew _,.inl rfl,hge,hcm,?_,?_⟩⟩,⟨rfl,rfl,rfl,by simp,fun k hk _=>heap_alloc_old w.drew _ k hk⟩⟩
  ·simp only[Array.size_append,alr,size_zeroCells,hzs,hlen,←aiq];congr 1;omega
  ·simp only[Array.toList_append];rw[←hlen];exact List.take_left
 rcases hown.2 with⟨rfl,rfl⟩|⟨g,cap,cur,fz,rfl,hg,hfz,hnc,hcm,hcs,htake⟩
 ·have hx:xs=[]:=abv (by simpa using hown.1);subst hx;by_cases hm:m=0
  ·subst hm;have hn:news=[]:=abv (by simpa using hs.newsLen);subst hn;refine⟨.slice none 0 0,w,?_,⟨by simp,.inl ⟨rfl,rfl⟩⟩,(.inl ⟨rfl,⟨rfl,rfl,rfl,abr _,fun _ _ _=>rfl⟩⟩),fun _=>rfl,abr _⟩
   rcases hs.kind with⟨e',hk⟩|hk <;>
    simp[Builtin.append_,vE ht,vE hk,sizeOf,typeInfo,hi,hs.len,hs.cells]
  ·have hr:=run_append_grow_src (P:=P) w t tx ty e i z ht hi hz none 0 0 [] (by simp[Builtin.firstCells]) x m news hs (by omega) (by simp only[maxLen]at h63;omega) (by rw[nextslicecap_zero (by omega)];omega);have hgr:=grown 0 (by omega) none;simp only[ahw,List.nil_append]at hgr hr⊢;have hge:=grownCap_ge w m 0 e;exact⟨_,_,hr,hgr.1,.inr ⟨rfl,hgr.2⟩,fun _=>by simp only[roomy,bne_iff_ne,ne_eq];omega,Nat.le_succ _⟩
 ·by_cases hroom:n+m≤cap
  ·have hfit:n*i.size+news.length≤cur.size:=by rw[hs.newsLen,hcs,←aiq];exact Nat.mul_le_mul_right _ hroom
   have hst:=xD P g (n*i.size) e fz news 0 cur w hg (by simpa using hfit) (fun j hj=>by rcases hfz with h|h<;>omega) hs.one
   have hr:(Builtin.append_ #[t,tx] ty #[.slice (some ⟨g,0,none⟩) n cap,x]).run P w=.ok (.slice (some ⟨g,0,none⟩) (n+m) cap) (w.setRow g (cur.toList.take (n*i.size)++news++cur.toList.drop (n*i.size+news.length)).toArray):=by
    simp only[akM]at hst
    rcases hs.kind with⟨e',hk⟩|hk <;>
     simp[Builtin.append_,vE ht,vE hk,sizeOf,typeInfo,hi,hs.len,hroom,hs.cells,afW,hst]
   refine⟨_,_,hr,⟨hlen,.inr ⟨g,cap,_,fz,rfl,ak2 w g cur _ e _ hg,?_,hroom,hcm,?_,?_⟩⟩,(.inl ⟨rfl,⟨rfl,rfl,rfl,by simp[World.setRow],fun k _ hk=>setRow_other w g k _ (fun e=>hk (by simp[Value.ownBlock,e]))⟩⟩),fun h=>h,abr _⟩
   ·rcases hfz with h|h
    ·exact .inl h
    ·right;simp only[alr,ajr,akK,List.length_drop,akh];omega
   ·simp only[alr,ajr,akK,List.length_drop,akh];omega
   ·rw[htake,←hlen];exact List.take_left
  ·have holds:∀j u,xs[j]?=some u→w.drew.cell? ((⟨g,0,none⟩:Addr).add j)=some u:=by
    intro j u hu;rw[afW,ahw];show w.cell? ⟨g,j,none⟩=some u;rw[akJ w g j cur e fz hg];rw[←htake,akF]at hu;split at hu
    ·simpa using hu
    ·cases hu
   have hold:=run_firstCells_some (P:=P) w.drew i.size n ⟨g,0,none⟩ n cap xs hown.1 holds;have hr:=run_append_grow_src (P:=P) w t tx ty e i z ht hi hz (some ⟨g,0,none⟩) n cap xs hold x m news hs (by omega) (by simp only[maxLen]at h63;omega) (growslice_fits (by omega) hbytes);have hgr:=grown cap (by omega) none;have hge:=grownCap_ge w (n+m) cap e;exact⟨_,_,hr,hgr.1,.inr ⟨rfl,hgr.2⟩,fun _=>by simp only[roomy,bne_iff_ne,ne_eq];omega,Nat.le_succ _⟩
theorem Ib{w:World}{m:jd}{b sz off:Nat}{l:List (List PV)}(h:iX w m b sz off l):∃vs,aX w m l.flatten vs∧vs.length=l.length*sz∧∀i v,vs[i]?=some v→m b (off+i)∧w.cell? ⟨b,off+i,none⟩=some v:=by
 obtain⟨h1,h2⟩:=oo.1 h;obtain⟨vs,h3,h4⟩:=mF.1 h2;refine⟨vs,h3,?_,h4⟩;rw[h3.length_eq];clear h h2 h3 h4
 induction l with
 | nil=>simp
 | cons e es ih=>
  have:=ih fun x hx=>h1 x (by simp[hx]);have h0:=h1 e (by simp);simp only[aiG,ajr,aiM,this,h0,aiq];omega
structure jN(P:Program)(t:TypeId)(e:TypeId)(sz bytes:Nat):Prop where
 und:P.underlying t=some (.slice e)
 info:∃i z,P.info? e=some i∧i.size=sz∧i.bytes=bytes∧i.zero=some z∧z.cells.size=sz
def JB(P:Program)(t e sz bytes:Nat):Bool:=
 match P.underlying t with
 | some (.slice e')=>Nat.beq e' e&&(match P.info? e with
  | some i=>Nat.beq i.size sz&&Nat.beq i.bytes bytes&&(match i.zero with
   | some z=>Nat.beq z.cells.size sz
   | none=>false)
  | none=>false)
 | _=>false
theorem uF{P:Program}{t e sz bytes:Nat}(h:JB P t e sz bytes=true):jN P t e sz bytes:=by
 unfold JB at h;split at h
 ·rename_i e' hu;simp only[ahK]at h;obtain⟨h1,h2⟩:=h;have:=Aq h1;subst this;split at h2
  ·rename_i i hi;simp only[ahK]at h2;obtain⟨⟨h3,h4⟩,h5⟩:=h2;split at h5
   ·rename_i z hz;exact⟨hu,i,z,hi,Aq h3,Aq h4,hz,Aq h5⟩
   ·cases h5
  ·cases h2
 ·cases h
section
variable {P : Program} {o : Oper} {ρ : Operand → PV} {σ : List aS} {R S : PV → List aS → Prop}
theorem rU.block_lt{w:World}{e:TypeId}{sz n:Nat}{v:Value}{xs:List Value}(h:rU w e sz v n xs){b:Nat}(hb:v.ownBlock=some b):b<w.heap.size:=by
 rcases h.2 with⟨rfl,_⟩|⟨g,cap,cur,fz,rfl,hg,_⟩
 ·simp[Value.ownBlock]at hb
 ·simp[Value.ownBlock]at hb;subst hb;rcases zJ g w.heap.size with h'|h'
  ·exact h'
  ·simp[ZR h']at hg
theorem rU.cell{w:World}{e:TypeId}{sz n:Nat}{v:Value}{xs:List Value}(h:rU w e sz v n xs){b:Nat}(hb:v.ownBlock=some b){j:Nat}(hj:j<n*sz):w.cell? ⟨b,j,none⟩=xs[j]?:=by
 rcases h.2 with⟨rfl,_⟩|⟨g,cap,cur,fz,rfl,hg,_,_,_,_,htake⟩
 ·simp[Value.ownBlock]at hb
 ·simp[Value.ownBlock]at hb;subst hb;rw[akJ w g j cur e fz hg,←htake,akF,ahH hj];simp
theorem abQ{w w':World}{m:jd}{n k sz:Nat}{e:TypeId}{v v':Value}{xs news:List Value}{l l2:List (List PV)}
  (hc:Conc w m [.row v n sz e]) (hn:l.length=n) (hl:cu w m (.own v l) v) (hsz1:∀x∈l,x.length=sz) (hxs:rU w e sz v n xs) (hx':rU w' e sz v' (n+k) (xs++news)) (hk:l2.length=k)
  (hnews:aX w m l2.flatten news) (hsz2:∀x∈l2,x.length=sz)
  (hg:(v'.ownBlock=v.ownBlock∧w.grownBy w' v.ownBlock)∨(v'.ownBlock=some w.heap.size∧w.grownBy w' none)) (hdr:w.drawn≤w'.drawn):
  ∃m',cu w' m' (.own v' (l++l2)) v'∧Conc w' m' [.row v' (n+k) sz e]∧Trans w m [.row v n sz e] w' m' [.row v' (n+k) sz e]:=by
 have Si:∀b,v.ownBlock=some b→∀off,m b off→off<n*sz:=(hc.each _ (ajB.2 rfl)).choose_spec.2
 have hos:w'.os=w.os∧w'.tape=w.tape∧w'.output=w.output∧w.heap.size≤w'.heap.size:=by
  rcases hg with⟨_,hg⟩|⟨_,hg⟩<;>exact⟨hg.os,hg.tape,hg.output,hg.size⟩
 have hkeep:∀b,b<w.heap.size→v.ownBlock≠some b→w'.heap[b]?=w.heap[b]?:=by
  intro b hb hne;rcases hg with⟨_,hg⟩|⟨_,hg⟩
  ·exact hg.block b hb (fun h=>hne h.symm)
  ·exact hg.block b hb (by simp)
 refine⟨fun b off=>m b off∨(v'.ownBlock=some b∧off<(n+k)*sz),?_⟩
 have hle:Le w m w' (fun b off=>m b off∨(v'.ownBlock=some b∧off<(n+k)*sz)):=by
  intro b off hm;refine⟨.inl hm,?_⟩;by_cases hbv:v.ownBlock=some b
  ·have hoff:=Si b hbv off hm;rcases hg with⟨h1,hg⟩|⟨h1,hg⟩
   ·rw[hxs.cell hbv hoff,hx'.cell (h1.trans hbv) (by rw[aiq];omega),List.getElem?_append_left (by rw[hxs.1];exact hoff)]
   ·exact agj (w:=w) (hg.block b (hc.wf b off hm) (by simp))
  ·exact agj (w:=w) (hkeep b (hc.wf b off hm) hbv)
 refine⟨?_,⟨?_,?_,?_,gD.mono hle hc.qY⟩,⟨hos.1,hos.2.1,hos.2.2.1,hos.2.2.2,hle,?_,?_,fun _=>hdr⟩⟩
 ·simp only[cu];refine⟨trivial,?_⟩;have hlen:(l++l2).length=n+k:=by simp[hn,hk]
  rcases hx'.2 with⟨hv',h0⟩|⟨g',cap',cur',fz',hv',hg1',_,hnc',_,hcs',anO⟩
  ·refine⟨none,0,by rw[hlen,h0];exact hv',by omega,.inl ?_⟩;apply abv;omega
  ·refine⟨some ⟨g',0,none⟩,cap',by rw[hlen];exact hv',by omega,.inr ⟨g',0,sz,rfl,?_⟩⟩;have hown:v'.ownBlock=some g':=by rw[hv'];rfl
   refine oo.2 ⟨fun x hx=>?_,mF.2 ⟨xs++news,?_,fun j u hj=>⟨.inr ⟨hown,?_⟩,?_⟩⟩⟩
   ·rcases agK.1 hx with h|h
    ·exact hsz1 x h
    ·exact hsz2 x h
   ·rw[List.flatten_append];refine(aX.append ?_ (aX.mono hle _ _ hnews));simp only[cu]at hl;obtain⟨_,a,cap,h1,h2,h3⟩:=hl;rcases h3 with h3|⟨b,off,sz',rfl,h4⟩
    ·subst h3;have:xs=[]:=abv (by rw[hxs.1];simp at hn;simp[←hn]);subst this;simpa using aX.nil
    ·obtain⟨vs,k1,k2⟩:=mF.1 (oo.1 h4).2
     have hvx:vs=xs:=by
      rcases hxs.2 with⟨rfl,_⟩|⟨g,cap0,cur,fz,rfl,hg1,_,_,_,_,htake⟩
      ·cases h1
      ·cases h1
       have hvl:vs.length=xs.length:=by
        rw[k1.length_eq,hxs.1]
        have:∀(l:List (List PV)),(∀x∈l,x.length=sz)→l.flatten.length=l.length*sz:=by
         intro l
         induction l with
         | nil=>simp
         | cons e es ih=>
          intro h;have h0:=h e (by simp);have:=ih fun x hx=>h x (by simp[hx]);simp only[aiG,ajr,aiM,this,h0,aiq];omega
        rw[this l hsz1]
       apply List.ext_getElem hvl;intro j h1 h2;have h5:=(k2 j vs[j] (by simp[h1])).2;rw[ahw,rU.cell hxs (b:=b) rfl (by rw[←hxs.1];exact h2)]at h5;simpa[h2]using h5.symm
     subst hvx;exact aX.mono hle _ _ k1
   ·have:j<(xs++news).length:=by
     rcases zJ j (xs++news).length with h|h
     ·exact h
     ·simp[CF h]at hj
    rw[hx'.1]at this;omega
   ·have:j<(n+k)*sz:=by
     rw[←hx'.1];rcases zJ j (xs++news).length with h|h
     ·exact h
     ·simp[CF h]at hj
    rw[ahw,hx'.cell hown this];exact hj
 ·intro r hr;rw[ajB]at hr;subst hr;refine⟨_,hx',fun b hb off hm=>?_⟩;rcases hm with hm|⟨_,hm⟩
  ·rcases hg with⟨h1,hg⟩|⟨h1,hg⟩
   ·have:=Si b (h1 ▸ hb) off hm;rw[aiq];omega
   ·rw[h1]at hb;cases hb;have:=hc.wf _ off hm;omega
  ·exact hm
 ·simp only[j_,ac3,List.flatMap_nil,List.append_nil,aS.fp];cases v'.ownBlock<;>simp
 ·intro b off hm;rcases hm with hm|⟨hm,_⟩
  ·have:=hc.wf b off hm;omega
  ·exact hx'.block_lt hm
 ·intro b hb hn';have hne:v.ownBlock≠some b:=fun h=>hn' (by simp[j_,aS.fp,h]);refine⟨hkeep b hb hne,fun off hm=>?_⟩;rcases hm with hm|⟨hm,_⟩
  ·exact hm
  ·rcases hg with⟨h1,_⟩|⟨h1,_⟩
   ·exact absurd (h1 ▸ hm) hne
   ·rw[h1]at hm;cases hm;omega
 ·intro b hb;simp[j_,aS.fp]at hb;rcases hg with⟨h1,_⟩|⟨h1,_⟩
  ·left;simp[j_,aS.fp,←h1,hb]
  ·right;rw[h1]at hb;simp at hb;omega
theorem PX:∀(σ:List aS) (i:Nat) (r r':aS),σ[i]?=some r→σ.Perm (r::σ.eraseIdx i)∧(σ.set i r').Perm (r'::σ.eraseIdx i)
 | [],i,_,_,h=>by simp at h
 | a::σ,0,r,r',h=>by
  simp at h;subst h;simp
 | a::σ,i+1,r,r',h=>by
  obtain⟨h1,h2⟩:=PX σ i r r' (by simpa using h);simp only[List.eraseIdx_cons_succ,akG];exact⟨(h1.cons a).trans (List.Perm.swap ..),(h2.cons a).trans (List.Perm.swap ..)⟩
theorem zY{i:Nat}{r:aS}(hi:σ[i]?=some r)(r':aS):σ.Perm ([r]++σ.eraseIdx i)∧(σ.set i r').Perm ([r']++σ.eraseIdx i):=by
 exact PX σ i r r' hi
def Jt(P:Program)(sz:Nat)(tx:TypeId)(p:PV)(l2:List (List PV)):Prop:=
 ∀(w:World) (m:jd) (v:Value),cu w m p v→∃news,Src P sz tx v l2.length news w∧aX w m l2.flatten news
theorem Jt.list{sz tx:Nat}{p:PV}{l2:List (List PV)}(hx:p.els=some l2)(htx:elemSize P tx=some sz)(h2:∀y∈l2,y.length=sz)(h3:∀y∈l2,y.all PV.one=true):Jt P sz tx p l2:=by
 intro w m v hxv;obtain⟨ex,ix,q1,q2,q3⟩:=uG htx;obtain⟨a,cap,e1,e2,e3⟩:=hxv.els hx;by_cases hnil:l2=[]
 ·subst hnil;refine⟨[],?_,by simpa using aX.nil⟩;rw[e1];cases a with
  | none=>exact Src.ofNil w q1 _
  | some a=>exact Src.ofSlice w q1 a 0 cap [] (by simp) (by simp) (by simp)
 ·rcases e3 with e3|⟨b,off,sz',rfl,e4⟩
  ·exact absurd e3 hnil
  ·have hsz':sz'=sz:=by
    cases l2 with
    | nil=>exact absurd rfl hnil
    | cons y ys=>
     simp only[iX]at e4;rw[←e4.1.1];exact h2 y (by simp)
   subst hsz';obtain⟨vs,k1,k2,k3⟩:=Ib e4;refine⟨vs,?_,k1⟩;rw[e1];refine Src.ofSlice w q1 ⟨b,off,none⟩ _ cap vs k2 (fun j u hj=>by rw[afW];exact(k3 j u hj).2) (k1.oneCell ?_);rw[agD];intro p hp;rw[List.mem_flatten]at hp;obtain⟨y,hy,hp⟩:=hp;exact agD.1 (h3 y hy) p hp
theorem TD{w:World}{m:jd}:∀s:List UInt8,aX w m (s.map fun c=>[PV.int .u8 (c.toNat:Int)]).flatten (s.map fun c=>Value.int .u8 (c.toNat:Int))
 | []=>aX.nil
 | c::s=>by
  simp only[agf,aiG,agJ];exact aX.cons (by simp[cu]) (TD s)
theorem Jt.str{tx:Nat}{s:List UInt8}(hk:P.underlying tx=some .string):Jt P 1 tx (.str s) (s.map fun c=>[PV.int .u8 (c.toNat:Int)]):=by
 intro w m v hv;simp only[cu]at hv;subst hv;refine⟨_,?_,TD s⟩;have h:=Src.ofString (P:=P) w hk ⟨s.toArray⟩;have e1:(ByteArray.mk s.toArray).size=(s.map fun c=>[PV.int .u8 (c.toNat:Int)]).length:=by simp[ByteArray.size]
 rw[e1]at h;exact h
theorem AO.abk{c:Call}{s x:Operand}{t tx e sz bytes:Nat}{v:Value}{l l2:List (List PV)}{i n:Nat}(ho:o.op=.call c)(iB:c.callee=.builtin .append)(hargs:c.args=#[s,x])(hty:c.argTypes=#[t,tx])
  (hs:ρ s=.own v l) (hx:Jt P sz tx (ρ x) l2) (hi:σ[i]?=some (aS.row v n sz e)) (hf:jN P t e sz bytes) (hn:l.length=n)
  (h1:∀y∈l,y.length=sz) (h2:∀y∈l2,y.length=sz) (hb1:l.length+l2.length≤maxLen) (hb2:(l.length+l2.length)*bytes≤140737488355328)
  (hR:∀v' σ',DW σ i (.row v' (n+l2.length) sz e)=some σ'→(roomy v=true→roomy v'=true)→R (.own v' (l++l2)) σ'):AO P o ρ σ R S:=by
 refine AO.of_run' fun w m ev hr hc=>?_;have hsv:=hr s (by simp[ho,Op.operands,Call.operands,iB,hargs]);have hxv:=hr x (by simp[ho,Op.operands,Call.operands,iB,hargs]);rw[hs]at hsv;have ami:=hsv;simp only[cu]at ami;have hev:ev s=v:=ami.1;rw[hev]at hsv;obtain⟨xs,hrow,_⟩:=hc.each _ (acj hi);obtain⟨inf,z,g1,g2,g3,g4,g5⟩:=hf.info;obtain⟨news,hsrc,hnews⟩:=hx w m _ hxv;subst g2 g3;obtain⟨v',w',r1,r2,r3,r4,r5⟩:=Gg (ty:=o.type) hf.und g1 g4 g5 hrow hsrc (by omega) (by rw[←hn];exact hb2);obtain⟨p1,p2⟩:=zY hi (.row v' (n+l2.length) inf.size e);have hc1:=hc.perm p1;obtain⟨m',k1,k2,k3⟩:=abQ hc1.left hn hsv h1 hrow r2 rfl hnews h2 r3 r5;obtain⟨f1,f2⟩:=Conc.frame hc1 k2 k3
 have hilt:i<σ.length:=by
  rcases zJ i σ.length with h|h
  ·exact h
  ·simp[CF h]at hi
 have hset:∀(σ:List aS) (i:Nat) (r:aS),i<σ.length→DW σ i r=some (σ.set i r):=by
  intro σ
  induction σ with
  | nil=>intro i r h;simp at h
  | cons a σ ih=>
   intro i r h;cases i with
   | zero=>simp[DW]
   | succ i=>simp only[DW,ih i r (by simpa using h),akG]
 refine⟨.own v' (l++l2),_,v',w',m',hR v' _ (hset σ i _ hilt) r4,?_,k1,f1.perm p2.symm,f2.perm p1.symm p2.symm⟩;simp only[execOp,ho,resolve,iB,hargs,hty,invoke,builtin,Sem.run_bind,zf,jQ];simp only[List.map_toArray,agf,List.map_nil,hev,r1,jQ]
theorem AO.append{c:Call}{s x:Operand}{t tx e sz bytes:Nat}{v:Value}{l l2:List (List PV)}{i n:Nat}(ho:o.op=.call c)(iB:c.callee=.builtin .append)(hargs:c.args=#[s,x])(hty:c.argTypes=#[t,tx])
  (hs:ρ s=.own v l) (hx:(ρ x).els=some l2) (hi:σ[i]?=some (aS.row v n sz e)) (hf:jN P t e sz bytes) (htx:elemSize P tx=some sz) (hn:l.length=n)
  (h1:∀y∈l,y.length=sz) (h2:∀y∈l2,y.length=sz) (h3:∀y∈l2,y.all PV.one=true) (hb1:l.length+l2.length≤maxLen) (hb2:(l.length+l2.length)*bytes≤140737488355328)
  (hR:∀v' σ',DW σ i (.row v' (n+l2.length) sz e)=some σ'→R (.own v' (l++l2)) σ'):AO P o ρ σ R S:=
 AO.abk ho iB hargs hty hs (Jt.list hx htx h2 h3) hi hf hn h1 h2 hb1 hb2 fun v' σ' h _=>hR v' σ' h
theorem QS{w:World}{m:jd}{σ:List aS}(hc:Conc w m σ)(sz e:Nat):Conc w m (.row (.slice none 0 0) 0 sz e::σ)∧Trans w m σ w m (.row (.slice none 0 0) 0 sz e::σ):=by
 refine⟨⟨fun r hr=>?_,by simpa[j_,aS.fp,Value.ownBlock]using hc.apart,hc.wf,hc.qY⟩,⟨rfl,rfl,rfl,abr _,Le.refl _ _,fun _ _ _=>⟨rfl,fun _ h=>h⟩,fun b hb=>.inl (by simpa[j_,aS.fp,Value.ownBlock]using hb),fun _=>abr _⟩⟩;rcases agh.1 hr with rfl|hr
 ·exact⟨[],⟨by simp,.inl ⟨rfl,rfl⟩⟩,fun b hb=>by simp[Value.ownBlock]at hb⟩
 ·exact hc.each r hr
end
theorem AW.row{P:Program}{n:Nat}{c:Code}{env:Env}{σ:List aS}{ds:List Deferred}{Q:Post}(sz e:Nat)(h:AW P n c env (.row (.slice none 0 0) 0 sz e::σ) ds Q):AW P n c env σ ds Q:=
 fun w m a QC hs ha=>let⟨h1,h2⟩:=QS hs.gY sz e
  h w m a QC ⟨hs.size,hs.ds,hs.env,h1⟩ (ha.step h2)
theorem AR.row{P:Program}{n:Nat}{all:Array Oper}{l:List Oper}{env:Env}{σ:List aS}{ds:List Deferred}{Q:Post}(sz e:Nat)(h:AR P n all l env (.row (.slice none 0 0) 0 sz e::σ) ds Q):AR P n all l env σ ds Q:=
 fun w m a QC hs ha=>let⟨h1,h2⟩:=QS hs.gY sz e
  h w m a QC ⟨hs.size,hs.ds,hs.env,h1⟩ (ha.step h2)
end Go.Abs
namespace Go.Abs
variable [gD]
open Go
def fF(c:UInt8):List PV:=[.int .u8 c.toNat]
theorem zo(s:List UInt8):∀e∈s.map fF,e.length=1:=by
 intro e he;obtain⟨c,_,rfl⟩:=List.mem_map.1 he;rfl
theorem zq(s:List UInt8):(s.map fF).flatten=s.map fun c=>PV.int .u8 c.toNat:=by
 induction s with
 | nil=>rfl
 | cons c s ih=>simp[fF,ih]
theorem sO{w:World}{m:jd}:∀(s:List UInt8) (vs:List Value),aX w m (s.map fun c=>PV.int .u8 c.toNat) vs↔vs=s.map fun c=>Value.int .u8 c.toNat
 | [],vs=>by simp[aX]
 | c::s,vs=>by
  simp only[agf,aX,cu,sO s];constructor
  ·rintro⟨v,vs',rfl,rfl,rfl⟩;rfl
  ·rintro rfl;exact⟨_,_,rfl,rfl,rfl⟩
theorem ofNat_toNat(c:UInt8):UInt8.ofNat (c.toNat:Int).toNat=c:=by simp
section
variable {P : Program} {o : Oper} {ρ : Operand → PV} {σ : List aS} {R S : PV → List aS → Prop}
theorem AO.acQ{src dst e:TypeId}{x:Operand}{l:List (List PV)}{s:List UInt8}(ho:o.op=.convert src dst x)(hs:P.underlying src=some (.slice e))(he:P.underlying e=some (.int .u8))(hd:P.underlying dst=some .string)
  (hx:(ρ x).els=some l) (hl:l=s.map fF) (hR:R (.str s) σ):AO P o ρ σ R S:=by
 refine AO.of_same hR fun w m ev hr hc=>?_;subst hl;have hxv:=hr x (by simp[ho,Op.operands]);obtain⟨a,cap,e1,e2,e3⟩:=hxv.els hx;refine⟨.string ⟨s.toArray⟩,?_,by simp only[cu]⟩;rcases e3 with e3|⟨b,off,sz,rfl,e4⟩
 ·have:s=[]:=by simpa using e3
  subst this;simp only[List.map_nil,List.length_nil]at e1;cases a with
  | none=>
   simp only[execOp,ho,e1,Sem.run_bind,run_convert_bytes_nil w src e hs he 0 cap dst hd,jQ,zf];rfl
  | some a=>
   have hl:(loadCells a 0).run P w=.ok (([]:List Int).map (Value.int .u8)).toArray w:=by simp[loadCells,loadCellsFrom]
   simp only[execOp,ho,e1,Sem.run_bind,run_convert_bytes_string w src dst e _ 0 cap hs he hd,run_bytesToString w a 0 cap [] hl,jQ,zf];rfl
 ·obtain⟨vs,k1,k2,k3⟩:=Ib e4;rw[zq,sO]at k1;subst k1
  have:=run_convert_bytes_arg (P:=P) w src e hs he b off s.length cap (s.map fun c=>(c.toNat:Int)) (by simp) (fun i hi=>by
   have:=(k3 i (.int .u8 (s.getD i 0).toNat) (by simp[hi])).2
   simpa[hi]using this) dst hd
  simp only[List.length_map]at e1;simp only[execOp,ho,e1,Sem.run_bind,this,jQ,zf];congr 3;simp only[strOfNums,List.map_map];congr 2
  conv=>rhs;rw[←List.map_id s]
  apply List.map_congr_left;intro c _;simp
theorem AO.R3{src dst e:TypeId}{x:Operand}{s:List UInt8}{u:TypeDesc}(ho:o.op=.convert src dst x)(hs:P.underlying src=some u)(hd:P.underlying dst=some (.slice e))(he:P.underlying e=some (.int .u8))
  (hx:ρ x=.str s) (hl:s.length≤maxLen) (hR:∀v,R (.own v (s.map fF)) (.row v s.length 1 e::σ)):AO P o ρ σ R S:=by
 refine AO.of_run' fun w m ev hr hc=>?_;have hxv:=hr x (by simp[ho,Op.operands]);rw[hx]at hxv;simp only[cu]at hxv;have hrun:=Lib.run_convert_string_bytes (P:=P) w src dst e ⟨s.toArray⟩ hs hd he;rw[size_mk]at hrun;have hge:=grownCap_ge w s.length 0 e;have hcm:grownCap w s.length 0 e≤maxLen:=grownCap_le_maxLen w s.length 0 e hl;let v:Value:=.slice (some ⟨w.heap.size,0,none⟩) s.length (grownCap w s.length 0 e);let w':=Lib.bytesWorld w e ⟨s.toArray⟩;have hsz:w'.heap.size=w.heap.size+1:=Lib.bytesWorld_size ..
 have hcl:(Lib.bytesCells w e ⟨s.toArray⟩).size=grownCap w s.length 0 e:=by
  simp[Lib.bytesCells,size_mk];omega
 have hct:(Lib.bytesCells w e ⟨s.toArray⟩).toList.take s.length=s.map fun c=>Value.int .u8 c.toNat:=by
  simp[Lib.bytesCells,size_mk]
 have hheap:w'.heap[w.heap.size]?=some (.cells (Lib.bytesCells w e ⟨s.toArray⟩) e ((Lib.bytesCells w e ⟨s.toArray⟩).size,(Lib.bytesCells w e ⟨s.toArray⟩).size+1)):=Lib.bytesWorld_at_new ..;have hold:∀j,j<w.heap.size→w'.heap[j]?=w.heap[j]?:=fun j hj=>Lib.bytesWorld_at_old w e _ j hj
 have hrow:rU w' e 1 v s.length (s.map fun c=>Value.int .u8 c.toNat):=
  ⟨by simp,.inr ⟨w.heap.size,_,_,_,rfl,hheap,.inr (abr _),hge,hcm,by rw[hcl,Nat.mul_one],by rw[Nat.mul_one];exact hct⟩⟩
 let m':jd:=fun b off=>m b off∨(b=w.heap.size∧off<s.length);have hle:Le w m w' m':=fun b off hm=>⟨.inl hm,agj (w:=w) (hold b (hc.wf b off hm))⟩;refine⟨.own v (s.map fF),_,v,w',m',hR v,?_,?_,⟨fun r hr'=>?_,?_,?_,gD.mono hle hc.qY⟩,⟨rfl,rfl,rfl,by omega,hle,?_,?_,fun _=>by first|exact abr _|exact Nat.le_succ _⟩⟩
 ·simp only[execOp,ho,hxv,Sem.run_bind,hrun,jQ,zf];rfl
 ·simp only[cu];refine⟨trivial,some ⟨w.heap.size,0,none⟩,grownCap w s.length 0 e,by simp[v],by simpa using hge,?_⟩;right;refine⟨w.heap.size,0,1,rfl,oo.2 ⟨zo s,?_⟩⟩;rw[zq];refine mF.2 ⟨_,(sO s _).2 rfl,fun i u hu=>?_⟩
  have hi:i<s.length:=by
   rcases zJ i s.length with h|h
   ·exact h
   ·simp[h]at hu
  rw[ahw];refine⟨.inr ⟨rfl,hi⟩,?_⟩;rw[hrow.cell (b:=w.heap.size) rfl (by simpa using hi)];exact hu
 ·rcases agh.1 hr' with rfl|hr'
  ·refine⟨_,hrow,fun b hb off hm=>?_⟩;have hb:w.heap.size=b:=by simpa[v,Value.ownBlock]using hb
   rcases hm with hm|⟨_,hm⟩
   ·have:=hc.wf b off hm;omega
   ·simpa using hm
  ·have hlt:=aS.ae5 (hc.each r hr');refine aS.nX (hc.each r hr') hle fun b hb=>⟨hold b (hlt b hb),fun off h=>?_⟩;rcases h with h|⟨h,_⟩
   ·exact h
   ·have:=hlt b hb;omega
 ·simp only[j_,ac3,aS.fp,v,Value.ownBlock,akH,agJ,List.nodup_cons];refine⟨fun hm=>?_,hc.apart⟩;have:=hc.G6 _ hm;omega
 ·intro b off h;rcases h with h|⟨h,_⟩
  ·have:=hc.wf b off h;omega
  ·omega
 ·intro b hb _;refine⟨hold b hb,fun off h=>?_⟩;rcases h with h|⟨h,_⟩
  ·exact h
  ·omega
 ·intro b hb;simp only[j_,ac3,aS.fp,v,Value.ownBlock,akH,agJ,agh]at hb;rcases hb with hb|hb
  ·exact .inr (by omega)
  ·exact .inl hb
def Av(place:Nat→Option (Nat × Nat)):List PV→List (Nat × PV)→Option (List PV)
 | cells,[]=>some cells
 | cells,(i,p)::r=>match place i with
  | some (off,size)=>match p.yC with
   | some cs=>bif Nat.beq cs.length size then (match R5 cells off cs with
    | some c'=>Av place c' r
    | none=>none)else none
   | none=>none
  | none=>none
theorem Xb(off:Nat):∀(l:List Value) (j0:Nat) (cs:Array Value),off+j0+l.length≤cs.size→
  ((l.zipIdx j0).foldl (fun cs (p:Value × Nat)=>cs.setIfInBounds (off+p.2) p.1) cs).toList=cs.toList.take (off+j0)++(l++cs.toList.drop (off+j0+l.length))
 | [],j0,cs,_=>by simp
 | v::l,j0,cs,h=>by
  simp only[List.zipIdx_cons,List.foldl_cons];rw[Xb off l (j0+1) _ (by simp at h⊢;omega)];have:=list_seg_step cs.toList (off+j0) v l (by simp at h⊢;omega);simp only[akg,aiM]at this⊢;rw[←List.append_assoc,show off+(j0+1)=off+j0+1 from by omega,this];simp
theorem E8{w:World}{m:jd}{place:Nat→Option (Nat × Nat)}{ev:Operand→Value}:∀ {parts:List (Nat × Operand)} {cells cells':List PV} {vs:List Value},aX w m cells vs→
  (∀x∈parts,cu w m (ρ x.2) (ev x.2))→Av place cells (parts.map fun x=>(x.1,ρ x.2))=some cells'→
  ∃vs':List Value,Instr.fill place vs.toArray (parts.map fun x=>(x.1,ev x.2))=some vs'.toArray∧aX w m cells' vs'
 | [],cells,cells',vs,h,_,hf=>by
  simp only[List.map_nil,Av,jW]at hf;subst hf;exact⟨vs,rfl,h⟩
 | (i,x)::parts,cells,cells',vs,h,hr,hf=>by
  simp only[agf,Av]at hf;split at hf
  ·rename_i off size hp;split at hf
   ·rename_i cs hcs;cases hb:Nat.beq cs.length size with
    | false=>simp[hb]at hf
    | true=>
     simp only[hb,ajC]at hf;have hsz:=Aq hb;split at hf
     ·rename_i c' hput;obtain⟨rfl,hok⟩:=Ep hcs;obtain⟨rfl,hfit⟩:=KS hput;have hx:=(hr (i,x) (by simp)).cells hok;have hxl:=hx.length_eq;have hvl:=h.length_eq
      have hnew:aX w m (putCells cells off (ρ x).cells) (vs.take off++((ev x).cells.toList++vs.drop (off+(ev x).cells.toList.length))):=by
       unfold putCells;refine(h.take off).append (hx.append ?_);rw[hxl];exact h.drop _
      obtain⟨vs',h1,h2⟩:=E8 hnew (fun y hy=>hr y (by simp[hy])) hf;refine⟨vs',?_,h2⟩;have hsize:(ev x).cells.size=size:=by rw[←akh];simp only at hxl;omega
      simp only[agf,Instr.fill,hp];rw[ahC]
      ·rw[←h1];congr 1;apply Array.ext';have:=Xb off (ev x).cells.toList 0 vs.toArray (by simp only at hxl;simp;omega);simp only[akM]at this;rw[←this,←Array.foldl_toList];simp[Array.toList_zipIdx]
      ·have:off+(ev x).cells.size≤vs.toArray.size:=by simp only at hxl;simp;omega
       simp[hsize]at this⊢;omega
     ·cases hf
   ·cases hf
  ·cases hf
def zR(P:Program)(t:TypeId):Option (List (Nat × Nat)):=
 match P.underlying t with
 | some (.struct fs)=>fs.toList.mapM fun f=>(P.info? f.type).map fun i=>(f.offset,i.size)
 | _=>none
theorem run_places{fs:List Field}{pl:List (Nat × Nat)}(h:(fs.mapM fun f=>(P.info? f.type).map fun i=>(f.offset,i.size))=some pl)(w:World):
  (fs.mapM fun f=>(do pure (f.offset,←sizeOf f.type):Sem (Nat × Nat))).run P w=.ok pl w:=by
 induction fs generalizing pl with
 | nil=>simp at h;subst h;simp
 | cons f fs ih=>
  rw[akQ]at h⊢;cases hi:P.info? f.type with
  | none=>simp[hi]at h
  | some i=>
   simp only[hi,Option.map_some,Option.bind_eq_bind,Option.bind_some]at h;cases hr:(fs.mapM fun f=>(P.info? f.type).map fun i=>(f.offset,i.size))with
   | none=>simp[hr]at h
   | some r=>
    simp[hr]at h;subst h;simp only[Sem.run_bind,sizeOf,run_typeInfo hi,jQ,zf];have:=ih hr;simp only[sizeOf]at this;rw[this];rfl
theorem AO.build{t:TypeId}{parts:Array (Nat × Operand)}{zc cs:List PV}{pl:List (Nat × Nat)}(ho:o.op=.build t parts)(hz:j6 P t=some zc)(hp:zR P t=some pl)
  (hf:Av (fun i=>pl[i]?) zc (parts.toList.map fun x=>(x.1,ρ x.2))=some cs) (hR:R (.agg cs) σ):AO P o ρ σ R S:=by
 refine AO.of_same hR fun w m ev hr hc=>?_;obtain⟨z,h1,h2⟩:=DX hz w;unfold zR at hp;split at hp
 ·rename_i fs hu;obtain⟨vs',k1,k2⟩:=E8 (ρ:=ρ) (ev:=ev) (h2 m) (fun x hx=>hr x.2 (by simp only[ho,Op.operands];simpa using ⟨x.1,by simpa using hx⟩)) hf;refine⟨.agg vs'.toArray,?_,by simp only[cu];exact⟨vs',rfl,k2⟩⟩;have hpl:=run_places hp w;simp only[execOp,ho,Instr.build,Sem.run_bind,h1,jQ,vE hu,zf];rw[Array.mapM_eq_mapM_toList];simp only[Sem.run_map]
  erw [hpl]
  simp only[jQ];have e1:(parts.map fun x=>(x.1,ev x.2)).toList=parts.toList.map fun x=>(x.1,ev x.2):=by simp
  rw[e1];have e2:(fun(i:Nat)=>pl.toArray[i]?)=fun(i:Nat)=>pl[i]?:=by funext i;simp
  simp only[e2]at k1⊢;rw[show z.cells=z.cells.toList.toArray from by simp,k1];rfl
 ·cases hp
def DK(sz:Nat):Nat→List PV→Option (List (List PV))
 | 0,[]=>some []
 | 0,_::_=>none
 | n+1,cs=>match I_ sz cs with
  | some e=>match Ay sz cs with
   | some r=>match DK sz n r with
    | some l=>some (e::l)
    | none=>none
   | none=>none
  | none=>none
theorem IK{sz:Nat}:∀ {n:Nat} {cs:List PV} {l:List (List PV)},DK sz n cs=some l→l.length=n∧l.flatten=cs∧∀e∈l,e.length=sz
 | 0,[],l,h=>by simp only[DK,jW]at h;subst h;simp
 | 0,_::_,l,h=>by simp[DK]at h
 | n+1,cs,l,h=>by
  simp only[DK]at h;split at h
  ·rename_i e he;split at h
   ·rename_i r hr;split at h
    ·rename_i l' hl;simp only[jW]at h;subst h;obtain⟨rfl,h1⟩:=Ga he;obtain⟨rfl,_⟩:=Cz hr;obtain⟨h2,h3,h4⟩:=IK hl;refine⟨by simp[h2],by simp[h3],fun x hx=>?_⟩;rcases agh.1 hx with rfl|hx
     ·simp[h1]
     ·exact h4 x hx
    ·cases h
   ·cases h
  ·cases h
theorem Py{w:World}{m:jd}:∀(vs:List Value),aX w m (List.replicate vs.length .undef) vs
 | []=>aX.nil
 | v::vs=>by
  simp only[aiM,List.replicate_succ];exact aX.cons trivial (Py vs)
theorem run_buildSlice{t e sz bytes len:Nat}{parts:Array (Nat × Operand)}{cells:List PV}{l:List (List PV)}{w:World}{m:jd}{ev:Operand→Value}(hs:jN P t e sz bytes)(hle:Nat.ble (len*sz) 16777216=true)
  (hr:∀x∈parts.toList,cu w m (ρ x.2) (ev x.2)) (hf:Av (fun i=>some (i*sz,sz)) (List.replicate (len*sz) .undef) (parts.toList.map fun x=>(x.1,ρ x.2))=some cells):
  ∃vs:List Value,(Instr.buildSlice t len (parts.map fun x=>(x.1,ev x.2))).run P w=.ok (.slice (some ⟨w.heap.size,0,none⟩) len len) (w.alloc (.cells vs.toArray e))∧aX w m cells vs∧vs.length=len*sz:=by
 obtain⟨i,z,g1,g2,g3,g4,g5⟩:=hs.info;subst g2;have hle:=abq hle;let zs:Array Value:=if len*i.size=0 then #[]else z.cells;let init:Array Value:=(Array.range (len*i.size)).map (zs[·%zs.size]!);have hil:init.toList.length=len*i.size:=by simp[init]
 have h0:aX w m (List.replicate (len*i.size) .undef) init.toList:=by
  have:=Py (w:=w) (m:=m) init.toList
  rwa [hil]at this
 obtain⟨vs',k1,k2⟩:=E8 (ρ:=ρ) (ev:=ev) h0 hr hf;refine⟨vs',?_,k2,?_⟩
 ·have hn:¬(len*i.size>2 ^ 24):=by omega
  have e1:(parts.map fun x=>(x.1,ev x.2)).toList=parts.toList.map fun x=>(x.1,ev x.2):=by simp
  have e2:(Array.map (fun x=>zs[x%zs.size]!) (Array.range (len*i.size)))=init.toList.toArray:=by simp only[init,Array.toArray_toList]
  by_cases h0:len*i.size=0
  ·have hzs:zs=#[]:=by simp[zs,h0]
   rw[hzs]at e2;simp only[Instr.buildSlice,Sem.run_bind,vE hs.und,jQ,sizeOf,run_typeInfo g1,zf,hn,ak1,ahH h0,e1];rw[e2,k1];simp[newRow,newObj,Sem.run]
  ·have hzs:zs=z.cells:=by simp[zs,h0]
   rw[hzs]at e2;simp only[Instr.buildSlice,Sem.run_bind,vE hs.und,jQ,sizeOf,run_typeInfo g1,zf,hn,ak1,ahC h0,zeroValue,g4,e1];rw[e2,k1];simp[newRow,newObj,Sem.run]
 ·have:=k2.length_eq;rw[this]
  have hfl:∀ {parts:List (Nat × PV)} {cs cs':List PV},Av (fun j=>some (j*i.size,i.size)) cs parts=some cs'→cs'.length=cs.length:=by
   intro parts
   induction parts with
   | nil=>intro cs cs' h;simp only[Av,jW]at h;rw[h]
   | cons x parts ih=>
    intro cs cs' h;simp only[Av]at h;split at h
    ·rename_i q hq;cases hb:Nat.beq q.length i.size with
     | false=>simp[hb]at h
     | true=>
      simp only[hb,ajC]at h;split at h
      ·rename_i c' hput;obtain⟨rfl,hfit⟩:=KS hput;rw[ih h];simp[putCells];omega
      ·cases h
    ·cases h
  rw[hfl hf];simp
theorem AO.buildSlice{t e sz bytes len:Nat}{parts:Array (Nat × Operand)}{cells:List PV}{l:List (List PV)}(ho:o.op=.buildSlice t len parts)(hs:jN P t e sz bytes)(hle:Nat.ble (len*sz) 16777216=true)
  (hf:Av (fun i=>some (i*sz,sz)) (List.replicate (len*sz) .undef) (parts.toList.map fun x=>(x.1,(ρ x.2).weak))=some cells) (hl:DK sz len cells=some l) (hR:R (.list l) σ):AO P o ρ σ R S:=by
 refine AO.of_run hR fun w m ev hr hc=>?_;obtain⟨vs,h1,h2,h3⟩:=run_buildSlice (ρ:=fun x=>(ρ x).weak) (ev:=ev) hs hle (fun x hx=>(hr x.2 (by simp only[ho,Op.operands];simpa using ⟨x.1,by simpa using hx⟩)).weak) hf (l:=l);obtain⟨hl1,hl2,hl3⟩:=IK hl;refine⟨.slice (some ⟨w.heap.size,0,none⟩) len len,_,_,by simp only[execOp,ho,Sem.run_bind,h1,jQ,zf],?_,pU hc (.cells vs.toArray e) (fun _=>True),iF hc _ _ fun b hb=>.inl hb⟩;simp only[cu];refine⟨some ⟨w.heap.size,0,none⟩,len,by rw[hl1],by omega,.inr ⟨w.heap.size,0,sz,rfl,oo.2 ⟨hl3,?_⟩⟩⟩;rw[hl2];exact Abs.Es hc vs cells h2 e
theorem AO.Q8{t e sz bytes len:Nat}{parts:Array (Nat × Operand)}{cells:List PV}{l:List (List PV)}(ho:o.op=.buildSlice t len parts)(hs:jN P t e sz bytes)(hle:Nat.ble (len*sz) 16777216=true)
  (hf:Av (fun i=>some (i*sz,sz)) (List.replicate (len*sz) .undef) (parts.toList.map fun x=>(x.1,(ρ x.2).weak))=some cells) (hl:DK sz len cells=some l) (hlen:Nat.ble len 16777216=true) (hR:∀v,R (.own v l) (.row v len sz e::σ)):AO P o ρ σ R S:=by
 refine AO.of_run' fun w m ev hr hc=>?_;obtain⟨vs,h1,h2,h3⟩:=run_buildSlice (ρ:=fun x=>(ρ x).weak) (ev:=ev) hs hle (fun x hx=>(hr x.2 (by simp only[ho,Op.operands];simpa using ⟨x.1,by simpa using hx⟩)).weak) hf (l:=l);obtain⟨hl1,hl2,hl3⟩:=IK hl;have hlen:=abq hlen;have hc':=pU hc (.cells vs.toArray e) (fun off=>off<len*sz)
 have hrow:rU (w.alloc (.cells vs.toArray e)) e sz (.slice (some ⟨w.heap.size,0,none⟩) len len) len vs:=
  ⟨h3,.inr ⟨w.heap.size,len,vs.toArray,(0,0),rfl,heap_alloc_new w _,.inl rfl,abr _,by unfold maxLen;omega,by simp[h3],by rw[←h3];simp⟩⟩
 refine⟨.own (.slice (some ⟨w.heap.size,0,none⟩) len len) l,_,.slice (some ⟨w.heap.size,0,none⟩) len len,_,_,hR _,by simp only[execOp,ho,Sem.run_bind,h1,jQ,zf],?_,⟨fun r hr'=>?_,?_,hc'.wf,hc'.qY⟩,iF hc _ _ fun b hb=>?_⟩
 ·simp only[cu];refine⟨trivial,some ⟨w.heap.size,0,none⟩,len,by rw[hl1],by omega,.inr ⟨w.heap.size,0,sz,rfl,oo.2 ⟨hl3,?_⟩⟩⟩;rw[hl2];refine mF.2 ⟨vs,aX.mono (Et w m _ hc.wf _) _ vs h2,fun i v hv=>⟨.inr ⟨rfl,?_⟩,?_⟩⟩
  ·rw[ahw,←h3];rcases zJ i vs.length with h|h
   ·exact h
   ·simp[CF h]at hv
  ·rw[ahw,World.cell?_alloc_new];simpa using hv
 ·rcases agh.1 hr' with rfl|hr'
  ·refine⟨vs,hrow,fun b hb off hm=>?_⟩;have hb:w.heap.size=b:=by simpa[Value.ownBlock]using hb
   rcases hm with hm|⟨_,hm⟩
   ·have:=hc.wf b off hm;omega
   ·exact hm
  ·exact hc'.each r hr'
 ·simp only[j_,ac3,aS.fp,Value.ownBlock,akH,agJ,List.nodup_cons];refine⟨fun hm=>?_,hc.apart⟩;have:=hc.G6 _ hm;omega
 ·simp only[j_,ac3,aS.fp,Value.ownBlock,akH,agJ,agh]at hb;rcases hb with hb|hb
  ·exact .inr hb
  ·exact .inl hb
theorem AO.min2{c:Call}{x y:Operand}{k k':IntKind}{a b:Int}(ho:o.op=.call c)(iB:c.callee=.builtin .min)(hargs:c.args=#[x,y])(hx:ρ x=.int k a)(hy:ρ y=.int k' b)
  (hR:R (.int k (if b<a then b else a)) σ):AO P o ρ σ R S:=by
 refine AO.of_same hR fun w m ev hr _=>?_;have h1:=hr x (by simp[ho,Op.operands,Call.operands,iB,hargs]);have h2:=hr y (by simp[ho,Op.operands,Call.operands,iB,hargs]);rw[hx]at h1;rw[hy]at h2;simp only[cu]at h1 h2;exact⟨.int k (if b<a then b else a),by simp[execOp,ho,resolve,iB,hargs,invoke,builtin,Builtin.min_,Builtin.min2,h1,h2],by simp only[cu]⟩
theorem AO.max2{c:Call}{x y:Operand}{k k':IntKind}{a b:Int}(ho:o.op=.call c)(iB:c.callee=.builtin .max)(hargs:c.args=#[x,y])(hx:ρ x=.int k a)(hy:ρ y=.int k' b)
  (hR:R (.int k (if a<b then b else a)) σ):AO P o ρ σ R S:=by
 refine AO.of_same hR fun w m ev hr _=>?_;have h1:=hr x (by simp[ho,Op.operands,Call.operands,iB,hargs]);have h2:=hr y (by simp[ho,Op.operands,Call.operands,iB,hargs]);rw[hx]at h1;rw[hy]at h2;simp only[cu]at h1 h2;exact⟨.int k (if a<b then b else a),by simp[execOp,ho,resolve,iB,hargs,invoke,builtin,Builtin.max_,Builtin.max2,h1,h2],by simp only[cu]⟩
theorem AO.ahQ{src dst:TypeId}{x:Operand}{d:TypeDesc}{k k':IntKind}{n:Int}(ho:o.op=.convert src dst x)(hs:P.underlying src=some d)(hd:P.underlying dst=some (.int k'))(hx:ρ x=.int k n)
  (hw:k'.wrap n=n) (hR:R (.int k' n) σ):AO P o ρ σ R S:=
 AO.Ae ho hs hd hx (by rw[hw];exact hR)
theorem AO.MW{src dst:TypeId}{x:Operand}{d:TypeDesc}{k k':IntKind}{c:UInt8}(ho:o.op=.convert src dst x)(hs:P.underlying src=some d)(hd:P.underlying dst=some (.int k'))(hx:ρ x=.int k (c.toNat:Int))
  (hw:kEq k' .i8=false) (hR:R (.int k' (c.toNat:Int)) σ):AO P o ρ σ R S:=
 AO.ahQ ho hs hd hx (by
  have h:=c.toNat_lt
  cases k'<;>simp[kEq,IntKind.wrap,IntKind.bits,IntKind.signed]at hw⊢<;>omega) hR
end
end Go.Abs
namespace Go.Abs
variable [gD]
open Go
theorem adH(n:Int):IntKind.u32.wrap n=((BitVec.ofInt 32 n).toNat:Int):=by
 simp[IntKind.wrap,IntKind.bits,IntKind.signed,ajq];omega
theorem RS(n:Int):IntKind.u64.wrap n=((BitVec.ofInt 64 n).toNat:Int):=by
 simp[IntKind.wrap,IntKind.bits,IntKind.signed,ajq];omega
theorem u8w(n:Int):IntKind.u8.wrap n=((BitVec.ofInt 8 n).toNat:Int):=by
 simp[IntKind.wrap,IntKind.bits,IntKind.signed,ajq];omega
theorem fB{n:Nat}(x:BitVec n):BitVec.ofInt n (x.toNat:Int)=x:=by simp
theorem DF{n m:Nat}(x:BitVec m):BitVec.ofInt n (x.toNat:Int)=x.setWidth n:=by
 apply BitVec.eq_of_toNat_eq;rw[BitVec.toNat_setWidth,ajq];exact Int.toNat_natCast _
theorem JQ{n:Nat}(a b:Int):BitVec.ofInt n (a*b)=BitVec.ofInt n a*BitVec.ofInt n b:=BitVec.ofInt_mul ..
theorem JR{n:Nat}(a b:Int):BitVec.ofInt n (a+b)=BitVec.ofInt n a+BitVec.ofInt n b:=BitVec.ofInt_add ..
theorem XM{n:Nat}(x:BitVec n)(k:Nat):((x.toNat:Int).fdiv (2 ^ k))=((x >>> k).toNat:Int):=by
 rw[Int.fdiv_eq_ediv_of_nonneg _ (by exact Int.pow_nonneg (by omega)),BitVec.toNat_ushiftRight,Nat.shiftRight_eq_div_pow];simp
theorem ab5{n:Nat}(a:Int)(k:Nat):BitVec.ofInt n (a*2 ^ k)=BitVec.ofInt n a <<< k:=by
 rw[BitVec.shiftLeft_eq_mul_twoPow,JQ];congr 1;apply BitVec.eq_of_toNat_eq;rw[BitVec.toNat_twoPow,ajq];have h1:((2:Int) ^ k)=((2 ^ k:Nat):Int):=by simp
 have h2:((2:Nat) ^ n:Nat)=((2 ^ n:Nat):Nat):=rfl;rw[h1];exact Int.toNat_natCast _
theorem agG(a b:Int):IntKind.u64.wrap ((BitVec.ofInt IntKind.u64.bits a ^^^ BitVec.ofInt IntKind.u64.bits b).toNat:Int)=((BitVec.ofInt 64 a ^^^ BitVec.ofInt 64 b).toNat:Int):=by
 rw[RS];exact aj0 (fun n:Nat=>(n:Int)) (aj0 BitVec.toNat (fB (n:=64) _))
theorem aib(a b:Int):IntKind.u64.wrap ((BitVec.ofInt IntKind.u64.bits a &&& BitVec.ofInt IntKind.u64.bits b).toNat:Int)=((BitVec.ofInt 64 a &&& BitVec.ofInt 64 b).toNat:Int):=by
 rw[RS];exact aj0 (fun n:Nat=>(n:Int)) (aj0 BitVec.toNat (fB (n:=64) _))
theorem ajV(a b:Int):IntKind.u64.wrap ((BitVec.ofInt IntKind.u64.bits a ||| BitVec.ofInt IntKind.u64.bits b).toNat:Int)=((BitVec.ofInt 64 a ||| BitVec.ofInt 64 b).toNat:Int):=by
 rw[RS];exact aj0 (fun n:Nat=>(n:Int)) (aj0 BitVec.toNat (fB (n:=64) _))
theorem agH(a b:Int):IntKind.u32.wrap ((BitVec.ofInt IntKind.u32.bits a ^^^ BitVec.ofInt IntKind.u32.bits b).toNat:Int)=((BitVec.ofInt 32 a ^^^ BitVec.ofInt 32 b).toNat:Int):=by
 rw[adH];exact aj0 (fun n:Nat=>(n:Int)) (aj0 BitVec.toNat (fB (n:=32) _))
end Go.Abs
namespace Go.Abs
variable [gD]
open Go
section
variable {P : Program} {o : Oper} {ρ : Operand → PV} {σ : List aS} {R S : PV → List aS → Prop}
def sF(P:Program)(t:TypeId):Option (Nat × Nat):=
 match P.underlying t with
 | some (.array n e)=>(P.info? e).map fun i=>(n,i.size)
 | _=>none
theorem Gf{t n sz:Nat}(h:sF P t=some (n,sz)):∃e i,P.underlying t=some (.array n e)∧P.info? e=some i∧i.size=sz:=by
 unfold sF at h;split at h
 ·rename_i m e hu;cases hi:P.info? e with
  | none=>simp[hi]at h
  | some i=>simp[hi]at h;exact⟨e,i,by rw[hu,h.1],hi,h.2⟩
 ·cases h
theorem Aj{t n sz b off:Nat}{k:IntKind}{i:Int}(h:sF P t=some (n,sz))(h0:0≤i)(h1:i.toNat<n)(w:World):
  (Instr.indexAt t (.pointer (some ⟨b,off,none⟩)) (.int k i)).run P w=.ok (.pointer (some ⟨b,off+i.toNat*sz,none⟩)) w:=by
 obtain⟨e,inf,g1,g2,g3⟩:=Gf h;have hlt:i<(n:Int):=by omega
 simp[Instr.indexAt,asIntOf,vE g1,Instr.sureAddr,h0,hlt,sizeOf,run_typeInfo g2,g3,afW]
theorem AO.FD{p p':PV}(h:Xc ρ o.op=some p)(e:p=p')(hR:R p' σ):AO P o ρ σ R S:=AO.calc' h (e ▸ hR)
theorem AO.Jj{t n sz b off:Nat}{x i:Operand}{k:IntKind}{j:Int}(ho:o.op=.indexAddr t x i)(ha:sF P t=some (n,sz))(hx:ρ x=.val (.pointer (some ⟨b,off,none⟩)))(hi:ρ i=.int k j)
  (h0:0≤j) (h1:j.toNat<n) (hR:R (.val (.pointer (some ⟨b,off+j.toNat*sz,none⟩))) σ):AO P o ρ σ R S:=by
 refine AO.of_same hR fun w m ev hr _=>?_;have e1:=hr x (by simp[ho,Op.operands]);have e2:=hr i (by simp[ho,Op.operands]);rw[hx]at e1;rw[hi]at e2;simp only[cu]at e1 e2;exact⟨.pointer (some ⟨b,off+j.toNat*sz,none⟩),by simp only[execOp,ho,e1,e2,Sem.run_bind,Aj ha h0 h1,jQ,zf],by simp only[cu]⟩
theorem AO.M6{t:TypeId}{parts:Array (Nat × Operand)}{zc cs:List PV}{n sz:Nat}(ho:o.op=.build t parts)(hz:j6 P t=some zc)(ha:sF P t=some (n,sz))
  (hf:Av (fun i=>some (i*sz,sz)) zc (parts.toList.map fun x=>(x.1,ρ x.2))=some cs) (hR:R (.agg cs) σ):AO P o ρ σ R S:=by
 refine AO.of_same hR fun w m ev hr hc=>?_;obtain⟨z,h1,h2⟩:=DX hz w;obtain⟨e,inf,g1,g2,g3⟩:=Gf ha;obtain⟨vs',k1,k2⟩:=E8 (ρ:=ρ) (ev:=ev) (h2 m) (fun x hx=>hr x.2 (by simp only[ho,Op.operands];simpa using ⟨x.1,by simpa using hx⟩)) hf;refine⟨.agg vs'.toArray,?_,by simp only[cu];exact⟨vs',rfl,k2⟩⟩;simp only[execOp,ho,Instr.build,Sem.run_bind,h1,jQ,vE g1,zf,sizeOf,run_typeInfo g2,g3];have e1:(parts.map fun x=>(x.1,ev x.2)).toList=parts.toList.map fun x=>(x.1,ev x.2):=by simp
 rw[e1];rw[show z.cells=z.cells.toList.toArray from by simp,k1];rfl
theorem AO.Sc{t n sz:Nat}{x i:Operand}{k:IntKind}{j:Int}{cs:List PV}(ho:o.op=.indexAddr t x i)(ha:sF P t=some (n,sz))(hx:ρ x=.ref cs)(hi:ρ i=.int k j)
  (h0:0≤j) (h1:j.toNat<n) (hfit:j.toNat*sz≤cs.length) (hR:R (.ref (cs.drop (j.toNat*sz))) σ):AO P o ρ σ R S:=by
 refine AO.of_same hR fun w m ev hr _=>?_;have e1:=hr x (by simp[ho,Op.operands]);have e2:=hr i (by simp[ho,Op.operands]);rw[hx]at e1;rw[hi]at e2;simp only[cu]at e1 e2;obtain⟨b,off,e1,e3⟩:=e1;refine⟨.pointer (some ⟨b,off+j.toNat*sz,none⟩),by simp only[execOp,ho,e1,e2,Sem.run_bind,Aj ha h0 h1,jQ,zf],?_⟩;simp only[cu];exact⟨b,_,rfl,Kh e3 _ hfit⟩
theorem AO.Qo{t:TypeId}{x:Operand}{cs:List PV}{b off i k:Nat}{p:PV}(ho:o.op=.load t x)(hx:ρ x=.val (.pointer (some ⟨b,off,none⟩)))(hi:σ[i]?=some (aS.box b cs))
  (ht:fZ P t=some (false,k)) (hp:cs[off]?=some p) (hR:R p σ):AO P o ρ σ R S:=by
 refine AO.of_same hR fun w m ev hr hc=>?_;have h:=hr x (by simp[ho,Op.operands]);rw[hx]at h;simp only[cu]at h;obtain⟨vs,ty,g1,g2,_⟩:=hc.box hi;obtain⟨v,h5,h6⟩:=g2.get? off hp;obtain⟨hA,_⟩:=wQ ht w;refine⟨v,?_,h6⟩
 have:w.cell? ⟨b,off,none⟩=some v:=by
  rw[akJ w b off vs.toArray ty (0,0) g1];simpa using h5
 simp[execOp,ho,Instr.loadAt,h,Instr.sureAddr,loadVar,hA,load,Sem.run,this]
theorem AO.Nt{t:TypeId}{x y:Operand}{cs:List PV}{b off i k:Nat}{p:PV}(ho:o.op=.store t x y)(hx:ρ x=.val (.pointer (some ⟨b,off,none⟩)))(hi:σ[i]?=some (aS.box b cs))
  (ht:fZ P t=some (false,k)) (hk:k=1) (hy:(ρ y).force=some p) (hone:p.one=true) (hfit:off<cs.length) (hR:R .undef (σ.set i (.box b (cs.set off p)))):AO P o ρ σ R S:=by
 have hy:=PV.force_eq hy;intro w m a K QC hr hc hK _;have h:=hr x (by simp[ho,Op.operands]);have hyv:=hr y (by simp[ho,Op.operands]);rw[hx]at h;rw[hy]at hyv;simp only[cu]at h;obtain⟨vs,ty,g1,g2,g3⟩:=hc.box hi;have hl2:=g2.length_eq;have ho1:=hyv.oneCell hone;have hcells:(a.eval y).cells=#[a.eval y]:=Fe ho1;have hst:=run_storeCells_at P b off ty [a.eval y] 0 vs.toArray w g1 (by simp;omega) (by simpa using ho1);obtain⟨_,hsz⟩:=wQ ht w
 have hnew:(vs.toArray.toList.take (off+0)++[a.eval y]++vs.toArray.toList.drop (off+0+[a.eval y].length))=vs.set off (a.eval y):=by
  simp[FQ,show off<vs.length by omega]
 have hrun:(execOp a.eval o).run P w=.ok .skip (w.setRow b (vs.set off (a.eval y)).toArray):=by
  simp only[execOp,ho,Instr.storeAt,h,Instr.sureAddr,storeVar,Sem.run_bind,zf,jQ,hsz,hcells,hk];rw[ahC (by simp)];rw[hst,hnew];simp
 have hl':aX w m (cs.set off p) (vs.set off (a.eval y)):=by
  rw[FQ,ahH hfit,FQ,ahH (by omega)];exact(g2.take off).append (aX.cons hyv (g2.drop (off+1)))
 obtain⟨k1,k2⟩:=Ul hc hi g1 (ak2 w b _ _ ty _ g1) hl';unfold Oper.wp;rw[hrun];exact hK .undef _ _ _ m hR trivial k1 k2
theorem AO.abM{t n sz b off:Nat}{x:Operand}(ho:o.op=.slice t x none none none)(ha:sF P t=some (n,sz))(hx:ρ x=.val (.pointer (some ⟨b,off,none⟩)))
  (hR:R (.val (.slice (some ⟨b,off,none⟩) n n)) σ):AO P o ρ σ R S:=by
 refine AO.of_same hR fun w m ev hr _=>?_;have e1:=hr x (by simp[ho,Op.operands]);rw[hx]at e1;simp only[cu]at e1;obtain⟨e,inf,g1,g2,g3⟩:=Gf ha;refine⟨.slice (some ⟨b,off,none⟩) n n,?_,by simp only[cu]⟩;simp[execOp,ho,Instr.sliceAt,vE g1,e1,Instr.sureAddr,Instr.sliceBounds,sizeOf,run_typeInfo g2,afW]
theorem AO.Sq{src dst e:TypeId}{x:Operand}{cs:List PV}{b off len cap i:Nat}{s:List UInt8}(ho:o.op=.convert src dst x)(hs:P.underlying src=some (.slice e))(he:P.underlying e=some (.int .u8))(hd:P.underlying dst=some .string)
  (hx:ρ x=.val (.slice (some ⟨b,off,none⟩) len cap)) (hi:σ[i]?=some (aS.box b cs)) (hl:(cs.drop off).take len=s.map fun c=>PV.int .u8 c.toNat) (hlen:s.length=len) (hR:R (.str s) σ):AO P o ρ σ R S:=by
 refine AO.of_same hR fun w m ev hr hc=>?_;have h:=hr x (by simp[ho,Op.operands]);rw[hx]at h;simp only[cu]at h;obtain⟨vs,ty,g1,g2,_⟩:=hc.box hi;have g3:=(g2.drop off).take len;rw[hl,sO]at g3;refine⟨.string ⟨s.toArray⟩,?_,by simp only[cu]⟩
 have:=run_convert_bytes_arg (P:=P) w src e hs he b off s.length cap (s.map fun c=>(c.toNat:Int)) (by simp) (fun j hj=>by
  rw[akJ w b (off+j) vs.toArray ty (0,0) g1];have:=aj0 (·[j]?) g3;simp only[akF,ala,List.getElem?_map,hj,aaS,Option.map_some]at this;rw[ahH (by omega)]at this
  simpa[hj]using this) dst hd
 simp only[execOp,ho,h,Sem.run_bind,←hlen,this,jQ,zf];congr 3;simp only[strOfNums,List.map_map];congr 2
 conv=>rhs;rw[←List.map_id s]
 apply List.map_congr_left;intro c _;simp
end
end Go.Abs
namespace Go.Abs
variable [gD]
open Go
section
variable {P : Program} {o : Oper} {ρ : Operand → PV} {σ : List aS} {R S : PV → List aS → Prop}
theorem Conc.write{w w':World}{m:jd}{i b:Nat}{r r':aS}(hc:Conc w m σ)(hi:σ[i]?=some r)(hf:r.fp=[b])(hf':r'.fp=[b])(hm:∀off,¬m b off)(hr:r'.holds w' m)
  (hos:w'.os=w.os∧w'.tape=w.tape∧w'.output=w.output) (hsz:w'.heap.size=w.heap.size) (hother:∀k,k≠b→w'.heap[k]?=w.heap[k]?) (hdr:w.drawn≤w'.drawn:=by exact abr _):
  Conc w' m (σ.set i r')∧Trans w m σ w' m (σ.set i r'):=by
 obtain⟨p1,p2⟩:=zY hi r';have hc1:=hc.perm p1;have hle:Le w m w' m:=fun c off hco=>⟨hco,agj (w:=w) (hother c (fun e=>by subst e;exact hm off hco))⟩;have hk:Conc w' m [r']:=⟨fun x hx=>by rw[ajB]at hx;subst hx;exact hr,by simp[j_,hf'],fun c off hco=>by rw[hsz];exact hc.wf c off hco,gD.mono hle hc.qY⟩;have ht:Trans w m [r] w' m [r']:=⟨hos.1,hos.2.1,hos.2.2,by omega,hle,fun c _ hn=>⟨hother c (fun e=>hn (by subst e;simp[j_,hf])),fun _ h=>h⟩,fun c hcf=>.inl (by simpa[j_,hf,hf']using hcf),fun _=>hdr⟩;obtain⟨f1,f2⟩:=Conc.frame hc1 hk ht;exact⟨f1.perm p2.symm,f2.perm p1.symm p2.symm⟩
def _root_.Go.Value.blk(v:Value):Nat:=v.ownBlock.getD 0
theorem AO.Sd{t:TypeId}{x y:Operand}{v:Value}{n sz e i:Nat}{cs:List PV}{k:IntKind}{j:Int}(ho:o.op=.indexAddr t x y)(hx:ρ x=.val v)(hi:σ[i]?=some (aS.buf v n sz e cs))(hy:ρ y=.int k j)(hs:elemSize P t=some sz)
  (h0:0≤j) (h1:j.toNat<n) (hR:R (.val (.pointer (some ⟨v.blk,j.toNat*sz,none⟩))) σ):AO P o ρ σ R S:=by
 refine AO.of_same hR fun w m ev hr hc=>?_;have e1:=hr x (by simp[ho,Op.operands]);have e2:=hr y (by simp[ho,Op.operands]);rw[hx]at e1;rw[hy]at e2;simp only[cu]at e1 e2;obtain⟨xs,hrow,_,_⟩:=hc.each _ (acj hi);obtain⟨el,inf,g1,g2,g3⟩:=uG hs;rcases hrow.2 with⟨_,rfl⟩|⟨g,cap,cur,fz,rfl,_⟩
 ·omega
 ·have hlt:j<(n:Int):=by omega
  refine⟨.pointer (some ⟨g,j.toNat*sz,none⟩),?_,by simp only[cu];rfl⟩;simp[execOp,ho,Instr.indexAt,e1,e2,asIntOf,vE g1,h0,hlt,sizeOf,run_typeInfo g2,g3,afW]
theorem AO.aeG{t:TypeId}{x:Operand}{v:Value}{n sz e i off k:Nat}{cs:List PV}{p:PV}(ho:o.op=.load t x)(hx:ρ x=.val (.pointer (some ⟨v.blk,off,none⟩)))(hi:σ[i]?=some (aS.buf v n sz e cs))
  (ht:fZ P t=some (false,k)) (hp:cs[off]?=some p) (hR:R p σ):AO P o ρ σ R S:=by
 refine AO.of_same hR fun w m ev hr hc=>?_;have h:=hr x (by simp[ho,Op.operands]);rw[hx]at h;simp only[cu]at h;obtain⟨xs,hrow,hrep,_⟩:=hc.each _ (acj hi);obtain⟨u,h5,h6⟩:=hrep.get? off hp;obtain⟨hA,_⟩:=wQ ht w;have hlt:off<n*sz:=by rw[←hrow.1];exact(akr.1 h5).1
 refine⟨u,?_,h6⟩
 have hb:v.ownBlock=some v.blk:=by
  rcases hrow.2 with⟨_,rfl⟩|⟨g,cap,cur,fz,rfl,_⟩
  ·omega
  ·rfl
 have:w.cell? ⟨v.blk,off,none⟩=some u:=by rw[hrow.cell hb hlt];exact h5
 simp[execOp,ho,Instr.loadAt,h,Instr.sureAddr,loadVar,hA,load,Sem.run,this]
theorem AO.abG{t:TypeId}{x y:Operand}{v:Value}{n sz e i off k:Nat}{cs:List PV}{p:PV}(ho:o.op=.store t x y)(hx:ρ x=.val (.pointer (some ⟨v.blk,off,none⟩)))(hi:σ[i]?=some (aS.buf v n sz e cs))
  (ht:fZ P t=some (false,k)) (hk:k=1) (hy:(ρ y).force=some p) (hone:p.one=true) (hfit:off<cs.length) (hR:R .undef (σ.set i (.buf v n sz e (cs.set off p)))):AO P o ρ σ R S:=by
 have hy:=PV.force_eq hy;intro w m a K QC hr hc hK _;have h:=hr x (by simp[ho,Op.operands]);have hyv:=hr y (by simp[ho,Op.operands]);rw[hx]at h;rw[hy]at hyv;simp only[cu]at h;obtain⟨xs,hrow,hrep,hm⟩:=hc.each _ (acj hi);have hl2:=hrep.length_eq;have ho1:=hyv.oneCell hone;have hcells:(a.eval y).cells=#[a.eval y]:=Fe ho1;have hlt:off<n*sz:=by rw[←hrow.1,hl2];exact hfit
 rcases hrow.2 with⟨_,rfl⟩|⟨g,cap,cur,fz,rfl,hg,hfz,hnc,hcm,hcs,htake⟩
 ·omega
 have hle:n*sz≤cap*sz:=Nat.mul_le_mul_right _ hnc;have hst:=xD P g off e fz [a.eval y] 0 cur w hg (by simp;omega) (fun j hj=>by rcases hfz with h|h<;>omega) (by simpa using ho1);obtain⟨_,hsz⟩:=wQ ht w
 have hnew:(cur.toList.take (off+0)++[a.eval y]++cur.toList.drop (off+0+[a.eval y].length))=cur.toList.set off (a.eval y):=by
  simp[FQ,show off<cur.size by omega]
 have hrun:(execOp a.eval o).run P w=.ok .skip (w.setRow g (cur.toList.set off (a.eval y)).toArray):=by
  simp only[execOp,ho,Instr.storeAt,h,Instr.sureAddr,storeVar,Sem.run_bind,zf,jQ,hsz,hcells,hk];rw[ahC (by simp)];rw[show Go.Value.blk (.slice (some ⟨g,0,none⟩) n cap)=g from rfl,hst,hnew];simp
 have hl':aX w m (cs.set off p) (xs.set off (a.eval y)):=by
  rw[FQ,ahH hfit,FQ,ahH (by rw[hl2];exact hfit)];exact(hrep.take off).append (aX.cons hyv (hrep.drop (off+1)))
 have hother:∀k,k≠g→(w.setRow g (cur.toList.set off (a.eval y)).toArray).heap[k]?=w.heap[k]?:=fun k hk=>setRow_other w g k _ hk;have hmg:∀off,¬m g off:=hm g rfl;have hle':Le w m (w.setRow g (cur.toList.set off (a.eval y)).toArray) m:=fun c off' hco=>⟨hco,agj (w:=w) (hother c (fun e=>by subst e;exact hmg off' hco))⟩
 obtain⟨k1,k2⟩:=Conc.write (b:=g) (r':=.buf (.slice (some ⟨g,0,none⟩) n cap) n sz e (cs.set off p)) (w':=w.setRow g (cur.toList.set off (a.eval y)).toArray) hc hi rfl rfl hmg
  ⟨xs.set off (a.eval y),⟨by simpa using hrow.1,.inr ⟨g,cap,_,fz,rfl,ak2 w g cur _ e _ hg,by
   rcases hfz with h|h
   ·exact .inl h
   ·right;simpa using h,hnc,hcm,by simpa using hcs,by rw[←htake];simp[List.take_set]⟩⟩,aX.mono hle' _ _ hl',hm⟩ ⟨rfl,rfl,rfl⟩ (by simp[World.setRow]) hother
 unfold Oper.wp;rw[hrun];exact hK .undef _ _ _ m hR trivial k1 k2
theorem Conc.freeze{w:World}{m:jd}{i n sz e:Nat}{v:Value}{cs:List PV}{l:List (List PV)}(hc:Conc w m σ)(hi:σ[i]?=some (aS.buf v n sz e cs))(hl:l.flatten=cs)(hsz:∀x∈l,x.length=sz)(hn:l.length=n):
  ∃m',cu w m' (.own v l) v∧Conc w m' (σ.set i (.row v n sz e))∧Trans w m σ w m' (σ.set i (.row v n sz e)):=by
 obtain⟨p1,p2⟩:=zY hi (.row v n sz e);have hc1:=hc.perm p1;obtain⟨xs,hrow,hrep,hm⟩:=hc.each _ (acj hi);refine⟨fun b off=>m b off∨(v.ownBlock=some b∧off<n*sz),?_⟩;have hle:Le w m w (fun b off=>m b off∨(v.ownBlock=some b∧off<n*sz)):=fun b off h=>⟨.inl h,rfl⟩
 have hk:Conc w (fun b off=>m b off∨(v.ownBlock=some b∧off<n*sz)) [.row v n sz e]:=by
  refine⟨fun x hx=>?_,by cases h:v.ownBlock<;>simp[j_,aS.fp,h],fun b off h=>?_,gD.mono hle hc.qY⟩
  ·rw[ajB]at hx;subst hx;refine⟨xs,hrow,fun b hb off h=>?_⟩;rcases h with h|h
   ·exact absurd h (hm b hb off)
   ·exact h.2
  ·rcases h with h|h
   ·exact hc.wf b off h
   ·exact hrow.block_lt h.1
 have ht:Trans w m [.buf v n sz e cs] w (fun b off=>m b off∨(v.ownBlock=some b∧off<n*sz)) [.row v n sz e]:=
  ⟨rfl,rfl,rfl,abr _,hle,fun b _ hn=>⟨rfl,fun off h=>by
   rcases h with h|h
   ·exact h
   ·exact absurd (show b∈j_ [aS.buf v n sz e cs] by simp[j_,aS.fp,h.1]) hn⟩,fun b hb=>.inl (by simpa[j_,aS.fp]using hb),fun _=>abr _⟩
 obtain⟨f1,f2⟩:=Conc.frame hc1 hk ht;refine⟨?_,f1.perm p2.symm,f2.perm p1.symm p2.symm⟩;simp only[cu];refine⟨trivial,?_⟩;rcases hrow.2 with⟨rfl,rfl⟩|⟨g,cap,cur,fz,rfl,hg,hfz,hnc,hcm,hcs,htake⟩
 ·exact⟨none,0,by rw[hn],by omega,.inl (abv hn)⟩
 ·refine⟨some ⟨g,0,none⟩,cap,by rw[hn],by omega,.inr ⟨g,0,sz,rfl,oo.2 ⟨hsz,mF.2 ⟨xs,?_,fun j u hj=>?_⟩⟩⟩⟩
  ·rw[hl];exact aX.mono hle _ _ hrep
  ·have hlt:j<n*sz:=by rw[←hrow.1];exact(akr.1 hj).1
   refine⟨.inr ⟨rfl,by omega⟩,?_⟩;rw[ahw,hrow.cell (b:=g) rfl hlt];exact hj
theorem AW.freeze{P:Program}{k:Nat}{c:Code}{env:Env}{σ:List aS}{ds:List Deferred}{Q:Post}{v:Value}{n sz e:Nat}{cs:List PV}(t i:Nat)(l:List (List PV))(ht:env.get t=.val v)(hi:σ[i]?=some (aS.buf v n sz e cs))
  (hl:l.flatten=cs) (hsz:∀x∈l,x.length=sz) (hn:l.length=n) (h:AW P k c ((t,.own v l)::env) (σ.set i (.row v n sz e)) ds Q):AW P k c env σ ds Q:=by
 intro w m a QC hs ha;obtain⟨m',h1,h2,h3⟩:=hs.gY.freeze hi hl hsz hn;refine h w m' a QC ⟨hs.size,hs.ds,fun u=>?_,h2⟩ (ha.step h3);have hu:=hs.env u;simp only[Env.get];cases hb:Nat.beq t u with
 | false=>exact cu.mono h3.le _ _ hu
 | true=>
  have:=Aq hb;subst this;rw[ht]at hu;simp only[cu]at hu;rw[hu];exact h1
theorem AO.ZK{c:Call}{s x:Operand}{t tx e sz bytes:Nat}{v:Value}{l2:List (List PV)}{i:Nat}(ho:o.op=.call c)(iB:c.callee=.builtin .append)(hargs:c.args=#[s,x])(hty:c.argTypes=#[t,tx])
  (hs:ρ s=.own v []) (hx:(ρ x).els=some l2) (hi:σ[i]?=some (aS.row v 0 sz e)) (hf:jN P t e sz bytes) (htx:elemSize P tx=some sz)
  (h2:∀y∈l2,y.length=sz) (h3:∀y∈l2,y.all PV.one=true) (hb1:l2.length≤maxLen) (hb2:l2.length*bytes≤140737488355328)
  (hR:∀v' σ',DW σ i (.buf v' l2.length sz e l2.flatten)=some σ'→R (.val v') σ'):AO P o ρ σ R S:=by
 refine AO.of_run' fun w m ev hr hc=>?_;have hsv:=hr s (by simp[ho,Op.operands,Call.operands,iB,hargs]);have hxv:=hr x (by simp[ho,Op.operands,Call.operands,iB,hargs]);rw[hs]at hsv;simp only[cu]at hsv;have hev:ev s=v:=hsv.1;obtain⟨xs,hrow,Si⟩:=hc.each _ (acj hi);obtain⟨inf,z,g1,g2,g3,g4,g5⟩:=hf.info;obtain⟨ex,ix,q1,q2,q3⟩:=uG htx
 obtain⟨news,hsrc,hnews⟩:∃news,Src P sz tx (ev x) l2.length news w∧aX w m l2.flatten news:=by
  obtain⟨a,cap,e1,e2,e3⟩:=hxv.els hx;by_cases hnil:l2=[]
  ·subst hnil;refine⟨[],?_,by simpa using aX.nil⟩;rw[e1];cases a with
   | none=>exact Src.ofNil w q1 _
   | some a=>exact Src.ofSlice w q1 a 0 cap [] (by simp) (by simp) (by simp)
  ·rcases e3 with e3|⟨b,off,sz',rfl,e4⟩
   ·exact absurd e3 hnil
   ·have hsz':sz'=sz:=by
     cases l2 with
     | nil=>exact absurd rfl hnil
     | cons y ys=>
      simp only[iX]at e4;rw[←e4.1.1];exact h2 y (by simp)
    subst hsz';obtain⟨vs,k1,k2,k3⟩:=Ib e4;refine⟨vs,?_,k1⟩;rw[e1];refine Src.ofSlice w q1 ⟨b,off,none⟩ _ cap vs k2 (fun j u hj=>by rw[afW];exact(k3 j u hj).2) (k1.oneCell ?_);rw[agD];intro p hp;rw[List.mem_flatten]at hp;obtain⟨y,hy,hp⟩:=hp;exact agD.1 (h3 y hy) p hp
 subst g2 g3;obtain⟨v',w',r1,r2,r3,_,r5⟩:=Gg (ty:=o.type) hf.und g1 g4 g5 hrow hsrc (by omega) (by simpa using hb2);have anM:xs=[]:=abv (by rw[hrow.1];simp);subst anM;rw[List.nil_append,ahw]at r2;obtain⟨p1,p2⟩:=zY hi (.buf v' l2.length inf.size e l2.flatten);have hc1:=hc.perm p1
 have hm0:∀b,v.ownBlock=some b→∀off,¬m b off:=fun b hb off h=>by
  have:=Si b hb off h;omega
 have hos:w'.os=w.os∧w'.tape=w.tape∧w'.output=w.output∧w.heap.size≤w'.heap.size:=by
  rcases r3 with⟨_,hg⟩|⟨_,hg⟩<;>exact⟨hg.os,hg.tape,hg.output,hg.size⟩
 have hkeep:∀b,b<w.heap.size→v.ownBlock≠some b→w'.heap[b]?=w.heap[b]?:=by
  intro b hb hne;rcases r3 with⟨_,hg⟩|⟨_,hg⟩
  ·exact hg.block b hb (fun h=>hne h.symm)
  ·exact hg.block b hb (by simp)
 have hle:Le w m w' m:=fun b off hm=>⟨hm,agj (w:=w) (hkeep b (hc.wf b off hm) (fun h=>hm0 b h off hm))⟩
 have hm':∀b,v'.ownBlock=some b→∀off,¬m b off:=by
  intro b hb off hm;rcases r3 with⟨h1,_⟩|⟨h1,_⟩
  ·exact hm0 b (h1 ▸ hb) off hm
  ·rw[h1]at hb;cases hb;have:=hc.wf _ off hm;omega
 have hk:Conc w' m [.buf v' l2.length inf.size e l2.flatten]:=
  ⟨fun r hr=>by rw[ajB]at hr;subst hr;exact⟨news,r2,aX.mono hle _ _ hnews,hm'⟩,by cases h:v'.ownBlock<;>simp[j_,aS.fp,h],fun b off hm=>by have:=hc.wf b off hm;omega,gD.mono hle hc.qY⟩
 have ht:Trans w m [.row v 0 inf.size e] w' m [.buf v' l2.length inf.size e l2.flatten]:=by
  refine⟨hos.1,hos.2.1,hos.2.2.1,hos.2.2.2,hle,fun b hb hn=>⟨hkeep b hb fun h=>hn (by simp[j_,aS.fp,h]),fun _ h=>h⟩,fun b hb=>?_,fun _=>r5⟩;simp[j_,aS.fp]at hb;rcases r3 with⟨h1,_⟩|⟨h1,_⟩
  ·left;simp[j_,aS.fp,←h1,hb]
  ·right;rw[h1]at hb;simp at hb;omega
 obtain⟨f1,f2⟩:=Conc.frame hc1 hk ht
 have hilt:i<σ.length:=by
  rcases zJ i σ.length with h|h
  ·exact h
  ·simp[CF h]at hi
 have hset:∀(σ:List aS) (i:Nat) (r:aS),i<σ.length→DW σ i r=some (σ.set i r):=by
  intro σ
  induction σ with
  | nil=>intro i r h;simp at h
  | cons a σ ih=>
   intro i r h;cases i with
   | zero=>simp[DW]
   | succ i=>simp only[DW,ih i r (by simpa using h),akG]
 refine⟨.val v',_,v',w',m,hR v' _ (hset σ i _ hilt),?_,by simp only[cu],f1.perm p2.symm,f2.perm p1.symm p2.symm⟩;simp only[execOp,ho,resolve,iB,hargs,hty,invoke,builtin,Sem.run_bind,zf,jQ];simp only[List.map_toArray,agf,List.map_nil,hev,r1,jQ]
theorem Lc{t e n:Nat}{k:IntKind}(hu:P.underlying t=some (.array n e))(he:P.underlying e=some (.int k))(hce:P.cellsOf e=1)(hct:P.cellsOf t=n){Dr:List Int}(hn:Dr.length=n)(hw:∀a∈Dr,(Lit.int k a).wf=true):
  P.keyLits 2 t (Dr.map (Value.int k))=some (Dr.map (Lit.int k)):=by
 have h1:(List.range n).mapM (fun i=>P.keyLits 1 e (((Dr.map (Value.int k)).drop (i*P.cellsOf e)).take (P.cellsOf e)))=some ((List.range n).map fun i=>[Lit.int k (Dr.getD i 0)]):=by
  refine Go.ChangeShapes.mapM_range_of n fun i hi=>?_;have hi':i<Dr.length:=by omega
  have hd:((Dr.map (Value.int k)).drop (i*1)).take 1=[Value.int k Dr[i]]:=by
   rw[Nat.mul_one,aiH (by simpa using hi')];simp
  rw[hce,hd];simp only[Program.keyLits,he];rw[ahH ⟨trivial,hw _ (List.getElem_mem hi')⟩];simp[List.getD_eq_getElem?_getD,hi']
 have h2:((List.range n).map fun i=>[Lit.int k (Dr.getD i 0)]).flatten=Dr.map (Lit.int k):=by
  rw[←List.flatMap_def];apply List.ext_getElem?;intro i
  have:(List.range n).flatMap (fun i=>[Lit.int k (Dr.getD i 0)])=(List.range n).map fun i=>Lit.int k (Dr.getD i 0):=by
   induction (List.range n)with
   | nil=>rfl
   | cons a l ih=>rw[ac3,ih,agf];rfl
  rw[this];rcases zJ i n with h|h
  ·simp[h,show i<Dr.length by omega,List.getD_eq_getElem?_getD]
  ·rw[CF (by simpa using h),CF (by simp;omega)]
 unfold Program.keyLits;rw[hu];simp only[List.length_map,hn,hct,if_true];rw[h1,Option.map_some,h2]
end
end Go.Abs
namespace Go.Abs
variable [gD]
open Go
inductive Ah (P:Program):TypeId→List PV→Prop
 | bool {t:TypeId} {b:Bool}:P.underlying t=some .bool→Ah P t [.bool b]
 | int {t:TypeId} {k:IntKind} {n:Int}:P.underlying t=some (.int k)→(Lit.int k n).wf=true→Ah P t [.int k n]
 | str {t:TypeId} {s:List UInt8}:P.underlying t=some .string→s.length≤maxLen→Ah P t [.str s]
 | slice {t e:TypeId} {l:List (List PV)}:P.underlying t=some (.slice e)→l.length≤maxLen→(∀c∈l,Ah P e c)→Ah P t [.list l]
 | struct {t:TypeId} {fs:Array Field} {ps:List (List PV)}:P.underlying t=some (.struct fs)→ps.length=fs.toList.length→(∀x∈fs.toList.zip ps,Ah P x.1.type x.2)→Ah P t ps.flatten
 | array {t e:TypeId} {n:Nat} {ps:List (List PV)}:P.underlying t=some (.array n e)→ps.length=n→(∀c∈ps,Ah P e c)→Ah P t ps.flatten
def Wy(P:Program):List Field→Nat→Nat→Bool
 | [],off,n=>off==n
 | f::fs,off,n=>f.offset==off&&Wy P fs (off+P.cellsOf f.type) n
def ER(P:Program)(S:List TypeId)(t:TypeId):Bool:=
 match P.underlying t with
 | some .bool=>true
 | some (.int _)=>true
 | some .string=>true
 | some (.slice e)=>decide (0<P.cellsOf e)&&S.contains e
 | some (.struct fs)=>Wy P fs.toList 0 (P.cellsOf t)&&fs.toList.all fun f=>S.contains f.type
 | some (.array n e)=>(P.cellsOf t==n*P.cellsOf e)&&S.contains e
 | _=>false
theorem mapM_at{α β:Type}{f:α→Option β}:∀ {l:List α} {r:List β},l.mapM f=some r→r.length=l.length∧∀(i:Nat) (x:α),l[i]?=some x→f x=r[i]?
 | [],r,h=>by simp at h;subst h;simp
 | a::l,r,h=>by
  rw[akQ]at h;cases ha:f a with
  | none=>simp[ha]at h
  | some b=>
   cases hl:l.mapM f with
   | none=>simp[ha,hl]at h
   | some bs=>
    simp[ha,hl]at h;subst h;obtain⟨h1,h2⟩:=mapM_at hl;refine⟨by simp[h1],fun i x hx=>?_⟩;cases i with
    | zero=>simp at hx;subst hx;simp[ha]
    | succ i=>simp at hx⊢;exact h2 i x hx
theorem vM{β:Type}{f:Nat→Option β}{n:Nat}{r:List β}(h:(List.range n).mapM f=some r):r.length=n∧∀i,i<n→f i=r[i]?:=by
 obtain⟨h1,h2⟩:=mapM_at h;refine⟨by simpa using h1,fun i hi=>h2 i i (by simp[hi])⟩
section
variable {P : Program} {w : World}
def wL(w:World):jd:=fun b _=>b<w.heap.size
theorem UH{a:Addr}{v:Value}(h:w.cell? a=some v):a=⟨a.block,a.off,none⟩∧a.block<w.heap.size:=by
 unfold World.cell? at h;split at h
 ·rename_i c ty fz hb;split at h
  ·cases h
  ·rename_i hs;obtain⟨b,o,s⟩:=a;simp at hs;subst hs
   exact⟨rfl,by
    rcases zJ b w.heap.size with h'|h'
    ·exact h'
    ·simp[ZR h']at hb⟩
 ·cases h
theorem PE{m:jd}{b:Nat}{pvs:List PV}{cs:List Value}{off:Nat}(hr:aX w m pvs cs)(hm:∀i,m b i)(hc:∀i v,cs[i]?=some v→w.cell? ⟨b,off+i,none⟩=some v):ou w m b off pvs:=
 mF.2 ⟨cs,hr,fun i v hv=>⟨hm _,hc i v hv⟩⟩
theorem KI{m:jd}{b sz:Nat}{f:Nat→List PV}:∀(n s off:Nat),(∀i,i<n→(f (s+i)).length=sz∧ou w m b (off+i*sz) (f (s+i)))→iX w m b sz off ((List.range' s n).map f)
 | 0,_,_,_=>by simp[iX]
 | n+1,s,off,h=>by
  rw[List.range'_succ,agf];simp only[iX];have h0:=h 0 (by omega);simp only[akM,Nat.zero_mul]at h0;refine⟨h0,KI n (s+1) (off+sz) fun i hi=>?_⟩;have:=h (i+1) (by omega);rw[show s+(i+1)=s+1+i by omega,show off+(i+1)*sz=off+sz+i*sz by rw[aiq];omega]at this;exact this
theorem Pz{m:jd}{cs:List Value}{g:Field→List PV}:∀(fs:List Field) (off n:Nat),Wy P fs off n=true→n=cs.length→
  (∀f∈fs,aX w m (g f) ((cs.drop f.offset).take (P.cellsOf f.type)))→aX w m (fs.map g).flatten (cs.drop off)
 | [],off,n,ht,hn,_=>by
  simp only[Wy,beq_iff_eq]at ht;rw[List.drop_eq_nil_of_le (by omega)];exact aX.nil
 | f::fs,off,n,ht,hn,h=>by
  simp only[Wy,ahK,beq_iff_eq]at ht;have h1:=h f ale;rw[ht.1]at h1;have:=Pz fs _ n ht.2 hn fun x hx=>h x (akL _ hx);rw[agf,aiG]
  have e:cs.drop off=(cs.drop off).take (P.cellsOf f.type)++cs.drop (off+P.cellsOf f.type):=by
   conv=>lhs;rw[←ae0 (P.cellsOf f.type) (cs.drop off),List.drop_drop]
  rw[e];exact h1.append this
theorem TB{m:jd}{cs:List Value}{sz:Nat}{g:Nat→List PV}:∀(n s:Nat),cs.length=(s+n)*sz→
  (∀i,i<s+n→aX w m (g i) ((cs.drop (i*sz)).take sz))→aX w m ((List.range' s n).map g).flatten (cs.drop (s*sz))
 | 0,s,hn,_=>by
  rw[List.drop_eq_nil_of_le (by rw[hn];simp)];exact aX.nil
 | n+1,s,hn,h=>by
  have:=TB n (s+1) (by rw[hn];congr 1;omega) fun i hi=>h i (by omega);rw[List.range'_succ,agf,aiG]
  have e:cs.drop (s*sz)=(cs.drop (s*sz)).take sz++cs.drop ((s+1)*sz):=by
   conv=>lhs;rw[←ae0 sz (cs.drop (s*sz)),List.drop_drop]
   rw[show (s+1)*sz=s*sz+sz by rw[aiq,Nat.one_mul]]
  rw[e];exact(h s (by omega)).append this
theorem OZ{α β:Type}(g:α→β):∀(l:List α) (x:α × β),x∈l.zip (l.map g)→x.1∈l∧x.2=g x.1
 | [],x,h=>by simp at h
 | a::l,x,h=>by
  rw[agf,List.zip_cons_cons,agh]at h;rcases h with rfl|h
  ·exact⟨ale,rfl⟩
  ·exact⟨akL _ (OZ g l x h).1,(OZ g l x h).2⟩
theorem J8{α β:Type}{p:α→β→Prop}(h:∀a,∃b,p a b):∃g:α→β,∀a,p a (g a):=⟨fun a=>(h a).choose,fun a=>(h a).choose_spec⟩
inductive TyV (P:Program):TypeId→PV→Prop
 | one {t:TypeId} {p:PV}:Ah P t [p]→(∀fs,P.underlying t≠some (.struct fs))→(∀n e,P.underlying t≠some (.array n e))→TyV P t p
 | agg {t:TypeId} {cs:List PV}:Ah P t cs→((∃fs,P.underlying t=some (.struct fs))∨∃n e,P.underlying t=some (.array n e))→TyV P t (.agg cs)
theorem ad_{m:jd}{ps:List PV}{v:Value}(h:aX w m ps [v]):∃p,ps=[p]∧cu w m p v:=by
 cases ps with
 | nil=>simp[aX]at h
 | cons p ps=>
  simp only[aX,List.cons.injEq]at h;obtain⟨v',vs',⟨rfl,rfl⟩,h1,h2⟩:=h;cases ps with
  | nil=>exact⟨p,rfl,h1⟩
  | cons q qs=>simp[aX]at h2
theorem Js{H:Type}{enc:TypeId × Value→H}(hl:laidOutB P=true){W W':World}(hb:Go.RowKit.Below W.heap.size W W'):
  ∀(ts:List TypeId) (vs:List Value) (ds:List (DataW H)) (ps:List MemPlace),(∀t∈ts,P.readableRec t=true∧t<P.types.size)→DataW.TrodAll enc P W 0 (fun _=>true) true ts vs ds ps→
  (∀x∈ps,x.block<W.heap.size)→DataW.TrodAll enc P W' 0 (fun b=>decide (b<W.heap.size)) true ts vs ds ps
 | [],[],[],_,_,h,_=>h
 | t::ts,v::vs,d::ds,ps,ht,h,hlt=>by
  obtain⟨p,q,h1,h2,rfl⟩:=h;have:=ht t ale
  exact⟨p,q,Go.RowKit.Below.trod hl this.1 this.2 h1 hb fun x hx=>hlt x (List.mem_append_left _ hx),
   Js hl hb ts vs ds q (fun x hx=>ht x (akL _ hx)) h2 fun x hx=>hlt x (List.mem_append_right _ hx),rfl⟩
 | [],[],_::_,_,_,h,_=>h.elim
 | [],_::_,_,_,_,h,_=>by cases h
 | _::_,[],_,_,_,h,_=>by cases h
 | _::_,_::_,[],_,_,h,_=>h.elim
theorem Ah.aeU{t:TypeId}{k:IntKind}{c:List PV}(h:Ah P t c)(hu:P.underlying t=some (.int k)):∃n,c=[.int k n]∧(Lit.int k n).wf=true:=by
 cases h with
 | bool h=>rw[hu]at h;cases h
 | int h hw=>rw[hu]at h;cases h;exact⟨_,rfl,hw⟩
 | str h=>rw[hu]at h;cases h
 | slice h=>rw[hu]at h;cases h
 | struct h=>rw[hu]at h;cases h
 | array h=>rw[hu]at h;cases h
theorem Ah.abf{t:TypeId}{c:List PV}(h:Ah P t c)(hu:P.underlying t=some .bool):∃b,c=[.bool b]:=by
 cases h with
 | bool h=>exact⟨_,rfl⟩
 | int h=>rw[hu]at h;cases h
 | str h=>rw[hu]at h;cases h
 | slice h=>rw[hu]at h;cases h
 | struct h=>rw[hu]at h;cases h
 | array h=>rw[hu]at h;cases h
theorem Ah.ag4{t:TypeId}{c:List PV}(h:Ah P t c)(hu:P.underlying t=some .string):∃s,c=[.str s]∧s.length≤maxLen:=by
 cases h with
 | bool h=>rw[hu]at h;cases h
 | int h=>rw[hu]at h;cases h
 | str h hl=>exact⟨_,rfl,hl⟩
 | slice h=>rw[hu]at h;cases h
 | struct h=>rw[hu]at h;cases h
 | array h=>rw[hu]at h;cases h
theorem Ah.JA{t e:TypeId}{c:List PV}(h:Ah P t c)(hu:P.underlying t=some (.slice e)):∃l,c=[.list l]∧l.length≤maxLen∧∀x∈l,Ah P e x:=by
 cases h with
 | bool h=>rw[hu]at h;cases h
 | int h=>rw[hu]at h;cases h
 | str h=>rw[hu]at h;cases h
 | slice h h1 h2=>rw[hu]at h;cases h;exact⟨_,rfl,h1,h2⟩
 | struct h=>rw[hu]at h;cases h
 | array h=>rw[hu]at h;cases h
theorem Ah.Ii{t:TypeId}{fs:Array Field}{c:List PV}(h:Ah P t c)(hu:P.underlying t=some (.struct fs)):∃ps:List (List PV),c=ps.flatten∧ps.length=fs.toList.length∧∀x∈fs.toList.zip ps,Ah P x.1.type x.2:=by
 cases h with
 | bool h=>rw[hu]at h;cases h
 | int h=>rw[hu]at h;cases h
 | str h=>rw[hu]at h;cases h
 | slice h=>rw[hu]at h;cases h
 | struct h h1 h2=>rw[hu]at h;cases h;exact⟨_,rfl,h1,h2⟩
 | array h=>rw[hu]at h;cases h
theorem TyV.aes{t:TypeId}{p:PV}(h:TyV P t p)(h1:∀fs,P.underlying t≠some (.struct fs))(h2:∀n e,P.underlying t≠some (.array n e)):Ah P t [p]:=by
 cases h with
 | one h _ _=>exact h
 | agg _ h=>
  rcases h with⟨fs,h⟩|⟨n,e,h⟩
  ·exact absurd h (h1 fs)
  ·exact absurd h (h2 n e)
theorem TyV.aeU{t:TypeId}{k:IntKind}{p:PV}(h:TyV P t p)(hu:P.underlying t=some (.int k)):∃n,p=.int k n∧(Lit.int k n).wf=true:=by
 obtain⟨n,e,hw⟩:=(h.aes (by simp[hu]) (by simp[hu])).aeU hu;cases e;exact⟨n,rfl,hw⟩
theorem TyV.abf{t:TypeId}{p:PV}(h:TyV P t p)(hu:P.underlying t=some .bool):∃b,p=.bool b:=by
 obtain⟨n,e⟩:=(h.aes (by simp[hu]) (by simp[hu])).abf hu;cases e;exact⟨n,rfl⟩
theorem TyV.ag4{t:TypeId}{p:PV}(h:TyV P t p)(hu:P.underlying t=some .string):∃s,p=.str s∧s.length≤maxLen:=by
 obtain⟨n,e,hw⟩:=(h.aes (by simp[hu]) (by simp[hu])).ag4 hu;cases e;exact⟨n,rfl,hw⟩
theorem TyV.JA{t e:TypeId}{p:PV}(h:TyV P t p)(hu:P.underlying t=some (.slice e)):∃l,p=.list l∧l.length≤maxLen∧∀x∈l,Ah P e x:=by
 obtain⟨n,e,hw⟩:=(h.aes (by simp[hu]) (by simp[hu])).JA hu;cases e;exact⟨n,rfl,hw⟩
theorem TyV.amV{t:TypeId}{p:PV}(h:TyV P t p)(hu:(∃fs,P.underlying t=some (.struct fs))∨∃n e,P.underlying t=some (.array n e)):∃cs,p=.agg cs∧Ah P t cs:=by
 cases h with
 | one _ h1 h2=>
  rcases hu with⟨fs,h⟩|⟨n,e,h⟩
  ·exact absurd h (h1 fs)
  ·exact absurd h (h2 n e)
 | agg h _=>exact⟨_,rfl,h⟩
theorem wf_u64{n:Int}(h:(Lit.int .u64 n).wf=true):∃x:BitVec 64,n=(x.toNat:Int):=by
 have h':0≤n∧n≤18446744073709551615:=by simpa[Lit.wf,IntKind.min,IntKind.max,IntKind.signed,IntKind.bits]using h
 refine⟨BitVec.ofNat 64 n.toNat,?_⟩;rw[BitVec.toNat_ofNat,Nat.mod_eq_of_lt (by omega)];omega
end
end Go.Abs
