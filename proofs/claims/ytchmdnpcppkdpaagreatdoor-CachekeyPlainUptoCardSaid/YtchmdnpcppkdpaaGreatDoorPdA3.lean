/- Proved here: how a functional text stands for a walk of the given code: ranges, maps, sorted lists, library functions. -/
import Derived.Test.YtchmdnpcppkdpaaGreatDoorPdA2
import Derived.RangeFuncRecord
import Derived.RangeFuncIn
import Derived.OrdersIn
import Derived.TacticsIn
import Derived.Test.YtchmdnpcppkdpaaGreatDoorPdA1
import Derived.Test.YtchmdnpcppkdpaaGreatDoorPdWords
import Derived.Shelf.SlSortCmp.NoneTotal
import Derived.Shelf.Slices.CompactS
import Derived.Shelf.Strings.Search3
import Derived.Shelf.Strings.Split
import Derived.Shelf.Strings.OnBuilder
import Derived.Shelf.Strconv.Itoa3
import Derived.Shelf.Strconv.AtoiAll
import Derived.Lib.LaidTab
import Derived.Stop.LaidErr
import Derived.Lib.ItoaNum
import Derived.Shelf.Vars
import Derived.Shelf.Strings.Replace
import Derived.Laws.MakeOwn
set_option linter.unusedVariables false
set_option linter.unusedSimpArgs false
set_option linter.defProp false
set_option linter.unusedSectionVars false
namespace Go
def am7:=@List.set_append_right
def am9:=@decide_eq_false_iff_not
def am_:=@Array.getElem?_modify
def anA:=@List.getElem?_cons_zero
def anB:=@Go.callsIn_wide
def ana:=@Int.toNat_natCast
def anb:=@Array.getElem?_eq_getElem
def anc:=@Nat.sub_self
def ane:=@Nat.lt_of_lt_of_le
def ani:=@Nat.mul_one
def anj:=@Array.getElem?_toList
def anm:=@Bool.false_eq_true
def ano:=@List.map_map
def anq:=@getElem!_pos
end Go
namespace Go.Abs
variable [gD]
open Go
def Yq(r:Option Nat):Fence:={Fence.wide with round:=r}
def xP(o:Oper):Bool:=match o.op with|.defer _=>false|_=>true
theorem JU{o:Oper}(h:xP o=true):∀c,o.op≠.defer c:=by
 intro c hc;unfold xP at h;rw[hc]at h;cases h
section
variable {P : Program} {n : Nat} {r : Option Nat} {env : Env} {σ : List aS} {ds : List Deferred} {Q : Post} {all : Array Oper} {rest : List Oper} {o : Oper}
theorem afr{f:FuncId}{args:Array Value}{w:World}{R:Ending→World→Prop}{n:Nat}(h:Calls P f args w R):CallsIn (Yq r) n P f args w R:=by
 have:=(anB (n:=n)).2 h;exact this
theorem ag_{row:String}{args:Array Value}{w:World}{R:Value→World→Prop}{n:Nat}(h:Rows P row args w R):RowsIn (Yq r) n P row args w R:=
 fun c cs _=>let⟨v,w',r,s⟩:=h c cs;⟨v,w',r,stepsIn_wide.2 s⟩
theorem U8{a:Act}{w:World}{K:Act→World→Prop}{Q:Exit→Act→World→Prop}(hd:xP o=true)(h:o.wp P a w K Q):o.wpIn (Yq r) 0 P a w K Q:=by
 refine⟨fun _ _=>trivial,?_⟩;rw[Oper.semAt_eq _ _ _ (JU hd)];unfold Oper.wp at h;generalize (execOp a.eval o).run P w=x at h⊢;cases x with
 | ok v w'=>
  cases v<;>simp only[Oper.upon,Oper.uponIn]at h⊢<;>first
   | exact h
   | exact⟨fun hh=>by simp[Yq,Fence.wide]at hh,afr h⟩
   | exact⟨fun hh=>by simp[Yq,Fence.wide]at hh,ag_ h⟩
 | halt v w'=>cases v<;>simp only[Oper.upon,Oper.uponIn]at h⊢<;>exact h
theorem OJ{Q:Exit→Act→World→Prop}(hno:¬LetsOut Q):∀(l:List Oper) (a:Act) (w:World),(∀o∈l,xP o=true)→wpList P all Q l a w→wpListIn (Yq r) 0 P all Q l a w
 | [],a,w,_,h=>h
 | o::rest,a,w,hd,h=>by
  unfold wpList at h;unfold wpListIn;split
  ·rename_i hw;rw[ahH hw]at h;rcases h with h|⟨_,h⟩
   ·exact Oper.wpIn_mono (fun a w h=>OJ hno rest a w (fun o ho=>hd o (by simp[ho])) h) (U8 (hd o (by simp)) h)
   ·exact(hno h).elim
  ·rename_i hw;rw[ahC hw]at h;exact⟨fun _ _=>trivial,OJ hno rest _ _ (fun o ho=>hd o (by simp[ho])) h⟩
def vF(P:Program)(r:Option Nat)(n:Nat)(c:Code)(env:Env)(σ:List aS)(ds:List Deferred)(Q:Post):Prop:=
 ∀w m a QC,om w m n env σ ds a→Acc n Q w m σ QC→c.wpIn (Yq r) 0 P QC a w
def Qa(Q:Exit→Act→World→Prop):Exit→Act→World→Prop:=fun e a w=>e≠.outgrown∧Q e a w
theorem D8(Q:Exit→Act→World→Prop):¬LetsOut (Qa Q):=fun⟨_,_,h,_⟩=>h rfl
theorem Acc.Qa{w:World}{m:jd}{QC:Exit→Act→World→Prop}(h:Acc n Q w m σ QC):Acc n Q w m σ (Abs.Qa QC):=by
 intro x ex env' σ' ds' a' w' m' hq hx hs ht;refine⟨?_,h x ex env' σ' ds' a' w' m' hq hx hs ht⟩;rintro rfl;cases x<;>simp[amY]at hx
theorem vF.region{id:Nat}{l:List Oper}(hd:(l.all xP)=true)(h:AR P n l.toArray l env σ ds Q):vF P r n (.region id l.toArray false) env σ ds Q:=by
 intro w m a QC hs ha;rw[agD]at hd;refine wpIn_mono (wpIn_region_lit (OJ (D8 QC) l a w hd (h w m a _ hs ha.Qa))) fun e a w h=>h.2
theorem vF.skip(h:Q .normal env σ ds):vF P r n .skip env σ ds Q:=
 fun w m a _ hs ha=>wpIn_skip (ha .normal .normal env σ ds a w m h rfl hs (Trans.refl ..))
theorem vF.exit{id:Nat}(h:Q (.exit id) env σ ds):vF P r n (.exit id) env σ ds Q:=
 fun w m a _ hs ha=>wpIn_exit (ha (.exit id) (.exit id) env σ ds a w m h rfl hs (Trans.refl ..))
theorem vF.ret(h:Q .ret env σ ds):vF P r n .ret env σ ds Q:=
 fun w m a _ hs ha=>wpIn_ret (ha .ret .ret env σ ds a w m h rfl hs (Trans.refl ..))
theorem vF.seq{c d:Code}(h:vF P r n c env σ ds (AX.then (fun e s ds=>vF P r n d e s ds Q) Q)):vF P r n (.seq c d) env σ ds Q:=by
 intro w m a QC hs ha;refine wpIn_seq (h w m a _ hs ?_);intro x ex e1 σ1 d1 a1 w1 m1 hq hx hs1 ht;cases x with
 | normal=>cases hx;exact hq w1 m1 a1 QC hs1 (ha.step ht)
 | exit id=>cases hx;exact ha (.exit id) _ e1 σ1 d1 a1 w1 m1 hq rfl hs1 ht
 | ret=>cases hx;exact ha .ret _ e1 σ1 d1 a1 w1 m1 hq rfl hs1 ht
 | panic p=>obtain⟨v,rfl,hv⟩:=hx;exact ha (.panic p) _ e1 σ1 d1 a1 w1 m1 hq ⟨v,rfl,hv⟩ hs1 ht
theorem vF.cond{c:Operand}{x y:Code}{b:Bool}(hc:env.ev c=.bool b)(ht:b=true→vF P r n x env σ ds Q)(hf:b=false→vF P r n y env σ ds Q):
  vF P r n (.cond c x y) env σ ds Q:=by
 intro w m a QC hs ha;have he:=hs.env.ev c;rw[hc]at he;simp only[cu]at he;exact wpIn_cond_split he (fun h=>ht h w m a QC hs ha) (fun h=>hf h w m a QC hs ha)
theorem vF.block{id:Nat}{c:Code}(h:vF P r n c env σ ds (AX.inBlock id Q)):vF P r n (.block id c) env σ ds Q:=by
 intro w m a QC hs ha;refine wpIn_block (h w m a _ hs ?_);intro x ex e1 σ1 d1 a1 w1 m1 hq hx hs1 ht;cases x with
 | normal=>cases hx;exact ha .normal _ e1 σ1 d1 a1 w1 m1 hq rfl hs1 ht
 | exit id'=>
  cases hx;simp only[Exit.inBlock];simp only[AX.inBlock]at hq;by_cases e:id'=id
  ·subst e;simp only[Nat.beq_refl,ajC]at hq;rw[ahH rfl];exact ha .normal _ e1 σ1 d1 a1 w1 m1 hq rfl hs1 ht
  ·have:Nat.beq id' id=false:=vD e;simp only[this,akP]at hq;rw[ahC e];exact ha (.exit id') _ e1 σ1 d1 a1 w1 m1 hq rfl hs1 ht
 | ret=>cases hx;exact ha .ret _ e1 σ1 d1 a1 w1 m1 hq rfl hs1 ht
 | panic p=>obtain⟨v,rfl,hv⟩:=hx;exact ha (.panic p) _ e1 σ1 d1 a1 w1 m1 hq ⟨v,rfl,hv⟩ hs1 ht
theorem vF.mono{c:Code}{Q':Post}(h:vF P r n c env σ ds Q)(hq:∀x e s d,Q x e s d→Q' x e s d):vF P r n c env σ ds Q':=
 fun w m a QC hs ha=>h w m a QC hs fun x ex env' σ' ds' a' w' m' h1 h2 h3 h4=>ha x ex env' σ' ds' a' w' m' (hq _ _ _ _ h1) h2 h3 h4
theorem vF.settle{c:Code}{env':Env}(ps:List Nat)(hs:Abs.settle ps env=some env')(h:vF P r n c env' σ ds Q):vF P r n c env σ ds Q:=
 fun w m a QC qX ha=>h w m a QC ⟨qX.size,qX.ds,qX.env.settle hs,qX.gY⟩ ha
theorem vF.frame{c:Code}{τ:List aS}(h:vF P r n c env σ ds Q):vF P r n c env (σ++τ) ds (fun x e s d=>∃s0,s=s0++τ∧Q x e s0 d):=by
 intro w m a QC hs ha;refine h w m a QC ⟨hs.size,hs.ds,hs.env,hs.gY.left⟩ fun x ex e' σ' ds' a' w' m' hq hx hs' ht=>?_;obtain⟨k1,k2⟩:=Conc.frame hs.gY hs'.gY ht;exact ha x ex e' (σ'++τ) ds' a' w' m' ⟨σ',rfl,hq⟩ hx ⟨hs'.size,hs'.ds,hs'.env,k1⟩ k2
def Ez(P:Program)(r:Option Nat)(n:Nat)(all:Array Oper)(l:List Oper)(env:Env)(σ:List aS)(ds:List Deferred)(Q:Post):Prop:=
 ∀w m a QC,om w m n env σ ds a→Acc n Q w m σ QC→wpListIn (Yq r) 0 P all QC l a w
theorem Ez.of{l:List Oper}(hd:(l.all xP)=true)(h:AR P n all l env σ ds Q):Ez P r n all l env σ ds Q:=by
 intro w m a QC hs ha;rw[agD]at hd;have:=OJ (r:=r) (D8 QC) l a w hd (h w m a _ hs ha.Qa)
 have key:∀(l:List Oper) (a:Act) (w:World),wpListIn (Yq r) 0 P all (Qa QC) l a w→wpListIn (Yq r) 0 P all QC l a w:=by
  intro l
  induction l with
  | nil=>intro a w h;exact h.2
  | cons o l ih=>
   intro a w h;unfold wpListIn at h⊢;split
   ·rename_i hw;rw[ahH hw]at h;refine⟨h.1,?_⟩;have h2:=h.2;generalize (o.semAt (Yq r).round a.eval).run P w=x at h2⊢;cases x with
    | ok v w'=>
     cases v<;>simp only[Oper.uponIn]at h2⊢<;>first
      | exact ih _ _ h2
      | exact⟨h2.1,CallsIn.mono h2.2 fun e w'' he=>by
        cases e with
        | returned v=>exact ih _ _ he
        | panicked c=>exact he.2
        | outgrown=>exact(D8 QC he).elim⟩
      | exact⟨h2.1,RowsIn.mono h2.2 fun v w'' he=>ih _ _ he⟩
      | exact⟨h2.1,RoundIn.mono h2.2 fun e w'' he=>by
        cases e with
        | returned v=>exact ih _ _ he
        | panicked c=>exact he.2
        | outgrown=>exact(D8 QC he).elim⟩
    | halt v w'=>
     cases v<;>simp only[Oper.uponIn]at h2⊢<;>exact h2.2
   ·rename_i hw;rw[ahC hw]at h;exact⟨h.1,ih _ _ h.2⟩
 exact key l a w this
theorem AW.aaz{id:Nat}{l:List Oper}(h:Ez P none n l.toArray l env σ ds Q):AW P n (.region id l.toArray false) env σ ds Q:=
 fun w m a QC hs ha=>wpIn_wide.1 (wpIn_region_lit (F:=Yq none) (n:=0) (h w m a QC hs ha))
theorem Ez.step{t:Nat}(hnd:xP o=true)(hg:o.guard=none)(hd:o.dst=some t)(ht:Nat.blt t n=true)
  (h:AO P o env.ev σ (fun p σ'=>Ez P r n all rest ((t,p)::env) σ' ds Q) (fun p σ'=>Q (.panic p) env σ' ds)):
  Ez P r n all (o::rest) env σ ds Q:=by
 intro w m a QC hs ha;have ht:t<n:=abq ht;refine wpListIn_plain hg fun K hK=>U8 hnd ?_;refine h w m a K QC (fun x _=>hs.env.ev x) hs.gY ?_ ?_
 ·intro p σ' v w' m' hr hv hc htr;exact hK _ _ (hr w' m' _ QC (hs.put hd ht hv hc htr.le) (ha.step htr))
 ·intro p σ' v w' m' hr hv hc htr;exact ha (.panic p) _ _ _ _ a w' m' hr ⟨v,rfl,hv⟩ ⟨hs.size,hs.ds,hs.env.mono htr.le,hc⟩ htr
def AY(P:Program)(l:Nat)(args:List PV)(σ:List aS)(R:dO→List aS→Prop):Prop:=
 ∀w m vs,Conc w m σ→aX w m args vs→∃fn tmps assign body,(Instr.yield l vs.toArray).run P w=.ok (.round l fn tmps assign body) w∧
  RoundIn Fence.wide 0 P l fn tmps assign body w fun e w'=>∃out σ' m',R out σ'∧Ar w' m' out e∧Conc w' m' σ'∧Trans w m σ w' m' σ'
theorem Ez.yield{t l:Nat}{c:Call}{σ':List aS}{p:PV}(hnd:xP o=true)(hg:o.guard=none)(hd:o.dst=some t)(ht:Nat.blt t n=true)(ho:o.op=.call c)(FT:Operand)(iB:c.callee=.value FT)
  (hf:env.ev FT=.val (.func (.yield l) #[] #[])) (h:AY P l ((c.args.toList.map env.ev).map PV.weak) σ (fun out s=>out=.ret p∧s=σ'))
  (hk:Ez P r n all rest ((t,p)::env) σ' ds Q):Ez P r n all (o::rest) env σ ds Q:=by
 intro w m a QC hs ha;have ht:t<n:=abq ht;refine wpListIn_plain hg fun K hK=>⟨fun _ _=>trivial,?_⟩;rw[Oper.semAt_eq _ _ _ (JU hnd)];have hcv:=hs.env.ev FT;rw[hf]at hcv;simp only[cu]at hcv;have hargs:aX w m (c.args.toList.map env.ev) (c.args.toList.map a.eval):=aX.map fun x _=>hs.env.ev x;obtain⟨fn,tmps,assign,body,h1,h2⟩:=h w m _ hs.gY hargs.weak
 have hrun:(execOp a.eval o).run P w=.ok (.round l fn tmps assign body) w:=by
  unfold execOp;simp only[ho,resolve,iB,hcv,Deferred.ofValue,invoke,Sem.run_bind,zf,jQ];rw[←h1];congr 2;apply Array.ext';simp
 rw[hrun];simp only[Oper.uponIn];refine⟨fun hh=>by simp[Yq,Fence.wide]at hh,?_⟩;refine RoundIn.mono (show RoundIn (Yq r) (0-1) P l fn tmps assign body w _ from h2) ?_;rintro e w' ⟨out,s,m',⟨rfl,rfl⟩,⟨v,rfl,hv⟩,hc,htr⟩;exact hK _ _ (hk w' m' _ QC (hs.put hd ht hv hc htr.le) (ha.step htr))
end
def Ra:List Nat→List PV→Env→Env
 | t::ts,p::ps,e=>Ra ts ps ((t,p)::e)
 | _,_,e=>e
theorem L8{w:World}{m:jd}{n:Nat}:∀ {ts:List Nat} {ps:List PV} {vs:List Value} {env:Env} {tmps:Array Value},tmps.size=n→(∀t∈ts,t<n)→aX w m ps vs→CP w m env tmps→
  CP w m (Ra ts ps env) ((ts.zip vs).foldl (fun t (p,v)=>t.setIfInBounds p v) tmps)∧((ts.zip vs).foldl (fun t (p,v)=>t.setIfInBounds p v) tmps).size=n
 | [],_,_,_,_,hn,_,_,h=>by simpa[Ra]using ⟨h,hn⟩
 | t::ts,[],vs,env,tmps,hn,_,hr,h=>by
  simp only[aX]at hr;subst hr;simpa[Ra]using ⟨h,hn⟩
 | t::ts,p::ps,vs,env,tmps,hn,hlt,hr,h=>by
  simp only[aX]at hr;obtain⟨v,vs',rfl,h1,h2⟩:=hr;simp only[Ra,List.zip_cons_cons,List.foldl_cons];refine L8 (by simpa using hn) (fun u hu=>hlt u (by simp[hu])) h2 ?_;exact h.put h1 (by rw[hn];exact hlt t (by simp))
def codeOf:Option AX→Option Code
 | some .ret=>some .ret
 | some (.exit id)=>some (.exit id)
 | _=>none
def vv(D:Nat):Deferred:={target:=.collected D,args:=#[]}
def u6(fn:FuncId)(tmps:Array Value)(ps:Array Tmp)(assign body:Code)(D:Nat)(x:Option AX):Loop:=
 {state:=if (codeOf x).isNone then .ready else .done,pending:=codeOf x,fn,tmps,params:=ps,assign,body,defers:=D}
def roundEnd{β:Type}(T:β→List aS)(pend:β→Option AX)(b:Bool)(s':β):Post:=fun x _ σ d=>d=[]∧(T s').Sublist σ∧
 match x with
 | .normal=>b=true∧pend s'=none
 | .ret=>b=false∧pend s'=some .ret
 | .exit id=>b=false∧pend s'=some (.exit id)
 | .panic _=>False
theorem wM{w:World}{m:jd}{σ:List aS}(hc:Conc w m σ){i b:Nat}{o o':Obj}(hi:σ[i]?=some (.obj b o)):
  Conc (w.putObj b o') m (σ.set i (.obj b o'))∧Trans w m σ (w.putObj b o') m (σ.set i (.obj b o')):=by
 obtain⟨hb,hm⟩:=hc.each _ (acj hi)
 have hblt:b<w.heap.size:=by
  rcases zJ b w.heap.size with h|h
  ·exact h
  ·simp[ZR h]at hb
 exact Conc.write (w':=w.putObj b o') (r':=.obj b o') hc hi rfl rfl hm ⟨World.putObj_heap_same hblt,hm⟩ ⟨rfl,rfl,rfl⟩ (by simp) (fun k hk=>World.putObj_heap_other hk)
section
variable {P : Program} {n : Nat} {env : Env} {σ : List aS} {ds : List Deferred} {Q : Post}
theorem AW.rangeFunc{β X:Type}{g:Operand}{ps:Array Tmp}{assign body:Code}{gf:Nat}{caps:List PV}(hg:env.ev g=.fn gf caps)(hp:dA P gf=true)
  (enc:X→List PV) (henc:∀x,(enc x).length=ps.toList.length) (hps:∀t∈ps.toList,t<n) (y:β→X→Option (Bool × β)) (T:β→List aS) (pend:β→Option AX) {s0 s1:β} (hσ:σ=T s0) (hs0:pend s0=none)
  (hit:∀(l:Nat) (T':β→List aS),(∀s x b s',y s x=some (b,s')→AY P l (enc x) (T' s) (fun out σ'=>out=.ret (.bool b)∧σ'=T' s'))→
   AC P gf (.val (.func (.yield l) #[] #[])::caps) (T' s0) (fun out σ'=>(∃p,out=.ret p)∧σ'=T' s1))
  (round:∀l s x b s',y s x=some (b,s')→pend s=none∧
   vF P (some l) n assign (Ra ps.toList (enc x) env) (T s) [] (fun ax e σ' d=>ax=.normal∧vF P (some l) n body e σ' d (roundEnd T pend b s')))
  (hq:∀D,(match pend s1 with|none=>Q .normal env|some .ret=>Q .ret env|some (.exit id)=>Q (.exit id) env|some _=>fun _ _=>False) (T s1++[aS.obj D (.deferred (some []))]) (vv D::ds)):
  AW P n (.rangeFunc g ps assign body) env σ ds Q:=by
 subst hσ;intro w m a QC hs ha;refine(wpIn_wide (n:=0)).1 (wpIn_rangeFunc fun fn _=>?_);have hge:=hs.env.ev g;rw[hg]at hge;simp only[cu]at hge;obtain⟨cs,hcv,hcs⟩:=hge;have c1:=BS hs.gY (.deferred (some []))
 have t1:=iF (σ':=aS.obj w.heap.size (.deferred (some []))::T s0) hs.gY (.deferred (some [])) (fun _=>False) (fun b hb=>by
  simp[j_,aS.fp]at hb⊢;rcases hb with hb|hb
  ·exact .inr hb
  ·exact .inl hb)
 have c2:=BS c1 (.loop (u6 fn a.tmps ps assign body w.heap.size none))
 have t2:=iF (σ':=.obj (w.alloc (.deferred (some []))).heap.size (.loop (u6 fn a.tmps ps assign body w.heap.size none))::aS.obj w.heap.size (.deferred (some []))::T s0) c1 (.loop (u6 fn a.tmps ps assign body w.heap.size none)) (fun _=>False) (fun b hb=>by
  simp[j_,aS.fp]at hb⊢;rcases hb with hb|hb|hb
  ·exact .inr hb
  ·exact .inl (.inl hb)
  ·exact .inl (.inr hb))
 have hsz:(w.alloc (.deferred (some []))).heap.size=w.heap.size+1:=by simp
 rw[hsz]at c2 t2;generalize hW:(w.alloc (.deferred (some []))).alloc (.loop (u6 fn a.tmps ps assign body w.heap.size none))=W at c2 t2;generalize hM:(fun b off=>(m b off∨b=w.heap.size∧False)∨b=w.heap.size+1∧False)=M at c2 t2;have tW:=t1.trans t2;let rec' (s:β):Loop:=u6 fn a.tmps ps assign body w.heap.size (pend s);let T' (s:β):List aS:=T s++[aS.obj (w.heap.size+1) (.loop (rec' s)),aS.obj w.heap.size (.deferred (some [])),aS.since w m]
 have hT0:(T' s0).Perm (.obj (w.heap.size+1) (.loop (u6 fn a.tmps ps assign body w.heap.size none))::aS.obj w.heap.size (.deferred (some []))::T s0++[aS.since w m]):=by
  simp only[T',rec',hs0];refine al1.trans ?_;simp only[List.cons_append,List.nil_append];refine List.Perm.cons _ (List.Perm.cons _ ?_);exact(al1 (l₁:=[aS.since w m]) (l₂:=T s0))
 have cT:Conc W M (T' s0):=by
  refine Conc.perm hT0.symm ?_;refine⟨fun r hr=>?_,?_,c2.wf,c2.qY⟩
  ·rcases agK.1 hr with h|h
   ·exact c2.each r h
   ·rw[ajB]at h;subst h;exact tW.le
  ·have:=c2.apart;simpa[j_,aS.fp]using this
 have tT:Trans w m (T s0) W M (T' s0):=by
  refine Trans.perm (.refl _) hT0.symm ⟨tW.os,tW.tape,tW.output,tW.size,tW.le,tW.keep,fun b hb=>tW.fresh b ?_,tW.drawn⟩;simpa[j_,aS.fp]using hb
 refine⟨w.heap.size+1,[vv w.heap.size],W,{target:=.fn (.func gf) cs.toArray,args:=#[.func (.yield (w.heap.size+1)) #[] #[]]},W,gf,
  #[.func (.yield (w.heap.size+1)) #[] #[]]++cs.toArray,W,?_,?_,fun _ _=>trivial,?_,fun hh=>by simp[Fence.wide]at hh,?_⟩
 ·rw[←hW];exact run_enterLoop_outer _ _ _ _ _
 ·simp only[resolve,hcv];simp[go_sem]
 ·simp only[invoke];rw[uH hp]
 ·refine anB.2 ?_;have hac:=hit (w.heap.size+1) T' ?_
  ·have hcs':aX W M (.val (.func (.yield (w.heap.size+1)) #[] #[])::caps) (.func (.yield (w.heap.size+1)) #[] #[]::cs):=aX.cons (by simp[cu]) (aX.mono tW.le _ _ hcs);have:=hac W M _ cT hcs';rw[show (Value.func (.yield (w.heap.size+1)) #[] #[]::cs).toArray=#[.func (.yield (w.heap.size+1)) #[] #[]]++cs.toArray from by apply Array.ext';simp]at this;refine this.mono ?_;rintro e w' ⟨out,σ',m',⟨⟨p,rfl⟩,rfl⟩,⟨v,rfl,hv⟩,hc',ht'⟩;have hi:(T' s1)[(T s1).length]?=some (.obj (w.heap.size+1) (.loop (rec' s1))):=by simp[T']
   obtain⟨hb,_⟩:=hc'.each _ (acj hi);obtain⟨k1,k2⟩:=wM (o':=.loop {rec' s1 with state:=.exhausted}) hc' hi
   have hsub:(T s1++[aS.obj w.heap.size (.deferred (some []))]).Sublist ((T' s1).set (T s1).length (.obj (w.heap.size+1) (.loop {rec' s1 with state:=.exhausted}))):=by
    simp only[T'];rw[am7 _ _ (abr _),anc];refine List.Sublist.append (List.Sublist.refl _) ?_;simp only[List.set_cons_zero];exact .cons _ (.cons_cons _ (.cons _ .slnil))
   have k3:=k1.sub hsub;have k4:=(tT.trans (ht'.trans k2)).sub hsub
   have hse:∀todo,om (w'.putObj (w.heap.size+1) (.loop {rec' s1 with state:=.exhausted})) m' n env (T s1++[aS.obj w.heap.size (.deferred (some []))]) (vv w.heap.size::ds) {a with defers:=todo}∨todo≠[vv w.heap.size]++a.defers:=by
    intro todo;by_cases e:todo=[vv w.heap.size]++a.defers
    ·subst e;exact .inl ⟨hs.size,by simp[hs.ds],hs.env.mono k4.le,k3⟩
    ·exact .inr e
   have hse:=(hse ([vv w.heap.size]++a.defers)).resolve_right (by simp);refine⟨codeOf (pend s1),w'.putObj (w.heap.size+1) (.loop {rec' s1 with state:=.exhausted}),?_,?_⟩
   ·have:=run_endLoop (P:=P) (w:=w') (l:=w.heap.size+1) (r:=rec' s1) hb (by simp only[rec',u6];split<;>simp);exact this
   ·have Zr:=hq w.heap.size;cases hpe:pend s1 with
    | none=>
     rw[hpe]at Zr;exact ha .normal _ env _ _ _ _ m' Zr rfl hse k4
    | some x=>
     rw[hpe]at Zr;cases x with
     | ret=>exact wpIn_ret (ha .ret _ env _ _ _ _ m' Zr rfl hse k4)
     | exit id=>exact wpIn_exit (ha (.exit id) _ env _ _ _ _ m' Zr rfl hse k4)
     | normal=>exact Zr.elim
     | panic p=>exact Zr.elim
  ·
   intro s x b s' hy w1 m1 vs hc1 hv1;obtain⟨ake,Zq⟩:=round (w.heap.size+1) s x b s' hy;have hi:(T' s)[(T s).length]?=some (.obj (w.heap.size+1) (.loop (rec' s))):=by simp[T']
   obtain⟨hb1,_⟩:=hc1.each _ (acj hi);have Zp:Le w m w1 m1:=hc1.each (.since w m) (by simp[T']);have hvl:=hv1.length_eq
   have hsz':vs.toArray.size=(rec' s).params.size:=by
    simp only[rec',u6,alr];rw[hvl,henc x];simp
   have hyr:=run_yield (P:=P) hb1 hsz';refine⟨_,_,_,_,hyr,?_⟩;refine roundIn_of_wpIn trivial ?_
   have aeW:((rec' s).params.zip vs.toArray).foldl (fun tmps (t,a)=>tmps.setIfInBounds t a) (rec' s).tmps=(ps.toList.zip vs).foldl (fun t (p,v)=>t.setIfInBounds p v) a.tmps:=by
    simp only[rec',u6];rw[←Array.foldl_toList,Array.toList_zip]
   obtain⟨hb2,hb3⟩:=L8 (n:=n) (ts:=ps.toList) hs.size (fun t ht=>hps t ht) hv1 (hs.env.mono Zp);have hA:=vF.frame (τ:=[aS.obj (w.heap.size+1) (.loop (rec' s)),aS.obj w.heap.size (.deferred (some [])),aS.since w m]) Zq;refine hA w1 m1 _ _ ⟨?_,rfl,?_,hc1⟩ ?_
   ·rw[aeW];exact hb3
   ·rw[aeW];exact hb2
   ·rintro ax ex e2 σ2 d2 a2 w2 m2 ⟨OY,rfl,rfl,hbody⟩ hx hs2 ht2;cases hx;have hi2:(OY++[aS.obj (w.heap.size+1) (.loop (rec' s)),aS.obj w.heap.size (.deferred (some [])),aS.since w m])[OY.length]?=some (.obj (w.heap.size+1) (.loop (rec' s))):=by simp
    obtain⟨hb4,_⟩:=hs2.gY.each _ (acj hi2);have QE:(rec' s).state=.ready:=by simp[rec',u6,ake,codeOf]
    refine⟨_,run_beginRound hb4 QE,?_⟩;obtain⟨k1,k2⟩:=wM (o':=.loop {rec' s with state:=.busy}) hs2.gY hi2
    have hset:(OY++[aS.obj (w.heap.size+1) (.loop (rec' s)),aS.obj w.heap.size (.deferred (some [])),aS.since w m]).set OY.length (.obj (w.heap.size+1) (.loop {rec' s with state:=.busy}))=
      OY++[aS.obj (w.heap.size+1) (.loop {rec' s with state:=.busy}),aS.obj w.heap.size (.deferred (some [])),aS.since w m]:=by
     rw[am7 _ _ (abr _),anc];rfl
    rw[hset]at k1 k2;have hB:=vF.frame (τ:=[aS.obj (w.heap.size+1) (.loop {rec' s with state:=.busy}),aS.obj w.heap.size (.deferred (some [])),aS.since w m]) hbody;refine hB _ m2 a2 _ ⟨hs2.size,hs2.ds,hs2.env.mono k2.le,k1⟩ ?_;rintro ax3 ex3 e3 σ3 d3 a3 w3 m3 ⟨LP,rfl,hd3,aeX,hend⟩ hx3 hs3 ht3;have hi3:(LP++[aS.obj (w.heap.size+1) (.loop {rec' s with state:=.busy}),aS.obj w.heap.size (.deferred (some [])),aS.since w m])[LP.length]?=some (.obj (w.heap.size+1) (.loop {rec' s with state:=.busy})):=by simp
    obtain⟨hb5,_⟩:=hs3.gY.each _ (acj hi3)
    have fin:∀jump:Option Code,jump=codeOf (pend s')→b=jump.isNone→∃v w',(Instr.endRound (w.heap.size+1) jump).run P w3=.ok v w'∧∃out σ' m',(out=dO.ret (.bool b)∧σ'=T' s')∧Ar w' m' out (.returned v)∧Conc w' m' σ'∧Trans w1 m1 (T' s) w' m' σ':=by
     intro jump hj hbj;refine⟨_,_,run_endRound jump hb5,.ret (.bool b),T' s',m3,⟨rfl,rfl⟩,⟨_,rfl,by simp[cu,hbj]⟩,?_⟩;obtain⟨q1,q2⟩:=wM (o':=.loop {rec' s with state:=if jump.isNone then .ready else .done,pending:=jump}) hs3.gY hi3
     have hrec:({rec' s with state:=if jump.isNone then .ready else .done,pending:=jump}:Loop)=rec' s':=by
      simp only[rec',u6,hj]
     have aeY:(LP++[aS.obj (w.heap.size+1) (.loop {rec' s with state:=.busy}),aS.obj w.heap.size (.deferred (some [])),aS.since w m]).set LP.length (.obj (w.heap.size+1) (.loop {rec' s with state:=if jump.isNone then .ready else .done,pending:=jump}))=
       LP++[aS.obj (w.heap.size+1) (.loop (rec' s')),aS.obj w.heap.size (.deferred (some [])),aS.since w m]:=by
      rw[am7 _ _ (abr _),anc,hrec];rfl
     rw[aeY]at q1 q2;have hsub:(T' s').Sublist (LP++[aS.obj (w.heap.size+1) (.loop (rec' s')),aS.obj w.heap.size (.deferred (some [])),aS.since w m]):=List.Sublist.append aeX (List.Sublist.refl _);exact⟨q1.sub hsub,(ht2.trans (k2.trans (ht3.trans q2))).sub hsub⟩
    cases ax3 with
    | normal=>
     cases hx3;obtain⟨h5,h6⟩:=hend;exact fin none (by rw[h6];rfl) (by rw[h5];rfl)
    | ret=>
     cases hx3;obtain⟨h5,h6⟩:=hend;exact fin (some .ret) (by rw[h6];rfl) (by rw[h5];rfl)
    | exit id=>
     cases hx3;obtain⟨h5,h6⟩:=hend;exact fin (some (.exit id)) (by rw[h6];rfl) (by rw[h5];rfl)
    | panic p=>exact hend.elim
end
end Go.Abs
namespace Go.Abs
variable [gD]
open Go
theorem KE{P:Program}{fn:Func}{rs:List ResultVar}{env:Env}{σ:List aS}{w:World}{m:jd}{tmps:Array Value}{ps:List PV}(hrs:fn.results.toList=rs)(he:CP w m env tmps)(hc:Conc w m σ)(h1:BI P env σ rs ps):
  ∃v,(results fn tmps).run P w=.ok v w∧cu w m (ji (ps.map PV.weak)) v:=by
 obtain⟨us,k1,k2⟩:=CZ he hc h1;have hl2:=k2.length_eq
 have hrun:(results fn tmps).run P w=.ok (if h:us.toArray.size=1 then us.toArray[0]else .tuple us.toArray) w:=by
  unfold results;rw[Array.mapM_eq_mapM_toList,hrs];have k1':=k1;simp only[Sem.run_bind,Sem.run_map]
  erw [k1']
  rfl
 have k2:=k2.weak;have hl2:us.length=(ps.map PV.weak).length:=by simpa using hl2
 refine⟨_,hrun,?_⟩;clear h1 hrun;generalize ps.map PV.weak=ps at k2 hl2⊢
 match ps,us,k2,hl2 with
 | [],us,k2,hl2=>
  simp only[aX]at k2;subst k2;simp only[ji,cu];exact⟨[],by simp,aX.nil⟩
 | [p],us,k2,hl2=>
  simp only[aX]at k2;obtain⟨v,vs',rfl,h3,rfl⟩:=k2;simpa[ji]using h3
 | p::q::ps,us,k2,hl2=>
  rw[dif_neg (by simp[hl2])];simp only[ji,cu];exact⟨us,rfl,k2⟩
def akE(P:Program)(rs:List ResultVar)(R:dO→List aS→Prop):Post
 | .normal,e,s,d|.ret,e,s,d=>∃D s1,d=[vv D]∧s=s1++[.obj D (.deferred (some []))]∧∃ps,BI P e s1 rs ps∧∃s',s'.Sublist s1∧R (.ret (ji (ps.map PV.weak))) s'
 | _,_,_,_=>False
theorem AC.Jg{P:Program}{f:FuncId}{fn:Func}{c:Code}{args:List PV}{σ:List aS}{R:dO→List aS→Prop}(n:Nat)(rs:List ResultVar)(ts:List Nat){env:Env}
  (hf:P.funcs[f]?=some fn) (hb:fn.body=some c) (hn:fn.ntmps=n) (hl:Nat.ble args.length n=true) (hrs:fn.results.toList=rs) (Co:settle ts (um 0 args)=some env)
  (h:AW P n c env σ [] (akE P rs R)):AC P f args σ R:=by
 intro w m vs hc hv;have hl:args.length≤n:=abq hl;have hvl:=hv.length_eq;refine anB.1 (callsIn_of_wp_marks (n:=0) hf hb trivial (wpIn_wide.2 ?_));refine h w m _ _ ⟨?_,rfl,?_,hc⟩ ?_
 ·simp[hvl,hn];omega
 ·have:=yO (List.replicate (fn.ntmps-vs.toArray.size) Go.undef) [] hv;rw[show vs.toArray++Array.replicate (fn.ntmps-vs.toArray.size) Go.undef=([]++vs++List.replicate (fn.ntmps-vs.toArray.size) Go.undef).toArray from by simp];exact CP.settle Co this
 ·intro x ex env' σ' ds' a' w' m' hq hx hs ht
  have hend:∀D s1,ds'=[vv D]→σ'=s1++[.obj D (.deferred (some []))]→∀ps s',BI P env' s1 rs ps→s'.Sublist s1→R (.ret (ji (ps.map PV.weak))) s'→
    LeavesInM Fence.wide 0 P fn a'.tmps (fun e w'=>∃out σ' m',R out σ'∧Ar w' m' out e∧Conc w' m' σ'∧Trans w m σ w' m' σ') a'.defers .returning w':=by
   intro D s1 hd hs1 ps s' h1 hsub h2;subst hs1;rw[hs.ds,hd];have hi:(s1++[aS.obj D (.deferred (some []))])[s1.length]?=some (.obj D (.deferred (some []))):=by simp
   obtain⟨hbD,_⟩:=hs.gY.each _ (acj hi);obtain⟨k1,k2⟩:=wM (o':=.deferred Option.none) hs.gY hi
   have hset:(s1++[aS.obj D (.deferred (some []))]).set s1.length (.obj D (.deferred Option.none))=s1++[.obj D (.deferred Option.none)]:=by
    rw[am7 _ _ (abr _),anc];rfl
   rw[hset]at k1 k2;refine⟨by simp,.inl ⟨D,_,rfl,run_takeDeferred hbD,?_⟩⟩;have k3:=k1.left;obtain⟨v,hv1,hv2⟩:=KE hrs (hs.env.mono k2.le) k3 h1;refine⟨v,hv1,.ret _,s',m',h2,⟨v,rfl,hv2⟩,k3.sub hsub,?_⟩;exact(ht.trans k2).sub (hsub.trans (List.sublist_append_left _ _))
  cases x with
  | normal=>cases hx;obtain⟨D,s1,hd,hs1,ps,h1,s',hsub,h2⟩:=hq;exact hend D s1 hd hs1 ps s' h1 hsub h2
  | ret=>cases hx;obtain⟨D,s1,hd,hs1,ps,h1,s',hsub,h2⟩:=hq;exact hend D s1 hd hs1 ps s' h1 hsub h2
  | exit id=>exact hq.elim
  | panic p=>exact hq.elim
theorem aaj{w:World}{m:jd}:∀ {vs cs:List Value},aX w m (vs.map PV.val) cs→cs=vs
 | [],cs,h=>by simpa[aX]using h
 | v::vs,cs,h=>by
  simp only[agf,aX,cu]at h;obtain⟨u,us,rfl,h1,h2⟩:=h;rw[aaj h2,h1]
theorem AR.defer{P:Program}{n:Nat}{env:Env}{σ:List aS}{ds:List Deferred}{Q:Post}{all:Array Oper}{rest:List Oper}{o:Oper}{c:Call}{FT:Operand}{g:FuncId}{vs:List Value}
  (hg:o.guard=Option.none) (hd:o.dst=Option.none) (ho:o.op=.defer c) (iB:c.callee=.value FT) (hargs:c.args=#[]) (hf:env.ev FT=.fn g (vs.map PV.val))
  (h:AR P n all rest env σ ({target:=.fn (.func g) vs.toArray,args:=#[]}::ds) Q):AR P n all (o::rest) env σ ds Q:=by
 intro w m a QC hs ha;refine wpList_plain hg fun K hK=>?_;have hcv:=hs.env.ev FT;rw[hf]at hcv;simp only[cu]at hcv;obtain⟨cs,hcv,hcs⟩:=hcv;have hcs':=aaj hcs;subst hcs'
 have hrun:(execOp a.eval o).run P w=.ok (.defer {target:=.fn (.func g) cs.toArray,args:=#[]}) w:=by
  unfold execOp;simp[ho,resolve,iB,hcv,hargs,Deferred.ofValue]
 unfold Oper.wp;rw[hrun];refine hK _ _ (h w m _ QC ⟨?_,?_,?_,hs.gY⟩ ha)
 ·rw[hd];exact hs.size
 ·rw[hd];simp[Act.put,hs.ds]
 ·rw[hd];exact hs.env
def akC(P:Program)(rs:List ResultVar)(R:dO→List aS→Prop)(g:FuncId)(nt t:Nat)(ops:List Oper)(o:Oper)(X:Code)(vs:List Value)(Zz:Env):Post
 | .normal,e,s,d|.ret,e,s,d=>d=[{target:=.fn (.func g) vs.toArray,args:=#[]}]∧
   AR P nt (o::ops).toArray ops ((t,.val .nilIface)::Zz) s [] (AX.then (fun e' s d=>AW P nt X e' s d (QD fun s'=>∃ps,BI P e s' rs ps∧∃s'',s''.Sublist s'∧R (.ret (ji (ps.map PV.weak))) s'')) (QD fun s'=>∃ps,BI P e s' rs ps∧∃s'',s''.Sublist s'∧R (.ret (ji (ps.map PV.weak))) s''))
 | .panic p,e,s,d=>d=[{target:=.fn (.func g) vs.toArray,args:=#[]}]∧
   AR P nt (o::ops).toArray ops ((t,p)::Zz) s [] (AX.then (fun e' s d=>AW P nt X e' s d (QD fun s'=>∃ps,BI P e s' rs ps∧∃s'',s''.Sublist s'∧R (.ret (ji (ps.map PV.weak))) s'')) (QD fun s'=>∃ps,BI P e s' rs ps∧∃s'',s''.Sublist s'∧R (.ret (ji (ps.map PV.weak))) s''))
 | _,_,_,_=>False
theorem WW(w:World)(m:jd):∀vs:List Value,aX w m (vs.map PV.val) vs
 | []=>aX.nil
 | v::vs=>aX.cons (by simp[cu]) (WW w m vs)
theorem AC.NN{P:Program}{f g:FuncId}{fn fd:Func}{c X:Code}{args:List PV}{σ:List aS}{R:dO→List aS→Prop}{id nt t:Nat}{ops:List Oper}{o:Oper}(n:Nat)(rs:List ResultVar)(ts td:List Nat){env:Env}
  (hf:P.funcs[f]?=some fn) (hb:fn.body=some c) (hn:fn.ntmps=n) (hl:Nat.ble args.length n=true) (hrs:fn.results.toList=rs) (Co:settle ts (um 0 args)=some env)
  (hfd:P.funcs[g]?=some fd) (hbd:fd.body=some (.seq (.region id (o::ops).toArray false) X)) (hnd:fd.ntmps=nt) (hrsd:fd.results.toList=[])
  (hg:o.guard=Option.none) (ho:isRecover o=true) (hd:o.dst=some t) (ht:Nat.blt t nt=true) (hp:dA P g=true)
  (h:AW P n c env σ [] (fun x e s d=>∃vs Zz,Nat.ble vs.length nt=true∧settle td (um 0 (vs.map PV.val))=some Zz∧akC P rs R g nt t ops o X vs Zz x e s d)):AC P f args σ R:=by
 intro w m us hc hv;have hl:args.length≤n:=abq hl;have hvl:=hv.length_eq;refine calls_of_wp_defers hf hb ?_;refine h w m _ _ ⟨?_,rfl,?_,hc⟩ ?_
 ·simp[hvl,hn];omega
 ·have:=yO (List.replicate (fn.ntmps-us.toArray.size) Go.undef) [] hv;rw[show us.toArray++Array.replicate (fn.ntmps-us.toArray.size) Go.undef=([]++us++List.replicate (fn.ntmps-us.toArray.size) Go.undef).toArray from by simp];exact CP.settle Co this
 ·intro x ex env' σ' ds' a' w' m' hq hx hs htr;obtain⟨vs,Zz,hvn,amn,hq⟩:=hq
  have key:∀(q:Option Value) (p:PV),(match q with|Option.none=>p=.val .nilIface|some v=>cu w' m' p v)→ds'=[{target:=.fn (.func g) vs.toArray,args:=#[]}]→
    AR P nt (o::ops).toArray ops ((t,p)::Zz) σ' [] (AX.then (fun e' s d=>AW P nt X e' s d (QD fun s'=>∃ps,BI P env' s' rs ps∧∃s'',s''.Sublist s'∧R (.ret (ji (ps.map PV.weak))) s'')) (QD fun s'=>∃ps,BI P env' s' rs ps∧∃s'',s''.Sublist s'∧R (.ret (ji (ps.map PV.weak))) s''))→
    Leaves P fn a'.tmps (fun e w'=>∃out σ' m',R out σ'∧Ar w' m' out e∧Conc w' m' σ'∧Trans w m σ w' m' σ') a'.defers (KL q) w':=by
   intro q p hqp hds har;rw[hs.ds,hds];refine leaves_cons (f:=g) (args:=vs.toArray) (by cases q<;>simp[KL]) ?_ ?_
   ·simp only[invoke];rw[uH hp];simp
   ·refine CallsD.mono (CD.rec (args:=vs.map PV.val) td hfd hbd hnd (by simpa using hvn) hrsd amn hg ho hd ht har w' m' vs q hqp hs.gY (WW w' m' vs)) ?_;rintro e u' w2 ⟨rfl,rfl,σ2,m2,⟨ps,h1,s'',hsub,h2⟩,hc2,ht2⟩;obtain⟨v,hv1,hv2⟩:=KE hrs (hs.env.mono ht2.le) hc2 h1;have hset:Go.settle (Cb q)=.returning:=by cases q<;>simp[Cb,Go.settle]
    simp only[hset];exact⟨v,hv1,.ret _,s'',m2,h2,⟨v,rfl,hv2⟩,hc2.sub hsub,(htr.trans ht2).sub hsub⟩
  cases x with
  | normal=>cases hx;exact key Option.none _ rfl hq.1 hq.2
  | ret=>cases hx;exact key Option.none _ rfl hq.1 hq.2
  | exit id=>exact hq.elim
  | panic p=>
   obtain⟨v,rfl,hv'⟩:=hx;exact key (some v) p hv' hq.1 hq.2
section
variable {P : Program} {n : Nat} {env : Env} {σ : List aS} {ds : List Deferred} {Q : Post} {all : Array Oper} {l : List Oper}
end
section
variable {P : Program} {o : Oper} {ρ : Operand → PV} {σ : List aS} {R S : PV → List aS → Prop}
theorem AO.aaq{x:Operand}{xt t:TypeId}{p:PV}(ho:o.op=.typeAssert x xt t true)(hx:ρ x=.iface t p)(hrun:∀v w,(Instr.typeAssert (.iface t v) xt t true).run P w=.ok (.tuple #[v,.bool true]) w)
  (hR:R (.tuple [p,.bool true]) σ):AO P o ρ σ R S:=by
 refine AO.of_same hR fun w m ev hr hc=>?_;have h1:=hr x (by simp[ho,Op.operands]);rw[hx]at h1;simp only[cu]at h1;obtain⟨v,h1,h2⟩:=h1;refine⟨.tuple #[v,.bool true],?_,?_⟩
 ·simp only[execOp,ho,h1,Sem.run_bind,hrun,jQ,zf]
 ·simp only[cu];exact⟨[v,.bool true],rfl,aX.cons h2 (aX.cons (by simp[cu]) aX.nil)⟩
theorem AO.WE{x:Operand}{xt t:TypeId}{p:PV}{z:Value}(ho:o.op=.typeAssert x xt t true)(hx:ρ x=.val .nilIface)(hrun:∀w,(Instr.typeAssert .nilIface xt t true).run P w=.ok (.tuple #[z,.bool false]) w)
  (hz:∀w m,cu w m p z) (hR:R (.tuple [p,.bool false]) σ):AO P o ρ σ R S:=by
 refine AO.of_same hR fun w m ev hr hc=>?_;have h1:=hr x (by simp[ho,Op.operands]);rw[hx]at h1;simp only[cu]at h1;refine⟨.tuple #[z,.bool false],?_,?_⟩
 ·simp only[execOp,ho,h1,Sem.run_bind,hrun,jQ,zf]
 ·simp only[cu];exact⟨[z,.bool false],rfl,aX.cons (hz w m) (aX.cons (by simp[cu]) aX.nil)⟩
end
end Go.Abs
namespace Go.Abs
variable [gD]
open Go
section
variable {P : Program} {n : Nat} {all : Array Oper} {l : List Oper} {env : Env} {σ : List aS} {ds : List Deferred} {Q : Post} {c : Code}
def Ao:List aS→Nat→Option (List aS)
 | [],_=>none
 | _::σ,0=>some σ
 | r::σ,i+1=>match Ao σ i with
  | some σ'=>some (r::σ')
  | none=>none
theorem E9:∀ {σ σ':List aS} {i:Nat},Ao σ i=some σ'→σ'.Sublist σ
 | [],_,_,h=>by cases h
 | r::σ,_,0,h=>by simp only[Ao,jW]at h;subst h;exact ame _ _
 | r::σ,σ',i+1,h=>by
  simp only[Ao]at h;split at h
  ·rename_i t ht;simp only[jW]at h;subst h;exact(E9 ht).cons_cons r
  ·cases h
theorem AR.VA(i:Nat){σ':List aS}(he:Ao σ i=some σ')(h:AR P n all l env σ' ds Q):AR P n all l env σ ds Q:=
 fun w m a QC qX ha=>h w m a QC ⟨qX.size,qX.ds,qX.env,qX.gY.sub (E9 he)⟩ (ha.step (Trans.sub (Trans.refl w m σ) (E9 he)))
theorem AW.VA(i:Nat){σ':List aS}(he:Ao σ i=some σ')(h:AW P n c env σ' ds Q):AW P n c env σ ds Q:=AW.drop _ (E9 he) h
end
end Go.Abs
namespace Go.Abs
variable [gD]
open Go Go.Proofs Go.Sort Go.Lib Go.Shelf
theorem WT{w:World}{m:jd}:∀l:List (List UInt8),aX w m (l.map PV.str) (l.map fun s=>Value.string ⟨s.toArray⟩)
 | []=>aX.nil
 | s::l=>aX.cons (by simp[cu]) (WT l)
@[reducible] def XC:gD:={G:=fun _ _=>True,mono:=fun _ h=>h,D:=True}
theorem Trans.grown(hD:gD.D){w w':World}{m m':jd}{σ':List aS}(h:Trans w m [] w' m' σ'):∃q os,w'=Sort.grow (w.drewN q) os:=by
 refine⟨w'.drawn-w.drawn,w'.heap.extract w.heap.size w'.heap.size,?_⟩;have h1:=h.os;have h2:=h.tape;have h3:=h.output;have h4:=h.drawn hD;have h5:=h.size;have h6:=h.keep;cases w';cases w;simp only[World.drewN,Sort.grow]at *;subst h1 h2 h3;congr 1
 ·apply Array.ext_getElem?;intro k;rw[Array.getElem?_append];split
  ·rename_i hk;exact(h6 k hk (by simp[j_])).1
  ·rename_i hk;rw[Array.getElem?_extract];split
   ·congr 1;omega
   ·rw[ZR (by omega)]
 ·omega
abbrev Po:Type:={s:List UInt8 // s.length<4611686018427387904}
instance : Inhabited Po:=⟨⟨[],by decide⟩⟩
theorem KA{w:World}{m:jd}{g:Nat}{α:Type}[Inhabited α](enc:α→Value)(dk:Array α)(q:Nat)(os:Array Obj)(hm:∀off,¬m g off)(hwf:∀b off,m b off→b<w.heap.size):
  Le w m (Sort.grow (putRow enc (Sort.ahead w q) g 0 dk) os) m∧w.heap.size≤(Sort.grow (putRow enc (Sort.ahead w q) g 0 dk) os).heap.size:=by
 refine⟨fun b off hb=>⟨hb,?_⟩,by simp⟩;have hlt:=hwf b off hb;have hne:b≠g:=fun h=>hm off (h ▸ hb)
 have:(Sort.grow (putRow enc (Sort.ahead w q) g 0 dk) os).heap[b]?=w.heap[b]?:=by
  rw[heap_grow_old _ _ (by simpa using hlt)];show (w.heap.modify g _)[b]?=_;rw[am_,ahC (Ne.symm hne)]
 simp only[World.cell?,this]
end Go.Abs
namespace Go.Ft
open Go.Lib
end Go.Ft
namespace Go.Abs
variable [gD]
open Go Go.Proofs Go.Sort Go.Lib Go.Shelf
end Go.Abs
namespace Go.Abs
variable [gD]
open Go
section
variable {P : Program} {o : Oper} {ρ : Operand → PV} {σ : List aS} {R S : PV → List aS → Prop}
theorem Pt(w:World)(t e:TypeId)(a:Option Addr)(l c:Nat)(h:P.underlying t=some (.slice e)):(binOp .eql t (.slice a l c) (.slice none 0 0)).run P w=.ok (.bool a.isNone) w:=by
 have h:∀d:Nat,(Op.equalIn (d+1) t (.slice a l c) (.slice none 0 0)).run P w=.ok a.isNone w:=fun d=>by
  cases a<;>simp[Op.equalIn,run_underlying h]
 simp only[binOp];simp[Op.equal,Op.maxDepth,h 9999]
theorem AO.yj{t e yt:TypeId}{x:Operand}{l:List (List PV)}(ho:o.op=.binOp .eql t x (.const (.slice none 0 0)) yt)(hx:(ρ x).els=some l)(hu:P.underlying t=some (.slice e))
  (hR:∀b:Bool,(b=true→l=[])→R (.bool b) σ):AO P o ρ σ R S:=by
 intro w m a K QC hr hc hK _;have hv:=hr x (by simp[ho,Op.operands]);obtain⟨ad,cap,e1,e2,e3⟩:=hv.els hx;have hev:a.eval (.const (.slice none 0 0))=.slice none 0 0:=rfl
 have hrun:(execOp a.eval o).run P w=.ok (.value (.bool ad.isNone)) w:=by
  simp only[execOp,ho,hev,e1,Sem.run_bind];rw[show eqGuard .eql t x (.const (.slice none 0 0)) (.slice ad l.length cap) (.slice none 0 0)=pure ()from rfl];simp only[zf,jQ,Pt w t e ad l.length cap hu]
 unfold Oper.wp;rw[hrun];refine hK (.bool ad.isNone) σ _ w m (hR _ fun h=>?_) (by simp only[cu]) hc (Trans.refl _ _ _);rcases e3 with rfl|⟨bk,off,sz,rfl,_⟩
 ·rfl
 ·cases h
theorem AO.U7{x:Operand}{v:Value}{l:List (List PV)}(ho:o.op=.assign x)(hx:ρ x=.own v l)(hR:R (.val v) σ):AO P o ρ σ R S:=by
 refine AO.of_same hR fun w m ev hr _=>?_;have h1:=hr x (by simp[ho,Op.operands]);rw[hx]at h1;simp only[cu]at h1;exact⟨ev x,by simp[execOp,ho],by simp only[cu];exact h1.1⟩
end
theorem AW.aoh{P:Program}{n:Nat}{c:Code}{env:Env}{σ:List aS}{ds:List Deferred}{Q:Post}(sz e:Nat)(h:AW P n c env (.buf (.slice none 0 0) 0 sz e []::σ) ds Q):AW P n c env σ ds Q:=by
 intro w m a QC hs ha
 have hc:Conc w m (.buf (.slice none 0 0) 0 sz e []::σ):=by
  refine⟨fun r hr=>?_,by simpa[j_,aS.fp,Value.ownBlock]using hs.gY.apart,hs.gY.wf,hs.gY.qY⟩;rcases agh.1 hr with rfl|hr
  ·exact⟨[],⟨by simp,.inl ⟨rfl,rfl⟩⟩,aX.nil,fun b hb=>by cases hb⟩
  ·exact hs.gY.each r hr
 exact h w m a QC ⟨hs.size,hs.ds,hs.env,hc⟩ (ha.step ⟨rfl,rfl,rfl,abr _,Le.refl _ _,fun b _ _=>⟨rfl,fun _ h=>h⟩,fun b hb=>.inl (by simpa[j_,aS.fp,Value.ownBlock]using hb),fun _=>abr _⟩)
theorem AR.freeze{P:Program}{k:Nat}{all:Array Oper}{lo:List Oper}{env:Env}{σ:List aS}{ds:List Deferred}{Q:Post}{v:Value}{n sz e:Nat}{cs:List PV}(t i:Nat)(l:List (List PV))(ht:env.get t=.val v)(hi:σ[i]?=some (aS.buf v n sz e cs))
  (hl:l.flatten=cs) (hsz:∀x∈l,x.length=sz) (hn:l.length=n) (h:AR P k all lo ((t,.own v l)::env) (σ.set i (.row v n sz e)) ds Q):AR P k all lo env σ ds Q:=by
 intro w m a QC hs ha;obtain⟨m',h1,h2,h3⟩:=hs.gY.freeze hi hl hsz hn;refine h w m' a QC ⟨hs.size,hs.ds,fun u=>?_,h2⟩ (ha.step h3);have hu:=hs.env u;simp only[Env.get];cases hb:Nat.beq t u with
 | false=>exact cu.mono h3.le _ _ hu
 | true=>
  have:=Aq hb;subst this;rw[ht]at hu;simp only[cu]at hu;rw[hu];exact h1
end Go.Abs
namespace Go.Abs
variable [gD]
open Go
def BU:List Bool→List PV→List PV
 | true::ms,c::cs=>c.wN::BU ms cs
 | false::ms,c::cs=>c::BU ms cs
 | [],cs=>cs
 | _::_,[]=>[]
theorem aX.BU{w:World}{m:jd}:∀ {ms:List Bool} {ps:List PV} {vs:List Value},aX w m ps vs→aX w m (Abs.BU ms ps) vs
 | [],_,_,h=>h
 | true::ms,[],_,h=>h
 | false::ms,[],_,h=>h
 | true::ms,p::ps,_,h=>by
  simp only[aX]at h;obtain⟨v,vs',rfl,h1,h2⟩:=h;exact aX.cons h1.wN (aX.BU h2)
 | false::ms,p::ps,_,h=>by
  simp only[aX]at h;obtain⟨v,vs',rfl,h1,h2⟩:=h;exact aX.cons h1 (aX.BU h2)
theorem O8{w:World}{m:jd}{σ:List aS}{i b:Nat}{ms:List Bool}{cs:List PV}(hi:σ[i]?=some (.box b cs))(hc:Conc w m σ):Conc w m (σ.set i (.box b (Abs.BU ms cs)))∧Trans w m σ w m (σ.set i (.box b (Abs.BU ms cs))):=by
 have hf:j_ (σ.set i (.box b (Abs.BU ms cs)))=j_ σ:=by
  clear hc
  induction σ generalizing i with
  | nil=>rfl
  | cons r σ ih=>
   cases i with
   | zero=>
    simp only[anA,jW]at hi;subst hi;simp[j_,aS.fp]
   | succ i=>
    simp only[List.getElem?_cons_succ]at hi;have:=ih hi;simp only[j_,List.set_cons_succ,ac3]at this⊢;rw[this]
 refine⟨⟨fun r hr=>?_,by rw[hf];exact hc.apart,hc.wf,hc.qY⟩,⟨rfl,rfl,rfl,abr _,Le.refl _ _,fun _ _ _=>⟨rfl,fun _ h=>h⟩,fun x hx=>.inl (by rw[←hf];exact hx),fun _=>abr _⟩⟩;rcases List.mem_or_eq_of_mem_set hr with h|h
 ·exact hc.each r h
 ·subst h;obtain⟨vs,ty,h1,h2,h3⟩:=hc.each _ (acj hi);exact⟨vs,ty,h1,h2.BU,h3⟩
section
variable {P : Program} {n : Nat} {env : Env} {σ : List aS} {ds : List Deferred} {Q : Post} {all : Array Oper} {l : List Oper}
theorem AR.BU(i:Nat)(ms:List Bool){b:Nat}{cs:List PV}(hi:σ[i]?=some (.box b cs))(h:AR P n all l env (σ.set i (.box b (Abs.BU ms cs))) ds Q):AR P n all l env σ ds Q:=by
 intro w m a QC hs ha;obtain⟨k1,k2⟩:=O8 hi hs.gY;exact h w m a QC ⟨hs.size,hs.ds,hs.env,k1⟩ (ha.step k2)
theorem AW.BU{c:Code}(i:Nat)(ms:List Bool){b:Nat}{cs:List PV}(hi:σ[i]?=some (.box b cs))(h:AW P n c env (σ.set i (.box b (Abs.BU ms cs))) ds Q):AW P n c env σ ds Q:=by
 intro w m a QC hs ha;obtain⟨k1,k2⟩:=O8 hi hs.gY;exact h w m a QC ⟨hs.size,hs.ds,hs.env,k1⟩ (ha.step k2)
end
end Go.Abs
namespace Go.Abs
variable [gD]
open Go
section
variable {P : Program} {n : Nat} {ds : List Deferred} {L : List Oper} {k : Nat}
theorem agL(hk:k≤L.length)(ho:Z5 L k k){d:Nat→Nat}(hd:∀i o,i<k→L[i]?=some o→o.dst=some (d i)∧d i<n){σ:List aS}{Q:Post}{c:Nat}(hck:c<k)
  {QC:Exit→Act→World→Prop}:∀(fuel:Nat) (listed:Array Bool) (a:Act) (w:World) (m:jd) (E:Env),listed.size=L.length→listed.toList.count false≤fuel→
   (∀j,k≤j→j<L.length→listed.getD j true=false)→(∀i o,L[i]?=some o→listed.getD i true=true→∀j∈fI o,listed.getD j true=true)→listed.getD c true=false→
   (∀i o,i<k→i≠c→L[i]?=some o→listed.getD i true=false→sJ P L.toArray E σ o (E.get (d i)))→(∀o,L[c]?=some o→o.guard=none∧AO P o E.ev σ (fun _ _=>False) (fun p σ'=>Q (.panic p) [] σ' ds))→
   om w m n (hide (fun t=>(List.range k).any fun i=>!listed.getD i true&&Nat.beq (d i) t) E) σ ds a→Acc n Q w m σ QC→wpAny P .any L.toArray QC fuel listed a w:=by
 have hidden:∀(listed:Array Bool) (t:Nat),((List.range k).any fun i=>!listed.getD i true&&Nat.beq (d i) t)=true↔∃i,i<k∧listed.getD i true=false∧d i=t:=by
  intro listed t;rw[List.any_eq_true];constructor
  ·rintro⟨i,hi,h⟩;simp only[ahK,Bool.not_eq_true']at h;exact⟨i,by simpa using hi,h.1,Aq h.2⟩
  ·rintro⟨i,hi,h1,h2⟩;exact⟨i,by simpa using hi,by simp[h1,h2]⟩
 intro fuel
 induction fuel with
 | zero=>
  intro listed a w m E hsz hcnt hun Ed hlc hfa hX hs ha;exfalso;have h0:listed.toList.count false=0:=by omega
  rw[List.count_eq_zero]at h0;apply h0;have hj':c<listed.size:=by omega
  have:listed[c]=false:=by simpa[Array.getD,hj']using hlc
  rw[←this];simp
 | succ fuel ih=>
  intro listed a w m E hsz hcnt hun Ed hlc hfa hX hs ha
  have hex:∃i,i<k∧listed.getD i true=false∧∀j,j<i→listed.getD j true=true:=by
   have key:∀q,(∀j,j<q→j<k→listed.getD j true=true)∨∃i,i<k∧listed.getD i true=false∧∀j,j<i→listed.getD j true=true:=by
    intro q
    induction q with
    | zero=>exact .inl fun j hj=>by omega
    | succ q ihc=>
     rcases ihc with h|h
     ·by_cases hc:q<k∧listed.getD q true=false
      ·exact .inr ⟨q,hc.1,hc.2,fun j hj=>h j hj (by omega)⟩
      ·refine .inl fun j hj hjk=>?_;by_cases e:j=q
       ·subst e;cases e:listed.getD j true with
        | true=>rfl
        | false=>exact absurd ⟨hjk,e⟩ hc
       ·exact h j (by omega) hjk
     ·exact .inr h
   rcases key k with h|h
   ·have:=h c hck hck;rw[hlc]at this;cases this
   ·exact h
  have E5:∀j b,j<L.length→listed.getD j b=listed.getD j true:=by
   intro j b hj;have:j<listed.size:=by omega
   simp[Array.getD,this]
  refine⟨fun h0=>?_,fun i hi'=>?_⟩
  ·exfalso;obtain⟨i,hik,hif,hlow⟩:=hex;have Jk:i<L.length:=by omega
   have:i∈Region.ready .any L.toArray listed:=by
    refine mem_ready.2 ⟨by simpa using Jk,hif,L[i],by simp[Jk],fun e he hb=>?_⟩;have hj:=ho.before i _ (aaS Jk) e.on (uM.2 ⟨e,he,hb,rfl⟩);rw[E5 _ _ (by omega)];exact hlow _ hj
   rw[h0]at this;cases this
  ·obtain⟨h1,h2,o,h3,h4⟩:=mem_ready.1 hi';have Jk:i<L.length:=by simpa using h1
   have hoi:L[i]?=some o:=by simpa using h3
   have hpred:∀j∈fI o,listed.getD j true=true:=by
    intro j hj;obtain⟨e,he,hb,hon⟩:=uM.1 hj;have h5:=h4 e he hb;rw[hon,E5 _ _ (by have:=ho.before i o hoi j hj;omega)]at h5;exact h5
   have hdn:∀j∈yu L i,listed.getD j true=true:=by
    intro j hj;unfold yu at hj;rw[hoi]at hj;exact Bw (k:=i) (listed:=fun j=>listed.getD j true=true) (fun q oq _ hq hl=>Ed q oq hq hl) i (fI o) (abr _) hpred j hj
   have hik:i<k:=by
    rcases zJ i k with h|h
    ·exact h
    ·exfalso;obtain⟨q,hqk,hqf,_⟩:=hex;rcases zJ k i with h'|h'
     ·obtain⟨j,hj,hji⟩:=ho.tails i o h' hoi;have h6:=hpred j hj;rw[hun j (by omega) (by omega)]at h6;cases h6
     ·have hik:i=k:=by omega
      subst hik;have h6:=hdn q (ho.aar o hoi q hqk);rw[hqf]at h6;cases h6
   have hset:∀j,(listed.setIfInBounds i true).getD j true=if i=j then true else listed.getD j true:=Lf (by omega)
   have hget:∀t∈readsOf L o,(hide (fun t=>(List.range k).any fun i=>!listed.getD i true&&Nat.beq (d i) t) E).get t=E.get t:=by
    intro t ht;rw[nY,ahC];rw[hidden];rintro⟨j,hjk,hjf,hjt⟩;have hoj:L[j]?=some L[j]:=aaS (by omega);have hdj:=(hd j _ hjk hoj).1;rw[hjt]at hdj;by_cases e:i=j
    ·subst e;have e9:=am2 (hoi.symm.trans hoj);rw[←e9]at hdj;exact ho.self i o t hik hoi hdj ht
    ·have:=hpred j ((ho.apart i o j _ t hik hoi (by omega) hoj e hdj).2 ht).2;rw[hjf]at this;cases this
   by_cases hic:i=c
   ·subst hic;obtain⟨hg,hao⟩:=hX o hoi;unfold wpOp;rw[h3];simp only;rw[ahH (by simp[Region.wanted,hg])];left;refine hao w m a _ QC (fun x hx=>?_) hs.gY (fun p σ' v w' m' hf=>hf.elim) ?_
    ·have h9:=hs.env.ev x
     have:(hide (fun t=>(List.range k).any fun i=>!listed.getD i true&&Nat.beq (d i) t) E).ev x=E.ev x:=Hg fun t ht=>hget t (by
      subst ht;unfold readsOf
      exact agK.2 (.inl (List.mem_filterMap.2 ⟨.tmp t,by simpa using hx,rfl⟩)))
     rw[this]at h9;exact h9
    ·rintro p σ' v w' m' hq hv hc htr;exact ha (.panic p) _ [] _ ds a w' m' hq ⟨v,rfl,hv⟩ ⟨hs.size,hs.ds,fun t=>by simp[Env.get,cu],hc⟩ htr
   ·have aaQ:(listed.setIfInBounds i true).toList.count false≤fuel:=by
     have hil:listed.toList[i]?=some false:=by
      have hi':i<listed.size:=by omega
      have:listed[i]=false:=by simpa[Array.getD,hi']using h2
      simp[hi',this]
     have:=count_set hil;rw[Array.toList_setIfInBounds];omega
    have hun':∀j,k≤j→j<L.length→(listed.setIfInBounds i true).getD j true=false:=by
     intro j hkj hj;rw[hset,ahC (by omega)];exact hun j hkj hj
    have Vk:∀q oq,L[q]?=some oq→(listed.setIfInBounds i true).getD q true=true→∀j∈fI oq,(listed.setIfInBounds i true).getD j true=true:=by
     intro q oq hoq hl j hj;rw[hset]at hl⊢;by_cases e:i=j
     ·simp[e]
     ·simp only[e,ak1];by_cases e2:i=q
      ·subst e2;rw[hoi]at hoq;cases hoq;exact hpred j hj
      ·simp only[e2,ak1]at hl;exact Ed q oq hoq hl j hj
    obtain⟨hdo,akf⟩:=hd i o hik hoi;have hev:=hfa i o hik hic hoi h2;refine Jv (t:=d i) h3 hdo akf (sJ.MX rfl hev hget) hs fun a' w' m' hs' MK=>?_;refine ih _ a' w' m' E (by simpa using hsz) aaQ hun' Vk (by rw[hset,ahC hic];exact hlc) ?_ hX ?_ (ha.step MK)
    ·intro q oq hq hqc hoq hl;rw[hset]at hl;by_cases e:i=q
     ·simp[e]at hl
     ·simp only[e,ak1]at hl;exact hfa q oq hq hqc hoq hl
    ·refine hs'.congr fun t=>?_;rw[nY];split
     ·exact .inl rfl
     ·rename_i hh;right;simp only[Env.get];by_cases e:d i=t
      ·subst e;simp
      ·rw[vD e,akP,nY,ahC];intro hh';apply hh;rw[hidden]at hh'⊢;obtain⟨j,h5,h6,h7⟩:=hh';refine⟨j,h5,?_,h7⟩;rw[hset,ahC (fun hij=>e (by rw[hij];exact h7))];exact h6
theorem AW.aa6{env:Env}{σ:List aS}{Q:Post}{id:Nat}(c k:Nat)(hm:P.follows .mixedOrders=true)(ho:Gx L k k=true)(hck:Nat.blt c k=true)(hk:Nat.ble k L.length=true)
  (h:Ev P n L.toArray σ env (L.take c) fun e1=>∃o t,L[c]?=some o∧o.guard=none∧o.dst=some t∧Nat.blt t n=true∧AO P o e1.ev σ (fun _ _=>False) (fun p σ'=>Q (.panic p) [] σ' ds)∧Ev P n L.toArray σ ((t,.undef)::e1) ((L.drop (c+1)).take (k-(c+1))) fun _=>True):
  AW P n (.region id L.toArray true) env σ ds Q:=by
 intro w m a QC hs ha;have hck:c<k:=m_.1 hck;have hk:k≤L.length:=abq hk;have ho:=Mr (abr k) ho;obtain⟨d1,p1,f1,oc,tc,g1,g2,g3,g3',g4,g5⟩:=Ev.facts h;rw[List.length_take,akO (by omega)]at g4 g5;obtain⟨d2,p2,f2,_⟩:=Ev.facts g5;let d:Nat→Nat:=fun i=>if i<c then d1 i else if i=c then tc else d2 (i-(c+1));let p:Nat→PV:=fun i=>if i<c then p1 i else if i=c then .undef else p2 (i-(c+1))
 have e1:∀j,j≤c→kZ (fun _=>true) d p env j=kZ (fun _=>true) d1 p1 env j:=by
  intro j
  induction j with
  | zero=>intro _;rfl
  | succ j ih=>intro hj;simp only[kZ,if_true];rw[ih (by omega)];simp only[d,p];rw[ahH (by omega),ahH (by omega)]
 have e2:∀j,kZ (fun _=>true) d p env (c+1+j)=kZ (fun _=>true) d2 p2 ((tc,.undef)::kZ (fun _=>true) d1 p1 env c) j:=by
  intro j
  induction j with
  | zero=>simp only[kZ,if_true];rw[e1 c (abr _)];simp only[d,p,Nat.lt_irrefl,ak1,if_true]
  | succ j ih=>
   rw[←Nat.add_assoc];simp only[kZ,if_true];rw[ih];simp only[d,p];rw[ahC (by omega),ahC (by omega),ahC (by omega),ahC (by omega),Nat.add_sub_cancel_left]
 have aeZ:∀i o,i<k→i≠c→L[i]?=some o→o.dst=some (d i)∧d i<n∧sJ P L.toArray (kZ (fun _=>true) d p env i) σ o (p i):=by
  intro i o hi hic hoi;rcases zJ i c with hlt|hge
  ·have:=f1 i o (by rw[amv hlt];exact hoi);rw[e1 i (by omega)];simp only[d,p,ahH hlt];exact this
  ·obtain⟨j,rfl⟩:∃j,i=c+1+j:=⟨i-(c+1),by omega⟩;have:=f2 j o (by rw[amv (by omega),List.getElem?_drop];exact hoi);rw[e2 j];simp only[d,p,ahC (show ¬c+1+j<c by omega),ahC (show ¬c+1+j=c by omega),Nat.add_sub_cancel_left];exact this
 have hd:∀i o,i<k→L[i]?=some o→o.dst=some (d i)∧d i<n:=by
  intro i o hi hoi;by_cases hic:i=c
  ·subst hic;have:=am2 (g1.symm.trans hoi);subst this;simp only[d,Nat.lt_irrefl,ak1,if_true];exact⟨g3,m_.1 g3'⟩
  ·have:=aeZ i o hi hic hoi;exact⟨this.1,this.2.1⟩
 have hother:∀i o t,i<k→L[i]?=some o→(o.dst=some t∨t∈readsOf L o)→∀j,(i≤j∧t∈readsOf L o∨i+1≤j)→j<k→d j≠t:=by
  intro i o t hi hoi ht j hj hjk hdj;have hoj:L[j]?=some L[j]:=aaS (by omega);have e1:=(hd j _ hjk hoj).1;rw[hdj]at e1;by_cases e:i=j
  ·subst e;have e9:=am2 (hoi.symm.trans hoj);rw[←e9]at e1;rcases hj with⟨_,hj⟩|hj
   ·exact ho.self i o t hi hoi e1 hj
   ·omega
  ·obtain⟨e2,e3⟩:=ho.apart i o j _ t hi hoi (by omega) hoj e e1;rcases ht with ht|ht
   ·exact e2 ht
   ·have:=ho.before i o hoi j (e3 ht).2;omega
 have r_:Trans w m σ {w with drawn:=w.drawn+1} m σ:=⟨rfl,rfl,rfl,abr _,fun _ _ h=>⟨h,rfl⟩,fun _ _ _=>⟨rfl,fun _ h=>h⟩,fun _ h=>.inl h,fun _=>Nat.le_succ _⟩;have hc':Conc {w with drawn:=w.drawn+1} m σ:=⟨fun r hr=>aS.nX (hs.gY.each r hr) r_.le fun _ _=>⟨rfl,fun _ h=>h⟩,hs.gY.apart,hs.gY.wf,gD.mono r_.le hs.gY.qY⟩;refine wp_region_any hm ?_;refine agL (ds:=ds) (d:=d) (σ:=σ) (Q:=Q) hk ho hd hck _ _ a _ m (kZ (fun _=>true) d p env k) (by simp) ?_ ?_ ?_ ?_ ?_ ?_ ?_ (ha.step r_)
 ·simp
 ·intro j _ hj;simp[Array.getD,hj]
 ·intro i o hoi hl
  have Jk:i<L.length:=by
   rcases zJ i L.length with h|h
   ·exact h
   ·simp[CF h]at hoi
  simp[Array.getD,Jk]at hl
 ·have:c<L.length:=by omega
  simp[Array.getD,this]
 ·intro i o hi hic hoi _;obtain⟨q1,q2,q3⟩:=aeZ i o hi hic hoi
  have afb:(kZ (fun _=>true) d p env k).get (d i)=p i:=by
   rw[fO (i:=i+1) (by omega) fun j h4 h5 _=>hother i o (d i) hi hoi (.inl q1) j (.inr h4) h5];simp[kZ,Env.get]
  rw[afb];refine sJ.MX rfl q3 fun t ht=>?_;exact fO (by omega) fun j h4 h5 _=>hother i o t hi hoi (.inr ht) j (.inl ⟨h4,ht⟩) h5
 ·intro o hoi;have:=am2 (g1.symm.trans hoi);subst this;refine⟨g2,AO.congr g4 fun x hx=>Hg fun t ht=>?_⟩
  have hr:t∈readsOf L oc:=by
   subst ht;unfold readsOf;exact agK.2 (.inl (List.mem_filterMap.2 ⟨.tmp t,by simpa using hx,rfl⟩))
  rw[fO (i:=c) (by omega) fun j h4 h5 _=>hother c oc t hck g1 (.inr hr) j (.inl ⟨h4,hr⟩) h5,e1 c (abr _)]
 ·refine⟨hs.size,hs.ds,fun t=>?_,hc'⟩;rw[nY];split
  ·simp[cu]
  ·rename_i hh;rw[fO (i:=0) (Nat.zero_le _)]
   ·exact hs.env.mono r_.le t
   ·intro j _ hj _ hdj;apply hh;rw[List.any_eq_true];have hjL:j<L.length:=by omega
    exact⟨j,by simpa using hj,by simp[Array.getD,hjL,hdj]⟩
end
end Go.Abs
namespace Go.Abs
variable [gD]
open Go
theorem Zb{n:Nat}(a b:Int):BitVec.ofInt n (a-b)=BitVec.ofInt n a-BitVec.ofInt n b:=by
 rw[Int.sub_eq_add_neg,JR,BitVec.ofInt_neg,BitVec.sub_eq_add_neg]
theorem Wp{n:Nat}(a:BitVec n)(s:Nat):a >>> (min s n)=a >>> s:=by
 rcases Nat.le_total s n with h|h
 ·rw[akO h]
 ·rw[Nat.min_eq_right h];apply BitVec.eq_of_toNat_eq;rw[BitVec.toNat_ushiftRight,BitVec.toNat_ushiftRight,Nat.shiftRight_eq_div_pow,Nat.shiftRight_eq_div_pow];have h1:a.toNat<2 ^ n:=a.isLt;have h2:a.toNat<2 ^ s:=ane h1 (Nat.pow_le_pow_right (by omega) h);rw[Nat.div_eq_of_lt h1,Nat.div_eq_of_lt h2]
theorem adz{n:Nat}(a:BitVec n)(s:Nat):a <<< (min s n)=a <<< s:=by
 rcases Nat.le_total s n with h|h
 ·rw[akO h]
 ·rw[Nat.min_eq_right h];rw[BitVec.shiftLeft_eq_zero (abr n),BitVec.shiftLeft_eq_zero h]
section
variable {P : Program} {o : Oper} {ρ : Operand → PV} {σ : List aS} {R S : PV → List aS → Prop}
theorem AO.QO{src dst:TypeId}{x:Operand}{d:TypeDesc}{k k':IntKind}{n r:Int}(ho:o.op=.convert src dst x)(hs:P.underlying src=some d)(hd:P.underlying dst=some (.int k'))(hx:ρ x=.int k n)(hr:k'.wrap n=r)
  (hR:R (.int k' r) σ):AO P o ρ σ R S:=AO.Ae ho hs hd hx (by rw[hr];exact hR)
theorem AO.Ov{t u:TypeId}{x y:Operand}{p q:Int}(a b:BitVec 64)(ho:o.op=.binOp .add t x y u)(hx:ρ x=.int .u64 p)(hy:ρ y=.int .u64 q)(ha:p=(a.toNat:Int))(hb:q=(b.toNat:Int))
  (hR:R (.int .u64 ((a+b).toNat:Int)) σ):AO P o ρ σ R S:=by
 refine AO.FD (p:=.int .u64 (IntKind.u64.wrap (p+q))) (by simp only[Xc,ho,hx,hy];rfl) ?_ hR;rw[RS,ha,hb,JR,fB,fB]
theorem AO.aan{t u:TypeId}{x y:Operand}{p q:Int}(a b:BitVec 64)(ho:o.op=.binOp .mul t x y u)(hx:ρ x=.int .u64 p)(hy:ρ y=.int .u64 q)(ha:p=(a.toNat:Int))(hb:q=(b.toNat:Int))
  (hR:R (.int .u64 ((a*b).toNat:Int)) σ):AO P o ρ σ R S:=by
 refine AO.FD (p:=.int .u64 (IntKind.u64.wrap (p*q))) (by simp only[Xc,ho,hx,hy];rfl) ?_ hR;rw[RS,ha,hb,JQ,fB,fB]
theorem AO.u64_and{t u:TypeId}{x y:Operand}{p q:Int}(a b:BitVec 64)(ho:o.op=.binOp .and t x y u)(hx:ρ x=.int .u64 p)(hy:ρ y=.int .u64 q)(ha:p=(a.toNat:Int))(hb:q=(b.toNat:Int))
  (hR:R (.int .u64 ((a &&& b).toNat:Int)) σ):AO P o ρ σ R S:=by
 refine AO.FD (p:=.int .u64 (IntKind.u64.wrap (BitVec.ofInt IntKind.u64.bits p &&& BitVec.ofInt IntKind.u64.bits q).toNat)) (by simp only[Xc,ho,hx,hy];rfl) ?_ hR;rw[aib,ha,hb,fB,fB]
theorem AO.u64_or{t u:TypeId}{x y:Operand}{p q:Int}(a b:BitVec 64)(ho:o.op=.binOp .or t x y u)(hx:ρ x=.int .u64 p)(hy:ρ y=.int .u64 q)(ha:p=(a.toNat:Int))(hb:q=(b.toNat:Int))
  (hR:R (.int .u64 ((a ||| b).toNat:Int)) σ):AO P o ρ σ R S:=by
 refine AO.FD (p:=.int .u64 (IntKind.u64.wrap (BitVec.ofInt IntKind.u64.bits p ||| BitVec.ofInt IntKind.u64.bits q).toNat)) (by simp only[Xc,ho,hx,hy];rfl) ?_ hR;rw[ajV,ha,hb,fB,fB]
theorem AO.u64_xor{t u:TypeId}{x y:Operand}{p q:Int}(a b:BitVec 64)(ho:o.op=.binOp .xor t x y u)(hx:ρ x=.int .u64 p)(hy:ρ y=.int .u64 q)(ha:p=(a.toNat:Int))(hb:q=(b.toNat:Int))
  (hR:R (.int .u64 ((a ^^^ b).toNat:Int)) σ):AO P o ρ σ R S:=by
 refine AO.FD (p:=.int .u64 (IntKind.u64.wrap (BitVec.ofInt IntKind.u64.bits p ^^^ BitVec.ofInt IntKind.u64.bits q).toNat)) (by simp only[Xc,ho,hx,hy];rfl) ?_ hR;rw[agG,ha,hb,fB,fB]
theorem AO.zw{t u:TypeId}{x y:Operand}{yk:IntKind}{p q:Int}(a:BitVec 64)(s:Nat)(ho:o.op=.binOp .shr t x y u)(hx:ρ x=.int .u64 p)(hy:ρ y=.int yk q)(ha:p=(a.toNat:Int))(hq:q=(s:Int))(hR:R (.int .u64 ((a >>> s).toNat:Int)) σ):AO P o ρ σ R S:=by
 subst ha hq;refine AO.shr ho hx hy (by omega) ?_;rw[XM,ana,show IntKind.u64.bits=64 from rfl,Wp];exact hR
theorem AO.Ih{t u:TypeId}{x y:Operand}{yk:IntKind}{p q:Int}(a:BitVec 64)(s:Nat)(ho:o.op=.binOp .shl t x y u)(hx:ρ x=.int .u64 p)(hy:ρ y=.int yk q)(ha:p=(a.toNat:Int))(hq:q=(s:Int))(hR:R (.int .u64 ((a <<< s).toNat:Int)) σ):AO P o ρ σ R S:=by
 subst ha hq;refine AO.shl ho hx hy (by omega) ?_;rw[RS,ana,show IntKind.u64.bits=64 from rfl,ab5,fB,adz];exact hR
theorem AO.u64_neg{t:TypeId}{x:Operand}{p:Int}(a:BitVec 64)(ho:o.op=.unOp .neg t x)(hx:ρ x=.int .u64 p)(ha:p=(a.toNat:Int))(hR:R (.int .u64 ((-a).toNat:Int)) σ):AO P o ρ σ R S:=by
 refine AO.FD (p:=.int .u64 (IntKind.u64.wrap (0-p))) (by simp only[Xc,ho,hx];rfl) ?_ hR;rw[RS,ha,Zb,fB]
 try simp
theorem AO.YS{src dst:TypeId}{x:Operand}{d:TypeDesc}{k:IntKind}{n:Int}(ho:o.op=.convert src dst x)(hs:P.underlying src=some d)(hd:P.underlying dst=some (.int .u64))(hx:ρ x=.int k n)
  (hR:R (.int .u64 ((BitVec.ofInt 64 n).toNat:Int)) σ):AO P o ρ σ R S:=AO.QO ho hs hd hx (RS n) hR
theorem AO.UE{src dst:TypeId}{x:Operand}{d:TypeDesc}{k:IntKind}{n:Int}{m:Nat}(a:BitVec m)(ho:o.op=.convert src dst x)(hs:P.underlying src=some d)(hd:P.underlying dst=some (.int .u64))(hx:ρ x=.int k n)(ha:n=(a.toNat:Int))
  (hR:R (.int .u64 ((a.setWidth 64).toNat:Int)) σ):AO P o ρ σ R S:=AO.QO ho hs hd hx (by rw[RS,ha,DF]) hR
theorem AO.agP{t u:TypeId}{x y:Operand}{p q:Int}(a b:BitVec 32)(ho:o.op=.binOp .add t x y u)(hx:ρ x=.int .u32 p)(hy:ρ y=.int .u32 q)(ha:p=(a.toNat:Int))(hb:q=(b.toNat:Int))
  (hR:R (.int .u32 ((a+b).toNat:Int)) σ):AO P o ρ σ R S:=by
 refine AO.FD (p:=.int .u32 (IntKind.u32.wrap (p+q))) (by simp only[Xc,ho,hx,hy];rfl) ?_ hR;rw[adH,ha,hb,JR,fB,fB]
theorem AO.agO{t u:TypeId}{x y:Operand}{p q:Int}(a b:BitVec 32)(ho:o.op=.binOp .mul t x y u)(hx:ρ x=.int .u32 p)(hy:ρ y=.int .u32 q)(ha:p=(a.toNat:Int))(hb:q=(b.toNat:Int))
  (hR:R (.int .u32 ((a*b).toNat:Int)) σ):AO P o ρ σ R S:=by
 refine AO.FD (p:=.int .u32 (IntKind.u32.wrap (p*q))) (by simp only[Xc,ho,hx,hy];rfl) ?_ hR;rw[adH,ha,hb,JQ,fB,fB]
theorem AO.u32_xor{t u:TypeId}{x y:Operand}{p q:Int}(a b:BitVec 32)(ho:o.op=.binOp .xor t x y u)(hx:ρ x=.int .u32 p)(hy:ρ y=.int .u32 q)(ha:p=(a.toNat:Int))(hb:q=(b.toNat:Int))
  (hR:R (.int .u32 ((a ^^^ b).toNat:Int)) σ):AO P o ρ σ R S:=by
 refine AO.FD (p:=.int .u32 (IntKind.u32.wrap (BitVec.ofInt IntKind.u32.bits p ^^^ BitVec.ofInt IntKind.u32.bits q).toNat)) (by simp only[Xc,ho,hx,hy];rfl) ?_ hR;rw[agH,ha,hb,fB,fB]
theorem AO.agN{t u:TypeId}{x y:Operand}{yk:IntKind}{p q:Int}(a:BitVec 32)(s:Nat)(ho:o.op=.binOp .shr t x y u)(hx:ρ x=.int .u32 p)(hy:ρ y=.int yk q)(ha:p=(a.toNat:Int))(hq:q=(s:Int))(hR:R (.int .u32 ((a >>> s).toNat:Int)) σ):AO P o ρ σ R S:=by
 subst ha hq;refine AO.shr ho hx hy (by omega) ?_;rw[XM,ana,show IntKind.u32.bits=32 from rfl,Wp];exact hR
theorem AO.adN{src dst:TypeId}{x:Operand}{d:TypeDesc}{k:IntKind}{n:Int}(ho:o.op=.convert src dst x)(hs:P.underlying src=some d)(hd:P.underlying dst=some (.int .u32))(hx:ρ x=.int k n)
  (hR:R (.int .u32 ((BitVec.ofInt 32 n).toNat:Int)) σ):AO P o ρ σ R S:=AO.QO ho hs hd hx (adH n) hR
theorem AO.Ow{src dst:TypeId}{x:Operand}{d:TypeDesc}{k:IntKind}{n:Int}{m:Nat}(a:BitVec m)(ho:o.op=.convert src dst x)(hs:P.underlying src=some d)(hd:P.underlying dst=some (.int .u32))(hx:ρ x=.int k n)(ha:n=(a.toNat:Int))
  (hR:R (.int .u32 ((a.setWidth 32).toNat:Int)) σ):AO P o ρ σ R S:=AO.QO ho hs hd hx (by rw[adH,ha,DF]) hR
theorem AO.adG{t u:TypeId}{x y:Operand}{p q:Int}(a b:BitVec 64){v:BitVec 64}(hv:some (a+b)=some v)(ho:o.op=.binOp .add t x y u)(hx:ρ x=.int .u64 p)(hy:ρ y=.int .u64 q)(ha:p=(a.toNat:Int))(hb:q=(b.toNat:Int))(hR:R (.int .u64 (v.toNat:Int)) σ):AO P o ρ σ R S:=AO.Ov a b ho hx hy ha hb (by cases hv;exact hR)
theorem AO.Pd{t u:TypeId}{x y:Operand}{p q:Int}(a b:BitVec 64){v:BitVec 64}(hv:some (a*b)=some v)(ho:o.op=.binOp .mul t x y u)(hx:ρ x=.int .u64 p)(hy:ρ y=.int .u64 q)(ha:p=(a.toNat:Int))(hb:q=(b.toNat:Int))(hR:R (.int .u64 (v.toNat:Int)) σ):AO P o ρ σ R S:=AO.aan a b ho hx hy ha hb (by cases hv;exact hR)
theorem AO.Pe{t u:TypeId}{x y:Operand}{p q:Int}(a b:BitVec 64){v:BitVec 64}(hv:some (a &&& b)=some v)(ho:o.op=.binOp .and t x y u)(hx:ρ x=.int .u64 p)(hy:ρ y=.int .u64 q)(ha:p=(a.toNat:Int))(hb:q=(b.toNat:Int))(hR:R (.int .u64 (v.toNat:Int)) σ):AO P o ρ σ R S:=AO.u64_and a b ho hx hy ha hb (by cases hv;exact hR)
theorem AO.Kv{t u:TypeId}{x y:Operand}{p q:Int}(a b:BitVec 64){v:BitVec 64}(hv:some (a ||| b)=some v)(ho:o.op=.binOp .or t x y u)(hx:ρ x=.int .u64 p)(hy:ρ y=.int .u64 q)(ha:p=(a.toNat:Int))(hb:q=(b.toNat:Int))(hR:R (.int .u64 (v.toNat:Int)) σ):AO P o ρ σ R S:=AO.u64_or a b ho hx hy ha hb (by cases hv;exact hR)
theorem AO.adI{t u:TypeId}{x y:Operand}{p q:Int}(a b:BitVec 32){v:BitVec 32}(hv:some (a*b)=some v)(ho:o.op=.binOp .mul t x y u)(hx:ρ x=.int .u32 p)(hy:ρ y=.int .u32 q)(ha:p=(a.toNat:Int))(hb:q=(b.toNat:Int))(hR:R (.int .u32 (v.toNat:Int)) σ):AO P o ρ σ R S:=AO.agO a b ho hx hy ha hb (by cases hv;exact hR)
theorem AO.ajw{src dst:TypeId}{x:Operand}{d:TypeDesc}{k:IntKind}{n:Int}{m:Nat}(a:BitVec m)(ho:o.op=.convert src dst x)(hs:P.underlying src=some d)(hd:P.underlying dst=some (.int .u8))(hx:ρ x=.int k n)(ha:n=(a.toNat:Int))
  (hR:R (.int .u8 ((UInt8.ofBitVec (a.setWidth 8)).toNat:Int)) σ):AO P o ρ σ R S:=AO.QO ho hs hd hx (by rw[u8w,ha,DF];rfl) hR
theorem AO.aez{t u:TypeId}{x y:Operand}{e n:Nat}{k:IntKind}{cs ds:List PV}(Dr bs:List Int)(ho:o.op=.binOp .neq t x y u)(hu:P.underlying t=some (.array n e))(he:P.underlying e=some (.int k))(hce:P.cellsOf e=1)(hct:P.cellsOf t=n)(hg:P.eqGuardType P.depth t=false)
  (hx:ρ x=.agg cs) (hy:ρ y=.agg ds) (hcs:cs=Dr.map (PV.int k)) (hds:ds=bs.map (PV.int k)) (hn:Dr.length=n) (hn':bs.length=n) (hw:∀a∈Dr,(Lit.int k a).wf=true) (hw':∀a∈bs,(Lit.int k a).wf=true)
  (hR:R (.bool (!decide (Dr=bs))) σ):AO P o ρ σ R S:=by
 subst hcs hds;refine AO.of_same hR fun w m ev hr _=>?_;have h1:=hr x (by simp[ho,Op.operands]);have h2:=hr y (by simp[ho,Op.operands]);rw[hx]at h1;rw[hy]at h2;simp only[cu]at h1 h2;obtain⟨vs,e1,r1⟩:=h1;obtain⟨us,e2,r2⟩:=h2
 have hval:∀(Dr:List Int) (vs:List Value),aX w m (Dr.map (PV.int k)) vs→vs=Dr.map (Value.int k):=by
  intro Dr
  induction Dr with
  | nil=>intro vs h;simpa[aX]using h
  | cons a Dr ih=>
   intro vs h;simp only[agf,aX,cu]at h;obtain⟨v,vs',rfl,rfl,h⟩:=h;rw[ih vs' h];rfl
 obtain rfl:=hval Dr vs r1;obtain rfl:=hval bs us r2;have hk:P.keyTypeAt 2 t=true:=by simp[Program.keyTypeAt,hu,he]
 have form:∀Dr:List Int,Dr.length=n→(Value.agg (Dr.map (Value.int k)).toArray).formed P t=true:=by
  intro Dr h;simp[Value.formed,hu,h,hct]
 obtain⟨r,hr',hiff⟩:=run_equalIn_deep 9998 2 t hk w 2 2 (.agg (Dr.map (Value.int k)).toArray) (.agg (bs.map (Value.int k)).toArray) _ _ (form Dr hn) (form bs hn')
  (by simpa[Value.cells]using Lc hu he hce hct hn hw) (by simpa[Value.cells]using Lc hu he hce hct hn' hw')
 have hb:r=decide (Dr=bs):=by
  have hinj:(Dr.map (Lit.int k)=bs.map (Lit.int k))↔Dr=bs:=by
   constructor
   ·intro h;have:=congrArg (List.map fun x:Lit=>match x with|.int _ a=>a|_=>0) h
    simpa[Function.comp_def]using this
   ·intro h;rw[h]
  rw[hinj]at hiff;cases r with
  | true=>simp[hiff.1 rfl]
  | false=>symm;simp only[am9];intro h;exact absurd (hiff.2 h) (by simp)
 refine⟨.bool (!decide (Dr=bs)),?_,by simp only[cu]⟩;have e3:binOp .neq t (.agg (Dr.map (Value.int k)).toArray) (.agg (bs.map (Value.int k)).toArray)=(do pure (.bool (!(←Op.equal t (.agg (Dr.map (Value.int k)).toArray) (.agg (bs.map (Value.int k)).toArray))))):=rfl;have e4:(Op.equal t (.agg (Dr.map (Value.int k)).toArray) (.agg (bs.map (Value.int k)).toArray)).run P w=.ok r w:=hr';simp only[execOp,ho,e1,e2,e3,Sem.run_bind,zf];simp[eqGuard,hg,e4,hb]
theorem AO.tL{t n sz:Nat}{x i:Operand}{k:IntKind}{cs cs':List PV}(j:Nat)(ho:o.op=.indexAddr t x i)(ha:sF P t=some (n,sz))(hx:ρ x=.ref cs)(hi:ρ i=.int k (j:Int))(h1:j<n)(hd:Ay (j*sz) cs=some cs')
  (hR:R (.ref cs') σ):AO P o ρ σ R S:=by
 obtain⟨e1,e2⟩:=Cz hd;exact AO.Sc ho ha hx hi (by omega) (by simpa using h1) (by simpa using e2) (by simpa[←e1]using hR)
theorem aah(l:List (BitVec 64)):∀a∈l.map fun c:BitVec 64=>(c.toNat:Int),(Lit.int .u64 a).wf=true:=by
 intro a ha;obtain⟨c,_,rfl⟩:=amw.1 ha;have:=c.isLt;simp[Lit.wf,IntKind.min,IntKind.max,IntKind.signed,IntKind.bits];omega
end
end Go.Abs
namespace Go.Abs
variable [gD]
open Go
theorem AO.ai3{P:Program}{o:Oper}{ρ:Operand→PV}{σ:List aS}{R S:PV→List aS→Prop}{c:Call}{f:FuncId}{caps:List PV}
  (ho:o.op=.call c) (FT:Operand) (iB:c.callee=.value FT) (hf:ρ FT=.fn f caps) (hp:dA P f=true)
  (h:AC P f (c.args.toList.map ρ++caps) σ fun out σ'=>match out with|.ret p=>R p σ'|.panic p=>S p σ'):AO P o ρ σ R S:=by
 intro w m a K QC hr hc hK hS;have hcr:=hr FT (by simp[ho,Op.operands,Call.operands,iB]);rw[hf]at hcr;simp only[cu]at hcr;obtain⟨cs,hcv,hcs⟩:=hcr;have hargs:aX w m (c.args.toList.map ρ) (c.args.toList.map a.eval):=aX.map fun x hx=>hr x (by simp[ho,Op.operands,Call.operands,iB];exact .inr (by simpa using hx))
 have hrun:(execOp a.eval o).run P w=.ok (.enter f (c.args.toList.map a.eval++cs).toArray) w:=by
  unfold execOp;simp only[ho,resolve,iB,hcv,Deferred.ofValue,invoke,Sem.run_bind,zf,jQ];rw[uH hp];congr 2;apply Array.ext';simp
 unfold Oper.wp;rw[hrun,Oper.upon_enter];refine(h w m _ hc (hargs.append hcs)).mono ?_;rintro e w' ⟨out,σ',m',h1,h2,h3,h4⟩;cases out with
 | ret p=>
  obtain⟨v,rfl,hv⟩:=h2;exact hK p σ' v w' m' h1 hv h3 h4
 | panic p=>
  obtain⟨v,rfl,hv⟩:=h2;exact hS p σ' v w' m' h1 hv h3 h4
def akB(P:Program)(rs:List ResultVar)(R:dO→List aS→Prop):Post
 | .normal,e,s,d|.ret,e,s,d=>d=[]∧∃ps,BI P e s rs ps∧∃s',s'.Sublist s∧R (.ret (ji ps)) s'
 | .panic p,_,s,d=>d=[]∧∃s',s'.Sublist s∧R (.panic p) s'
 | _,_,_,_=>False
theorem AC.P9{P:Program}{f:FuncId}{fn:Func}{c:Code}{args:List PV}{σ:List aS}{R:dO→List aS→Prop}(n:Nat)(rs:List ResultVar)(ts:List Nat){env:Env}
  (hf:P.funcs[f]?=some fn) (hb:fn.body=some c) (hn:fn.ntmps=n) (hl:Nat.ble args.length n=true) (hrs:fn.results.toList=rs) (Co:settle ts (um 0 args)=some env)
  (h:AW P n c env σ [] (akB P rs R)):AC P f args σ R:=by
 intro w m vs hc hv;have hl:args.length≤n:=abq hl;have hvl:=hv.length_eq;refine calls_of_wp hf hb ?_;refine h w m _ _ ⟨?_,rfl,?_,hc⟩ ?_
 ·simp[hvl,hn];omega
 ·have:=yO (List.replicate (fn.ntmps-vs.toArray.size) Go.undef) [] hv;rw[show vs.toArray++Array.replicate (fn.ntmps-vs.toArray.size) Go.undef=([]++vs++List.replicate (fn.ntmps-vs.toArray.size) Go.undef).toArray from by simp];exact CP.settle Co this
 ·intro x ex env' σ' ds' a' w' m' hq hx hs ht
  have hend:∀ps s',ds'=[]→BI P env' σ' rs ps→s'.Sublist σ'→R (.ret (ji ps)) s'→a'.defers=[]∧∃v,(results fn a'.tmps).run P w'=.ok v w'∧∃out σ' m',R out σ'∧Ar w' m' out (.returned v)∧Conc w' m' σ'∧Trans w m σ w' m' σ':=by
   intro ps s' hd h1 hsub h2;obtain⟨us,k1,k2⟩:=CZ hs.env hs.gY h1;have hl2:=k2.length_eq;refine⟨by rw[hs.ds,hd],?_⟩
   have hrun:(results fn a'.tmps).run P w'=.ok (if h:us.toArray.size=1 then us.toArray[0]else .tuple us.toArray) w':=by
    unfold results;rw[Array.mapM_eq_mapM_toList,hrs];have k1':=k1;simp only[Sem.run_bind,Sem.run_map]
    erw [k1']
    rfl
   have hl2:us.length=ps.length:=hl2;refine⟨_,hrun,.ret (ji ps),s',m',h2,⟨_,rfl,?_⟩,hs.gY.sub hsub,ht.sub hsub⟩;clear h1 h2
   match ps,us,k2,hl2 with
   | [],us,k2,hl2=>
    simp only[aX]at k2;subst k2;simp only[ji,cu];exact⟨[],by simp,aX.nil⟩
   | [p],us,k2,hl2=>
    simp only[aX]at k2;obtain⟨v,vs',rfl,h3,rfl⟩:=k2;simpa[ji]using h3
   | p::q::ps,us,k2,hl2=>
    rw[dif_neg (by simp[hl2])];simp only[ji,cu];exact⟨us,rfl,k2⟩
  cases x with
  | normal=>cases hx;obtain⟨hd,ps,h1,s',hsub,h2⟩:=hq;exact hend ps s' hd h1 hsub h2
  | ret=>cases hx;obtain⟨hd,ps,h1,s',hsub,h2⟩:=hq;exact hend ps s' hd h1 hsub h2
  | exit id=>exact hq.elim
  | panic p=>
   obtain⟨v,rfl,hv'⟩:=hx;obtain⟨hd,s',hsub,h2⟩:=hq;exact⟨by rw[hs.ds,hd],.panic p,s',m',h2,⟨v,rfl,hv'⟩,hs.gY.sub hsub,ht.sub hsub⟩
end Go.Abs
namespace Go.Abs
variable [gD]
open Go
theorem Uc:∀ {σ σ':List aS} {i:Nat},Ao σ i=some σ'→σ'=σ.eraseIdx i
 | [],_,_,h=>by cases h
 | r::σ,_,0,h=>by simp only[Ao,jW]at h;subst h;rfl
 | r::σ,σ',i+1,h=>by
  simp only[Ao]at h;split at h
  ·rename_i t ht;simp only[jW]at h;subst h;rw[Uc ht];rfl
  ·cases h
theorem Conc.aap{w:World}{m:jd}{σ:List aS}{i b:Nat}{cs cs':List PV}(hc:Conc w m σ)(hi:σ[i]?=some (.box b cs))(hwk:FY cs=some cs'):
  ∃m',cu w m' (.ref cs') (.pointer (some ⟨b,0,none⟩))∧Conc w m' (σ.eraseIdx i)∧Trans w m σ w m' (σ.eraseIdx i):=by
 have hcs:=Ko hwk;subst hcs;obtain⟨p1,_⟩:=zY hi (.box b cs);have hc1:=hc.perm p1;obtain⟨vs,ty,h1,h2,h3⟩:=hc.each _ (acj hi);have hle:Le w m w (fun c off=>m c off∨(c=b∧off<vs.length)):=fun c off h=>⟨.inl h,rfl⟩
 have hbs:b<w.heap.size:=by
  rcases zJ b w.heap.size with h|h
  ·exact h
  ·rw[ZR h]at h1;cases h1
 have hap:=hc1.apart;rw[wG,List.nodup_append]at hap;have hb:b∉j_ (σ.eraseIdx i):=fun h=>hap.2.2 b (by simp[j_,aS.fp]) b h rfl;refine⟨fun c off=>m c off∨(c=b∧off<vs.length),?_,⟨fun r hr=>?_,hap.2.1,fun c off h=>?_,gD.mono hle hc.qY⟩,⟨rfl,rfl,rfl,abr _,hle,fun c hcl hn=>⟨rfl,fun off h=>?_⟩,fun c hcf=>?_,fun _=>abr _⟩⟩
 ·simp only[cu];refine⟨b,0,rfl,mF.2 ⟨vs,(aX.mono hle _ _ h2).wN,fun j v hj=>⟨.inr ⟨rfl,?_⟩,?_⟩⟩⟩
  ·rw[ahw];rcases zJ j vs.length with h|h
   ·exact h
   ·rw[CF h]at hj;cases hj
  ·rw[cell_of_row w b (0+j) vs.toArray ty (0,0) h1];simpa using hj
 ·refine aS.nX (hc1.right.each r hr) hle fun c hcf=>⟨rfl,fun off h=>?_⟩;rcases h with h|⟨h,_⟩
  ·exact h
  ·subst h;exact absurd (by simp only[j_,List.mem_flatMap];exact⟨r,hr,hcf⟩) hb
 ·rcases h with h|⟨rfl,_⟩
  ·exact hc.wf c off h
  ·exact hbs
 ·rcases h with h|⟨rfl,_⟩
  ·exact h
  ·exact absurd (by simp only[j_,List.mem_flatMap];exact⟨_,acj hi,by simp[aS.fp]⟩) hn
 ·left;exact aaX (List.eraseIdx_sublist σ i) c hcf
section
variable {P : Program} {n : Nat} {all : Array Oper} {l : List Oper} {env : Env} {σ : List aS} {ds : List Deferred} {Q : Post} {c : Code}
theorem Tp{w:World}{m:jd}{a:Act}{t i b:Nat}{cs cs':List PV}{σ':List aS}(ht:env.get t=.val (.pointer (some ⟨b,0,none⟩)))(hi:σ[i]?=some (.box b cs))(hwk:FY cs=some cs')(he:Ao σ i=some σ')
  (hs:om w m n env σ ds a):∃m',om w m' n ((t,.ref cs')::env) σ' ds a∧Trans w m σ w m' σ':=by
 obtain⟨m',h1,h2,h3⟩:=hs.gY.aap hi hwk;rw[←Uc he]at h2 h3;refine⟨m',⟨hs.size,hs.ds,fun u=>?_,h2⟩,h3⟩;have hu:=hs.env u;simp only[Env.get];cases hb:Nat.beq t u with
 | false=>exact cu.mono h3.le _ _ hu
 | true=>
  have:=Aq hb;subst this;rw[ht]at hu;simp only[cu]at hu;rw[hu];exact h1
theorem AR.aap(t i:Nat){b:Nat}{cs cs':List PV}{σ':List aS}(ht:env.get t=.val (.pointer (some ⟨b,0,none⟩)))(hi:σ[i]?=some (.box b cs))(hwk:FY cs=some cs')(he:Ao σ i=some σ')
  (h:AR P n all l ((t,.ref cs')::env) σ' ds Q):AR P n all l env σ ds Q:=by
 intro w m a QC hs ha;obtain⟨m',k1,k2⟩:=Tp ht hi hwk he hs;exact h w m' a QC k1 (ha.step k2)
theorem AW.aap(t i:Nat){b:Nat}{cs cs':List PV}{σ':List aS}(ht:env.get t=.val (.pointer (some ⟨b,0,none⟩)))(hi:σ[i]?=some (.box b cs))(hwk:FY cs=some cs')(he:Ao σ i=some σ')
  (h:AW P n c ((t,.ref cs')::env) σ' ds Q):AW P n c env σ ds Q:=by
 intro w m a QC hs ha;obtain⟨m',k1,k2⟩:=Tp ht hi hwk he hs;exact h w m' a QC k1 (ha.step k2)
end
end Go.Abs
namespace Go.Abs
variable [gD]
open Go Go.Proofs Go.Sort Go.Lib Go.Shelf
theorem afv{w:World}{m:jd}{g n cap sz:Nat}{e:TypeId}{cs cs':List PV}{cur:Array Value}{fz:Nat × Nat}(dk:Array Value)(q:Nat)(os:Array Obj){vs':List Value}
  (hc:Conc w m [.buf (.slice (some ⟨g,0,none⟩) n cap) n sz e cs]) (hg:w.heap[g]?=some (.cells cur e fz)) (hfz:fz.1=fz.2∨cur.size≤fz.1) (hn:n≤cap) (hcap:cap≤maxLen) (hcur:cur.size=cap*sz)
  (hm:∀off,¬m g off) (hlen:vs'.length=n*sz) (hput:(Go.Sort.putCells id 0 dk cur).toList.take (n*sz)=vs') (hrep:aX w m cs' vs'):
  let w':=Sort.grow (putRow id (Sort.ahead w q) g 0 dk) os
  Conc w' m [.buf (.slice (some ⟨g,0,none⟩) n cap) n sz e cs']∧Trans w m [.buf (.slice (some ⟨g,0,none⟩) n cap) n sz e cs] w' m [.buf (.slice (some ⟨g,0,none⟩) n cap) n sz e cs']:=by
 intro w'
 have hgs:g<w.heap.size:=by
  rcases zJ g w.heap.size with h|h
  ·exact h
  ·rw[ZR h]at hg;cases hg
 have hold:∀b,b<w.heap.size→b≠g→w'.heap[b]?=w.heap[b]?:=by
  intro b hb hne;show (Sort.grow _ _).heap[b]?=_;rw[heap_grow_old _ _ (by simpa using hb)];show (w.heap.modify g _)[b]?=_;rw[am_,ahC (Ne.symm hne)]
 have hnew:w'.heap[g]?=some (.cells (Go.Sort.putCells id 0 dk cur) e fz):=by
  show (Sort.grow _ _).heap[g]?=_;rw[heap_grow_old _ _ (by simpa using hgs)];show (w.heap.modify g _)[g]?=_;rw[am_,ahH rfl,hg];rfl
 obtain⟨hle,hsz⟩:=KA id dk q os hm hc.wf;refine⟨⟨?_,?_,fun b off hb=>ane (hc.wf b off hb) hsz,gD.mono hle hc.qY⟩,⟨rfl,rfl,rfl,hsz,hle,?_,?_,?_⟩⟩
 ·intro r hr;simp only[ajB]at hr;subst hr;refine⟨vs',⟨hlen,.inr ⟨g,cap,_,fz,rfl,hnew,?_,hn,hcap,?_,hput⟩⟩,aX.mono hle _ _ hrep,?_⟩
  ·simpa[Go.Sort.putCells]using hfz
  ·simpa[Go.Sort.putCells]using hcur
  ·intro b hb off;simp only[Value.ownBlock,jW]at hb;subst hb;exact hm off
 ·simp[j_,aS.fp,Value.ownBlock]
 ·intro b hb hf;have hne:b≠g:=fun h=>hf (by subst h;simp[j_,aS.fp,Value.ownBlock]);exact⟨hold b hb hne,fun _ h=>h⟩
 ·intro b hb;left;simpa[j_,aS.fp,Value.ownBlock]using hb
 ·intro _;show w.drawn≤w.drawn+q;omega
theorem Ui{T:Type}{w:World}{m:jd}{f:T→List PV}:∀ {l:List T} {xs:List Value},aX w m (l.flatMap f) xs→∃zs:List (T × List Value),zs.map (·.1)=l∧(zs.map (·.2)).flatten=xs∧∀z∈zs,aX w m (f z.1) z.2
 | [],xs,h=>by
  simp only[List.flatMap_nil,aX]at h;exact⟨[],rfl,by simp[h],fun z hz=>by cases hz⟩
 | x::l,xs,h=>by
  rw[ac3]at h
  have h1:aX w m (f x) (xs.take (f x).length):=by
   have:=h.take (f x).length;simpa using this
  have h2:aX w m (l.flatMap f) (xs.drop (f x).length):=by
   have:=h.drop (f x).length;simpa using this
  obtain⟨zs,e1,e2,e3⟩:=Ui h2;refine⟨(x,xs.take (f x).length)::zs,by simp[e1],by simp[e2],fun z hz=>?_⟩;rcases agh.1 hz with rfl|hz
  ·exact h1
  ·exact e3 z hz
theorem aaY:∀ {L:List (List Value)} {k:Nat},0<k→(∀x∈L,x.length=k)→∀j,j<L.length*k→L.flatten[j]?=some ((L[j/k]!)[j%k]!)
 | [],k,_,_,j,hj=>by simp at hj
 | x::L,k,hk,h,j,hj=>by
  have hx:x.length=k:=h x (by simp);rw[List.flatten_cons];by_cases hlt:j<k
  ·rw[List.getElem?_append_left (by omega),Nat.div_eq_of_lt hlt,Nat.mod_eq_of_lt hlt,List.getElem!_cons_zero,aaS (by omega),anq x j (by omega)]
  ·rw[List.getElem?_append_right (by omega),hx,aaY hk (fun y hy=>h y (by simp[hy])) (j-k) (by simp only[List.length_cons,Nat.add_mul,Nat.one_mul]at hj;omega)];obtain⟨d,hd⟩:∃d,j=d+k:=⟨j-k,by omega⟩;subst hd;rw[Nat.add_sub_cancel,Nat.add_div_right _ hk,Nat.add_mod_right,List.getElem!_cons_succ]
theorem XJ{α:Type}[Inhabited α](enc:α→List Value){k:Nat}(hk:0<k)(henc:∀x,(enc x).length=k)(d:List α):(flatK enc k d.toArray).toList=(d.map enc).flatten:=by
 apply List.ext_getElem?;intro j
 have hfl:((d.map enc).flatten).length=d.length*k:=by
  rw[List.length_flatten,ano];clear hk
  induction d with
  | nil=>simp
  | cons x d ih=>simp only[agf,List.sum_cons,List.length_cons,Function.comp_apply,henc,ih,Nat.add_mul,Nat.one_mul,Nat.add_comm]
 by_cases hj:j<d.length*k
 ·rw[aaY hk (fun x hx=>by obtain⟨y,_,rfl⟩:=amw.1 hx;exact henc y) j (by simpa using hj)];have hs:j<(flatK enc k d.toArray).size:=by simpa using hj
  rw[anj,anb hs,←anq _ j hs,get_flatK enc k d.toArray j (by simpa using hj)];have hq:j/k<d.length:=Nat.div_lt_of_lt_mul (by rw[Nat.mul_comm];exact hj);congr 2;rw[anq d.toArray (j/k) (by simpa using hq),anq (d.map enc) (j/k) (by simpa using hq)];simp
 ·have h1:((flatK enc k d.toArray).toList)[j]?=none:=CF (by rw[akh,size_flatK];simp only[alr];omega);have h2:((d.map enc).flatten)[j]?=none:=CF (by rw[hfl];omega);rw[h1,h2]
theorem N7{α β:Type}(zs:List α)(g:α→β):(zs.attach.map fun a=>g a.1)=zs.map g:=by
 conv=>rhs;rw[←List.attach_map_subtype_val zs]
 rw[ano];rfl
theorem AC.abK{P:Program}{ρ:Ren}(L:SlLaysF0.n6 P ρ){T:Type}(f:T→List PV){k:Nat}(hk0:0<k)(hfl:∀x,(f x).length=k)(hone:∀x,(f x).all PV.one=true)
  (aE:∀w,(isAgg (ρ.t 24)).run P w=.ok true w) (zE:∀w,(Go.sizeOf (ρ.t 24)).run P w=.ok k w) {g:FuncId} (hp:dA P g=true) {cf:T→T→Int} {l:List T}
  (hcmp:∀a b,a∈l→b∈l→@AC XC P g [.agg (f a),.agg (f b)] [] fun out _=>out=.ret (.int .i64 (cf a b)))
  (s1:∀x,¬cf x x<0) (s2:∀x y z,cf x y<0→cf y z<0→cf x z<0) (s3:∀x y z,¬cf x y<0→¬cf y z<0→¬cf x z<0)
  (hd:l.Pairwise fun x y=>cf x y<0∨cf y x<0) (hb:l.length<4611686018427387904) {v:Value} {e:TypeId} {R:dO→List aS→Prop}
  (h:R (.ret (.tuple [])) [.buf v (l.mergeSort fun x y=>!decide (cf y x<0)).length k e ((l.mergeSort fun x y=>!decide (cf y x<0)).flatMap f)]):
  AC P (ρ.f 6) [.val v,.fn g []] [.buf v l.length k e (l.flatMap f)] R:=by
 rw[List.length_mergeSort]at h;intro w m vs hc hv;simp only[aX,cu]at hv;obtain⟨v0,vs0,rfl,rfl,v1,vs1,rfl,⟨cs,rfl,rfl⟩,rfl⟩:=hv
 have nil:l=[]→Calls P (ρ.f 6) #[v0,.func (.func g) #[] #[]] w fun en w'=>∃out σ' m',R out σ'∧Ar w' m' out en∧Conc w' m' σ'∧Trans w m [.buf v0 l.length k e (l.flatMap f)] w' m' σ':=by
  intro hl0;subst hl0;obtain⟨xs,⟨hx1,hx2⟩,hrep,hm⟩:=hc.each _ (ajB.2 rfl);have hnil:([]:List T).mergeSort (fun x y=>!decide (cf y x<0))=[]:=by simp
  rw[hnil]at h;rcases hx2 with⟨rfl,hn⟩|⟨gb,cap,cur,fz,rfl,hg,hfz,hn,hcap,hcur,htake⟩
  ·refine(AnyF.slices_SortFunc_none (P:=P) (ρ:=ρ) {L with} Option.none 0 (.func (.func g) #[] #[]) w).mono ?_;rintro en w' ⟨rfl,rfl⟩;exact⟨_,_,m,h,⟨_,rfl,by simp only[cu];exact⟨[],rfl,aX.nil⟩⟩,hc,Trans.refl _ _ _⟩
  ·refine(AnyF.slices_SortFunc_none (P:=P) (ρ:=ρ) {L with} (some ⟨gb,0,Option.none⟩) cap (.func (.func g) #[] #[]) w).mono ?_;rintro en w' ⟨rfl,rfl⟩;exact⟨_,_,m,h,⟨_,rfl,by simp only[cu];exact⟨[],rfl,aX.nil⟩⟩,hc,Trans.refl _ _ _⟩
 by_cases hl0:l=[]
 ·exact nil hl0
 obtain⟨xs,⟨hx1,hx2⟩,hrep,hm⟩:=hc.each _ (ajB.2 rfl);rcases hx2 with⟨rfl,hn⟩|⟨gb,cap,cur,fz,rfl,hg,hfz,hn,hcap,hcur,htake⟩
 ·exact absurd (abv hn) hl0
 obtain⟨zs,z1,z2,z3⟩:=Ui hrep;have hzl:zs.length=l.length:=by rw[←z1];simp
 have hgs:gb<w.heap.size:=by
  rcases zJ gb w.heap.size with h|h
  ·exact h
  ·rw[ZR h]at hg;cases hg
 have hm':∀off,¬m gb off:=hm gb rfl
 obtain⟨z0,hz0⟩:∃z,z∈zs:=by
  cases hzz:zs with
  | nil=>rw[hzz]at hzl;exact absurd (abv hzl.symm) hl0
  | cons z r=>exact⟨z,by simp⟩
 let A:Type:={z:T × List Value // z∈zs}
 letI:Inhabited A:=⟨⟨z0,hz0⟩⟩
 let enc:A→List Value:=fun a=>a.1.2;let cA:A→A→Int:=fun a b=>cf a.1.1 b.1.1
 have henc:∀a:A,(enc a).length=k:=fun a=>by
  have:=(z3 a.1 a.2).length_eq;rw[hfl]at this;exact this
 have amq:∀a:A,∀u∈enc a,u.oneCell'=true:=fun a=>(z3 a.1 a.2).oneCell (hone _)
 have hSA:SWO (ltOf cA):={
  irrefl:=fun x=>by simp only[ltOf,cA,am9];exact s1 _
  trans:=fun x y z a b=>by simp only[ltOf,cA,decide_eq_true_eq]at *;exact s2 _ _ _ a b
  ntrans:=fun x y z a b=>by simp only[ltOf,cA,am9]at *;exact s3 _ _ _ a b}
 have hpz:zs.Pairwise fun x y=>cf x.1 y.1<0∨cf y.1 x.1<0:=by
  rw[←z1,List.pairwise_map]at hd;exact hd
 have hTA:∀x y:A,(ltOf cA) x y=false→(ltOf cA) y x=false→x=y:=by
  intro x y a b;simp only[ltOf,cA,am9]at a b;apply Subtype.ext;obtain⟨i,hi,ei⟩:=List.mem_iff_getElem.1 x.2;obtain⟨j,hj,ej⟩:=List.mem_iff_getElem.1 y.2;rw[←ei,←ej]at a b⊢;rcases Nat.lt_trichotomy i j with hij|hij|hij
  ·rcases List.pairwise_iff_getElem.1 hpz i j hi hj hij with h'|h'
   ·exact absurd h' a
   ·exact absurd h' b
  ·subst hij;rfl
  ·rcases List.pairwise_iff_getElem.1 hpz j i hj hi hij with h'|h'
   ·exact absurd h' b
   ·exact absurd h' a
 have an3:(zs.attach.map enc).flatten=xs:=by
  rw[←z2];congr 1;exact N7 zs (fun z=>z.2)
 have hat:zs.attach.toArray.size=l.length:=by
  have:zs.attach.length=zs.length:=List.length_attach;simpa only[alr,hzl]using this
 have hcell:∀j (hj:j<l.length*k),cur[j]?=xs[j]?:=by
  intro j hj;have:(cur.toList.take (l.length*k))[j]?=xs[j]?:=by rw[htake]
  rw[List.getElem?_take,ahH hj]at this;rw[←anj,this]
 have hH:HoldsK enc k w gb 0 zs.attach.toArray:=by
  intro j hj;have hj':j<l.length*k:=by rw[←hat,←size_flatK enc];exact hj
  refine⟨?_,?_⟩
  ·simp only[World.cell?,hg,ahw];rw[ahC (by simp),hcell j hj',←an3,←XJ enc hk0 henc,anj,anb hj];congr 1;exact(anq _ j hj).symm
  ·simp only[World.frozen?,hg];rcases hfz with h|h
   ·rcases fz with⟨a,b⟩;simp only at h⊢;subst h;simp only[Bool.and_eq_false_iff,am9];omega
   ·rcases fz with⟨a,b⟩;simp only at h⊢;simp only[Bool.and_eq_false_iff,am9];rw[hcur]at h;have hcm:l.length*k≤cap*k:=Nat.mul_le_mul_right k hn;omega
 have amm:CmpLays P g #[] enc k cA gb 0 zs.attach.toArray.size w:=by
  intro m0 os dk _ x y;obtain⟨l1,l2⟩:=KA id (flatK enc k dk) m0 os hm' hc.wf;have hx:x.1.1∈l:=by rw[←z1];exact amw.2 ⟨x.1,x.2,rfl⟩
  have hy:y.1.1∈l:=by rw[←z1];exact amw.2 ⟨y.1,y.2,rfl⟩
  refine(hcmp x.1.1 y.1.1 hx hy (sortWorldK enc k w gb 0 m0 dk os) m [.agg (enc x).toArray,.agg (enc y).toArray] (@Conc.mk XC _ _ _ (fun r hr=>by simp at hr) (by simp[j_]) (fun b off h=>ane (hc.wf b off h) l2) trivial)
   (aX.cons (by simp only[cu];exact⟨enc x,rfl,aX.mono l1 _ _ (z3 x.1 x.2)⟩) (aX.cons (by simp only[cu];exact⟨enc y,rfl,aX.mono l1 _ _ (z3 y.1 y.2)⟩) aX.nil))).mono ?_
  rintro en w' ⟨out,σ',m',rfl,hout,_,ht⟩;obtain⟨r,rfl,hr⟩:=hout;simp only[cu]at hr;exact⟨by rw[hr],@Trans.grown XC trivial _ _ _ _ _ (@Trans.sub XC _ _ _ _ _ _ _ ht (List.nil_sublist _))⟩
 have key:=AnyQ.slices_SortFunc_total L k aE zE enc henc amq cA hSA g #[] gb 0 cap zs.attach.toArray w (uH hp) amm hH hgs (by rw[hat];exact hb) hTA;have e0:=hat;rw[e0]at key;refine key.mono ?_;rintro en w' ⟨rfl,q,os,rfl⟩
 have hms:((zs.attach.mergeSort fun x y=>!(ltOf cA) y x).map fun a=>a.1.1)=l.mergeSort fun x y=>!decide (cf y x<0):=by
  have e1:(zs.attach.map fun a:A=>a.1.1)=l:=by
   rw[←z1];exact N7 zs (fun z=>z.1)
  rw[List.map_mergeSort (r:=fun x y:A=>!(ltOf cA) y x) (s:=fun x y:T=>!decide (cf y x<0)) (f:=fun a:A=>a.1.1),e1];intro a _ b _;rfl
 have hlen:(zs.attach.mergeSort fun x y=>!(ltOf cA) y x).length=l.length:=by rw[List.length_mergeSort];simpa using hzl
 have aiR:=XJ enc hk0 henc (zs.attach.mergeSort fun x y=>!(ltOf cA) y x)
 have hfs:((zs.attach.mergeSort fun x y=>!(ltOf cA) y x).map enc).flatten.length=l.length*k:=by
  rw[←aiR,akh,size_flatK];simp[hlen]
 have hcm:l.length*k≤cap*k:=Nat.mul_le_mul_right k hn
 have amk:aX w m ((l.mergeSort fun x y=>!decide (cf y x<0)).flatMap f) ((zs.attach.mergeSort fun x y=>!(ltOf cA) y x).map enc).flatten:=by
  rw[←hms];generalize (zs.attach.mergeSort fun x y=>!(ltOf cA) y x)=ss
  induction ss with
  | nil=>exact aX.nil
  | cons a ss ih=>
   simp only[agf,ac3,List.flatten_cons];exact aX.append (z3 a.1 a.2) ih
 obtain⟨c1,c2⟩:=afv (flatK enc k (zs.attach.mergeSort fun x y=>!(ltOf cA) y x).toArray) q os hc hg hfz hn hcap hcur hm' hfs (by
  rw[←aiR];apply List.ext_getElem?;intro j;rw[List.getElem?_take];split
  ·rename_i hj;have h1:j<cur.size:=by omega
   have h2:j<(flatK enc k (zs.attach.mergeSort fun x y=>!(ltOf cA) y x).toArray).size:=by simpa[hlen]using hj
   simp only[Go.Sort.putCells,anj,Array.getElem?_mapIdx,anb h1,Option.map_some];rw[ahH ⟨Nat.zero_le _,by rw[ahw];exact h2⟩,Nat.sub_zero,anq _ j h2,anb h2];rfl
  ·rename_i hj
   rw[CF (by rw[akh,size_flatK];simp[hlen];omega)]) amk
 exact⟨_,_,m,h,⟨_,rfl,by simp only[cu];exact⟨[],rfl,aX.nil⟩⟩,c1,c2⟩
end Go.Abs
namespace Go.Ft
open Go Go.Lib
theorem IB:∀s t:Str,Go.Lib.index s t=match kP s t with|none=>-1|some i=>(i:Int)
 | [],t=>by
  unfold Go.Lib.index kP;cases t.isEmpty<;>rfl
 | b::l,t=>by
  unfold Go.Lib.index kP;rw[IB l t];cases t.isPrefixOf (b::l)with
  | true=>rfl
  | false=>
   simp only[anm,ak1];cases kP l t with
   | none=>rfl
   | some i=>
    have:(((i:Nat):Int)==-1)=false:=by rw[beq_eq_false_iff_ne];omega
    simp only[this,anm,ak1,Option.map_some];show (i:Int)+1=((i+1:Nat):Int);omega
theorem ZF(s t:Str):Go.Lib.contains s t=(kP s t).isSome:=by
 unfold Go.Lib.contains;rw[IB];cases kP s t with
 | none=>rfl
 | some i=>simp
theorem XA{s t:Str}{i:Nat}(h:kP s t=some i):i+t.length≤s.length:=by
 have:=index_room s t (by rw[IB,h];exact Int.natCast_nonneg i);rw[IB,h]at this;simp only at this;omega
theorem aau{t:Str}(ht:t≠[]):∀(n:Nat) (s:Str) (f k:Nat),s.length<n→n≤f→n≤k→splitK t 0 (countFrom t f s) s=mR t k s
 | 0,s,f,k,h,_,_=>by omega
 | n+1,s,f,k,h,hf,hk=>by
  obtain⟨f,rfl⟩:∃g,f=g+1:=⟨f-1,by omega⟩;obtain⟨k,rfl⟩:∃g,k=g+1:=⟨k-1,by omega⟩;rw[countFrom,mR,IB];cases hi:kP s t with
  | none=>simp[splitK]
  | some i=>
   have hr:=XA hi;have htl:0<t.length:=List.length_pos_iff.2 ht;have hb:(((i:Nat):Int)==-1)=false:=by rw[beq_eq_false_iff_ne];omega
   simp only[hb,anm,ak1,ana];rw[Nat.add_comm 1,splitK,IB,hi];simp only[hb,anm,ak1,ana,Nat.add_zero];rw[aau ht n (s.drop (i+t.length)) f k (by simp;omega) (by omega) (by omega)]
theorem Zk:∀(l:List Str) (t:Str),Go.Lib.join l t=lZ l t
 | [],_=>rfl
 | [x],t=>by rw[lZ,join_one]
 | x::y::r,t=>by
  rw[lZ,←Zk (y::r) t,join_cons,join_cons];simp[joinTail]
theorem afe:∀(k u:Nat),u<10 ^ (k+1)→rz (k+1) u=decDigits u
 | 0,u,h=>by rw[rz,decDigits,ahH (by simpa using h),dif_pos (by simpa using h)]
 | k+1,u,h=>by
  rw[rz,decDigits];by_cases hu:u<10
  ·rw[ahH hu,dif_pos hu]
  ·rw[ahC hu,dif_neg hu,afe k (u/10) (by rw[Nat.pow_succ]at h;omega)]
theorem akb{n:Int}(h1:-9223372036854775808≤n)(h2:n≤9223372036854775807):tK n=itoa n:=by
 unfold tK itoa;rw[afe 19 _ (by have:(10:Nat) ^ 20=100000000000000000000:=(by decide);omega),afe 19 _ (by have:(10:Nat) ^ 20=100000000000000000000:=(by decide);omega)]
theorem aiL:∀(l:Str) (acc:Nat),GN acc l=match parseUint10 acc l with|.ok v=>(0,v)|.range=>(2,0)|_=>(1,0)
 | [],acc=>rfl
 | c::r,acc=>by
  rw[GN,parseUint10];split
  ·split
   ·rfl
   ·split
    ·rfl
    ·exact aiL r _
  ·rfl
theorem akv(l:Str):uj l=match atoiAll l with|.ok v=>(0,v)|.range=>(2,atoiSat l)|_=>(1,0):=by
 cases l with
 | nil=>rfl
 | cons c r=>
  have anP:atoiSat (c::r)=if c.toNat=45 then -9223372036854775808 else 9223372036854775807:=by
   unfold atoiSat;simp
  rw[anP];unfold uj atoiAll parseMag;simp only;generalize (if c.toNat=43∨c.toNat=45 then r else c::r)=body;by_cases hb:body=[]
  ·simp[hb]
  ·rw[ahC hb,ahC hb,aiL];cases parseUint10 0 body with
   | ok u=>
    simp only;by_cases h1:¬c.toNat=45∧9223372036854775808≤u
    ·simp[h1]
    ·by_cases h2:c.toNat=45∧9223372036854775808<u
     ·simp[h2]
     ·simp[h1,h2]
   | _=>rfl
end Go.Ft
namespace Go.Abs
variable [gD]
open Go Go.Proofs Go.Lib Go.Shelf Go.RowKit
theorem Ag(hD:¬gD.D){w w':World}{m:jd}(hc:Conc w m [])(hb:Below w.heap.size w w'):Conc w' m []∧Trans w m [] w' m []:=by
 have hle:Le w m w' m:=fun b off hm=>⟨hm,World.cell?_of_block (w:=w) (hb.block b (hc.wf b off hm))⟩
 exact⟨⟨fun r hr=>by simp at hr,by simp[j_],fun b off hm=>ane (hc.wf b off hm) hb.size,gD.mono hle hc.qY⟩,
  ⟨hb.os,hb.tape,hb.output,hb.size,hle,fun b hlt _=>⟨hb.block b hlt,fun _ h=>h⟩,fun b hb=>by simp[j_]at hb,fun d=>absurd d hD⟩⟩
section
variable {P : Program} {ρ : Ren} {R : dO → List aS → Prop}
theorem AC.contains(L:Lays.n144 P ρ){s t:List UInt8}(hs:s.length<4294967281)(hm:∀(w:World) (m:jd),gD.G w m→∃n:Int,w.cell? ⟨ρ.g 1,0,Option.none⟩=some (.int .i64 n))
  (h:R (.ret (.bool (Ft.kP s t).isSome)) []):AC P (ρ.f 144) [.str s,.str t] [] R:=by
 intro w m vs hc hv;simp only[aX,cu]at hv;obtain⟨v0,vs0,rfl,rfl,v1,vs1,rfl,rfl,rfl⟩:=hv;obtain⟨n,hn⟩:=hm w m hc.qY;refine(Any.strings_Contains L ⟨s.toArray⟩ ⟨t.toArray⟩ n w (by simpa[ByteArray.size]using hs) hn).mono ?_;rintro en w' ⟨rfl,rfl⟩;exact⟨_,_,m,h,⟨_,rfl,by simp only[cu];rw[Ft.ZF]⟩,hc,Trans.refl _ _ _⟩
theorem AC.itoa(hD:¬gD.D)(L:LaysM.n171 P ρ){n:Int}(h0:-9223372036854775808≤n)(h1:n≤9223372036854775807)(ht:∀(w:World) (m:jd),gD.G w m→Lib.TabIs P w "internal/strconv.uint64pow10" .u64 Lib.pow10Tab)
  (h:R (.ret (.str (Ft.tK n))) []):AC P (ρ.f 171) [.int .i64 n] [] R:=by
 intro w m vs hc hv;simp only[aX,cu]at hv;obtain⟨v0,vs0,rfl,rfl,rfl⟩:=hv;refine(Any.strconv_Itoa L n h0 h1 w (ht w m hc.qY)).mono ?_;rintro en w' ⟨rfl,k,os,rfl⟩;have hb:Below w.heap.size w (Sort.grow (w.drewN k) os):=⟨rfl,rfl,rfl,by rw[Sort.size_grow];exact Nat.le_add_right _ _,fun j hj=>Sort.heap_grow_old (w.drewN k) os hj⟩;obtain⟨c1,c2⟩:=Ag hD hc hb;exact⟨_,_,m,h,⟨_,rfl,by simp only[cu];rw[Ft.akb h0 h1]⟩,c1,c2⟩
theorem AC.atoi(hD:¬gD.D)(L:LaysC.n172 P ρ){s:List UInt8}(hs:s.length≤281474976710656){E:TypeId}(hE:ρ.t 168=E)
  (hv1:∀(w:World) (m:jd),gD.G w m→∃ev,w.cell? ⟨ρ.g 15,0,Option.none⟩=some ev∧(ev=.nilIface∨∃te pe,ev=.iface te pe)) (hv2:∀(w:World) (m:jd),gD.G w m→∃ev,w.cell? ⟨ρ.g 16,0,Option.none⟩=some ev∧(ev=.nilIface∨∃te pe,ev=.iface te pe))
  (h:R (.ret (.tuple [.int .i64 (Ft.uj s).2,.err (if (Ft.uj s).1=0 then Option.none else some E)])) []):AC P (ρ.f 172) [.str s] [] R:=by
 subst hE;intro w m vs hc hv;simp only[aX,cu]at hv;obtain⟨v0,vs0,rfl,rfl,rfl⟩:=hv;have hF:=Ft.akv s;have hsz:(⟨s.toArray⟩:ByteArray).size=s.length:=by simp[ByteArray.size]
 have tup:∀(w':World) (a:Int) (e:Option TypeId) (x:Value),cu w' m (.err e) x→cu w' m (.tuple [.int .i64 a,.err e]) (.tuple #[.int .i64 a,x]):=fun w' a e x hx=>by
  simp only[cu];exact⟨[.int .i64 a,x],rfl,aX.cons (by simp only[cu]) (aX.cons hx aX.nil)⟩
 cases ha:atoiAll s with
 | ok v=>
  rw[ha]at hF;simp only at hF;rw[hF]at h;refine(Any.strconv_Atoi_ok L ⟨s.toArray⟩ (by rw[hsz];omega) v (by simpa using ha) w).mono ?_;rintro en w' ⟨rfl,hw⟩
  have hb:Below w.heap.size w w':=by
   rcases hw with rfl|⟨t,rfl⟩
   ·exact Below.refl _ _
   ·refine⟨rfl,rfl,rfl,?_,fun j hj=>Lib.bytesWorld_at_old w _ _ j hj⟩;have hsz2:(Lib.bytesWorld w (ρ.t 5) t).heap.size=w.heap.size+1:=Lib.bytesWorld_size ..;omega
  obtain⟨c1,c2⟩:=Ag hD hc hb;exact⟨_,_,m,h,⟨_,rfl,tup _ _ Option.none _ (by simp only[cu])⟩,c1,c2⟩
 | range=>
  rw[ha]at hF;simp only at hF;rw[hF]at h;obtain⟨ev,e1,e2⟩:=hv2 w m hc.qY;refine(Any.strconv_Atoi_range L ⟨s.toArray⟩ (by rw[hsz];exact hs) (by simpa using ha) ev w e1 e2).mono ?_;rintro en w' ⟨N,rfl,_,_,hb⟩;obtain⟨c1,c2⟩:=Ag hD hc hb;exact⟨_,_,m,h,⟨_,rfl,tup _ _ (some _) _ (by simp only[cu];exact⟨_,rfl⟩)⟩,c1,c2⟩
 | _=>
  rw[ha]at hF;simp only at hF;rw[hF]at h;obtain⟨ev,e1,e2⟩:=hv1 w m hc.qY;refine(Any.strconv_Atoi_syntax L ⟨s.toArray⟩ (by rw[hsz];exact hs) (by simpa using ha) ev w e1 e2).mono ?_;rintro en w' ⟨N,rfl,_,_,hb⟩;obtain⟨c1,c2⟩:=Ag hD hc hb;exact⟨_,_,m,h,⟨_,rfl,tup _ _ (some _) _ (by simp only[cu];exact⟨_,rfl⟩)⟩,c1,c2⟩
theorem WG{w:World}{m:jd}{b:Nat}:∀ {l:List (List UInt8)} {off:Nat},iX w m b 1 off (l.map fun s=>[PV.str s])→∀(j:Nat) (x:ByteArray),(l.map fun s=>(⟨s.toArray⟩:ByteArray))[j]?=some x→m b (off+j)∧w.cell? ⟨b,off+j,Option.none⟩=some (.string x)
 | [],_,_,j,x,h=>by simp at h
 | s::l,off,hr,j,x,h=>by
  simp only[agf,iX,ou,cu]at hr;obtain⟨⟨_,⟨v,h1,h2,h3⟩,_⟩,h4⟩:=hr;cases j with
  | zero=>
   simp only[agf,anA,jW]at h;subst h;rw[h3]at h2;exact⟨h1,h2⟩
  | succ j=>
   simp only[agf,List.getElem?_cons_succ]at h;have:=WG h4 j x h;rw[show off+(j+1)=off+1+j from by omega];exact this
theorem AC.join(hD:¬gD.D)(L:Lays.n156 P ρ)(X:Builder.Extra P ρ){l:List (List UInt8)}{t:List UInt8}(hl:l.length≤140737488355328)(hj:(Ft.lZ l t).length≤140737488355328)
  (h:R (.ret (.str (Ft.lZ l t))) []):AC P (ρ.f 156) [.list (l.map fun s=>[PV.str s]),.str t] [] R:=by
 intro w m vs hc hv;simp only[aX]at hv;obtain⟨v0,vs0,rfl,h1,v1,vs1,rfl,h2,rfl⟩:=hv;simp only[cu]at h1 h2;obtain⟨a,cap,rfl,hcap,hel⟩:=h1;subst h2;have hml:(l.map fun s=>[PV.str s]).length=l.length:=ama _;rw[hml]at hcap⊢
 have hdata:(l.map fun s=>(⟨s.toArray⟩:ByteArray)).map (·.data.toList)=l:=by
  rw[ano];exact(List.map_congr_left (fun s _=>by simp)).trans (List.map_id l)
 rcases hel with he|⟨b,off,sz,rfl,he⟩
 ·have hl0:l=[]:=List.map_eq_nil_iff.1 he;subst hl0;refine(Any.strings_Join_none L X a cap ⟨t.toArray⟩ w).mono ?_;rintro en w' ⟨rfl,rfl⟩;exact⟨_,_,m,h,⟨_,rfl,by simp only[cu];rfl⟩,hc,Trans.refl _ _ _⟩
 ·cases hl0:l with
  | nil=>
   subst hl0;refine(Any.strings_Join_none L X _ cap ⟨t.toArray⟩ w).mono ?_;rintro en w' ⟨rfl,rfl⟩;exact⟨_,_,m,h,⟨_,rfl,by simp only[cu];rfl⟩,hc,Trans.refl _ _ _⟩
  | cons x r=>
   have hsz:sz=1:=by
    rw[hl0]at he;simp only[agf,iX]at he;exact he.1.1.symm
   subst hsz;rw[←hl0];have hcell:=WG he;have hbk:b<w.heap.size:=hc.wf b (off+0) (hcell 0 ⟨x.toArray⟩ (by simp[hl0])).1;have hlm:(l.map fun s=>(⟨s.toArray⟩:ByteArray)).length=l.length:=ama _
   have key:=Any.strings_Join L X b off cap (l.map fun s=>(⟨s.toArray⟩:ByteArray)) ⟨t.toArray⟩ w (fun j x hx=>(hcell j x hx).2) hbk (by rw[hlm];exact hl) (by rw[hlm];exact hcap)
    (by rw[hdata];simpa[Ft.Zk]using hj)
   rw[hlm,hdata]at key;refine key.mono ?_;rintro en w' ⟨rfl,hb⟩;obtain⟨c1,c2⟩:=Ag hD hc hb;exact⟨_,_,m,h,⟨_,rfl,by simp only[cu];rw[Ft.Zk]⟩,c1,c2⟩
theorem AC.split(L:Lays.n146 P ρ)(hi9:(P.info? (ρ.t 9)).map (fun i=>(i.zero,i.size,i.bytes))=some (some (.string ByteArray.empty),1,16)){s t:List UInt8}(hs:s.length<4294967281)(ht:t≠[])
  (hm:∀(w:World) (m:jd),gD.G w m→∃n:Int,w.cell? ⟨ρ.g 1,0,Option.none⟩=some (.int .i64 n))
  (h:R (.ret (.list ((Ft.mR t (s.length+1) s).map fun s=>[PV.str s]))) []):AC P (ρ.f 146) [.str s,.str t] [] R:=by
 intro w m vs hc hv;simp only[aX,cu]at hv;obtain⟨v0,vs0,rfl,rfl,v1,vs1,rfl,rfl,rfl⟩:=hv;obtain⟨n,hn⟩:=hm w m hc.qY;have htl:1≤t.length:=List.length_pos_iff.2 ht;have hts:1≤(⟨t.toArray⟩:ByteArray).size:=by simpa[ByteArray.size]using htl
 refine(Any.strings_Split L hi9 ⟨s.toArray⟩ ⟨t.toArray⟩ n w (by simpa[ByteArray.size]using hs) hn hts).mono ?_;rintro en w' ⟨rfl,rfl⟩;have hall:=Lib.splitB_all ⟨t.toArray⟩ hts 0 _ ⟨s.toArray⟩ rfl
 have hdata:(Lib.splitB ⟨t.toArray⟩ 0 (Lib.countB ⟨s.toArray⟩ ⟨t.toArray⟩) ⟨s.toArray⟩).map (·.data.toList)=Ft.mR t (s.length+1) s:=by
  rw[splitB_data];exact Ft.aau ht (s.length+1) s (s.length+1) (s.length+1) (Nat.lt_succ_self _) (abr _) (abr _)
 have hlen:Lib.countB ⟨s.toArray⟩ ⟨t.toArray⟩+1=(Ft.mR t (s.length+1) s).length:=by rw[←hdata,ama,hall]
 have amh:(Lib.splitB ⟨t.toArray⟩ 0 (Lib.countB ⟨s.toArray⟩ ⟨t.toArray⟩) ⟨s.toArray⟩).map Value.string=(Ft.mR t (s.length+1) s).map fun s=>Value.string ⟨s.toArray⟩:=by
  rw[←hdata,ano];exact List.map_congr_left fun x _=>by simp
 rw[hlen,amh];generalize Ft.mR t (s.length+1) s=r at h⊢;have hcl:=pU hc (.cells (r.map fun s=>Value.string ⟨s.toArray⟩).toArray (ρ.t 9)) (fun _=>True);have htr:=iF (σ':=[]) hc (.cells (r.map fun s=>Value.string ⟨s.toArray⟩).toArray (ρ.t 9)) (fun _=>True) (fun b hb=>by simp[j_]at hb);have href:=Es hc (r.map fun s=>Value.string ⟨s.toArray⟩) (r.map PV.str) (WT r) (ρ.t 9);refine⟨_,_,_,h,⟨_,rfl,?_⟩,hcl,htr⟩;simp only[cu];have hml:(r.map fun s=>[PV.str s]).length=r.length:=ama _;rw[hml];refine⟨_,_,rfl,abr _,.inr ⟨w.heap.size,0,1,rfl,oo.2 ⟨fun e he=>?_,?_⟩⟩⟩
 ·obtain⟨x,_,rfl⟩:=amw.1 he;rfl
 ·have hfl:(r.map fun s=>[PV.str s]).flatten=r.map PV.str:=by
   clear h hcl htr href hml
   induction r with
   | nil=>rfl
   | cons x r ih=>simp[ih]
  rw[hfl];exact href
end
end Go.Abs
namespace Go.Abs
open Go
@[reducible] def amy(ints errs:List Nat)(tabs:List (Nat × List Value)):gD where
 G:=fun w m=>(∀g∈ints,m g 0∧∃n:Int,w.cell? ⟨g,0,none⟩=some (.int .i64 n))∧(∀g∈errs,m g 0∧∃u v,w.cell? ⟨g,0,none⟩=some (.iface u v))∧∀p∈tabs,∀off,m p.1 off∧w.cell? ⟨p.1,off,none⟩=p.2[off]?
 mono:=fun {w w' m m'} hle ⟨h1,h2,h3⟩=>⟨fun g hg=>by
   obtain⟨a,n,b⟩:=h1 g hg;obtain⟨c,d⟩:=hle g 0 a
   exact⟨c,n,by rw[d,b]⟩,fun g hg=>by
   obtain⟨a,u,v,b⟩:=h2 g hg;obtain⟨c,d⟩:=hle g 0 a
   exact⟨c,u,v,by rw[d,b]⟩,fun p hp off=>by
   obtain⟨a,b⟩:=h3 p hp off;obtain⟨c,d⟩:=hle p.1 off a
   exact⟨c,by rw[d,b]⟩⟩
 D:=False
theorem QZ{W:World}{g off:Nat}{v:Value}(h:W.cell? ⟨g,off,none⟩=some v):wL W g 0:=by
 unfold World.cell? at h;show g<W.heap.size;rcases zJ g W.heap.size with hl|hl
 ·exact hl
 ·simp only at h;rw[ZR hl]at h;cases h
theorem Qu{P:Program}{n nm:String}{d:DataW Unit}{r:List (String × DataW Unit)}{W:World}{g t:Nat}{ms:Array (String × TypeId)}(h:laidMet P ((n,.iface nm d)::r) W)(hg:P.globalNamed n=some g)
  (ht:(P.globals[g]?).map (·.type)=some t) (hi:P.underlying t=some (.interface ms)):∃u v,W.cell? ⟨g,0,none⟩=some (.iface u v):=by
 obtain⟨ps,⟨g0,t0,cs0,f0,p0,q0,hg0,ht0,hv0,hd0,_,e0⟩,_,_⟩:=h;obtain rfl:=am2 (hg.symm.trans hg0);obtain rfl:=am2 (ht.symm.trans ht0);obtain⟨l0⟩:=cs0;cases f0 with
 | zero=>simp[DataW.trod]at hd0
 | succ f0=>
  unfold DataW.trod at hd0;rw[hi]at hd0;simp only at hd0;split at hd0<;>first|(cases hd0;done)|skip
  all_goals first
   | (rename_i e;cases e;done)
   | skip
  all_goals simp_all
  all_goals exact⟨_,_,by simpa using World.var?_cell hg0 hv0 0⟩
theorem abF{P:Program}{w:World}{name:String}{k:IntKind}{zs:List Int}{g:Nat}(hg:P.globalNamed name=some g)(h:Lib.TabIs P w name k zs):∀off,wL w g off∧w.cell? ⟨g,off,none⟩=(zs.map fun z=>Value.int k z)[off]?:=by
 intro off;unfold Lib.TabIs World.var? at h;rw[hg]at h;simp only[Option.bind_some]at h;split at h
 ·rename_i cs t f hc;cases h;refine⟨?_,?_⟩
  ·show g<w.heap.size;rcases zJ g w.heap.size with hl|hl
   ·exact hl
   ·rw[ZR hl]at hc;cases hc
  ·unfold World.cell?;simp only[hc];simp
 ·cases h
theorem acO{P:Program}{w:World}{name:String}{k:IntKind}{zs:List Int}{g:Nat}(hg:P.globalNamed name=some g)(hne:zs≠[])(h:∀off,w.cell? ⟨g,off,none⟩=(zs.map fun z=>Value.int k z)[off]?):Lib.TabIs P w name k zs:=by
 unfold Lib.TabIs World.var?;rw[hg];simp only[Option.bind_some];have h0:=h 0
 obtain⟨z,r,rfl⟩:∃z r,zs=z::r:=by
  cases zs with
  | nil=>exact absurd rfl hne
  | cons z r=>exact⟨z,r,rfl⟩
 unfold World.cell? at h0;simp only at h0;split at h0
 ·rename_i cs t f hc;rw[hc];simp only[jW];apply Array.ext_getElem?;intro i;have hi:=h i;unfold World.cell? at hi;simp only[hc]at hi;simpa using hi
 ·simp at h0
end Go.Abs
namespace Go.Abs
variable [gD]
open Go
section
variable {P : Program} {o : Oper} {ρ : Operand → PV} {σ : List aS} {R S : PV → List aS → Prop}
end
end Go.Abs
namespace Go.Abs
end Go.Abs
namespace Go.Abs
variable [gD]
theorem AR.VF{P:Program}{n:Nat}{all:Array Oper}{lo:List Oper}{env:Env}{σ:List aS}{ds:List Deferred}{Q:Post}{v:Value}{k sz e:Nat}{cs:List PV}(i:Nat)(hi:σ[i]?=some (aS.buf v k sz e cs))(h:PV.yC (.val v)=some [.val v]→[PV.val v].all PV.one=true→AR P n all lo env σ ds Q):AR P n all lo env σ ds Q:=by
 intro w m a QC hs ha;obtain⟨xs,hrow,_,_⟩:=hs.gY.each _ (acj hi)
 have hv:v.oneCell'=true:=by
  rcases hrow.2 with⟨rfl,_⟩|⟨g,cap,cur,fz,rfl,_⟩<;>rfl
 exact h (by simp[PV.yC,hv]) (by simp[PV.one,hv]) w m a QC hs ha
end Go.Abs
namespace Go.Abs
variable [gD]
open Go
theorem Less.nil{e:Env}:Less [] e:=fun _=>.inl rfl
theorem Less.add{e e':Env}{t:Nat}{p:PV}(h:e.get t=p)(k:Less e' e):Less ((t,p)::e') e:=by
 intro u;simp only[Env.get];cases hb:Nat.beq t u with
 | false=>exact k u
 | true=>
  have:=Aq hb;subst this;exact .inr h.symm
section
variable {P : Program} {n : Nat} {ds : List Deferred} {L : List Oper}
def AD(P:Program)(n:Nat)(L:List Oper)(env:Env)(σ:List aS)(ds:List Deferred)(Q:Post):Prop:=
 ∀w m a QC,om w m n env σ ds a→Acc n Q w m σ QC→wpAny P .any L.toArray QC L.toArray.size (Array.replicate L.toArray.size false) a {w with drawn:=w.drawn+1}
theorem AD.aa7{env:Env}{σ:List aS}{Q:Post}(k k2:Nat)(σ1 σ2:List aS)(J:(Nat→Bool)→Env→List aS→Prop)(ho:Gx L k k2=true)(hk:Nat.ble k k2=true)(hk2:Nat.ble k2 L.length=true)
  (hperm:σ.Perm (σ1++σ2))
  (h:Ev P n L.toArray σ1 env (L.take k) fun env'=>J (fun i=>Nat.blt i k) env' σ2)
  (hI:∀S S' e s,(∀i,k≤i→i<k2→S i=S' i)→J S e s→J S' e s)
  (hT:∀S e σ2 i o,J S e σ2→k≤i→i<k2→S i=false→(∀j∈fI o,k≤j→S j=true)→L[i]?=some o→o.guard=none∧(∀t,o.dst=some t→t<n)∧
   AO P o e.ev σ2 (fun p wm=>J (fun j=>if i=j then true else S j) (EP o.dst p e) wm) (fun p wm=>Q (.panic p) [] (σ1++wm) ds))
  (hend:∀S e σ2,(∀i,k≤i→i<k2→S i=true)→J S e σ2→AR P n L.toArray (L.drop k2) e (σ1++σ2) ds Q):
  AD P n L env σ ds Q:=by
 intro w m a QC hs ha;have hk:k≤k2:=abq hk;have hk2:k2≤L.length:=abq hk2;have ho:=Mr hk ho;obtain⟨d,p,h1,h2⟩:=Ev.facts h;rw[List.length_take,akO (by omega)]at h2;have r_:Trans w m σ {w with drawn:=w.drawn+1} m σ:=⟨rfl,rfl,rfl,abr _,fun _ _ h=>⟨h,rfl⟩,fun _ _ _=>⟨rfl,fun _ h=>h⟩,fun _ h=>.inl h,fun _=>Nat.le_succ _⟩;have hc':Conc {w with drawn:=w.drawn+1} m σ:=⟨fun r hr=>aS.nX (hs.gY.each r hr) r_.le fun _ _=>⟨rfl,fun _ h=>h⟩,hs.gY.apart,hs.gY.wf,gD.mono r_.le hs.gY.qY⟩;have MK:Trans w m σ {w with drawn:=w.drawn+1} m (σ1++σ2):=r_.perm (.refl _) hperm;have h1':∀i o,i<k→L[i]?=some o→o.dst=some (d i)∧d i<n∧sJ P L.toArray (kZ (fun _=>true) d p env i) σ1 o (p i):=fun i o hi hoi=>h1 i o (by rw[amv hi];exact hoi);have hd:∀i o,i<k→L[i]?=some o→o.dst=some (d i)∧d i<n:=fun i o hi hoi=>⟨(h1' i o hi hoi).1,(h1' i o hi hoi).2.1⟩;refine aac 0 (fun _ _ _ _ h=>by omega) (ds:=ds) (d:=d) (σ1:=σ1) (Q:=Q) hk hk2 ho hd J hI hT hend _ _ a _ m (kZ (fun _=>true) d p env k) σ2 (by simp) ?_ ?_ ?_ ?_ ?_ ?_ (ha.step MK)
 ·simp
 ·intro j _ hj;simp[Array.getD,hj]
 ·intro i o hoi hl
  have Jk:i<L.length:=by
   rcases zJ i L.length with h|h
   ·exact h
   ·simp[CF h]at hoi
  simp[Array.getD,Jk]at hl
 ·intro i o hi hoi _;obtain⟨f1,f2,f3⟩:=h1' i o hi hoi
  have hother:∀t,(o.dst=some t∨t∈readsOf L o)→∀j,(i≤j∧t∈readsOf L o∨i+1≤j)→j<k→d j≠t:=by
   intro t ht j hj hjk hdj;have hoj:L[j]?=some L[j]:=aaS (by omega);have e1:=(hd j _ hjk hoj).1;rw[hdj]at e1;by_cases e:i=j
   ·subst e;have e9:=am2 (hoi.symm.trans hoj);rw[←e9]at e1;rcases hj with⟨_,hj⟩|hj
    ·exact ho.self i o t hi hoi e1 hj
    ·omega
   ·obtain⟨e2,e3⟩:=ho.apart i o j _ t hi hoi (by omega) hoj e e1;rcases ht with ht|ht
    ·exact e2 ht
    ·have:=ho.before i o hoi j (e3 ht).2;omega
  have afb:(kZ (fun _=>true) d p env k).get (d i)=p i:=by
   rw[fO (i:=i+1) (by omega) fun j h4 h5 _=>hother (d i) (.inl f1) j (.inr h4) h5];simp[kZ,Env.get]
  rw[afb,ahC (by omega)];refine sJ.MX rfl f3 fun t ht=>?_;exact fO (by omega) fun j h4 h5 _=>hother t (.inr ht) j (.inl ⟨h4,ht⟩) h5
 ·refine hI _ _ _ _ (fun i hi hi2=>?_) h2;have Jk:i<L.length:=by omega
  have hb:Nat.blt i k=false:=by
   cases e:Nat.blt i k with
   | false=>rfl
   | true=>have:=m_.1 e;omega
  rw[hb];simp[Array.getD,Jk]
 ·refine⟨hs.size,hs.ds,fun t=>?_,hc'.perm hperm⟩;rw[nY];split
  ·simp[cu]
  ·rename_i hh;rw[fO (i:=0) (Nat.zero_le _)]
   ·exact hs.env.mono r_.le t
   ·intro j _ hj _ hdj;apply hh;rw[List.any_eq_true];have hjL:j<L.length:=by omega
    exact⟨j,by simpa using hj,by simp[Array.getD,hjL,hdj]⟩
theorem AW.aa7{env:Env}{σ:List aS}{Q:Post}{id:Nat}(k k2:Nat)(σ1 σ2:List aS)(J:(Nat→Bool)→Env→List aS→Prop)(hm:P.follows .mixedOrders=true)(ho:Gx L k k2=true)(hk:Nat.ble k k2=true)(hk2:Nat.ble k2 L.length=true)
  (hperm:σ.Perm (σ1++σ2))
  (h:Ev P n L.toArray σ1 env (L.take k) fun env'=>J (fun i=>Nat.blt i k) env' σ2)
  (hI:∀S S' e s,(∀i,k≤i→i<k2→S i=S' i)→J S e s→J S' e s)
  (hT:∀S e σ2 i o,J S e σ2→k≤i→i<k2→S i=false→(∀j∈fI o,k≤j→S j=true)→L[i]?=some o→o.guard=none∧(∀t,o.dst=some t→t<n)∧
   AO P o e.ev σ2 (fun p wm=>J (fun j=>if i=j then true else S j) (EP o.dst p e) wm) (fun p wm=>Q (.panic p) [] (σ1++wm) ds))
  (hend:∀S e σ2,(∀i,k≤i→i<k2→S i=true)→J S e σ2→AR P n L.toArray (L.drop k2) e (σ1++σ2) ds Q):
  AW P n (.region id L.toArray true) env σ ds Q:=
 fun w m a QC hs ha=>wp_region_any hm (AD.aa7 k k2 σ1 σ2 J ho hk hk2 hperm h hI hT hend w m a QC hs ha)
end
end Go.Abs
namespace Go.Abs
variable [gD]
open Go Go.Ft
theorem ab0{α:Type}(a b c d:α):[a,b,c,d].Perm ([b,c,d]++[a]):=by
 show (a::[b,c,d]).Perm ([b,c,d]++[a]);exact(List.perm_append_singleton a [b,c,d]).symm
section
variable {P : Program} {o : Oper} {ρ : Operand → PV} {σ : List aS} {R S : PV → List aS → Prop}
theorem AO.YR{src dst t e:TypeId}{x:Operand}{b i n k:Nat}{cs:List PV}{j:TypeInfo}(ho:o.op=.convert src dst x)(hs:P.underlying src=some (.pointer t))(hd:P.underlying dst=some .unsafePointer)(ht:P.info? t=some j)(hj:(j.size !=0)=true)
  (hx:ρ x=.val (.pointer (some ⟨b,k,none⟩))) (hi:σ[i]?=some (aS.kK b e cs)) (hn:cs.length=k+n+1) (hR:R (.val (.pointer (some ⟨b,k,none⟩))) σ):AO P o ρ σ R S:=by
 refine AO.of_same hR fun w m ev hr hc=>?_;have h1:=hr x (by simp[ho,Op.operands]);rw[hx]at h1;simp only[cu]at h1;obtain⟨vs,g1,g2,_⟩:=hc.kK hi;have hsh:w.shape? b=some (e,vs.length):=by simp[World.shape?,g1]
 have hl:=g2.length_eq;refine⟨.pointer (some ⟨b,k,none⟩),?_,by simp only[cu]⟩;have:=Lib.run_to_unsafe w ⟨b,k,none⟩ hs hd ht (by simpa using hj) hsh (by show k<vs.length;omega);simp[execOp,ho,h1,this]
theorem AO.Vs{src dst u e:TypeId}{x:Operand}{b i n k:Nat}{cs:List PV}{j:TypeInfo}(ho:o.op=.convert src dst x)(hs:P.underlying src=some .unsafePointer)(hd:P.underlying dst=some (.pointer u))(hu:P.info? u=some j)
  (hx:ρ x=.val (.pointer (some ⟨b,k,none⟩))) (hi:σ[i]?=some (aS.kK b e cs)) (hn:cs.length=n) (hlies:liesAt P P.depth e (n/P.cellsOf e) k u 1=true) (hR:R (.val (.pointer (some ⟨b,k,none⟩))) σ):AO P o ρ σ R S:=by
 refine AO.of_same hR fun w m ev hr hc=>?_;have h1:=hr x (by simp[ho,Op.operands]);rw[hx]at h1;simp only[cu]at h1;obtain⟨vs,g1,g2,_⟩:=hc.kK hi;have hsh:w.shape? b=some (e,n):=by simp[World.shape?,g1,←hn,g2.length_eq]
 refine⟨.pointer (some ⟨b,k,none⟩),?_,by simp only[cu]⟩;have:=Lib.run_from_unsafe w ⟨b,k,none⟩ hs hd hu hsh hlies;simp[execOp,ho,h1,this]
theorem AO.RQ{c:Call}{x y:Operand}{pt it e eu:TypeId}{b:Nat}{v p:Value}{q:PV}{bs:List UInt8}(ho:o.op=.call c)(iB:c.callee=.builtin .unsafeString)(hargs:c.args=#[x,y])(hty:c.argTypes=#[pt,it])
  (hp:P.underlying pt=some (.pointer eu)) (hce:P.cellsOf eu=1) (hσ:σ=[.row v bs.length 1 eu,.kK b e [q,.val p,.own v (bs.map fF)]]) (hx:ρ x=.val (.pointer (NJ v))) (hy:ρ y=.int .i64 bs.length)
  (hR:R (.str bs) [.kK b e [q,.val p,.own v (bs.map fF)]]):AO P o ρ σ R S:=by
 subst hσ;refine AO.of_run' fun w m ev hr hc=>?_;have h1:=hr x (by simp[ho,Op.operands,Call.operands,iB,hargs]);have h2:=hr y (by simp[ho,Op.operands,Call.operands,iB,hargs]);rw[hx]at h1;rw[hy]at h2;simp only[cu]at h1 h2;have htb:=hc.each (.kK b e [q,.val p,.own v (bs.map fF)]) (by simp);obtain⟨vs,g1,g2,g2m⟩:=hc.each (.kK b e [q,.val p,.own v (bs.map fF)]) (by simp);obtain⟨xs,hrow,Si⟩:=hc.each (.row v bs.length 1 eu) (by simp);have g2':=g2;simp only[aX]at g2;obtain⟨v0,vs0,rfl,g0,v1,vs1,rfl,g3,v2,vs2,rfl,g4,rfl⟩:=g2;have hvv:v2=v:=by simp only[cu]at g4;exact g4.1
 rw[hvv]at g4;have hxs:=P6 hrow (by simp) (zo bs) g4;rw[zq]at hxs;have hxs:=(sO bs xs).1 hxs;subst hxs;have hap:=hc.apart;simp only[j_,aS.fp,ac3,List.flatMap_nil,List.append_nil]at hap;have hbn:v.ownBlock≠some b:=fun h=>(List.nodup_append.1 hap).2.2 b (by simp[h]) b (by simp) rfl
 have ex:∀r,(Builtin.unsafeString_ #[pt,it] o.type #[.pointer (NJ v),.int .i64 bs.length]).run P w=r→(execOp ev o).run P w=r.andThen fun v w'=>.ok (.value v) w':=by
  intro r hr';simp[execOp,ho,resolve,iB,hargs,hty,invoke,builtin,h1,h2];rw[←hr']
 have fin:∀w',w'.os=w.os→w'.tape=w.tape→w'.output=w.output→w'.heap.size=w.heap.size→w'.drawn=w.drawn→(∀k a,(w'.cell? ⟨k,a,none⟩)=w.cell? ⟨k,a,none⟩)→(∀k,v.ownBlock≠some k→w'.heap[k]?=w.heap[k]?)→
   Conc w' m [.kK b e [q,.val p,.own v (bs.map fF)]]∧Trans w m [.row v bs.length 1 eu,.kK b e [q,.val p,.own v (bs.map fF)]] w' m [.kK b e [q,.val p,.own v (bs.map fF)]]:=by
  intro w' e1 e2 e3 e4 ed e5 e6;have hle:Le w m w' m:=fun c off h=>⟨h,e5 c off⟩;refine⟨⟨fun r hr=>?_,by simp[j_,aS.fp],fun c off h=>by rw[e4];exact hc.wf c off h,gD.mono hle hc.qY⟩,⟨e1,e2,e3,by omega,hle,fun c hcl hn=>⟨e6 c fun h=>hn ?_,fun _ h=>h⟩,fun c hcf=>.inl ?_,fun _=>Nat.le_of_eq ed.symm⟩⟩
  ·obtain rfl:=ajB.1 hr;exact⟨_,by rw[e6 b hbn];exact g1,aX.mono hle _ _ g2',g2m⟩
  ·simp[j_,aS.fp,h]
  ·simp only[j_,aS.fp,ac3,List.flatMap_nil,List.append_nil,ajB]at hcf;simp[j_,aS.fp,hcf]
 by_cases h0:bs=[]
 ·subst h0;have hrun:=Lib.run_unsafeString_none (P:=P) w pt it o.type (NJ v);obtain⟨k1,k2⟩:=fin w rfl rfl rfl rfl rfl (fun _ _=>rfl) (fun _ _=>rfl);exact⟨.str [],_,.string .empty,w,m,hR,by rw[ex _ (by simpa using hrun)];rfl,by simp only[cu];rfl,k1,k2⟩
 ·rcases hrow.2 with⟨_,hn⟩|⟨g,cap,cur,fz,rfl,hg,hfz,hnc,hcm,hcs,htake⟩
  ·exact absurd (abv hn) h0
  ·have hsh:w.shape? g=some (eu,cur.size):=by simp[World.shape?,hg]
   have hrun:=Lib.run_unsafeString_row (P:=P) w pt it o.type eu hp hce g cur.size hsh bs h0 (by omega) (by unfold maxLen at hcm;omega) (fun j x hj=>by
    rw[Addr.add_lit,ahw,hrow.cell (b:=g) rfl (by have:=(List.getElem?_eq_some_iff.1 hj).1;omega)]
    simp[hj])
   have hz:bs.length≠0:=by simpa using h0
   have hsame:∀k,k≠g→(w.freeze ⟨g,0,none⟩ bs.length).heap[k]?=w.heap[k]?:=by
    intro k hk;simp[World.freeze,hz,am_,Ne.symm hk]
   have hcell:∀k a,(w.freeze ⟨g,0,none⟩ bs.length).cell? ⟨k,a,none⟩=w.cell? ⟨k,a,none⟩:=by
    intro k a;by_cases hk:k=g
    ·subst hk;simp[World.cell?,World.freeze,hz,am_,hg]
    ·simp only[World.cell?,hsame k hk]
   obtain⟨k1,k2⟩:=fin (w.freeze ⟨g,0,none⟩ bs.length) (by simp[World.freeze,hz]) (by simp[World.freeze,hz]) (by simp[World.freeze,hz]) (by simp[World.freeze,hz]) (by simp[World.freeze,hz]) hcell (fun k hk=>hsame k fun e=>hk (by subst e;rfl));refine⟨.str bs,_,.string ⟨bs.toArray⟩,_,m,hR,?_,by simp only[cu],k1,k2⟩;rw[ex _ hrun];rfl
theorem AO.ZM{e:TypeId}{cs:List PV}(ho:o.op=.alloc e)(hz:j6 P e=some cs)(hR:∀b,R (.val (.pointer (some ⟨b,0,none⟩))) (.kK b e cs::σ)):AO P o ρ σ R S:=by
 refine AO.of_run' fun w m ev hr hc=>?_;obtain⟨z,h1,h2⟩:=DX hz w;have hc':=pU hc (.cells z.cells e) (fun _=>False);have hle:Le w m (w.alloc (.cells z.cells e)) (fun b off=>m b off∨(b=w.heap.size∧False)):=(iF (σ':=σ) hc (.cells z.cells e) (fun _=>False) fun b hb=>.inl hb).le
 have hnew:Conc (w.alloc (.cells z.cells e)) (fun b off=>m b off∨(b=w.heap.size∧False)) (.kK w.heap.size e cs::σ):=by
  refine II ⟨z.cells.toList,?_,aX.mono hle _ _ (h2 m),fun off ho=>?_⟩ (by simp[aS.fp]) (fun b hb hm=>?_) hc'
  ·rw[heap_alloc_new w _,aml]
  ·rcases ho with ho|⟨_,ho⟩
   ·have:=hc.wf _ off ho;omega
   ·exact ho
  ·simp[aS.fp]at hb;subst hb;have:=hc.G6 _ hm;omega
 refine⟨_,_,.pointer (some ⟨w.heap.size,0,none⟩),_,_,hR w.heap.size,?_,by simp[cu],hnew,iF hc _ _ fun b hb=>?_⟩
 ·simp[execOp,ho,Instr.alloc,newVar,newRow,h1,go_sem]
 ·simp[j_,aS.fp]at hb⊢;rcases hb with hb|hb
  ·exact .inr hb
  ·exact .inl hb
end
end Go.Abs
namespace Go.Abs
variable [gD]
open Go
section
variable {P : Program} {o : Oper} {ρ : Operand → PV} {σ : List aS} {R S : PV → List aS → Prop}
theorem AO.VF{v:Value}{k sz e:Nat}{cs:List PV}(i:Nat)(hi:σ[i]?=some (aS.buf v k sz e cs))(h:PV.yC (.val v)=some [.val v]→[PV.val v].all PV.one=true→AO P o ρ σ R S):AO P o ρ σ R S:=by
 intro w m a K QC hr hc hK hP;obtain⟨xs,hrow,_,_⟩:=hc.each _ (acj hi)
 have hv:v.oneCell'=true:=by
  rcases hrow.2 with⟨rfl,_⟩|⟨g,cap,cur,fz,rfl,_⟩<;>rfl
 exact h (by simp[PV.yC,hv]) (by simp[PV.one,hv]) w m a K QC hr hc hK hP
end
end Go.Abs
namespace Go.Abs
variable [gD]
open Go
def abR{β:Type}(T:β→List aS→Prop)(pend:β→Option AX)(b:Bool)(s':β):Post:=fun x _ σ d=>d=[]∧(∃τ,τ.Sublist σ∧T s' τ)∧
 match x with
 | .normal=>b=true∧pend s'=none
 | .ret=>b=false∧pend s'=some .ret
 | .exit id=>b=false∧pend s'=some (.exit id)
 | .panic _=>False
section
variable {P : Program} {n : Nat} {r : Option Nat} {env : Env} {σ : List aS} {ds : List Deferred} {Q : Post} {all : Array Oper} {rest : List Oper} {o : Oper}
theorem Ez.ajo{t l:Nat}{c:Call}{K0:List aS→Prop}{p:PV}(hnd:xP o=true)(hg:o.guard=none)(hd:o.dst=some t)(ht:Nat.blt t n=true)(ho:o.op=.call c)(FT:Operand)(iB:c.callee=.value FT)
  (hf:env.ev FT=.val (.func (.yield l) #[] #[])) (h:AY P l ((c.args.toList.map env.ev).map PV.weak) σ (fun out s=>out=.ret p∧K0 s))
  (hk:∀s,K0 s→Ez P r n all rest ((t,p)::env) s ds Q):Ez P r n all (o::rest) env σ ds Q:=by
 intro w m a QC hs ha;have ht:t<n:=abq ht;refine wpListIn_plain hg fun K hK=>⟨fun _ _=>trivial,?_⟩;rw[Oper.semAt_eq _ _ _ (JU hnd)];have hcv:=hs.env.ev FT;rw[hf]at hcv;simp only[cu]at hcv;have hargs:aX w m (c.args.toList.map env.ev) (c.args.toList.map a.eval):=aX.map fun x _=>hs.env.ev x;obtain⟨fn,tmps,assign,body,h1,h2⟩:=h w m _ hs.gY hargs.weak
 have hrun:(execOp a.eval o).run P w=.ok (.round l fn tmps assign body) w:=by
  unfold execOp;simp only[ho,resolve,iB,hcv,Deferred.ofValue,invoke,Sem.run_bind,zf,jQ];rw[←h1];congr 2;apply Array.ext';simp
 rw[hrun];simp only[Oper.uponIn];refine⟨fun hh=>by simp[Yq,Fence.wide]at hh,?_⟩;refine RoundIn.mono (show RoundIn (Yq r) (0-1) P l fn tmps assign body w _ from h2) ?_;rintro e w' ⟨out,s,m',⟨rfl,hK0⟩,⟨v,rfl,hv⟩,hc,htr⟩;exact hK _ _ (hk s hK0 w' m' _ QC (hs.put hd ht hv hc htr.le) (ha.step htr))
theorem Ez.run{j u:Nat}{want:Bool}{oj:Oper}(hg:o.guard=some (j,want))(hj:all[j]?=some oj)(hu:oj.dst=some u)(hb:env.get u=.bool want)
  (h:Ez P r n all ({o with guard:=none}::rest) env σ ds Q):Ez P r n all (o::rest) env σ ds Q:=by
 intro w m a QC hs ha;have h':=h w m a QC hs ha;unfold wpListIn at h'⊢;rw[ahH (by simp[Region.wanted])]at h';rw[ahH (by simp[Region.wanted,hg,AA hs hj hu hb])];exact h'
theorem Ez.drop1{l:List Oper}{x:aS}(h:Ez P r n all l env σ ds Q):Ez P r n all l env (x::σ) ds Q:=
 fun w m a QC qX ha=>h w m a QC ⟨qX.size,qX.ds,qX.env,qX.gY.sub (ame x σ)⟩ (ha.step (Trans.sub (Trans.refl w m (x::σ)) (ame x σ)))
theorem Ez.is{l:List Oper}{b want:Bool}(u:Nat)(h:b=want)(hu:env.get u=.bool b)(hr:Ez P r n all l ((u,.bool want)::env) σ ds Q):Ez P r n all l env σ ds Q:=by
 subst h;intro w m a QC hs ha;refine hr w m a QC ⟨hs.size,hs.ds,fun t=>?_,hs.gY⟩ ha;simp only[Env.get];cases e:Nat.beq u t with
 | false=>exact hs.env t
 | true=>have:=hs.env u;rw[hu,Aq e]at this;exact this
theorem VH{md:Region.Mode}{ops:Array Oper}{Q:Exit→Act→World→Prop}(hno:¬LetsOut Q)(hd:∀o∈ops.toList,xP o=true):∀(fuel:Nat) (listed:Array Bool) (a:Act) (w:World),wpAny P md ops Q fuel listed a w→wpAnyIn (Yq r) 0 P md ops Q fuel listed a w
 | 0,_,_,_,h=>h
 | fuel+1,listed,a,w,h=>by
  refine⟨h.1,fun i hi=>?_⟩;have h2:=h.2 i hi;unfold wpOp at h2;unfold wpOpIn;cases ho:ops[i]? with
  | none=>rw[ho]at h2;exact VH hno hd fuel _ a w h2
  | some o=>
   rw[ho]at h2;have hdo:=hd o (by have:=Array.mem_of_getElem? ho;simpa using this);simp only at h2⊢;split
   ·rename_i hw;rw[ahH hw]at h2;rcases h2 with h2|⟨_,h2⟩
    ·exact Oper.wpIn_mono (fun a w h=>VH hno hd fuel _ a w h) (U8 hdo h2)
    ·exact(hno h2).elim
   ·rename_i hw;rw[ahC hw]at h2;exact⟨fun _ _=>trivial,VH hno hd fuel _ _ w h2⟩
theorem vF.drawn{id:Nat}{L:List Oper}(hm:P.follows .mixedOrders=true)(hd:(L.all xP)=true)(h:AD P n L env σ ds Q):vF P r n (.region id L.toArray true) env σ ds Q:=by
 intro w m a QC hs ha;rw[agD]at hd;refine wpIn_mono (wpIn_region_any hm (VH (D8 QC) (by simpa using hd) _ _ _ _ (h w m a _ hs ha.Qa))) fun e a w h=>h.2
end
section
variable {P : Program} {n : Nat} {env : Env} {σ : List aS} {ds : List Deferred} {Q : Post}
theorem AW.Y4{β X:Type}{g:Operand}{ps:Array Tmp}{assign body:Code}{gf:Nat}{caps:List PV}(hg:env.ev g=.fn gf caps)(hp:dA P gf=true)
  (enc:X→List PV) (henc:∀x,(enc x).length=ps.toList.length) (hps:∀t∈ps.toList,t<n) (y:β→X→Option (Bool × β)) (T:β→List aS→Prop) (pend:β→Option AX) {s0 s1:β} (hσ:T s0 σ) (hs0:pend s0=none)
  (hit:∀(l:Nat) (T':β→List aS→Prop),(∀s x b s' τ,y s x=some (b,s')→T' s τ→AY P l (enc x) τ (fun out σ'=>out=.ret (.bool b)∧T' s' σ'))→
   ∀τ,T' s0 τ→AC P gf (.val (.func (.yield l) #[] #[])::caps) τ (fun out σ'=>(∃p,out=.ret p)∧T' s1 σ'))
  (round:∀l s x b s' τ,y s x=some (b,s')→T s τ→pend s=none∧
   vF P (some l) n assign (Ra ps.toList (enc x) env) τ [] (fun ax e σ' d=>ax=.normal∧vF P (some l) n body e σ' d (abR T pend b s')))
  (hq:∀D τ,T s1 τ→(match pend s1 with|none=>Q .normal env|some .ret=>Q .ret env|some (.exit id)=>Q (.exit id) env|some _=>fun _ _=>False) (τ++[aS.obj D (.deferred (some []))]) (vv D::ds)):
  AW P n (.rangeFunc g ps assign body) env σ ds Q:=by
 intro w m a QC hs ha;refine(wpIn_wide (n:=0)).1 (wpIn_rangeFunc fun fn _=>?_);have hge:=hs.env.ev g;rw[hg]at hge;simp only[cu]at hge;obtain⟨cs,hcv,hcs⟩:=hge;have c1:=BS hs.gY (.deferred (some []))
 have t1:=iF (σ':=aS.obj w.heap.size (.deferred (some []))::σ) hs.gY (.deferred (some [])) (fun _=>False) (fun b hb=>by
  simp[j_,aS.fp]at hb⊢;rcases hb with hb|hb
  ·exact .inr hb
  ·exact .inl hb)
 have c2:=BS c1 (.loop (u6 fn a.tmps ps assign body w.heap.size none))
 have t2:=iF (σ':=.obj (w.alloc (.deferred (some []))).heap.size (.loop (u6 fn a.tmps ps assign body w.heap.size none))::aS.obj w.heap.size (.deferred (some []))::σ) c1 (.loop (u6 fn a.tmps ps assign body w.heap.size none)) (fun _=>False) (fun b hb=>by
  simp[j_,aS.fp]at hb⊢;rcases hb with hb|hb|hb
  ·exact .inr hb
  ·exact .inl (.inl hb)
  ·exact .inl (.inr hb))
 have hsz:(w.alloc (.deferred (some []))).heap.size=w.heap.size+1:=by simp
 rw[hsz]at c2 t2;generalize hW:(w.alloc (.deferred (some []))).alloc (.loop (u6 fn a.tmps ps assign body w.heap.size none))=W at c2 t2;generalize hM:(fun b off=>(m b off∨b=w.heap.size∧False)∨b=w.heap.size+1∧False)=M at c2 t2;have tW:=t1.trans t2;let rec' (s:β):Loop:=u6 fn a.tmps ps assign body w.heap.size (pend s);let R' (s:β):List aS:=[aS.obj (w.heap.size+1) (.loop (rec' s)),aS.obj w.heap.size (.deferred (some [])),aS.since w m];let T' (s:β) (τ:List aS):Prop:=∃τ0,T s τ0∧τ=τ0++R' s
 have hT0:(σ++R' s0).Perm (.obj (w.heap.size+1) (.loop (u6 fn a.tmps ps assign body w.heap.size none))::aS.obj w.heap.size (.deferred (some []))::σ++[aS.since w m]):=by
  simp only[R',rec',hs0];refine al1.trans ?_;simp only[List.cons_append,List.nil_append];refine List.Perm.cons _ (List.Perm.cons _ ?_);exact(al1 (l₁:=[aS.since w m]) (l₂:=σ))
 have cT:Conc W M (σ++R' s0):=by
  refine Conc.perm hT0.symm ?_;refine⟨fun r hr=>?_,?_,c2.wf,c2.qY⟩
  ·rcases agK.1 hr with h|h
   ·exact c2.each r h
   ·rw[ajB]at h;subst h;exact tW.le
  ·have:=c2.apart;simpa[j_,aS.fp]using this
 have tT:Trans w m σ W M (σ++R' s0):=by
  refine Trans.perm (.refl _) hT0.symm ⟨tW.os,tW.tape,tW.output,tW.size,tW.le,tW.keep,fun b hb=>tW.fresh b ?_,tW.drawn⟩;simpa[j_,aS.fp]using hb
 refine⟨w.heap.size+1,[vv w.heap.size],W,{target:=.fn (.func gf) cs.toArray,args:=#[.func (.yield (w.heap.size+1)) #[] #[]]},W,gf,
  #[.func (.yield (w.heap.size+1)) #[] #[]]++cs.toArray,W,?_,?_,fun _ _=>trivial,?_,fun hh=>by simp[Fence.wide]at hh,?_⟩
 ·rw[←hW];exact run_enterLoop_outer _ _ _ _ _
 ·simp only[resolve,hcv];simp[go_sem]
 ·simp only[invoke];rw[uH hp]
 ·refine anB.2 ?_;have hac:=hit (w.heap.size+1) T' ?_ _ ⟨σ,hσ,rfl⟩
  ·have hcs':aX W M (.val (.func (.yield (w.heap.size+1)) #[] #[])::caps) (.func (.yield (w.heap.size+1)) #[] #[]::cs):=aX.cons (by simp[cu]) (aX.mono tW.le _ _ hcs);have:=hac W M _ cT hcs';rw[show (Value.func (.yield (w.heap.size+1)) #[] #[]::cs).toArray=#[.func (.yield (w.heap.size+1)) #[] #[]]++cs.toArray from by apply Array.ext';simp]at this;refine this.mono ?_;rintro e w' ⟨out,σ',m',⟨⟨p,rfl⟩,τ1,anJ,rfl⟩,⟨v,rfl,hv⟩,hc',ht'⟩;have hi:(τ1++R' s1)[τ1.length]?=some (.obj (w.heap.size+1) (.loop (rec' s1))):=by simp[R']
   obtain⟨hb,_⟩:=hc'.each _ (acj hi);obtain⟨k1,k2⟩:=wM (o':=.loop {rec' s1 with state:=.exhausted}) hc' hi
   have hsub:(τ1++[aS.obj w.heap.size (.deferred (some []))]).Sublist ((τ1++R' s1).set τ1.length (.obj (w.heap.size+1) (.loop {rec' s1 with state:=.exhausted}))):=by
    simp only[R'];rw[am7 _ _ (abr _),anc];refine List.Sublist.append (List.Sublist.refl _) ?_;simp only[List.set_cons_zero];exact .cons _ (.cons_cons _ (.cons _ .slnil))
   have k3:=k1.sub hsub;have k4:=(tT.trans (ht'.trans k2)).sub hsub
   have hse:∀todo,om (w'.putObj (w.heap.size+1) (.loop {rec' s1 with state:=.exhausted})) m' n env (τ1++[aS.obj w.heap.size (.deferred (some []))]) (vv w.heap.size::ds) {a with defers:=todo}∨todo≠[vv w.heap.size]++a.defers:=by
    intro todo;by_cases e:todo=[vv w.heap.size]++a.defers
    ·subst e;exact .inl ⟨hs.size,by simp[hs.ds],hs.env.mono k4.le,k3⟩
    ·exact .inr e
   have hse:=(hse ([vv w.heap.size]++a.defers)).resolve_right (by simp);refine⟨codeOf (pend s1),w'.putObj (w.heap.size+1) (.loop {rec' s1 with state:=.exhausted}),?_,?_⟩
   ·have:=run_endLoop (P:=P) (w:=w') (l:=w.heap.size+1) (r:=rec' s1) hb (by simp only[rec',u6];split<;>simp);exact this
   ·have Zr:=hq w.heap.size τ1 anJ;cases hpe:pend s1 with
    | none=>
     rw[hpe]at Zr;exact ha .normal _ env _ _ _ _ m' Zr rfl hse k4
    | some x=>
     rw[hpe]at Zr;cases x with
     | ret=>exact wpIn_ret (ha .ret _ env _ _ _ _ m' Zr rfl hse k4)
     | exit id=>exact wpIn_exit (ha (.exit id) _ env _ _ _ _ m' Zr rfl hse k4)
     | normal=>exact Zr.elim
     | panic p=>exact Zr.elim
  ·
   rintro s x b s' _ hy ⟨τ,hτ,rfl⟩ w1 m1 vs hc1 hv1;obtain⟨ake,Zq⟩:=round (w.heap.size+1) s x b s' τ hy hτ;have hi:(τ++R' s)[τ.length]?=some (.obj (w.heap.size+1) (.loop (rec' s))):=by simp[R']
   obtain⟨hb1,_⟩:=hc1.each _ (acj hi);have Zp:Le w m w1 m1:=hc1.each (.since w m) (by simp[R']);have hvl:=hv1.length_eq
   have hsz':vs.toArray.size=(rec' s).params.size:=by
    simp only[rec',u6,alr];rw[hvl,henc x];simp
   have hyr:=run_yield (P:=P) hb1 hsz';refine⟨_,_,_,_,hyr,?_⟩;refine roundIn_of_wpIn trivial ?_
   have aeW:((rec' s).params.zip vs.toArray).foldl (fun tmps (t,a)=>tmps.setIfInBounds t a) (rec' s).tmps=(ps.toList.zip vs).foldl (fun t (p,v)=>t.setIfInBounds p v) a.tmps:=by
    simp only[rec',u6];rw[←Array.foldl_toList,Array.toList_zip]
   obtain⟨hb2,hb3⟩:=L8 (n:=n) (ts:=ps.toList) hs.size (fun t ht=>hps t ht) hv1 (hs.env.mono Zp);have hA:=vF.frame (τ:=[aS.obj (w.heap.size+1) (.loop (rec' s)),aS.obj w.heap.size (.deferred (some [])),aS.since w m]) Zq;refine hA w1 m1 _ _ ⟨?_,rfl,?_,hc1⟩ ?_
   ·rw[aeW];exact hb3
   ·rw[aeW];exact hb2
   ·rintro ax ex e2 σ2 d2 a2 w2 m2 ⟨OY,rfl,rfl,hbody⟩ hx hs2 ht2;cases hx;have hi2:(OY++[aS.obj (w.heap.size+1) (.loop (rec' s)),aS.obj w.heap.size (.deferred (some [])),aS.since w m])[OY.length]?=some (.obj (w.heap.size+1) (.loop (rec' s))):=by simp
    obtain⟨hb4,_⟩:=hs2.gY.each _ (acj hi2);have QE:(rec' s).state=.ready:=by simp[rec',u6,ake,codeOf]
    refine⟨_,run_beginRound hb4 QE,?_⟩;obtain⟨k1,k2⟩:=wM (o':=.loop {rec' s with state:=.busy}) hs2.gY hi2
    have hset:(OY++[aS.obj (w.heap.size+1) (.loop (rec' s)),aS.obj w.heap.size (.deferred (some [])),aS.since w m]).set OY.length (.obj (w.heap.size+1) (.loop {rec' s with state:=.busy}))=
      OY++[aS.obj (w.heap.size+1) (.loop {rec' s with state:=.busy}),aS.obj w.heap.size (.deferred (some [])),aS.since w m]:=by
     rw[am7 _ _ (abr _),anc];rfl
    rw[hset]at k1 k2;have hB:=vF.frame (τ:=[aS.obj (w.heap.size+1) (.loop {rec' s with state:=.busy}),aS.obj w.heap.size (.deferred (some [])),aS.since w m]) hbody;refine hB _ m2 a2 _ ⟨hs2.size,hs2.ds,hs2.env.mono k2.le,k1⟩ ?_;rintro ax3 ex3 e3 σ3 d3 a3 w3 m3 ⟨LP,rfl,hd3,⟨τ2,aeX,anI⟩,hend⟩ hx3 hs3 ht3;have hi3:(LP++[aS.obj (w.heap.size+1) (.loop {rec' s with state:=.busy}),aS.obj w.heap.size (.deferred (some [])),aS.since w m])[LP.length]?=some (.obj (w.heap.size+1) (.loop {rec' s with state:=.busy})):=by simp
    obtain⟨hb5,_⟩:=hs3.gY.each _ (acj hi3)
    have fin:∀jump:Option Code,jump=codeOf (pend s')→b=jump.isNone→∃v w',(Instr.endRound (w.heap.size+1) jump).run P w3=.ok v w'∧∃out σ' m',(out=dO.ret (.bool b)∧T' s' σ')∧Ar w' m' out (.returned v)∧Conc w' m' σ'∧Trans w1 m1 (τ++R' s) w' m' σ':=by
     intro jump hj hbj;refine⟨_,_,run_endRound jump hb5,.ret (.bool b),τ2++R' s',m3,⟨rfl,τ2,anI,rfl⟩,⟨_,rfl,by simp[cu,hbj]⟩,?_⟩;obtain⟨q1,q2⟩:=wM (o':=.loop {rec' s with state:=if jump.isNone then .ready else .done,pending:=jump}) hs3.gY hi3
     have hrec:({rec' s with state:=if jump.isNone then .ready else .done,pending:=jump}:Loop)=rec' s':=by
      simp only[rec',u6,hj]
     have aeY:(LP++[aS.obj (w.heap.size+1) (.loop {rec' s with state:=.busy}),aS.obj w.heap.size (.deferred (some [])),aS.since w m]).set LP.length (.obj (w.heap.size+1) (.loop {rec' s with state:=if jump.isNone then .ready else .done,pending:=jump}))=
       LP++[aS.obj (w.heap.size+1) (.loop (rec' s')),aS.obj w.heap.size (.deferred (some [])),aS.since w m]:=by
      rw[am7 _ _ (abr _),anc,hrec];rfl
     rw[aeY]at q1 q2;have hsub:(τ2++R' s').Sublist (LP++[aS.obj (w.heap.size+1) (.loop (rec' s')),aS.obj w.heap.size (.deferred (some [])),aS.since w m]):=List.Sublist.append aeX (List.Sublist.refl _);exact⟨q1.sub hsub,(ht2.trans (k2.trans (ht3.trans q2))).sub hsub⟩
    cases ax3 with
    | normal=>
     cases hx3;obtain⟨h5,h6⟩:=hend;exact fin none (by rw[h6];rfl) (by rw[h5];rfl)
    | ret=>
     cases hx3;obtain⟨h5,h6⟩:=hend;exact fin (some .ret) (by rw[h6];rfl) (by rw[h5];rfl)
    | exit id=>
     cases hx3;obtain⟨h5,h6⟩:=hend;exact fin (some (.exit id)) (by rw[h6];rfl) (by rw[h5];rfl)
    | panic p=>exact hend.elim
end
def akD(P:Program)(rs:List ResultVar)(R:dO→List aS→Prop):Post
 | .normal,e,s,d|.ret,e,s,d=>(d=[]∧∃ps,BI P e s rs ps∧∃s',s'.Sublist s∧R (.ret (ji (ps.map PV.weak))) s')∨∃D s1,d=[vv D]∧s=s1++[.obj D (.deferred (some []))]∧∃ps,BI P e s1 rs ps∧∃s',s'.Sublist s1∧R (.ret (ji (ps.map PV.weak))) s'
 | _,_,_,_=>False
theorem AC.Za{P:Program}{f:FuncId}{fn:Func}{c:Code}{args:List PV}{σ:List aS}{R:dO→List aS→Prop}(n:Nat)(rs:List ResultVar)(ts:List Nat){env:Env}
  (hf:P.funcs[f]?=some fn) (hb:fn.body=some c) (hn:fn.ntmps=n) (hl:Nat.ble args.length n=true) (hrs:fn.results.toList=rs) (Co:settle ts (um 0 args)=some env)
  (h:AW P n c env σ [] (akD P rs R)):AC P f args σ R:=by
 intro w m vs hc hv;have hl:args.length≤n:=abq hl;have hvl:=hv.length_eq;refine anB.1 (callsIn_of_wp_marks (n:=0) hf hb trivial (wpIn_wide.2 ?_));refine h w m _ _ ⟨?_,rfl,?_,hc⟩ ?_
 ·simp[hvl,hn];omega
 ·have:=yO (List.replicate (fn.ntmps-vs.toArray.size) Go.undef) [] hv;rw[show vs.toArray++Array.replicate (fn.ntmps-vs.toArray.size) Go.undef=([]++vs++List.replicate (fn.ntmps-vs.toArray.size) Go.undef).toArray from by simp];exact CP.settle Co this
 ·intro x ex env' σ' ds' a' w' m' hq hx hs ht
  have hend:∀D s1,ds'=[vv D]→σ'=s1++[.obj D (.deferred (some []))]→∀ps s',BI P env' s1 rs ps→s'.Sublist s1→R (.ret (ji (ps.map PV.weak))) s'→
    LeavesInM Fence.wide 0 P fn a'.tmps (fun e w'=>∃out σ' m',R out σ'∧Ar w' m' out e∧Conc w' m' σ'∧Trans w m σ w' m' σ') a'.defers .returning w':=by
   intro D s1 hd hs1 ps s' h1 hsub h2;subst hs1;rw[hs.ds,hd];have hi:(s1++[aS.obj D (.deferred (some []))])[s1.length]?=some (.obj D (.deferred (some []))):=by simp
   obtain⟨hbD,_⟩:=hs.gY.each _ (acj hi);obtain⟨k1,k2⟩:=wM (o':=.deferred Option.none) hs.gY hi
   have hset:(s1++[aS.obj D (.deferred (some []))]).set s1.length (.obj D (.deferred Option.none))=s1++[.obj D (.deferred Option.none)]:=by
    rw[am7 _ _ (abr _),anc];rfl
   rw[hset]at k1 k2;refine⟨by simp,.inl ⟨D,_,rfl,run_takeDeferred hbD,?_⟩⟩;have k3:=k1.left;obtain⟨v,hv1,hv2⟩:=KE hrs (hs.env.mono k2.le) k3 h1;refine⟨v,hv1,.ret _,s',m',h2,⟨v,rfl,hv2⟩,k3.sub hsub,?_⟩;exact(ht.trans k2).sub (hsub.trans (List.sublist_append_left _ _))
  have aiS:ds'=[]→∀ps s',BI P env' σ' rs ps→s'.Sublist σ'→R (.ret (ji (ps.map PV.weak))) s'→
    LeavesInM Fence.wide 0 P fn a'.tmps (fun e w'=>∃out σ' m',R out σ'∧Ar w' m' out e∧Conc w' m' σ'∧Trans w m σ w' m' σ') a'.defers .returning w':=by
   intro hd ps s' h1 hsub h2;rw[hs.ds,hd];obtain⟨v,hv1,hv2⟩:=KE hrs hs.env hs.gY h1;exact⟨v,hv1,.ret _,s',m',h2,⟨v,rfl,hv2⟩,hs.gY.sub hsub,ht.sub hsub⟩
  cases x with
  | normal=>
   cases hx;rcases hq with⟨hd,ps,h1,s',hsub,h2⟩|⟨D,s1,hd,hs1,ps,h1,s',hsub,h2⟩
   ·exact aiS hd ps s' h1 hsub h2
   ·exact hend D s1 hd hs1 ps s' h1 hsub h2
  | ret=>
   cases hx;rcases hq with⟨hd,ps,h1,s',hsub,h2⟩|⟨D,s1,hd,hs1,ps,h1,s',hsub,h2⟩
   ·exact aiS hd ps s' h1 hsub h2
   ·exact hend D s1 hd hs1 ps s' h1 hsub h2
  | exit id=>exact hq.elim
  | panic p=>exact hq.elim
theorem aX.U7{w:World}{m:jd}{v:Value}{l:List (List PV)}:∀(k:Nat) (cs:List PV) (vs:List Value),cs[k]?=some (.own v l)→aX w m cs vs→aX w m (cs.set k (.val v)) vs
 | 0,[],_,h,_=>by simp at h
 | k+1,[],_,h,_=>by simp at h
 | 0,c::cs,vs,h,hr=>by
  simp only[anA,jW]at h;subst h;simp only[aX]at hr;obtain⟨u,vs',rfl,h1,h2⟩:=hr;simp only[cu]at h1;exact aX.cons (by simp only[cu];exact h1.1) h2
 | k+1,c::cs,vs,h,hr=>by
  simp only[aX]at hr;obtain⟨u,vs',rfl,h1,h2⟩:=hr;exact aX.cons h1 (aX.U7 k cs vs' (by simpa using h) h2)
end Go.Abs
namespace Go.Abs
variable [gD]
open Go Go.Proofs Go.Shelf
end Go.Abs
namespace Go.Abs
variable [gD]
open Go Go.Ft
def abB(n:BitVec 64):List PV:=[.int .u64 (n.toNat:Int)]
section
variable {P : Program} {o : Oper} {ρ : Operand → PV} {σ : List aS} {R S : PV → List aS → Prop} {α : Type}
theorem ajP{a b c:aS}:[a,b,c].Perm [c,a,b]:=al1 (l₁:=[a,b]) (l₂:=[c])
theorem ajO{a b c:aS}:[a,b,c].Perm [b,c,a]:=al1 (l₁:=[a]) (l₂:=[b,c])
theorem Cn{L:List α}{j:Int}{c:α}(h:idx L j=some c):j.toNat<L.length:=by
 obtain⟨h0,h1⟩:=qW h;rcases zJ j.toNat L.length with h3|h3
 ·exact h3
 ·rw[CF h3]at h1;cases h1
theorem AO.u64_andNot{t u:TypeId}{x y:Operand}{p q:Int}(a b:BitVec 64)(ho:o.op=.binOp .andNot t x y u)(hx:ρ x=.int .u64 p)(hy:ρ y=.int .u64 q)(ha:p=(a.toNat:Int))(hb:q=(b.toNat:Int))
  (hR:R (.int .u64 ((a &&& ~~~ b).toNat:Int)) σ):AO P o ρ σ R S:=by
 refine AO.FD (p:=.int .u64 (IntKind.u64.wrap (BitVec.ofInt IntKind.u64.bits p &&& ~~~ BitVec.ofInt IntKind.u64.bits q).toNat)) (by simp only[Xc,ho,hx,hy];rfl) ?_ hR
 have h1:IntKind.u64.wrap ((BitVec.ofInt IntKind.u64.bits p &&& ~~~ BitVec.ofInt IntKind.u64.bits q).toNat:Int)=((BitVec.ofInt 64 p &&& ~~~ BitVec.ofInt 64 q).toNat:Int):=by
  rw[RS];exact congrArg (fun n:Nat=>(n:Int)) (congrArg BitVec.toNat (fB (n:=64) _))
 rw[h1,ha,hb,fB,fB]
theorem AO.Wq{t u:TypeId}{x y:Operand}{p q:Int}(a b:BitVec 64){v:BitVec 64}(hv:some (a &&& ~~~ b)=some v)(ho:o.op=.binOp .andNot t x y u)(hx:ρ x=.int .u64 p)(hy:ρ y=.int .u64 q)(ha:p=(a.toNat:Int))(hb:q=(b.toNat:Int))
  (hR:R (.int .u64 (v.toNat:Int)) σ):AO P o ρ σ R S:=AO.u64_andNot a b ho hx hy ha hb (by cases hv;exact hR)
theorem AO.ql{t n b off:Nat}{x i:Operand}{k:IntKind}{j:Int}{L:List α}{c:α}(h:idx L j=some c)(ho:o.op=.indexAddr t x i)(ha:sF P t=some (n,1))(hx:ρ x=.val (.pointer (some ⟨b,off,none⟩)))(hi:ρ i=.int k j)
  (hL:L.length=n) (hR:R (.val (.pointer (some ⟨b,off+j.toNat,none⟩))) σ):AO P o ρ σ R S:=
 AO.Jj ho ha hx hi (qW h).1 (hL ▸ Cn h) (by rw[ani];exact hR)
theorem AO.Qx{t n:Nat}{x i:Operand}{k:IntKind}{j:Int}{cs:List PV}{L:List α}{c:α}(f:α→PV)(h:idx L j=some c)(ho:o.op=.indexAddr t x i)(ha:sF P t=some (n,1))(hx:ρ x=.ref cs)(hi:ρ i=.int k j)
  (hL:L.length=n) (hcs:cs=L.map f) (hR:R (.ref [f c]) σ):AO P o ρ σ R S:=by
 obtain⟨h0,h1⟩:=qW h;have hlt:=Cn h;refine AO.of_same hR fun w m ev hr _=>?_;have e1:=hr x (by simp[ho,Op.operands]);have e2:=hr i (by simp[ho,Op.operands]);rw[hx]at e1;rw[hi]at e2;simp only[cu]at e1 e2;obtain⟨b,off,e1,e3⟩:=e1;refine⟨.pointer (some ⟨b,off+j.toNat*1,none⟩),by simp only[execOp,ho,e1,e2,Sem.run_bind,Aj ha h0 (hL ▸ hlt),jQ,zf],?_⟩;simp only[cu];refine⟨b,_,rfl,?_⟩;have:=Z4 (Kh e3 (j.toNat*1) (by rw[hcs,ama];omega)) 1;rw[hcs,ani,←List.map_drop,List.drop_eq_getElem_cons hlt]at this;have hc:L[j.toNat]=c:=by rw[aaS hlt]at h1;exact am2 h1
 rw[hc]at this;simpa using this
theorem Qp{f:α→PV}(d:α){n:Nat}:∀ {l:List α},l.length=n→l.map f=(List.range n).map fun i=>f (l.getD i d):=by
 intro l h;subst h;apply List.ext_getElem
 ·simp
 ·intro i h1 h2;simp at h1;simp[aaS h1]
theorem AO.Jz{t:TypeId}{x y:Operand}{cs cs':List PV}{b i k n:Nat}{j:Int}{L l':List α}{c v:α}(f:α→PV)(d:α)(h:idx L j=some c)(h':some (L.set j.toNat v)=some l')(ho:o.op=.store t x y)(hx:ρ x=.val (.pointer (some ⟨b,0+j.toNat,none⟩)))
  (hi:σ[i]?=some (aS.box b cs)) (ht:fZ P t=some (false,k)) (hk:k=1) (hy:(ρ y).force=some (f v)) (hone:(f v).one=true) (hcs:cs=L.map f) (hL:L.length=n) (hcs':(List.range n).map (fun i=>f (l'.getD i d))=cs')
  (hR:R .undef (σ.set i (.box b cs'))):AO P o ρ σ R S:=by
 have hl:L.set j.toNat v=l':=am2 h'
 have e:cs.set (0+j.toNat) (f v)=cs':=by
  rw[hcs,ahw,←List.map_set,hl,←hcs'];exact Qp d (by rw[←hl,List.length_set,hL])
 exact AO.Nt ho hx hi ht hk hy hone (by rw[hcs,ama,ahw];exact Cn h) (e ▸ hR)
theorem R_(z:Value)(n:Nat):(madeCells #[z] n).toList=List.replicate n z:=by
 unfold madeCells;apply List.ext_getElem
 ·simp
 ·intro i h1 h2;have:i%1=0:=Nat.mod_one i;simp[this]
theorem PD{w:World}{m:jd}:∀n:Nat,aX w m (List.replicate n (.bool false)) (List.replicate n (.bool false))
 | 0=>aX.nil
 | n+1=>aX.cons (by simp only[cu]) (PD n)
theorem AO.Qj{t e:TypeId}{x y:Operand}{k k':IntKind}{n:Nat}(ho:o.op=.makeSlice t x y)(hx:ρ x=.int k (n:Int))(hy:ρ y=.int k' (n:Int))(ht:P.underlying t=some (.slice e))
  (hz:(P.info? e).map (fun i=>(i.zero,i.size,i.bytes))=some (some (.bool false),1,1)) (hn:n≤281474976710656) (hR:∀v,R (.val v) (.buf v n 1 e (List.replicate n (.bool false))::σ)):AO P o ρ σ R S:=by
 refine AO.of_run' fun w m ev hr hc=>?_;have h1:=hr x (by simp[ho,Op.operands]);have h2:=hr y (by simp[ho,Op.operands]);rw[hx]at h1;rw[hy]at h2;simp only[cu]at h1 h2;cases hi:P.info? e with
 | none=>rw[hi]at hz;cases hz
 | some inf=>
  rw[hi]at hz;simp only[Option.map_some,jW,alV]at hz;obtain⟨z1,z2,z3⟩:=hz;have hrun:=run_make (P:=P) w t e inf (.bool false) ht hi z1 k k' (n:Int) (n:Int) (by omega) (Int.le_refl _) (by rw[z3];omega) (by omega);simp only[ana,z2,ani]at hrun;have hm1:(madeCells (Value.bool false).cells n).toList=List.replicate n (.bool false):=R_ _ n;have hc':=pU hc (.cells (madeCells (Value.bool false).cells n) e) (fun _=>False)
  have hrow:rU (w.alloc (.cells (madeCells (Value.bool false).cells n) e)) e 1 (.slice (some ⟨w.heap.size,0,none⟩) n n) n (List.replicate n (.bool false)):=
   ⟨by simp,.inr ⟨w.heap.size,n,madeCells (Value.bool false).cells n,(0,0),rfl,heap_alloc_new w _,.inl rfl,abr _,by unfold maxLen;omega,by rw[size_madeCells,ani],by rw[hm1,ani,List.take_of_length_le (by simp)]⟩⟩
  refine⟨.val (.slice (some ⟨w.heap.size,0,none⟩) n n),_,.slice (some ⟨w.heap.size,0,none⟩) n n,_,_,hR _,by simp only[execOp,ho,h1,h2,Sem.run_bind,hrun,jQ,zf],by simp only[cu],⟨fun r hr'=>?_,?_,hc'.wf,hc'.qY⟩,iF hc _ _ fun b hb=>?_⟩
  ·rcases agh.1 hr' with rfl|hr'
   ·refine⟨_,hrow,PD n,fun b hb off hm=>?_⟩;have hb:w.heap.size=b:=by simpa[Value.ownBlock]using hb
    rcases hm with hm|⟨_,hm⟩
    ·have:=hc.wf b off hm;omega
    ·exact hm
   ·exact hc'.each r hr'
  ·simp only[j_,ac3,aS.fp,Value.ownBlock,Option.toList_some,List.singleton_append,List.nodup_cons];refine⟨fun hm=>?_,hc.apart⟩;have:=hc.G6 _ hm;omega
  ·simp only[j_,ac3,aS.fp,Value.ownBlock,Option.toList_some,List.singleton_append,agh]at hb;rcases hb with hb|hb
   ·exact .inr hb
   ·exact .inl hb
theorem AO.Fy{t e:TypeId}{x y:Operand}{k k':IntKind}{n:Int}{L:List Bool}(h:(if 0≤n∧n≤281474976710656 then some (List.replicate n.toNat false)else none)=some L)(ho:o.op=.makeSlice t x y)(hx:ρ x=.int k n)(hy:ρ y=.int k' n)(ht:P.underlying t=some (.slice e))
  (hz:(P.info? e).map (fun i=>(i.zero,i.size,i.bytes))=some (some (.bool false),1,1)) (hR:∀v,R (.val v) (.buf v L.length 1 e (L.map PV.bool)::σ)):AO P o ρ σ R S:=by
 split at h
 ·rename_i hn;cases h;have e0:((n.toNat:Nat):Int)=n:=by omega
  refine AO.Qj (n:=n.toNat) ho (by rw[e0];exact hx) (by rw[e0];exact hy) ht hz (by omega) fun v=>?_;have:=hR v;rw[List.length_replicate,List.map_replicate]at this;exact this
 ·cases h
theorem AO.l5{t:TypeId}{x y:Operand}{v:Value}{e i:Nat}{L:List Bool}{c:Bool}{k:IntKind}{j:Int}(h:idx L j=some c)(ho:o.op=.indexAddr t x y)(hx:ρ x=.val v)(hi:σ[i]?=some (aS.buf v L.length 1 e (L.map PV.bool)))(hy:ρ y=.int k j)(hs:elemSize P t=some 1)
  (hR:R (.val (.pointer (some ⟨v.blk,j.toNat*1,none⟩))) σ):AO P o ρ σ R S:=AO.Sd ho hx hi hy hs (qW h).1 (Cn h) hR
theorem AO.Iw{t:TypeId}{x:Operand}{v:Value}{e i k:Nat}{L:List Bool}{c:Bool}{j:Int}(h:idx L j=some c)(ho:o.op=.load t x)(hx:ρ x=.val (.pointer (some ⟨v.blk,j.toNat*1,none⟩)))(hi:σ[i]?=some (aS.buf v L.length 1 e (L.map PV.bool)))
  (ht:fZ P t=some (false,k)) (hR:R (.bool c) σ):AO P o ρ σ R S:=AO.aeG ho hx hi ht (by rw[ani,List.getElem?_map,(qW h).2];rfl) hR
theorem AO.EC{t:TypeId}{x y:Operand}{v:Value}{e i k:Nat}{L L':List Bool}{c b:Bool}{j:Int}(h:idx L j=some c)(h':some (L.set j.toNat b)=some L')(ho:o.op=.store t x y)(hx:ρ x=.val (.pointer (some ⟨v.blk,j.toNat*1,none⟩)))(hi:σ[i]?=some (aS.buf v L.length 1 e (L.map PV.bool)))
  (ht:fZ P t=some (false,k)) (hk:k=1) (hy:ρ y=.bool b) (hR:R .undef (σ.set i (.buf v L'.length 1 e (L'.map PV.bool)))):AO P o ρ σ R S:=by
 have hl:L.set j.toNat b=L':=am2 h';subst hl;rw[List.length_set,List.map_set]at hR;exact AO.abG ho hx hi ht hk (by rw[hy];rfl) rfl (by rw[ama,ani];exact Cn h) (by rw[ani];exact hR)
theorem AO.ace{t:TypeId}{x:Operand}{cs more:List PV}{b i k:Nat}{j:Int}{L:List α}{c:α}(f:α→PV)(h:idx L j=some c)(ho:o.op=.load t x)(hx:ρ x=.val (.pointer (some ⟨b,0+j.toNat,none⟩)))(hi:σ[i]?=some (aS.box b cs))
  (ht:fZ P t=some (false,k)) (hcs:cs=L.map f++more) (hR:R (f c) σ):AO P o ρ σ R S:=by
 obtain⟨h0,h1⟩:=qW h;refine AO.Qo ho hx hi ht ?_ hR;rw[hcs,ahw,List.getElem?_append_left (by rw[ama];exact Cn h),List.getElem?_map,h1];rfl
theorem AO.YW{t:TypeId}{x y:Operand}{cs cs' more:List PV}{b i k n:Nat}{j:Int}{L l':List α}{c v:α}(f:α→PV)(d:α)(h:idx L j=some c)(h':some (L.set j.toNat v)=some l')(ho:o.op=.store t x y)(hx:ρ x=.val (.pointer (some ⟨b,0+j.toNat,none⟩)))
  (hi:σ[i]?=some (aS.box b cs)) (ht:fZ P t=some (false,k)) (hk:k=1) (hy:(ρ y).force=some (f v)) (hone:(f v).one=true) (hcs:cs=L.map f++more) (hL:L.length=n) (hcs':(List.range n).map (fun i=>f (l'.getD i d))++more=cs')
  (hR:R .undef (σ.set i (.box b cs'))):AO P o ρ σ R S:=by
 have hl:L.set j.toNat v=l':=am2 h'
 have e:cs.set (0+j.toNat) (f v)=cs':=by
  rw[hcs,ahw,List.set_append_left _ _ (by rw[ama];exact Cn h),←List.map_set,hl,←hcs'];congr 1;exact Qp d (by rw[←hl,List.length_set,hL])
 exact AO.Nt ho hx hi ht hk hy hone (by rw[hcs,List.length_append,ama,ahw];exact ane (Cn h) (Nat.le_add_right _ _)) (e ▸ hR)
end
end Go.Abs
namespace Go.Abs
variable [gD]
open Go
theorem AO.ako{P:Program}{o:Oper}{ρ:Operand→PV}{σ:List aS}{R R' S:PV→List aS→Prop}(h:AO P o ρ σ R' S)(hc:∀p s,R' p s→∃p' s',R p' s'∧(∀w m v,cu w m p v→cu w m p' v)∧s'.Sublist s):AO P o ρ σ R S:=by
 intro w m a K QC hr hco hK hS;refine h w m a K QC hr hco (fun p s v w' m' hR hrep hc' ht=>?_) hS;obtain⟨p',s',h1,h2,h3⟩:=hc p s hR;exact hK p' s' v w' m' h1 (h2 _ _ _ hrep) (hc'.sub h3) (ht.sub h3)
theorem AO.YV{P:Program}{o:Oper}{ρ:Operand→PV}{σ:List aS}{R S:PV→List aS→Prop}{src dst e:TypeId}{x:Operand}{s r:List UInt8}{u:TypeDesc}(h:Ft.app [] s=some r)(ho:o.op=.convert src dst x)(hs:P.underlying src=some u)(hd:P.underlying dst=some (.slice e))(he:P.underlying e=some (.int .u8))
  (hx:ρ x=.str s) (hR:R (.list (r.map fF)) σ):AO P o ρ σ R S:=by
 refine AO.ako (R':=fun p t=>∃v,p=.own v (r.map fF)∧t=.row v (r.map fF).length 1 e::σ) (AO.Pk h ho hs hd he hx fun v=>⟨v,rfl,rfl⟩) ?_;rintro p t ⟨v,rfl,rfl⟩;exact⟨_,_,hR,fun w m v h=>by simp only[cu]at h⊢;exact h.2,ame _ _⟩
section
variable {P : Program} {n : Nat} {ds : List Deferred} {σ : List aS}
theorem AD.draw{env:Env}{Q:Post}{L:List Oper}(k:Nat)(ho:Iq L k=true)(hk:Nat.ble k L.length=true)
  (h:Ev P n L.toArray σ env (L.take k) fun env'=>AR P n L.toArray (L.drop k) env' σ ds Q):AD P n L env σ ds Q:=by
 intro w m a QC hs ha;have hk:k≤L.length:=abq hk;obtain⟨d,p,h1,h2⟩:=Ev.facts h;rw[List.length_take,akO hk]at h2;have r_:Trans w m σ {w with drawn:=w.drawn+1} m σ:=⟨rfl,rfl,rfl,abr _,fun _ _ h=>⟨h,rfl⟩,fun _ _ _=>⟨rfl,fun _ h=>h⟩,fun _ h=>.inl h,fun _=>Nat.le_succ _⟩
 have hs':om {w with drawn:=w.drawn+1} m n env σ ds a:=⟨hs.size,hs.ds,hs.env.mono r_.le,
  ⟨fun r hr=>aS.nX (hs.gY.each r hr) r_.le fun _ _=>⟨rfl,fun _ h=>h⟩,hs.gY.apart,hs.gY.wf,gD.mono r_.le hs.gY.qY⟩⟩
 refine SH (d:=d) (p:=p) (env:=env) (σ:=σ) (ds:=ds) (n:=n) (w0:=w) (m0:=m) hk (Xe ho) (fun i o hi hoi=>h1 i o (by rw[amv hi];exact hoi)) ?_ _ _ a _ m (by simp) ?_ ?_ ?_ ?_ r_
 ·intro w1 m1 a1 hs1 htr;exact h2 w1 m1 a1 QC hs1 (ha.step htr)
 ·simp
 ·intro j _ hj;simp[Array.getD,hj]
 ·intro i o hi hoi hl;have Jk:i<L.length:=by omega
  simp[Array.getD,Jk]at hl
 ·refine hs'.congr fun t=>.inr ?_
  have:(kZ (fun j=>(Array.replicate L.toArray.size false).getD j true) d p env k).get t=(kZ (fun j=>(Array.replicate L.toArray.size false).getD j true) d p env 0).get t:=
   fO (Nat.zero_le _) fun j _ hj hS=>by
    have hjL:j<L.length:=by omega
    simp[Array.getD,hjL]at hS
  rw[this];rfl
end
end Go.Abs
namespace Go.Abs
variable [gD]
open Go Go.Ft
def isBytes(P:Program)(t e:Nat):Bool:=match P.underlying t,P.underlying e with
 | some (.slice e'),some (.int .u8)=>Nat.beq e' e
 | _,_=>false
theorem Zl{P:Program}{t e:Nat}(h:isBytes P t e=true):P.underlying t=some (.slice e)∧P.underlying e=some (.int .u8):=by
 unfold isBytes at h;split at h
 ·rename_i e' h1 h2;rw[h1,h2,Aq h];exact⟨rfl,rfl⟩
 ·cases h
class FA(P:Program) extends FK P where
 mix:P.follows .mixedOrders=true
 es:List (Nat × Nat)
 eok:es.map (fun x=>elemSize P x.1)=es.map (fun x=>some x.2)
 sf:List (Nat × Nat × Nat × Nat)
 sok:sf.all (fun x=>JB P x.1 x.2.1 x.2.2.1 x.2.2.2)=true
 un:List (Nat × IntKind)
 uok:un.map (fun x=>P.underlying x.1)=un.map (fun x=>some (.int x.2))
 ic:List Nat
 iok:ic.all (concrete P)=true
 bs:List (Nat × Nat)
 amR:bs.all (fun x=>isBytes P x.1 x.2)=true
 bo:List Nat
 bok:bo.map (fun t=>P.underlying t)=bo.map (fun _=>some .bool)
abbrev Nm:=List (Nat × Nat)
structure Cf where
 n:Nat
 d:List (Nat × Nat)
 g:List (Nat × Nat × Nat × Nat × Nat)
inductive KT where
 | ar (k:List Fr) (rest:List Oper)
 | yH
 | g1 (k:List Fr) (l2 l3 rest:List Oper) (i:Nat)
 | g2 (k:List Fr) (l3 rest:List Oper) (s0:List aS) (i:Nat) (r:aS)
inductive S2 where
 | w (c:Code) (k:List Fr) (e:Env) (s:List aS)
 | r (all:Array Oper) (l:List Oper) (k:List Fr) (e:Env) (s:List aS)
 | x (ax:AX) (k:List Fr) (e:Env) (s:List aS)
 | v (all:Array Oper) (l:List Oper) (kt:KT) (e:Env) (s:List aS)
 | t (all:Array Oper) (l:List Oper) (k:List Fr) (rest:List Oper) (s0:List aS) (i:Nat) (e:Env) (s:List aS)
def tfK(P:Program)(n:Nat)(all:Array Oper)(Q:Post)(k:List Fr)(rest:List Oper)(s0:List aS)(i:Nat)(e:Env)(s:List aS):Prop:=∃r,s=[r]∧AR P n all rest e (s0.set i r) [] (den P n k Q)
def KT.ok(P:Program)(n:Nat)(Q:Post)(all:Array Oper)(s:List aS):KT→Env→Prop
 | .ar k rest,e=>AR P n all rest e s [] (den P n k Q)
 | .yH,e=>∃e',Less e' e∧Q .normal e' s []
 | .g1 k l2 l3 rest i,e=>∃r,s[i]?=some r∧Ev P n all (s.eraseIdx i) e l2 fun e=>TF P n [] (den P n k Q) (s.eraseIdx i) l3 e [r] (tfK P n all Q k rest s i)
 | .g2 k l3 rest s0 i r,e=>TF P n [] (den P n k Q) (s0.eraseIdx i) l3 e [r] (tfK P n all Q k rest s0 i)
def S2.ok(P:Program)(n:Nat)(Q:Post):S2→Prop
 | .w c k e s=>AW P n c e s [] (den P n k Q)
 | .r all l k e s=>AR P n all l e s [] (den P n k Q)
 | .x ax k e s=>den P n k Q ax e s []
 | .v all l kt e s=>Ev P n all s e l (kt.ok P n Q all s)
 | .t all l k rest s0 i e s=>TF P n [] (den P n k Q) (s0.eraseIdx i) l e s (tfK P n all Q k rest s0 i)
theorem WA{P:Program}{n:Nat}{all:Array Oper}{Q:Post}{k:List Fr}{rest:List Oper}{s0:List aS}{i:Nat}(e e':Env)(s:List aS)(h:Less e' e):tfK P n all Q k rest s0 i e' s→tfK P n all Q k rest s0 i e s
 | ⟨r,h1,h2⟩=>⟨r,h1,AR.less h h2⟩
theorem KT.less{P:Program}{n:Nat}{Q:Post}{all:Array Oper}{s:List aS}:∀ {kt:KT} (e e':Env),Less e' e→kt.ok P n Q all s e'→kt.ok P n Q all s e
 | .ar k rest,e,e',h,h1=>AR.less h h1
 | .yH,e,e',h,⟨e2,h2,h3⟩=>⟨e2,h2.trans h,h3⟩
 | .g1 k l2 l3 rest i,e,e',h,⟨r,h1,h2⟩=>⟨r,h1,Ev.less (fun _ _ h' k'=>TF.less WA h' k') h h2⟩
 | .g2 k l3 rest s0 i r,e,e',h,h1=>TF.less WA h h1
structure Ms where
 st:S2
 nm:Nm
inductive Nd where
 | st (s:Ms)
 | go (s:Ms)
 | OV (cs:List ((Env × List aS) × (Env × List aS))) (d:Nd)
 | cond (b:Bool) (t e:Ms)
 | same (b b':Nat) (s:Ms)
 | alloc (k:Nat→Ms)
 | opt (β:Type) (x:Option β) (k:β→Ms)
 | chb (b:Bool) (s:Ms)
 | len (L:List (List PV)) (k:Nat→Ms)
 | byt (L:List (List PV)) (k:List UInt8→Ms)
 | Zo (sz:Nat) (L:List (List PV)) (i:Int) (k:List PV→Ms)
 | slL (sz:Nat) (L:List (List PV)) (a:Int) (b:Option Int) (k:List (List PV)→Ms)
 | app (v v':Value) (m sz:Nat) (L M:List (List PV)) (k:Value→List (List PV)→Ms)
 | u8 (f:UInt8→UInt8→UInt8) (p q:Int) (k:Int→Ms)
 | u8c (f:UInt8→UInt8→UInt8) (p:Int) (c:UInt8) (k:Int→Ms)
 | byte (p:Int) (s:Ms)
 | call (f:FuncId) (args:List PV) (k:dO→Ms)
 | Q5 (f:FuncId) (args:List PV) (b:Nat) (cs:List PV) (k:dO→List PV→Ms)
 | join (b w:Bool) (t:Nat) (E:Env) (S:List aS) (ks kn:List Nat) (s1 s2:Ms) (k:Bool→Ms)
 | loop (c:Code) (k:List Fr) (e:Env) (s:List aS) (nm:Nm)
 | again (R:Env→List aS→List Deferred→Prop) (e:Env) (s:List aS)
 | ord (L:List Oper) (k:Nat) (d:Nd)
 | aem (b:Bool) (d:Nd)
 | ret (A B:List Nat) (p:PV) (s:List aS)
 | pan (p:PV) (s:List aS)
 | MO (v:Bool) (e:Env) (s:List aS) (cs:List ((Env × List aS) × (Env × List aS)))
inductive Fm where
 | body (rs:List ResultVar)
 | yH (t:Nat) (ks:List Nat) (E:Env) (S:List aS) (kn:List Nat)
def Fm.kn:Fm→List Nat
 | .body _=>[]
 | .yH _ _ _ _ kn=>kn
def ah0(ρ:Operand→PV)(o:Option Operand)(d:Int):Option Int:=
 match o with
 | none=>some d
 | some y=>match ρ y with
  | .int _ a=>some a
  | _=>none
def Dj:Env→List Nat→List Nat
 | [],_=>[]
 | (t,_)::r,acc=>bif rT acc t then Dj r acc else t::Dj r (t::acc)
def Vn(u:Nat):List Oper→Option (Nat × Nat)
 | []=>none
 | o::r=>match o.op,o.dst with
  | .pick (.tmp v) _ _,some t=>bif Nat.beq v u then some (1,t)else (match Vn u r with|some (k,t)=>some (k+1,t)|none=>none)
  | _,_=>match Vn u r with|some (k,t)=>some (k+1,t)|none=>none
def knows(kn:List Nat)(all:Array Oper):Option (Nat × Bool)→Bool
 | none=>true
 | some (j,_)=>match all[j]? with
  | some oj=>match oj.dst with
   | some u=>rT kn u
   | none=>false
  | none=>false
def aoa(o:Oper):Bool:=
 match o.dst,o.op with
 | none,_=>true
 | some _,.alloc _|some _,.store _ _ _|some _,.panic _|some _,.mapUpdate _ _ _ _|some _,.next _ _|some _,.range _ _|some _,.makeMap _ _|some _,.makeFunc _ _ _=>true
 | some _,.call c=>match c.callee with
  | .builtin .len=>false
  | .builtin .min=>false
  | .builtin .max=>false
  | .builtin _=>true
  | _=>false
 | _,_=>false
def OE:List Oper→Nat
 | []=>0
 | o::r=>bif aoa o then 0 else OE r+1
def aex(nm:Nm):Operand→Option Nat
 | .tmp t=>sj nm t
 | _=>none
def aj1(nm:Nm):Op→Option Nat
 | .move x|.assign x|.nilCheck x|.fieldAddr _ x _=>aex nm x
 | _=>none
def MQ:List (Nat × Nat × Nat × Nat)→Nat→Option (Nat × Nat × Nat)
 | [],_=>none
 | (t,x)::r,u=>bif Nat.beq t u then some x else MQ r u
theorem J2:∀ {l:List (Nat × Nat × Nat × Nat)} {t:Nat} {x:Nat × Nat × Nat},MQ l t=some x→(t,x)∈l
 | [],t,x,h=>by cases h
 | (u,y)::l,t,x,h=>by
  unfold MQ at h;cases e:Nat.beq u t with
  | true=>rw[e]at h;simp only[ajC,jW]at h;rw[←Aq e,h];exact ale
  | false=>rw[e]at h;exact akL _ (J2 h)
def aeK(F:FB)(sf:List (Nat × Nat × Nat × Nat))(ic bo:List Nat)(ρ:Operand→PV):Op→Option PV
 | .buildSlice t len parts=>match MQ sf t with
  | some (_,sz,_)=>bif Nat.ble (len*sz) 16777216 then (match Av (fun i=>some (i*sz,sz)) (List.replicate (len*sz) .undef) (parts.toList.map fun x=>(x.1,(ρ x.2).weak))with
   | some cells=>match DK sz len cells with
    | some L=>some (.list L)
    | none=>none
   | none=>none)else none
  | none=>none
 | .binOp .eql t x y _=>match ρ x,ρ y with
  | .bool a,.bool b=>bif rT bo t then some (.bool (a==b))else none
  | _,_=>none
 | .binOp .neq t x y _=>match ρ x,ρ y with
  | .bool a,.bool b=>bif rT bo t then some (.bool (!(a==b)))else none
  | _,_=>none
 | .makeInterface t x=>bif rT ic t then (match (ρ x).force with
  | some p=>some (.iface t p)
  | none=>none)else none
 | .call c=>match c.callee with
  | .builtin .min=>match c.args.toList with
   | [x,y]=>match ρ x,ρ y with
    | .int k a,.int _ b=>some (.int k (if b<a then b else a))
    | _,_=>none
   | _=>none
  | .builtin .max=>match c.args.toList with
   | [x,y]=>match ρ x,ρ y with
    | .int k a,.int _ b=>some (.int k (if a<b then b else a))
    | _,_=>none
   | _=>none
  | .builtin .len=>match c.args.toList,c.argTypes.toList with
   | [x],[t]=>match ρ x with
    | .str s=>bif rT F.f.str t then some (.int .i64 (s.length:Int))else none
    | _=>none
   | _,_=>none
  | _=>none
 | _=>none
def u8N(ρ:Operand→PV):Op→Bool
 | .binOp .add _ x y _|.binOp .sub _ x y _=>match ρ x,ρ y with
  | .int .u8 _,.int .u8 _=>true
  | _,_=>false
 | _=>false
def opN(F:FB)(es bs:List (Nat × Nat))(un:List (Nat × IntKind))(ρ:Operand→PV)(k kp:PV→Ms)(st:Ms):Op→Nd
 | .index t x i=>match ρ x,ρ i with
  | .str s,.int _ n=>bif rT F.f.str t then .opt UInt8 (idx s n) (fun c=>k (.int .u8 (c.toNat:Int)))else .st st
  | _,_=>.st st
 | .indexAddr t x i=>match (ρ x).els,ρ i,sj es t with
  | some L,.int _ n,some sz=>.Zo sz L n (fun cs=>k (.ref cs))
  | _,_,_=>.st st
 | .slice t x lo hi none=>match ah0 ρ lo 0 with
  | some a=>match ρ x with
   | .str s=>match ah0 ρ hi s.length with
    | some b=>bif rT F.f.str t then .opt Str (sl s a b) (fun r=>k (.str r))else .st st
    | none=>.st st
   | p=>match p.els,sj es t,hi with
    | some L,some sz,none=>.slL sz L a none (fun r=>k (.list r))
    | some L,some sz,some y=>match ρ y with
     | .int _ b=>.slL sz L a (some b) (fun r=>k (.list r))
     | _=>.st st
    | _,_,_=>.st st
  | none=>.st st
 | .binOp .add _ x y _=>match ρ x,ρ y with
  | .str a,.str b=>.opt Str (app a b) (fun r=>k (.str r))
  | .int .u8 p,.int .u8 q=>match y with
   | .const _=>bif decide (q=((Ft.byteOf q).toNat:Int))then .u8c (·+·) p (Ft.byteOf q) (fun i=>k (.int .u8 i))else .st st
   | _=>.u8 (·+·) p q (fun i=>k (.int .u8 i))
  | _,_=>.st st
 | .binOp .sub _ x y _=>match ρ x,ρ y with
  | .int .u8 p,.int .u8 q=>match y with
   | .const _=>bif decide (q=((Ft.byteOf q).toNat:Int))then .u8c (·-·) p (Ft.byteOf q) (fun i=>k (.int .u8 i))else .st st
   | _=>.u8 (·-·) p q (fun i=>k (.int .u8 i))
  | _,_=>.st st
 | .binOp .quo _ x y _=>match ρ x,ρ y with
  | .int .i64 p,.int .i64 q=>.chb (!(q==0)) (k (.int .i64 (IntKind.i64.wrap (p.tdiv q))))
  | _,_=>.st st
 | .binOp .rem _ x y _=>match ρ x,ρ y with
  | .int .i64 p,.int .i64 q=>.chb (!(q==0)) (k (.int .i64 (p.tmod q)))
  | _,_=>.st st
 | .convert src dst x=>match ρ x,sj un src,sj un dst with
  | .int .u8 p,some _,some .i64=>.byte p (k (.int .i64 p))
  | .int .u8 p,some _,some .u64=>.byte p (k (.int .u64 p))
  | .int .i64 n,some _,some .u8=>.go (k (.int .u8 ((Ft.byteOf n).toNat:Int)))
  | .int .i64 n,some _,some .i64=>.go (k (.int .i64 (IntKind.i64.wrap n)))
  | .int .i64 n,some _,some .i32=>.go (k (.int .i32 (IntKind.i32.wrap n)))
  | .int .i32 n,some _,some .i64=>.go (k (.int .i64 (IntKind.i64.wrap n)))
  | p,_,_=>match p.els,sj bs src with
   | some L,some _=>bif rT F.f.str dst then .byt L (fun l=>k (.str l))else .st st
   | _,_=>.st st
 | .call c=>match c.callee with
  | .value FT=>match ρ FT with
   | .fn f caps=>match I_ c.args.toList.length ((c.args.toList.map ρ).map PV.weak)with
    | some a=>.call f (a++caps) (fun o=>match o with|.ret p=>k p|.panic p=>kp p)
    | none=>.st st
   | _=>.st st
  | .builtin .len=>match c.args.toList,c.argTypes.toList with
   | [x],[t]=>match ρ x with
    | .str s=>bif rT F.f.str t then .go (k (.int .i64 (s.length:Int)))else .st st
    | p=>match p.els,sj es t with
     | some L,some _=>.len L (fun m=>k (.int .i64 (m:Int)))
     | _,_=>.st st
   | _,_=>.st st
  | _=>.st st
 | _=>.st st
def ldN(F:FB)(s:List aS)(nm:Nm)(ρ:Operand→PV):Op→Option (Nat × Nat × PV)
 | .load t x=>match DJ F.f.ti t with
  | some (ag,k)=>match aex nm x with
   | some i=>match ρ x with
    | .val (.pointer (some ⟨b,off,none⟩))=>match s[s.length-1-i]? with
     | some (.box b' cs)=>match Ay off cs with
      | some cs'=>match wE ag k cs' with
       | some p=>some (b,b',p)
       | none=>none
      | none=>none
     | _=>none
    | _=>none
   | none=>none
  | none=>none
 | _=>none
def stN(F:FB)(s:List aS)(nm:Nm)(ρ:Operand→PV):Op→Option (Nat × Nat × List aS)
 | .store t x y=>match DJ F.f.ti t with
  | some (_,k)=>match aex nm x with
   | some i=>match ρ x with
    | .val (.pointer (some ⟨b,off,none⟩))=>match s[s.length-1-i]? with
     | some (.box b' cs)=>match (ρ y).yC with
      | some new=>bif (new.all PV.one&&Nat.beq new.length k)then (match R5 cs off new with
       | some cs'=>match DW s (s.length-1-i) (.box b cs')with
        | some s'=>some (b,b',s')
        | none=>none
       | none=>none)else none
      | none=>none
     | _=>none
    | _=>none
   | none=>none
  | none=>none
 | _=>none
def Q9(s:List aS)(nm:Nm):List Operand→Option (Nat × Nat × List PV)
 | []=>none
 | x::xs=>match aex nm x with
  | some i=>match s[s.length-1-i]? with
   | some (.box b cs)=>some (s.length-1-i,b,cs)
   | _=>Q9 s nm xs
  | none=>Q9 s nm xs
def QF(sz e:Nat):List aS→Nat→Option Nat
 | [],_=>none
 | .row _ _ sz' e'::r,i=>bif Nat.beq sz' sz&&Nat.beq e' e then some i else QF sz e r (i+1)
 | _::r,i=>QF sz e r (i+1)
def efN(F:FB)(es:List (Nat × Nat))(sf:List (Nat × Nat × Nat × Nat))(s:List aS)(nm:Nm)(ρ:Operand→PV)(dst:Option Nat)(k:PV→List aS→Nm→Ms)(kp:PV→List aS→Ms):Op→Option Nd
 | .store t x y=>match stN F s nm ρ (.store t x y)with
  | some (b,b',s')=>some (.same b b' (k .undef s' nm))
  | none=>none
 | .alloc e=>match sj F.zp e with
  | some cs=>some (.alloc fun b=>k (.val (.pointer (some ⟨b,0,none⟩))) (.box b cs::s) (match dst with|some t=>(t,s.length)::nm|none=>nm))
  | none=>none
 | .panic x=>match ρ x with
  | .iface t p=>some (.go (kp (.iface t p) s))
  | _=>none
 | .call c=>match c.callee with
  | .builtin .append=>match c.args.toList,c.argTypes.toList with
   | [x,y],[t,tx]=>match ρ x,(ρ y).els,MQ sf t,sj es tx with
    | .own v L,some M,some (e,sz,bytes),some sz2=>match (match aex nm x with|some j=>some (s.length-1-j)|none=>QF sz e s 0)with
     | some i=>match s[i]? with
      | some (.row v' m sz' e')=>bif Nat.beq sz' sz&&Nat.beq e' e&&Nat.beq sz2 sz&&Nat.ble bytes 32768 then some (.app v v' m sz L M (fun v2 L2=>k (.own v2 L2) (s.set i (.row v2 L2.length sz e)) (match dst with|some t=>(t,s.length-1-i)::nm|none=>nm)))else none
      | _=>none
     | none=>bif Nat.beq sz2 sz&&Nat.ble bytes 32768 then some (.app v (.slice none 0 0) 0 sz L M (fun v2 L2=>k (.own v2 L2) (.row v2 L2.length sz e::s) (match dst with|some t=>(t,s.length)::nm|none=>nm)))else none
    | _,_,_,_=>none
   | _,_=>none
  | .value FT=>match ρ FT with
   | .fn f caps=>match Q9 s nm c.args.toList with
    | some (i,b,cs)=>match I_ c.args.toList.length ((c.args.toList.map ρ).map PV.weak)with
     | some a=>some (.Q5 f (a++caps) b cs (fun o cs'=>match o with
      | .ret p=>k p (s.set i (.box b cs')) nm
      | .panic p=>kp p (s.set i (.box b cs'))))
     | none=>none
    | none=>none
   | _=>none
  | _=>none
 | _=>none
def UQ(F:FB)(e:Env)(s:List aS)(nm:Nm):List ResultVar→Option (List Nat × List Nat × List PV)
 | []=>some ([],[],[])
 | .tmp t::rs=>match (e.get t).force with
  | some p=>match UQ F e s nm rs with
   | some (A,B,ps)=>some (A,B,p::ps)
   | none=>none
  | none=>none
 | .cell a t::rs=>match sj nm a with
  | some i=>match e.get a with
   | .val (.pointer (some ⟨b,0,none⟩))=>match s[s.length-1-i]? with
    | some (.box b' cs)=>match DJ F.f.ti t with
     | some (ag,k)=>match wE ag k cs with
      | some p=>match UQ F e s nm rs with
       | some (A,B,ps)=>some (b::A,b'::B,p::ps)
       | none=>none
      | none=>none
     | none=>none
    | _=>none
   | _=>none
  | none=>none
def Nd.aag(cs:List ((Env × List aS) × (Env × List aS))):Nd→Nd
 | .MO v e s ds=>.MO v e s (cs++ds)
 | .OV ds d=>.OV (cs++ds) d
 | d=>.OV cs d
section
variable {P : Program} {n : Nat}
def Jl(t:Nat)(E:Env)(S:List aS)(x:Bool):Post:=fun ax e s d=>ax=.normal∧e=(t,.bool x)::E∧s=S∧d=[]
def Nd.ok(P:Program)(n:Nat)(Q:Post)(Fin:dO→List aS→Prop)(Gn:Bool→Env→List aS→Prop):Nd→Prop
 | .st s=>s.st.ok P n Q
 | .go s=>s.st.ok P n Q
 | .OV cs d=>(∀c∈cs,c.1=c.2)∧d.ok P n Q Fin Gn
 | .cond b t e=>(b=true→t.st.ok P n Q)∧(b=false→e.st.ok P n Q)
 | .same b b' s=>b=b'∧s.st.ok P n Q
 | .alloc k=>∀b,(k b).st.ok P n Q
 | .opt _ x k=>∃y,x=some y∧(k y).st.ok P n Q
 | .chb b s=>Ft.OV b=some ()∧s.st.ok P n Q
 | .len L k=>(k L.length).st.ok P n Q
 | .byt L k=>∃l:List UInt8,L=l.map fF∧(k l).st.ok P n Q
 | .Zo sz L i k=>∃cs,idx L i=some cs∧cs.length=sz∧(k cs).st.ok P n Q
 | .slL sz L a b k=>∃(α:Type) (f:α→List PV) (l r:List α),L=l.map f∧(∀x,(f x).length=sz)∧sl l a (b.getD (l.length:Nat))=some r∧(k (r.map f)).st.ok P n Q
 | .app v v' m sz L M k=>v=v'∧m=L.length∧∃(α:Type) (f:α→List PV) (l2 m2 r:List α),Ft.app l2 m2=some r∧L=l2.map f∧M=m2.map f∧(∀x,(f x).length=sz)∧(∀x,(f x).all PV.one=true)∧∀v2,(k v2 (r.map f)).st.ok P n Q
 | .u8 f p q k=>∃a b:UInt8,p=(a.toNat:Int)∧q=(b.toNat:Int)∧(k ((f a b).toNat:Int)).st.ok P n Q
 | .u8c f p c k=>∃a:UInt8,p=(a.toNat:Int)∧(k ((f a c).toNat:Int)).st.ok P n Q
 | .byte p s=>(∃a:UInt8,p=(a.toNat:Int))∧s.st.ok P n Q
 | .call f args k=>dA P f=true∧∃o,(∀ {τ:List aS} {R:dO→List aS→Prop},R o τ→AC P f args τ R)∧(k o).st.ok P n Q
 | .Q5 f args b cs k=>dA P f=true∧∃o cs',(∀ {R:dO→List aS→Prop},R o [.box b cs']→AC P f args [.box b cs] R)∧(k o cs').st.ok P n Q
 | .join b w t E S _ _ s1 s2 k=>∃x,(b=w→s1.st.ok P n (Jl t E S x))∧(b=!w→s2.st.ok P n (Jl t E S x))∧(k x).st.ok P n Q
 | .loop c k e s _=>AW P n (.loop c) e s [] (den P n k Q)
 | .again R e s=>R e s []
 | .ord L k d=>(Iq L k&&Nat.ble k L.length)=true∧d.ok P n Q Fin Gn
 | .aem b d=>b=true∧d.ok P n Q Fin Gn
 | .ret A B p s=>A=B∧Fin (.ret p) s
 | .pan p s=>Fin (.panic p) s
 | .MO v e s cs=>(∀c∈cs,c.1=c.2)∧Gn v e s
def Fm.fits(F:FB)(Q:Post)(Fin:dO→List aS→Prop)(Gn:Bool→Env→List aS→Prop):Fm→Prop
 | .body rs=>(∀e s nm A ps,UQ F e s nm rs=some (A,A,ps)→Fin (.ret (ji (ps.map PV.weak))) s→Q .ret e s []∧Q .normal e s [])∧∀e s p,Fin (.panic p) s→Q (.panic p) e s []
 | .yH t _ _ _ _=>∀v e s,Gn v e s→Q .normal ((t,.bool v)::e) s []
theorem Nd.V8{Q:Post}{Fin:dO→List aS→Prop}{Gn:Bool→Env→List aS→Prop}{cs:List ((Env × List aS) × (Env × List aS))}{d:Nd}(h:(d.aag cs).ok P n Q Fin Gn):(∀c∈cs,c.1=c.2)∧d.ok P n Q Fin Gn:=by
 unfold Nd.aag at h;split at h
 ·exact⟨fun c hc=>h.1 c (List.mem_append_left _ hc),fun c hc=>h.1 c (List.mem_append_right _ hc),h.2⟩
 ·exact⟨fun c hc=>h.1 c (List.mem_append_left _ hc),fun c hc=>h.1 c (List.mem_append_right _ hc),h.2⟩
 ·exact h
theorem stepG{all:Array Oper}{rest:List Oper}{o:Oper}{t:Nat}{e:Env}{σ:List aS}{Q:Post}(hd:o.dst=some t)(ht:Nat.blt t n=true)(hg:pV all e o.guard=some true)
  (h:∀o':Oper,o'.op=o.op→AO P o' e.ev σ (fun p σ'=>AR P n all rest ((t,p)::e) σ' [] Q) (fun p σ'=>Q (.panic p) e σ' [])):AR P n all (o::rest) e σ [] Q:=by
 cases hgo:o.guard with
 | none=>exact AR.step hgo hd ht (h o rfl)
 | some jw=>
  obtain⟨j,want⟩:=jw;rw[hgo]at hg;obtain⟨oj,u,h1,h2,h3⟩:=kF hg;rcases h3 with⟨_,h3⟩|⟨h3,_⟩
  ·refine AR.run (b:=want) hgo h1 h2 h3 hd ht rfl ?_;exact AR.step rfl hd ht (h {o with guard:=none} rfl)
  ·cases h3
theorem alo{all:Array Oper}{rest:List Oper}{o:Oper}{t:Nat}{p:PV}{e:Env}{σ:List aS}{K:Env→Prop}(hd:o.dst=some t)(ht:Nat.blt t n=true)(hg:pV all e o.guard=some true)
  (h:∀o':Oper,o'.op=o.op→AO P o' e.ev σ (fun p' σ'=>p'=p∧σ'=σ) (fun _ _=>False)) (hk:Ev P n all σ ((t,p)::e) rest K):Ev P n all σ e (o::rest) K:=by
 cases hgo:o.guard with
 | none=>exact Ev.cons hgo hd ht (h o rfl) hk
 | some jw=>
  obtain⟨j,want⟩:=jw;rw[hgo]at hg;obtain⟨oj,u,h1,h2,h3⟩:=kF hg;rcases h3 with⟨_,h3⟩|⟨h3,_⟩
  ·exact Ev.run (b:=want) hgo h1 h2 h3 hd ht rfl (h {o with guard:=none} rfl) hk
  ·cases h3
theorem U_{F:FB}{s:List aS}{ρ:Operand→PV}{op:Op}{p:PV}{ix A B:List Nat}(h:opX F s ρ [] [] [] op=some (p,ix,A,B)):A=B:=by
 unfold opX at h;split at h
 all_goals repeat' split at h
 all_goals first
  | contradiction
  | (simp only[jW,alV]at h;obtain⟨_,_,rfl,rfl⟩:=h;rfl)
  | cases h
theorem IQ{ρ:Operand→PV}{o:Option Operand}{d a:Int}(h:ah0 ρ o d=some a):Fh ρ o a d:=by
 unfold ah0 at h;unfold Fh;cases o with
 | none=>simp only[jW]at h;exact h.symm
 | some y=>
  simp only at h;split at h
  ·rename_i k b hy;simp only[jW]at h;subst h;exact⟨k,hy⟩
  ·cases h
theorem WJ{F:Facts}(hF:F.okB P=true){t:Nat}(h:rT F.str t=true):P.underlying t=some .string:=by
 simp only[Facts.okB,ahK]at hF;have:=xR hF.2 h;unfold aln at this;split at this
 ·assumption
 ·cases this
theorem FA.Fu[K:FA P]{t:Nat}{k:IntKind}(h:sj K.un t=some k):P.underlying t=some (.int k):=by
 have h0:(K.un.map fun y=>(y.1,TypeDesc.int y.2)).map (fun y=>P.underlying y.1)=(K.un.map fun y=>(y.1,TypeDesc.int y.2)).map (fun y=>some y.2):=by
  rw[ano,ano];exact K.uok
 refine Ef (g:=P.underlying) h0 ?_;revert h;generalize K.un=l
 induction l with
 | nil=>intro h;cases h
 | cons y l ih=>
  obtain⟨u,z⟩:=y;intro h;simp only[agf];unfold sj at h⊢;cases e:Nat.beq u t with
  | true=>rw[e]at h;simp only[ajC,jW]at h⊢;rw[h]
  | false=>rw[e]at h;exact ih h
theorem FA.XP[K:FA P]{t sz:Nat}(h:sj K.es t=some sz):elemSize P t=some sz:=Ef (g:=elemSize P) K.eok h
end
end Go.Abs
namespace Go.Abs
variable [gD]
open Go Go.Ft
section
variable {P : Program} {n : Nat}
theorem AO.row0{o:Oper}{ρ:Operand→PV}{σ:List aS}{R S:PV→List aS→Prop}(sz e:Nat)(h:AO P o ρ (.row (.slice none 0 0) 0 sz e::σ) R S):AO P o ρ σ R S:=by
 intro w m a K QC hr hc hK hS;obtain⟨h1,h2⟩:=QS hc sz e;exact h w m a K QC hr h1 (fun p σ' v w' m' k1 k2 k3 k4=>hK p σ' v w' m' k1 k2 k3 (h2.trans k4)) (fun p σ' v w' m' k1 k2 k3 k4=>hS p σ' v w' m' k1 k2 k3 (h2.trans k4))
theorem FA.ai7[K:FA P]{t:Nat}(h:rT K.bo t=true):P.underlying t=some .bool:=by
 have h0:=K.bok;revert h h0;generalize K.bo=l
 induction l with
 | nil=>intro h;cases h
 | cons u l ih=>
  intro h h0;simp only[agf,List.cons.injEq]at h0;unfold rT at h;cases e:Nat.beq u t with
  | true=>rw[←Aq e];exact h0.1
  | false=>rw[e]at h;exact ih h h0.2
theorem Ua{α:Type}:∀ {l:List (Nat × α)} {t:Nat} {x:α},sj l t=some x→(t,x)∈l
 | [],t,x,h=>by cases h
 | (u,y)::l,t,x,h=>by
  unfold sj at h;cases e:Nat.beq u t with
  | true=>rw[e]at h;simp only[ajC,jW]at h;rw[←Aq e,h];exact ale
  | false=>rw[e]at h;exact akL _ (Ua h)
theorem Ta{c:Call}{ρ:Operand→PV}{a:List PV}(h:I_ c.args.toList.length ((c.args.toList.map ρ).map PV.weak)=some a):a=(c.args.toList.map ρ).map PV.weak:=by
 have:=(Ga h).1;rw[this];exact List.take_of_length_le (by simp)
theorem Mt[K:FA P]{op:Op}{ρ:Operand→PV}{k kp:PV→Ms}{st:Ms}{Q:Post}{Fin:dO→List aS→Prop}{Gn:Bool→Env→List aS→Prop}{σ:List aS}
  (h:(opN K.F K.es K.bs K.un ρ k kp st op).ok P n Q Fin Gn):st.st.ok P n Q∨(∃p,(k p).st.ok P n Q∧∀o':Oper,o'.op=op→∀ {R S:PV→List aS→Prop},R p σ→AO P o' ρ σ R S)∨
   ∃p,(kp p).st.ok P n Q∧∀o':Oper,o'.op=op→∀ {R S:PV→List aS→Prop},S p σ→AO P o' ρ σ R S:=by
 have hF:=K.ok
 have out:∀ {p:PV},(k p).st.ok P n Q→(∀o':Oper,o'.op=op→∀ {R S:PV→List aS→Prop},R p σ→AO P o' ρ σ R S)→st.st.ok P n Q∨(∃p,(k p).st.ok P n Q∧∀o':Oper,o'.op=op→∀ {R S:PV→List aS→Prop},R p σ→AO P o' ρ σ R S)∨
   ∃p,(kp p).st.ok P n Q∧∀o':Oper,o'.op=op→∀ {R S:PV→List aS→Prop},S p σ→AO P o' ρ σ R S:=fun h1 h2=>.inr (.inl ⟨_,h1,h2⟩)
 unfold opN at h;split at h
 ·rename_i t x i;split at h
  ·rename_i s kk m hx hi;cases hs:rT K.F.f.str t with
   | false=>rw[hs]at h;exact .inl h
   | true=>
    rw[hs]at h;obtain⟨c,hc,hk⟩:=h;exact out hk fun o' ho {R S} hR=>AO.r9 hc ho (WJ hF.f hs) hx hi hR
  ·exact .inl h
 ·rename_i t x i;split at h
  ·rename_i L kk m sz hx hi hsz;obtain⟨cs,hc,hl,hk⟩:=h;exact out hk fun o' ho {R S} hR=>AO.fM (f:=id) hc ho hx (by simp) hi (FA.XP hsz) rfl hl hR
  ·exact .inl h
 ·rename_i t x lo hi;split at h
  ·rename_i a hlo;split at h
   ·rename_i s hx;split at h
    ·rename_i b hhi;cases hs:rT K.F.f.str t with
     | false=>rw[hs]at h;exact .inl h
     | true=>
      rw[hs]at h;obtain⟨r,hr,hk⟩:=h;exact out hk fun o' ho {R S} hR=>AO.Y0 hr ho (WJ hF.f hs) hx (IQ hlo) (IQ hhi) hR
    ·exact .inl h
   ·split at h
    ·rename_i L sz hL hsz;obtain⟨α,f,l,r,h1,h2,h3,hk⟩:=h;exact out hk fun o' ho {R S} hR=>AO.KC h3 ho (FA.XP hsz) hL h1 rfl h2 (IQ hlo) (by simp[Fh]) hR
    ·rename_i L sz y hL hsz;split at h
     ·rename_i kk b hy;obtain⟨α,f,l,r,h1,h2,h3,hk⟩:=h;exact out hk fun o' ho {R S} hR=>AO.KC h3 ho (FA.XP hsz) hL h1 rfl h2 (IQ hlo) ⟨kk,by simpa using hy⟩ hR
     ·exact .inl h
    ·exact .inl h
  ·exact .inl h
 ·rename_i x y _;split at h
  ·rename_i a b hx hy;obtain⟨r,hr,hk⟩:=h;exact out hk fun o' ho {R S} hR=>AO.aoe hr ho hx hy hR
  ·rename_i p q hx hy;split at h
   ·rename_i v;cases hq:decide (q=((Ft.byteOf q).toNat:Int))with
    | false=>rw[hq]at h;exact .inl h
    | true=>
     rw[hq]at h;obtain⟨a,ha,hk⟩:=h;exact out hk fun o' ho {R S} hR=>AO.adF a (Ft.byteOf q) ho hx hy ha (of_decide_eq_true hq) hR
   ·obtain⟨a,b,ha,hb,hk⟩:=h;exact out hk fun o' ho {R S} hR=>AO.adF a b ho hx hy ha hb hR
  ·exact .inl h
 ·rename_i x y _;split at h
  ·rename_i p q hx hy;split at h
   ·rename_i v;cases hq:decide (q=((Ft.byteOf q).toNat:Int))with
    | false=>rw[hq]at h;exact .inl h
    | true=>
     rw[hq]at h;obtain⟨a,ha,hk⟩:=h;exact out hk fun o' ho {R S} hR=>AO.adE a (Ft.byteOf q) ho hx hy ha (of_decide_eq_true hq) hR
   ·obtain⟨a,b,ha,hb,hk⟩:=h;exact out hk fun o' ho {R S} hR=>AO.adE a b ho hx hy ha hb hR
  ·exact .inl h
 ·rename_i x y _;split at h
  ·rename_i p q hx hy;exact out h.2 fun o' ho {R S} hR=>AO.anu h.1 ho hx hy hR
  ·exact .inl h
 ·rename_i x y _;split at h
  ·rename_i p q hx hy;exact out h.2 fun o' ho {R S} hR=>AO.ant h.1 ho hx hy hR
  ·exact .inl h
 ·rename_i src dst x;split at h
  ·rename_i p k1 hx hs hd;obtain⟨⟨a,rfl⟩,hk⟩:=h;exact out hk fun o' ho {R S} hR=>AO.MW ho (FA.Fu hs) (FA.Fu hd) hx rfl hR
  ·rename_i p k1 hx hs hd;obtain⟨⟨a,rfl⟩,hk⟩:=h;exact out hk fun o' ho {R S} hR=>AO.MW ho (FA.Fu hs) (FA.Fu hd) hx rfl hR
  ·rename_i m k1 hx hs hd;exact out h fun o' ho {R S} hR=>AO.XY ho (FA.Fu hs) (FA.Fu hd) hx hR
  ·rename_i m k1 hx hs hd;exact out h fun o' ho {R S} hR=>AO.Ae ho (FA.Fu hs) (FA.Fu hd) hx hR
  ·rename_i m k1 hx hs hd;exact out h fun o' ho {R S} hR=>AO.Ae ho (FA.Fu hs) (FA.Fu hd) hx hR
  ·rename_i m k1 hx hs hd;exact out h fun o' ho {R S} hR=>AO.Ae ho (FA.Fu hs) (FA.Fu hd) hx hR
  ·split at h
   ·rename_i L e hL hb;cases hs:rT K.F.f.str dst with
    | false=>rw[hs]at h;exact .inl h
    | true=>
     rw[hs]at h;obtain⟨l,hl,hk⟩:=h;have hb:=Zl (agD.1 K.amR _ (Ua hb));exact out hk fun o' ho {R S} hR=>AO.acQ ho hb.1 hb.2 (WJ hF.f hs) hL hl hR
   ·exact .inl h
 ·rename_i c;split at h
  ·rename_i FT iB;split at h
   ·rename_i f caps hf;split at h
    rotate_left
    ·exact .inl h
    rename_i a ha;obtain rfl:=Ta ha;obtain⟨hp,o,hc,hk⟩:=h;cases o with
    | ret p=>exact out hk fun o' ho {R S} hR=>AO.call ho FT iB hf hp (hc hR)
    | panic p=>exact .inr (.inr ⟨p,hk,fun o' ho {R S} hR=>AO.call ho FT iB hf hp (hc hR)⟩)
   ·exact .inl h
  ·rename_i iB;split at h
   ·rename_i x t ha ht;have ha':c.args=#[x]:=by rw[←aml (xs:=c.args),ha]
    have ht':c.argTypes=#[t]:=by rw[←aml (xs:=c.argTypes),ht]
    split at h
    ·rename_i s hx;cases hs:rT K.F.f.str t with
     | false=>rw[hs]at h;exact .inl h
     | true=>
      rw[hs]at h;exact out h fun o' ho {R S} hR=>AO.rZ ho iB ha' ht' (WJ hF.f hs) hx hR
    ·split at h
     ·rename_i L sz hL hsz;exact out h fun o' ho {R S} hR=>AO.gB (f:=id) (l:=L) ho iB ha' ht' (FA.XP hsz) hL (by simp) hR
     ·exact .inl h
   ·exact .inl h
  ·exact .inl h
 ·exact .inl h
theorem JX[K:FA P]{F:FB}(hF:F.Ok P){s:List aS}{ρ:Operand→PV}{op:Op}{p:PV}(h:aeK F K.sf K.ic K.bo ρ op=some p){o:Oper}(ho:o.op=op){R S:PV→List aS→Prop}(hR:R p s):AO P o ρ s R S:=by
 unfold aeK at h;split at h
 ·rename_i t len parts;split at h
  ·rename_i e sz bytes hsf;have hs:=uF (agD.1 K.sok _ (J2 hsf));cases hle:Nat.ble (len*sz) 16777216 with
   | false=>rw[hle]at h;cases h
   | true=>
    rw[hle]at h;simp only[ajC]at h;split at h
    ·rename_i cells hf;split at h
     ·rename_i L hl;simp only[jW]at h;subst h;exact AO.jm L ho hs hle hf hl rfl hR
     ·cases h
    ·cases h
  ·cases h
 ·rename_i t x y _;split at h
  ·rename_i a b hx hy;cases hm:rT K.bo t with
   | false=>rw[hm]at h;cases h
   | true=>
    rw[hm]at h;simp only[ajC,jW]at h;subst h;exact AO.X_ ho (FA.ai7 hm) hx hy hR
  ·cases h
 ·rename_i t x y _;split at h
  ·rename_i a b hx hy;cases hm:rT K.bo t with
   | false=>rw[hm]at h;cases h
   | true=>
    rw[hm]at h;simp only[ajC,jW]at h;subst h;exact AO.X9 ho (FA.ai7 hm) hx hy hR
  ·cases h
 ·rename_i t x;cases hm:rT K.ic t with
  | false=>rw[hm]at h;cases h
  | true=>
   rw[hm]at h;simp only[ajC]at h;split at h
   ·rename_i q hq;simp only[jW]at h;subst h;exact AO.ahB ho (xR K.iok hm) hq hR
   ·cases h
 ·rename_i c;split at h
  ·rename_i iB;split at h
   ·rename_i x y ha;have ha':c.args=#[x,y]:=by rw[←aml (xs:=c.args),ha]
    split at h
    ·rename_i k a k' b hx hy;simp only[jW]at h;subst h;exact AO.min2 ho iB ha' hx hy hR
    ·cases h
   ·cases h
  ·rename_i iB;split at h
   ·rename_i x y ha;have ha':c.args=#[x,y]:=by rw[←aml (xs:=c.args),ha]
    split at h
    ·rename_i k a k' b hx hy;simp only[jW]at h;subst h;exact AO.max2 ho iB ha' hx hy hR
    ·cases h
   ·cases h
  ·rename_i iB;split at h
   ·rename_i x t ha ht;have ha':c.args=#[x]:=by rw[←aml (xs:=c.args),ha]
    have ht':c.argTypes=#[t]:=by rw[←aml (xs:=c.argTypes),ht]
    split at h
    ·rename_i s hx;cases hs:rT F.f.str t with
     | false=>rw[hs]at h;cases h
     | true=>
      rw[hs]at h;simp only[ajC,jW]at h;subst h;exact AO.rZ ho iB ha' ht' (WJ hF.f hs) hx hR
    ·cases h
   ·cases h
  ·cases h
 ·cases h
theorem MF{F:FB}(hF:F.Ok P){s:List aS}{nm:Nm}{ρ:Operand→PV}{op:Op}{b:Nat}{p:PV}(h:ldN F s nm ρ op=some (b,b,p)){o:Oper}(ho:o.op=op){R S:PV→List aS→Prop}(hR:R p s):AO P o ρ s R S:=by
 unfold ldN at h;split at h
 ·split at h
  ·rename_i ag k hti;split at h
   ·split at h
    ·rename_i b0 off hx;split at h
     ·rename_i b' cs hi;split at h
      ·rename_i cs' hd;split at h
       ·rename_i q hq;simp only[jW,alV]at h;obtain⟨rfl,rfl,rfl⟩:=h;exact AO.dP ho hx hi (Facts.YT hF.f hti) hd hq hR
       ·cases h
      ·cases h
     ·cases h
    ·cases h
   ·cases h
  ·cases h
 ·cases h
theorem abI{F:FB}(hF:F.Ok P){s s':List aS}{nm:Nm}{ρ:Operand→PV}{op:Op}{b:Nat}(h:stN F s nm ρ op=some (b,b,s')){o:Oper}(ho:o.op=op){R S:PV→List aS→Prop}(hR:R .undef s'):AO P o ρ s R S:=by
 unfold stN at h;split at h
 ·split at h
  ·rename_i ag k hti;split at h
   ·split at h
    ·rename_i b0 off hx;split at h
     ·rename_i b' cs hi;split at h
      ·rename_i new hnew;cases hb:(new.all PV.one&&Nat.beq new.length k)with
       | false=>rw[hb]at h;cases h
       | true=>
        rw[hb]at h;simp only[ajC]at h;simp only[ahK]at hb;split at h
        ·rename_i cs' hput;split at h
         ·rename_i s1 hset;simp only[jW,alV]at h;obtain⟨rfl,rfl,rfl⟩:=h;exact AO.eH ho hx hi (Facts.YT hF.f hti) hnew hb.1 hb.2 hput hset hR
         ·cases h
        ·cases h
      ·cases h
     ·cases h
    ·cases h
   ·cases h
  ·cases h
 ·cases h
theorem M7{s:List aS}{nm:Nm}:∀ {l:List Operand} {i b:Nat} {cs:List PV},Q9 s nm l=some (i,b,cs)→s[i]?=some (.box b cs)
 | [],_,_,_,h=>by cases h
 | x::xs,i,b,cs,h=>by
  unfold Q9 at h;split at h
  ·split at h
   ·rename_i j _ b' cs' hi;simp only[jW,alV]at h;obtain⟨rfl,rfl,rfl⟩:=h;exact hi
   ·exact M7 h
  ·exact M7 h
theorem Uq[K:FA P]{c:Call}{x y:Operand}{t tx e sz bytes:Nat}{v:Value}{L M:List (List PV)}{s:List aS}{i:Nat}{ρ:Operand→PV}{o:Oper}(ho:o.op=.call c)(iB:c.callee=.builtin .append)(ha:c.args.toList=[x,y])(ht:c.argTypes.toList=[t,tx])
  (hx:ρ x=.own v L) (hy:(ρ y).els=some M) (hs:MQ K.sf t=some (e,sz,bytes)) (htx:sj K.es tx=some sz) (hb:Nat.ble bytes 32768=true) (hi:s[i]?=some (.row v L.length sz e))
  {α:Type} {f:α→List PV} {l2 m2 r:List α} (h1:Ft.app l2 m2=some r) (h2:L=l2.map f) (h3:M=m2.map f) (h4:∀x,(f x).length=sz) (h5:∀x,(f x).all PV.one=true) {R S:PV→List aS→Prop} (hR:∀v2,R (.own v2 (r.map f)) (s.set i (.row v2 (r.map f).length sz e))):AO P o ρ s R S:=by
 have ha':c.args=#[x,y]:=by rw[←aml (xs:=c.args),ha]
 have ht':c.argTypes=#[t,tx]:=by rw[←aml (xs:=c.argTypes),ht]
 refine AO.ng h1 ho iB ha' ht' hx hy hi (uF (agD.1 K.sok _ (J2 hs))) (FA.XP htx) h2 h3 rfl h4 h5 hb fun v2 s' hs'=>?_;have:s'=s.set i (.row v2 (r.map f).length sz e):=Oz hs';rw[this];exact hR v2
theorem MS[K:FA P]{op:Op}{s:List aS}{nm:Nm}{ρ:Operand→PV}{dst:Option Nat}{k:PV→List aS→Nm→Ms}{kp:PV→List aS→Ms}{nd:Nd}{Q:Post}{Fin:dO→List aS→Prop}{Gn:Bool→Env→List aS→Prop}
  (hn:efN K.F K.es K.sf s nm ρ dst k kp op=some nd) (h:nd.ok P n Q Fin Gn):∀o':Oper,o'.op=op→AO P o' ρ s (fun p s'=>∃nm',(k p s' nm').st.ok P n Q) (fun p s'=>(kp p s').st.ok P n Q):=by
 intro o' ho;unfold efN at hn;split at hn
 ·rename_i t x y;split at hn
  ·rename_i b b' s' hst;simp only[jW]at hn;subst hn;obtain⟨rfl,h⟩:=h;exact abI K.ok hst ho ⟨nm,h⟩
  ·cases hn
 ·rename_i e;split at hn
  ·rename_i cs hz;simp only[jW]at hn;subst hn;exact AO.bQ ho (Ef K.ok.zp hz) fun b=>⟨_,h b⟩
  ·cases hn
 ·rename_i x;split at hn
  ·rename_i t p hx;simp only[jW]at hn;subst hn;exact AO.ajT ho hx h
  ·cases hn
 ·rename_i c;split at hn
  ·rename_i iB;split at hn
   ·rename_i x y t tx ha ht;split at hn
    ·rename_i v L M e sz bytes sz2 hx hy hs htx;split at hn
     ·rename_i i _;split at hn
      ·rename_i v' m sz' e' hi;cases hb:(Nat.beq sz' sz&&Nat.beq e' e&&Nat.beq sz2 sz&&Nat.ble bytes 32768)with
       | false=>rw[hb]at hn;cases hn
       | true=>
        rw[hb]at hn;simp only[ajC,jW]at hn;subst hn;simp only[ahK]at hb;obtain⟨⟨⟨b1,b2⟩,b3⟩,b4⟩:=hb;have b1:=Aq b1;have b2:=Aq b2;have b3:=Aq b3;subst b1 b2 b3;obtain⟨rfl,rfl,α,f,l2,m2,r,h1,h2,h3,h4,h5,hk⟩:=h;exact Uq ho iB ha ht hx hy hs htx b4 hi h1 h2 h3 h4 h5 fun v2=>⟨_,hk v2⟩
      ·cases hn
     ·cases hb:(Nat.beq sz2 sz&&Nat.ble bytes 32768)with
      | false=>rw[hb]at hn;cases hn
      | true=>
       rw[hb]at hn;simp only[ajC,jW]at hn;subst hn;simp only[ahK]at hb;have b1:=Aq hb.1;subst b1;obtain⟨rfl,hL,α,f,l2,m2,r,h1,h2,h3,h4,h5,hk⟩:=h;refine AO.row0 sz2 e (Uq (i:=0) ho iB ha ht hx hy hs htx hb.2 (by rw[←hL];rfl) h1 h2 h3 h4 h5 fun v2=>⟨_,hk v2⟩)
    ·cases hn
   ·cases hn
  ·rename_i FT iB;split at hn
   ·rename_i f caps hf;split at hn
    ·rename_i i b cs hba;split at hn
     rotate_left
     ·cases hn
     rename_i a ha;obtain rfl:=Ta ha;simp only[jW]at hn;subst hn;obtain⟨hp,o,cs',hc,hk⟩:=h;refine AO.call ho FT iB hf hp (AC.one i (M7 hba) (hc ⟨_,rfl,?_⟩));cases o with
     | ret p=>exact⟨_,hk⟩
     | panic p=>exact hk
    ·cases hn
   ·cases hn
  ·cases hn
 ·cases hn
theorem OA{F:FB}(hF:F.Ok P){e:Env}{s:List aS}{nm:Nm}:∀ {rs:List ResultVar} {A B:List Nat} {ps:List PV},UQ F e s nm rs=some (A,B,ps)→A=B→BI P e s rs ps
 | [],A,B,ps,h,_=>by simp only[UQ,jW,alV]at h;exact h.2.2.symm
 | .tmp t::rs,A,B,ps,h,hab=>by
  unfold UQ at h;split at h
  ·rename_i p hp;split at h
   ·rename_i A1 B1 qs hq;simp only[jW,alV]at h;obtain⟨rfl,rfl,rfl⟩:=h;exact⟨p,qs,rfl,hp,OA hF hq hab⟩
   ·cases h
  ·cases h
 | .cell a t::rs,A,B,ps,h,hab=>by
  unfold UQ at h;split at h
  ·rename_i i hn;split at h
   ·rename_i b hb;split at h
    ·rename_i b' cs hi;split at h
     ·rename_i ag k ht;split at h
      ·rename_i p hp;split at h
       ·rename_i A1 B1 qs hq;simp only[jW,alV]at h;obtain⟨rfl,rfl,rfl⟩:=h;simp only[List.cons.injEq]at hab;obtain⟨rfl,hab⟩:=hab;exact⟨p,qs,rfl,⟨b,cs,_,ag,k,hb,hi,Facts.YT hF.f ht,hp⟩,OA hF hq hab⟩
       ·cases h
      ·cases h
     ·cases h
    ·cases h
   ·cases h
  ·cases h
end
end Go.Abs
namespace Go.Abs
variable [gD]
open Go Go.Ft
def toE(i:Nat)(nm:Nm):Nm:=nm.map fun x=>(x.1,bif Nat.beq x.2 i then 999 else bif Nat.blt i x.2 then x.2-1 else x.2)
def toT(nm:Nm):Nm:=nm.map fun x=>(x.1,bif Nat.beq x.2 999 then 0 else x.2+1000)
def frT(i:Nat)(nm:Nm):Nm:=nm.map fun x=>(x.1,bif Nat.beq x.2 0 then i else bif Nat.ble i (x.2-1000)then x.2-999 else x.2-1000)
def gOk(L:List Oper)(k0 k k2:Nat):Bool:=Gx L k k2&&QX L k k2&&QM L k0 k k2&&Nat.ble k0 k&&Nat.ble k k2&&Nat.ble k2 L.length
def nx(F:FB)(es bs:List (Nat × Nat))(sf:List (Nat × Nat × Nat × Nat))(un:List (Nat × IntKind))(ic bo:List Nat)(cf:Cf):Fm→Nat→S2→Nm→Nd
 | _,0,s,nm=>.st ⟨s,nm⟩
 | fm,f+1,.w c k e s,nm=>match c with
  | .seq c d=>nx F es bs sf un ic bo cf fm f (.w c (.sq d::k) e s) nm
  | .block id c=>nx F es bs sf un ic bo cf fm f (.w c (.bl id::k) e s) nm
  | .region _ all false=>nx F es bs sf un ic bo cf fm f (.r all all.toList k e s) nm
  | .region id all true=>match sj cf.g id with
   | some (k0,k1,k2,j)=>.aem (gOk all.toList k0 k1 k2&&(s[s.length-1-j]?).isSome) (nx F es bs sf un ic bo cf fm f (.v all (all.toList.take k0) (.g1 k ((all.toList.drop k0).take (k1-k0)) ((all.toList.drop k1).take (k2-k1)) (all.toList.drop k2) (s.length-1-j)) e s) nm)
   | none=>match sj cf.d id with
    | some k1=>.ord all.toList k1 (nx F es bs sf un ic bo cf fm f (.v all (all.toList.take k1) (.ar k (all.toList.drop k1)) e s) nm)
    | none=>.ord all.toList (OE all.toList) (nx F es bs sf un ic bo cf fm f (.v all (all.toList.take (OE all.toList)) (.ar k (all.toList.drop (OE all.toList))) e s) nm)
  | .skip=>nx F es bs sf un ic bo cf fm f (.x .normal k e s) nm
  | .label _=>nx F es bs sf un ic bo cf fm f (.x .normal k e s) nm
  | .exit id=>nx F es bs sf un ic bo cf fm f (.x (.exit id) k e s) nm
  | .ret=>nx F es bs sf un ic bo cf fm f (.x .ret k e s) nm
  | .cond c a b=>match e.ev c with
   | .bool v=>.cond v ⟨.w a k e s,nm⟩ ⟨.w b k e s,nm⟩
   | _=>.st ⟨.w (.cond c a b) k e s,nm⟩
  | .loop c=>.loop c k e s nm
  | c=>.st ⟨.w c k e s,nm⟩
 | fm,f+1,.r all l k e s,nm=>match l with
  | []=>match fm,k with
   | .yH t ks _ _ _,[]=>match settle (t::ks) e with
    | some ((t',.bool v)::e')=>bif Nat.beq t' t then .MO v e' s []else .st ⟨.r all [] [] e s,nm⟩
    | _=>.st ⟨.r all [] [] e s,nm⟩
   | fm,k=>nx F es bs sf un ic bo cf fm f (.x .normal k e s) nm
  | o::rest=>match o.dst with
   | none=>match o.guard with
    | none=>match efN F es sf s nm e.ev none (fun _ s' nm'=>⟨.r all rest k e s',nm'⟩) (fun p s'=>⟨.x (.panic p) k e s',nm⟩) o.op with
     | some nd=>nd
     | none=>.st ⟨.r all (o::rest) k e s,nm⟩
    | some _=>.st ⟨.r all (o::rest) k e s,nm⟩
   | some t=>bif Nat.blt t cf.n then (bif knows fm.kn all o.guard then (match pV all e o.guard with
     | some true=>match ldN F s nm e.ev o.op with
      | some (b,b',p)=>.same b b' ⟨.r all rest k ((t,p)::e) s,nm⟩
      | none=>match efN F es sf s nm e.ev (some t) (fun p s' nm'=>⟨.r all rest k ((t,p)::e) s',nm'⟩) (fun p s'=>⟨.x (.panic p) k e s',nm⟩) o.op with
       | some nd=>nd
       | none=>bif u8N e.ev o.op then opN F es bs un e.ev (fun p=>⟨.r all rest k ((t,p)::e) s,nm⟩) (fun p=>⟨.x (.panic p) k e s,nm⟩) ⟨.r all (o::rest) k e s,nm⟩ o.op
        else match opX F s e.ev [] [] [] o.op with
        | some (p,_,_,_)=>(match aj1 nm o.op with
         | some i=>nx F es bs sf un ic bo cf fm f (.r all rest k ((t,p)::e) s) ((t,i)::nm)
         | none=>nx F es bs sf un ic bo cf fm f (.r all rest k ((t,p)::e) s) nm)
        | none=>match aeK F sf ic bo e.ev o.op with
         | some p=>nx F es bs sf un ic bo cf fm f (.r all rest k ((t,p)::e) s) nm
         | none=>opN F es bs un e.ev (fun p=>⟨.r all rest k ((t,p)::e) s,nm⟩) (fun p=>⟨.x (.panic p) k e s,nm⟩) ⟨.r all (o::rest) k e s,nm⟩ o.op
     | some false=>nx F es bs sf un ic bo cf fm f (.r all rest k ((t,.val Go.undef)::e) s) nm
     | none=>.st ⟨.r all (o::rest) k e s,nm⟩)
    else match o.guard with
     | none=>.st ⟨.r all (o::rest) k e s,nm⟩
     | some (j,w)=>match all[j]? with
      | none=>.st ⟨.r all (o::rest) k e s,nm⟩
      | some oj=>match oj.dst with
       | none=>.st ⟨.r all (o::rest) k e s,nm⟩
       | some g=>match e.get g,Vn g (o::rest)with
        | .bool b,some (len,t')=>match settle (Dj e [g]) e with
         | some E=>match nx F es bs sf un ic bo cf (.yH t' (Dj e [g]) E s (g::fm.kn)) f (.r all ((o::rest).take len) [] ((g,.bool w)::e) s) nm,nx F es bs sf un ic bo cf (.yH t' (Dj e [g]) E s (g::fm.kn)) f (.r all ((o::rest).take len) [] ((g,.bool (!w))::e) s) nm,w with
          | .MO x e1 r1 c1,.MO false e2 r2 c2,true=>(nx F es bs sf un ic bo cf fm f (.r all ((o::rest).drop len) k ((t',.bool (b&&x))::E) s) nm).aag (((e1,r1),(E,s))::((e2,r2),(E,s))::(c1++c2))
          | .MO x e1 r1 c1,.MO true e2 r2 c2,false=>(nx F es bs sf un ic bo cf fm f (.r all ((o::rest).drop len) k ((t',.bool (b||x))::E) s) nm).aag (((e1,r1),(E,s))::((e2,r2),(E,s))::(c1++c2))
          | _,_,_=>.join b w t' E s (Dj e [g]) (g::fm.kn) ⟨.r all ((o::rest).take len) [] ((g,.bool w)::e) s,nm⟩ ⟨.r all ((o::rest).take len) [] ((g,.bool (!w))::e) s,nm⟩ (fun x=>⟨.r all ((o::rest).drop len) k ((t',.bool x)::E) s,nm⟩)
         | none=>.st ⟨.r all (o::rest) k e s,nm⟩
        | _,_=>match pV all e o.guard with
         | some false=>nx F es bs sf un ic bo cf fm f (.r all rest k ((t,.val Go.undef)::e) s) nm
         | _=>.st ⟨.r all (o::rest) k e s,nm⟩)else .st ⟨.r all (o::rest) k e s,nm⟩
 | fm,f+1,.x ax k e s,nm=>match k with
  | []=>match fm,ax with
   | .body rs,.ret=>match UQ F e s nm rs with
    | some (A,B,ps)=>.ret A B (ji (ps.map PV.weak)) s
    | none=>.st ⟨.x .ret [] e s,nm⟩
   | .body rs,.normal=>match UQ F e s nm rs with
    | some (A,B,ps)=>.ret A B (ji (ps.map PV.weak)) s
    | none=>.st ⟨.x .normal [] e s,nm⟩
   | .body _,.panic p=>.pan p s
   | _,ax=>.st ⟨.x ax [] e s,nm⟩
  | .sq d::k=>match ax with
   | .normal=>nx F es bs sf un ic bo cf fm f (.w d k e s) nm
   | ax=>nx F es bs sf un ic bo cf fm f (.x ax k e s) nm
  | .bl id::k=>match ax with
   | .exit i=>bif Nat.beq i id then nx F es bs sf un ic bo cf fm f (.x .normal k e s) nm else nx F es bs sf un ic bo cf fm f (.x (.exit i) k e s) nm
   | ax=>nx F es bs sf un ic bo cf fm f (.x ax k e s) nm
  | .lp R::k=>match ax with
   | .normal=>.again R e s
   | ax=>nx F es bs sf un ic bo cf fm f (.x ax k e s) nm
 | fm,f+1,.v all l kt e s,nm=>match l with
  | []=>match kt with
   | .ar k rest=>nx F es bs sf un ic bo cf fm f (.r all rest k e s) nm
   | .g1 k l2 l3 rest i=>match s[i]? with
    | some r=>nx F es bs sf un ic bo cf fm f (.v all l2 (.g2 k l3 rest s i r) e (s.eraseIdx i)) (toE (s.length-1-i) nm)
    | none=>.st ⟨.v all [] (.g1 k l2 l3 rest i) e s,nm⟩
   | .g2 k l3 rest s0 i r=>nx F es bs sf un ic bo cf fm f (.t all l3 k rest s0 i e [r]) (toT nm)
   | .yH=>match fm with
    | .yH t ks _ _ _=>match settle (t::ks) e with
     | some ((t',.bool v)::e')=>bif Nat.beq t' t then .MO v e' s []else .st ⟨.v all [] .yH e s,nm⟩
     | _=>.st ⟨.v all [] .yH e s,nm⟩
    | _=>.st ⟨.v all [] .yH e s,nm⟩
  | o::rest=>match o.dst with
   | none=>.st ⟨.v all (o::rest) kt e s,nm⟩
   | some t=>bif Nat.blt t cf.n then (bif knows fm.kn all o.guard then (match pV all e o.guard with
     | some true=>match ldN F s nm e.ev o.op with
      | some (b,b',p)=>.same b b' ⟨.v all rest kt ((t,p)::e) s,nm⟩
      | none=>bif u8N e.ev o.op then opN F es bs un e.ev (fun p=>⟨.v all rest kt ((t,p)::e) s,nm⟩) (fun _=>⟨.v all (o::rest) kt e s,nm⟩) ⟨.v all (o::rest) kt e s,nm⟩ o.op
        else match opX F s e.ev [] [] [] o.op with
        | some (p,_,_,_)=>(match aj1 nm o.op with
         | some i=>nx F es bs sf un ic bo cf fm f (.v all rest kt ((t,p)::e) s) ((t,i)::nm)
         | none=>nx F es bs sf un ic bo cf fm f (.v all rest kt ((t,p)::e) s) nm)
        | none=>match aeK F sf ic bo e.ev o.op with
         | some p=>nx F es bs sf un ic bo cf fm f (.v all rest kt ((t,p)::e) s) nm
         | none=>opN F es bs un e.ev (fun p=>⟨.v all rest kt ((t,p)::e) s,nm⟩) (fun _=>⟨.v all (o::rest) kt e s,nm⟩) ⟨.v all (o::rest) kt e s,nm⟩ o.op
     | some false=>nx F es bs sf un ic bo cf fm f (.v all rest kt ((t,.val Go.undef)::e) s) nm
     | none=>.st ⟨.v all (o::rest) kt e s,nm⟩)
    else match o.guard with
     | none=>.st ⟨.v all (o::rest) kt e s,nm⟩
     | some (j,w)=>match all[j]? with
      | none=>.st ⟨.v all (o::rest) kt e s,nm⟩
      | some oj=>match oj.dst with
       | none=>.st ⟨.v all (o::rest) kt e s,nm⟩
       | some g=>match e.get g,Vn g (o::rest)with
        | .bool b,some (len,t')=>match settle (Dj e [g]) e with
         | some E=>.join b w t' E s (Dj e [g]) (g::fm.kn) ⟨.v all ((o::rest).take len) .yH ((g,.bool w)::e) s,nm⟩ ⟨.v all ((o::rest).take len) .yH ((g,.bool (!w))::e) s,nm⟩ (fun x=>⟨.v all ((o::rest).drop len) kt ((t',.bool x)::E) s,nm⟩)
         | none=>.st ⟨.v all (o::rest) kt e s,nm⟩
        | _,_=>match pV all e o.guard with
         | some false=>nx F es bs sf un ic bo cf fm f (.v all rest kt ((t,.val Go.undef)::e) s) nm
         | _=>.st ⟨.v all (o::rest) kt e s,nm⟩)else .st ⟨.v all (o::rest) kt e s,nm⟩
 | fm,f+1,.t all l k rest s0 i e s,nm=>match l with
  | []=>match s with
   | [r]=>nx F es bs sf un ic bo cf fm f (.r all rest k e (s0.set i r)) (frT (s0.length-1-i) nm)
   | _=>.st ⟨.t all [] k rest s0 i e s,nm⟩
  | o::l'=>match o.guard with
   | some _=>.st ⟨.t all (o::l') k rest s0 i e s,nm⟩
   | none=>bif (match o.dst with|some t=>Nat.blt t cf.n|none=>true)then (match ldN F s nm e.ev o.op with
    | some (b,b',p)=>.same b b' ⟨.t all l' k rest s0 i (EP o.dst p e) s,nm⟩
    | none=>match efN F es sf s nm e.ev o.dst (fun p s' nm'=>⟨.t all l' k rest s0 i (EP o.dst p e) s',nm'⟩) (fun p s'=>⟨.x (.panic p) k [] (s0.eraseIdx i++s'),nm⟩) o.op with
     | some nd=>nd
     | none=>match opX F s e.ev [] [] [] o.op with
      | some (p,_,_,_)=>(match aj1 nm o.op,o.dst with
       | some j,some t=>nx F es bs sf un ic bo cf fm f (.t all l' k rest s0 i (EP o.dst p e) s) ((t,j)::nm)
       | _,_=>nx F es bs sf un ic bo cf fm f (.t all l' k rest s0 i (EP o.dst p e) s) nm)
      | none=>match aeK F sf ic bo e.ev o.op with
       | some p=>nx F es bs sf un ic bo cf fm f (.t all l' k rest s0 i (EP o.dst p e) s) nm
       | none=>opN F es bs un e.ev (fun p=>⟨.t all l' k rest s0 i (EP o.dst p e) s,nm⟩) (fun p=>⟨.x (.panic p) k [] (s0.eraseIdx i++s),nm⟩) ⟨.t all (o::l') k rest s0 i e s,nm⟩ o.op)else .st ⟨.t all (o::l') k rest s0 i e s,nm⟩
section
variable {P : Program} {cf : Cf}
theorem AR.alU{n:Nat}{all:Array Oper}{l:List Oper}{e:Env}{σ τ:List aS}{ds:List Deferred}{Q:Post}(hp:τ.Perm σ)(h:AR P n all l e σ ds Q):AR P n all l e τ ds Q:=
 fun w m a QC hs ha=>h w m a QC ⟨hs.size,hs.ds,hs.env,hs.gY.perm hp⟩ (ha.step ((Trans.refl w m τ).perm (.refl _) hp))
theorem UF{n:Nat}{Q:Post}{σ1:List aS}{K:Env→List aS→Prop}{o:Oper}{r:List Oper}{e:Env}{σ2:List aS}(hg:o.guard=none)(ht:(match o.dst with|some t=>Nat.blt t n|none=>true)=true)
  (h:AO P o e.ev σ2 (fun p s=>TF P n [] Q σ1 r (EP o.dst p e) s K) (fun p s=>Q (.panic p) [] (σ1++s) [])):TF P n [] Q σ1 (o::r) e σ2 K:=by
 refine⟨hg,fun t hd=>?_,e,Less.refl e,h⟩;rw[hd]at ht;exact abq ht
theorem Yd{n:Nat}{all:Array Oper}{rest:List Oper}{o:Oper}{t:Nat}{e:Env}{σ:List aS}{Q:Post}(hd:o.dst=some t)(ht:Nat.blt t n=true)(hg:pV all e o.guard=some false)(h:AR P n all rest ((t,.val Go.undef)::e) σ [] Q):AR P n all (o::rest) e σ [] Q:=by
 cases hgo:o.guard with
 | none=>rw[hgo]at hg;cases hg
 | some jw=>
  obtain⟨j,want⟩:=jw;rw[hgo]at hg;obtain⟨oj,u,h1,h2,h3⟩:=kF hg;rcases h3 with⟨h3,_⟩|⟨_,h3|h3⟩
  ·cases h3
  ·exact AR.skip hgo h1 h2 h3 hd ht rfl h
  ·exact AR.Tn hgo h1 h2 h3 hd ht h
theorem XO{n:Nat}{all:Array Oper}{rest:List Oper}{o:Oper}{t:Nat}{e:Env}{σ:List aS}{K:Env→Prop}(hd:o.dst=some t)(ht:Nat.blt t n=true)(hg:pV all e o.guard=some false)(h:Ev P n all σ ((t,.val Go.undef)::e) rest K):Ev P n all σ e (o::rest) K:=by
 cases hgo:o.guard with
 | none=>rw[hgo]at hg;cases hg
 | some jw=>
  obtain⟨j,want⟩:=jw;rw[hgo]at hg;obtain⟨oj,u,h1,h2,h3⟩:=kF hg;rcases h3 with⟨h3,_⟩|⟨_,h3|h3⟩
  ·cases h3
  ·exact Ev.skip hgo h1 h2 h3 hd ht rfl h
  ·exact Ev.Tn hgo h1 h2 h3 hd ht h
theorem TF.NQ{n:Nat}{ds:List Deferred}{Q:Post}{σ1:List aS}{K K':Env→List aS→Prop}(hK:∀e s,K e s→K' e s):∀ {l:List Oper} {e:Env} {σ2:List aS},TF P n ds Q σ1 l e σ2 K→TF P n ds Q σ1 l e σ2 K'
 | [],_,_,h=>hK _ _ h
 | _::_,_,_,⟨h1,h2,e2,h3,h4⟩=>⟨h1,h2,e2,h3,AO.MC h4 (fun _ _ h=>TF.NQ hK h) fun _ _ h=>h⟩
theorem fH[K:FA P]:∀(f:Nat) (fm:Fm) (st:S2) (nm:Nm) (Q:Post) (Fin:dO→List aS→Prop) (Gn:Bool→Env→List aS→Prop),fm.fits K.F Q Fin Gn→(nx K.F K.es K.bs K.sf K.un K.ic K.bo cf fm f st nm).ok P cf.n Q Fin Gn→st.ok P cf.n Q
 | 0,fm,st,nm,Q,Fin,Gn,_,h=>h
 | f+1,fm,.w c k e s,nm,Q,Fin,Gn,hm,h=>by
  cases c with
  | seq c d=>exact AW.seq (fH f _ _ _ Q Fin Gn hm h)
  | block id c=>exact AW.block (fH f _ _ _ Q Fin Gn hm h)
  | region id all g=>
   cases g with
   | false=>
    have ih:=fH f _ _ _ Q Fin Gn hm h;have:AW P cf.n (.region id all.toList.toArray false) e s [] (den P cf.n k Q):=AW.region (by simpa only[S2.ok,aml]using ih);simpa only[S2.ok,aml]using this
   | true=>
    have dr:∀kk,(Nd.ord all.toList kk (nx K.F K.es K.bs K.sf K.un K.ic K.bo cf fm f (.v all (all.toList.take kk) (.ar k (all.toList.drop kk)) e s) nm)).ok P cf.n Q Fin Gn→AW P cf.n (.region id all true) e s [] (den P cf.n k Q):=fun kk h=>by
     obtain⟨ho,h⟩:=h;simp only[ahK]at ho;have ih:=fH f _ _ _ Q Fin Gn hm h;have:AW P cf.n (.region id all.toList.toArray true) e s [] (den P cf.n k Q):=AW.draw kk K.mix ho.1 ho.2 (by rw[aml];exact ih);simpa only[aml]using this
    simp only[nx]at h;split at h
    ·rename_i k0 k1 k2 j _;obtain⟨ho,h⟩:=h;simp only[gOk,ahK]at ho;obtain⟨⟨⟨⟨⟨⟨b1,b2⟩,b3⟩,b4⟩,b5⟩,b6⟩,b7⟩:=ho;have ih:=fH f _ _ _ Q Fin Gn hm h;generalize s.length-1-j=i at ih b7;obtain⟨r,hr⟩:=Option.isSome_iff_exists.1 b7
     ·have:AW P cf.n (.region id all.toList.toArray true) e s [] (den P cf.n k Q):=by
       refine AW.ai0 k0 k1 k2 i K.mix b1 b2 b3 b4 b5 b6 hr ?_;rw[aml];refine Ev.NQ (fun e1 he1=>?_) ih;obtain⟨r',hr',he1⟩:=he1;obtain rfl:r=r':=am2 (hr.symm.trans hr');refine Ev.NQ (fun e2 he2=>?_) he1;refine TF.NQ (fun e3 s3 he3=>?_) he2;obtain⟨r3,rfl,he3⟩:=he3;refine AR.alU ?_ he3
       have hi':i<s.length:=by
        rcases zJ i s.length with h'|h'
        ·exact h'
        ·rw[CF h']at hr;cases hr
       have:=NM (σ:=s.set i r3) (i:=i) (r:=r3) (by simp[hi']);rw[List.eraseIdx_set_eq]at this;exact this.symm
      simpa only[S2.ok,aml]using this
    ·split at h
     ·exact dr _ h
     ·exact dr _ h
  | skip=>exact AW.skip (fH f _ _ _ Q Fin Gn hm h)
  | label l=>exact AW.label (fH f _ _ _ Q Fin Gn hm h)
  | exit id=>exact AW.exit (fH f _ _ _ Q Fin Gn hm h)
  | ret=>exact AW.ret (fH f _ _ _ Q Fin Gn hm h)
  | loop c=>exact h
  | cond c a b=>
   simp only[nx]at h;split at h
   ·rename_i v hc;exact AW.cond hc (fun hv=>h.1 hv) (fun hv=>h.2 hv)
   ·exact h
  | _=>exact h
 | f+1,fm,.r all l k e s,nm,Q,Fin,Gn,hm,h=>by
  cases l with
  | nil=>
   simp only[nx]at h;split at h
   ·rename_i t ks E S kn;split at h
    ·rename_i t' v e' hs;cases ht:Nat.beq t' t with
     | false=>rw[ht]at h;exact h
     | true=>
      rw[ht]at h;have:=Aq ht;subst this;exact AR.nil (t'::ks) hs (hm _ _ _ h.2)
    ·exact h
   ·exact AR.nil' (fH f _ _ _ Q Fin Gn hm h)
  | cons o rest=>
   simp only[nx]at h;cases hd:o.dst with
   | none=>
    rw[hd]at h;simp only at h;cases hgo:o.guard with
    | some x=>rw[hgo]at h;exact h
    | none=>
     rw[hgo]at h;simp only at h;split at h
     ·rename_i nd hnd;exact AR.bO hgo hd (AO.MC (MS hnd h o rfl) (fun p s' ⟨_,hk⟩=>hk) (fun p s' hk=>hk))
     ·exact h
   | some t=>
    rw[hd]at h;simp only at h;cases ht:Nat.blt t cf.n with
    | false=>rw[ht]at h;exact h
    | true=>
     rw[ht]at h;simp only[ajC]at h;cases hkn:knows fm.kn all o.guard with
     | true=>
      rw[hkn]at h;simp only[ajC]at h;split at h
      ·rename_i hg;have Xh:∀ {p:PV},(AR P cf.n all rest ((t,p)::e) s [] (den P cf.n k Q))→(∀o':Oper,o'.op=o.op→∀ {R S:PV→List aS→Prop},R p s→AO P o' e.ev s R S)→AR P cf.n all (o::rest) e s [] (den P cf.n k Q):=fun h1 h2=>stepG hd ht hg fun o' ho=>h2 o' ho h1
       have opn:(opN K.F K.es K.bs K.un e.ev (fun p=>⟨.r all rest k ((t,p)::e) s,nm⟩) (fun p=>⟨.x (.panic p) k e s,nm⟩) ⟨.r all (o::rest) k e s,nm⟩ o.op).ok P cf.n Q Fin Gn→AR P cf.n all (o::rest) e s [] (den P cf.n k Q):=fun h=>by
        rcases Mt (σ:=s) h with h1|⟨p,hp,h1⟩|⟨p,hp,h1⟩
        ·exact h1
        ·exact Xh hp h1
        ·exact stepG hd ht hg fun o' ho=>h1 o' ho hp
       split at h
       ·rename_i b b' p hld;obtain⟨rfl,h⟩:=h;exact Xh h fun o' ho {R S} hR=>MF K.ok hld ho hR
       ·split at h
        ·rename_i nd hnd;exact stepG hd ht hg fun o' ho=>AO.MC (MS hnd h o' ho) (fun p s' ⟨_,hk⟩=>hk) (fun p s' hk=>hk)
        ·cases hu:u8N e.ev o.op with
         | true=>
          rw[hu]at h;exact opn h
         | false=>
          rw[hu]at h;simp only[akP]at h;split at h
          ·rename_i p ix A B hp;have hab:=U_ hp;split at h
           ·exact Xh (fH f _ _ _ Q Fin Gn hm h) fun o' ho {R S} hR=>(wW (o:=o') K.ok (by rw[ho];exact hp)).2 hab hR
           ·exact Xh (fH f _ _ _ Q Fin Gn hm h) fun o' ho {R S} hR=>(wW (o:=o') K.ok (by rw[ho];exact hp)).2 hab hR
          ·split at h
           ·rename_i p hp;exact Xh (fH f _ _ _ Q Fin Gn hm h) fun o' ho {R S} hR=>JX K.ok hp ho hR
           ·exact opn h
      ·rename_i hg;exact Yd hd ht hg (fH f _ _ _ Q Fin Gn hm h)
      ·exact h
     | false=>
      rw[hkn]at h;simp only[akP]at h;split at h
      ·exact h
      ·rename_i j w hgo;split at h
       ·exact h
       ·split at h
        ·exact h
        ·rename_i g hgd;split at h
         ·rename_i b len t' hb hlen;split at h
          ·rename_i E hE
           have key:∀(v:Bool) (x:Bool) (e1:Env) (r1:List aS) (cs:List ((Env × List aS) × (Env × List aS))),nx K.F K.es K.bs K.sf K.un K.ic K.bo cf (.yH t' (Dj e [g]) E s (g::fm.kn)) f (.r all ((o::rest).take len) [] ((g,.bool v)::e) s) nm=.MO x e1 r1 cs→(∀c∈cs,c.1=c.2)→(e1,r1)=(E,s)→S2.ok P cf.n (Jl t' E s x) (.r all ((o::rest).take len) [] ((g,.bool v)::e) s):=by
            intro v x e1 r1 cs hn hc he;exact fH f (.yH t' (Dj e [g]) E s (g::fm.kn)) _ nm _ (fun _ _=>False) (fun v e' s'=>v=x∧e'=E∧s'=s) (by intro v e' s' hv;obtain⟨rfl,rfl,rfl⟩:=hv;exact⟨rfl,rfl,rfl,rfl⟩) (by rw[hn];exact⟨hc,rfl,(Prod.mk.inj he).1,(Prod.mk.inj he).2⟩)
           split at h
           ·rename_i x e1 r1 c1 e2 r2 c2 hn1 hn2;obtain⟨hc,h⟩:=Nd.V8 h;have ih:=fH f _ _ _ Q Fin Gn hm h;refine AR.join len g t' true (Dj e [g]) (x:=x) (y:=false) hb hE (fun hbw=>AR.is g hbw hb (key _ _ _ _ _ hn1 (fun c hm=>hc c (by simp[hm])) (hc ((e1,r1),(E,s)) (by simp)))) (fun hbw=>AR.is g hbw hb (key _ _ _ _ _ hn2 (fun c hm=>hc c (by simp[hm])) (hc ((e2,r2),(E,s)) (by simp)))) ?_;have:(bif b==true then x else false)=(b&&x):=by cases b<;>rfl
            rw[this];exact ih
           ·rename_i x e1 r1 c1 e2 r2 c2 hn1 hn2;obtain⟨hc,h⟩:=Nd.V8 h;have ih:=fH f _ _ _ Q Fin Gn hm h;refine AR.join len g t' false (Dj e [g]) (x:=x) (y:=true) hb hE (fun hbw=>AR.is g hbw hb (key _ _ _ _ _ hn1 (fun c hm=>hc c (by simp[hm])) (hc ((e1,r1),(E,s)) (by simp)))) (fun hbw=>AR.is g hbw hb (key _ _ _ _ _ hn2 (fun c hm=>hc c (by simp[hm])) (hc ((e2,r2),(E,s)) (by simp)))) ?_;have:(bif b==false then x else true)=(b||x):=by cases b<;>rfl
            rw[this];exact ih
           ·obtain⟨x,h1,h2,h3⟩:=h;exact AR.Cm len g t' _ (Dj e [g]) x hb hE (fun hbw=>AR.is g hbw hb (h1 hbw)) (fun hbw=>AR.is g hbw hb (h2 hbw)) h3
          ·exact h
         ·split at h
          ·rename_i hg;rw[hgo]at hg;exact Yd hd ht (by rw[hgo];exact hg) (fH f _ _ _ Q Fin Gn hm h)
          ·exact h
 | f+1,fm,.x ax k e s,nm,Q,Fin,Gn,hm,h=>by
  cases k with
  | nil=>
   simp only[nx]at h;split at h
   ·split at h
    ·rename_i A B ps hps;obtain⟨rfl,h⟩:=h;exact(hm.1 _ _ _ _ _ hps h).1
    ·exact h
   ·split at h
    ·rename_i A B ps hps;obtain⟨rfl,h⟩:=h;exact(hm.1 _ _ _ _ _ hps h).2
    ·exact h
   ·exact hm.2 _ _ _ h
   ·exact h
  | cons fr k=>
   cases fr with
   | sq d=>cases ax<;>(simp only[nx]at h;have ih:=fH f _ _ _ Q Fin Gn hm h;exact ih)
   | bl id=>
    cases ax with
    | exit i=>
     simp only[nx]at h;simp only[S2.ok,den,AX.inBlock];cases eb:Nat.beq i id with
     | false=>rw[eb]at h;have ih:=fH f _ _ _ Q Fin Gn hm h;exact ih
     | true=>rw[eb]at h;have ih:=fH f _ _ _ Q Fin Gn hm h;exact ih
    | _=>simp only[nx]at h;have ih:=fH f _ _ _ Q Fin Gn hm h;exact ih
   | lp R=>
    cases ax with
    | normal=>exact h
    | _=>simp only[nx]at h;have ih:=fH f _ _ _ Q Fin Gn hm h;exact ih
 | f+1,fm,.v all l kt e s,nm,Q,Fin,Gn,hm,h=>by
  cases l with
  | nil=>
   simp only[nx]at h;split at h
   ·have ih:=fH f _ _ _ Q Fin Gn hm h;exact ih
   ·split at h
    ·rename_i r hr;have ih:=fH f _ _ _ Q Fin Gn hm h;exact⟨r,hr,ih⟩
    ·exact h
   ·have ih:=fH f _ _ _ Q Fin Gn hm h;exact ih
   ·split at h
    ·rename_i t ks E S kn;split at h
     ·rename_i t' v e' hs;cases ht:Nat.beq t' t with
      | false=>rw[ht]at h;exact h
      | true=>
       rw[ht]at h;have:=Aq ht;subst this;have:∃e',Less e' e∧Q .normal e' s []:=⟨_,Less.settle hs,hm _ _ _ h.2⟩;exact this
     ·exact h
    ·exact h
  | cons o rest=>
   simp only[nx]at h;cases hd:o.dst with
   | none=>rw[hd]at h;exact h
   | some t=>
    rw[hd]at h;simp only at h;cases ht:Nat.blt t cf.n with
    | false=>rw[ht]at h;exact h
    | true=>
     rw[ht]at h;simp only[ajC]at h;cases hkn:knows fm.kn all o.guard with
     | true=>
      rw[hkn]at h;simp only[ajC]at h;split at h
      ·rename_i hg;have Xh:∀ {p:PV},(S2.v all rest kt ((t,p)::e) s).ok P cf.n Q→(∀o':Oper,o'.op=o.op→∀ {R S:PV→List aS→Prop},R p s→AO P o' e.ev s R S)→(S2.v all (o::rest) kt e s).ok P cf.n Q:=fun h1 h2=>alo hd ht hg (fun o' ho=>h2 o' ho ⟨rfl,rfl⟩) h1
       have opn:(opN K.F K.es K.bs K.un e.ev (fun p=>⟨.v all rest kt ((t,p)::e) s,nm⟩) (fun _=>⟨.v all (o::rest) kt e s,nm⟩) ⟨.v all (o::rest) kt e s,nm⟩ o.op).ok P cf.n Q Fin Gn→(S2.v all (o::rest) kt e s).ok P cf.n Q:=fun h=>by
        rcases Mt (σ:=s) h with h1|⟨p,hp,h1⟩|⟨p,hp,h1⟩
        ·exact h1
        ·exact Xh hp h1
        ·exact hp
       split at h
       ·rename_i b b' p hld;obtain⟨rfl,h⟩:=h;exact Xh h fun o' ho {R S} hR=>MF K.ok hld ho hR
       ·cases hu:u8N e.ev o.op with
        | true=>
         rw[hu]at h;exact opn h
        | false=>
         rw[hu]at h;simp only[akP]at h;split at h
         ·rename_i p ix A B hp;have hab:=U_ hp;split at h
          ·exact Xh (fH f _ _ _ Q Fin Gn hm h) fun o' ho {R S} hR=>(wW (o:=o') K.ok (by rw[ho];exact hp)).2 hab hR
          ·exact Xh (fH f _ _ _ Q Fin Gn hm h) fun o' ho {R S} hR=>(wW (o:=o') K.ok (by rw[ho];exact hp)).2 hab hR
         ·split at h
          ·rename_i p hp;exact Xh (fH f _ _ _ Q Fin Gn hm h) fun o' ho {R S} hR=>JX K.ok hp ho hR
          ·exact opn h
      ·rename_i hg;exact XO hd ht hg (fH f _ (.v all rest kt _ s) _ Q Fin Gn hm h)
      ·exact h
     | false=>
      rw[hkn]at h;simp only[akP]at h;split at h
      ·exact h
      ·rename_i j w hgo;split at h
       ·exact h
       ·split at h
        ·exact h
        ·rename_i g hgd;split at h
         ·rename_i b len t' hb hlen;split at h
          ·rename_i E hE;obtain⟨x,h1,h2,h3⟩:=h
           have cv:∀ {u:Bool},(S2.v all ((o::rest).take len) .yH ((g,.bool u)::e) s).ok P cf.n (Jl t' E s x)→Ev P cf.n all s ((g,.bool u)::e) ((o::rest).take len) (fun e=>Less ((t',.bool x)::E) e):=by
            intro u hh;refine Ev.NQ (fun e' he=>?_) hh;obtain⟨e2,hl,_,he2,_⟩:=he;rw[he2]at hl;exact hl
           exact Ev.Cm KT.less len g t' _ (Dj e [g]) (.bool x) hb hE (fun hbw=>Ev.is hKL g hbw hb (cv (h1 hbw))) (fun hbw=>Ev.is hKL g hbw hb (cv (h2 hbw))) h3
          ·exact h
         ·split at h
          ·rename_i hg;rw[hgo]at hg;exact XO hd ht (by rw[hgo];exact hg) (fH f _ (.v all rest kt _ s) _ Q Fin Gn hm h)
          ·exact h
 | f+1,fm,.t all l k rest s0 i e s,nm,Q,Fin,Gn,hm,h=>by
  cases l with
  | nil=>
   simp only[nx]at h;split at h
   ·rename_i r;exact⟨r,rfl,fH f _ _ _ Q Fin Gn hm h⟩
   ·exact h
  | cons o l'=>
   simp only[nx]at h;cases hgo:o.guard with
   | some x=>rw[hgo]at h;exact h
   | none=>
    rw[hgo]at h;simp only at h;cases ht:(match o.dst with|some t=>Nat.blt t cf.n|none=>true)with
    | false=>rw[ht]at h;exact h
    | true=>
     rw[ht]at h;simp only[ajC]at h;have Xh:∀ {p:PV},(S2.t all l' k rest s0 i (EP o.dst p e) s).ok P cf.n Q→(∀o':Oper,o'.op=o.op→∀ {R S:PV→List aS→Prop},R p s→AO P o' e.ev s R S)→(S2.t all (o::l') k rest s0 i e s).ok P cf.n Q:=fun h1 h2=>UF hgo ht (h2 o rfl h1);split at h
     ·rename_i b b' p hld;obtain⟨rfl,h⟩:=h;exact Xh h fun o' ho {R S} hR=>MF K.ok hld ho hR
     ·split at h
      ·rename_i nd hnd;exact UF hgo ht (AO.MC (MS hnd h o rfl) (fun p s' ⟨_,hk⟩=>hk) (fun p s' hk=>hk))
      ·split at h
       ·rename_i p ix A B hp;have hab:=U_ hp;split at h
        ·exact Xh (fH f _ (.t all l' k rest s0 i _ s) _ Q Fin Gn hm h) fun o' ho {R S} hR=>(wW (o:=o') K.ok (by rw[ho];exact hp)).2 hab hR
        ·exact Xh (fH f _ (.t all l' k rest s0 i _ s) _ Q Fin Gn hm h) fun o' ho {R S} hR=>(wW (o:=o') K.ok (by rw[ho];exact hp)).2 hab hR
       ·split at h
        ·rename_i p hp;exact Xh (fH f _ (.t all l' k rest s0 i _ s) _ Q Fin Gn hm h) fun o' ho {R S} hR=>JX K.ok hp ho hR
        ·rcases Mt (σ:=s) h with h1|⟨p,hp,h1⟩|⟨p,hp,h1⟩
         ·exact h1
         ·exact Xh hp h1
         ·exact UF hgo ht (h1 o rfl hp)
end
end Go.Abs
namespace Go.Abs
variable [gD]
open Go Go.Ft
def wkE(ap:List Nat)(e:Env):Env:=e.map fun x=>(x.1,bif rT ap x.1 then x.2 else x.2.weak)
def wkC(ks:List Nat):Nat→List PV→List PV
 | _,[]=>[]
 | i,c::cs=>(bif rT ks i then c else c.wN)::wkC ks (i+1) cs
def wkR(ks:List Nat):aS→aS
 | .box b cs=>.box b (wkC ks 0 cs)
 | r=>r
def O6(kb:List (Nat × List Nat)):List aS→List aS
 | []=>[]
 | r::s=>wkR ((sj kb s.length).getD []) r::O6 kb s
def J5(k:Nat)(s:List aS):List aS:=s.drop (s.length-k)
def Sr:List (Nat × Nat × Nat)→List aS→List aS
 | [],s=>s
 | (_,sz,e)::r,s=>Sr r (.row (.slice none 0 0) 0 sz e::s)
def nmR:List (Nat × Nat × Nat)→Nat→Nm→Nm
 | [],_,nm=>nm
 | (t,_,_)::r,k,nm=>nmR r (k+1) ((t,k)::nm)
section
variable {P : Program} {n : Nat} {env : Env} {σ : List aS} {ds : List Deferred} {Q : Post}
theorem aaU(ap:List Nat):∀(e:Env) (t:Nat),(wkE ap e).get t=e.get t∨(wkE ap e).get t=(e.get t).weak
 | [],t=>.inl rfl
 | (u,p)::e,t=>by
  simp only[wkE,agf,Env.get];cases Nat.beq u t with
  | true=>cases rT ap u<;>simp
  | false=>exact aaU ap e t
theorem aX.wkC{w:World}{m:jd}(ks:List Nat):∀ {cs:List PV} {vs:List Value} (i:Nat),aX w m cs vs→aX w m (wkC ks i cs) vs
 | [],_,_,h=>h
 | c::cs,_,i,h=>by
  simp only[aX]at h;obtain⟨v,vs',rfl,h1,h2⟩:=h;refine aX.cons ?_ (aX.wkC ks (i+1) h2);cases rT ks i
  ·exact h1.wN
  ·exact h1
theorem aaK{kb:List (Nat × List Nat)}{r:aS}:∀ {s:List aS},r∈O6 kb s→∃r0∈s,∃ks,r=wkR ks r0
 | [],h=>by cases h
 | r1::s,h=>by
  rcases agh.1 h with rfl|h
  ·exact⟨r1,ale,_,rfl⟩
  ·obtain⟨r0,h1,h2⟩:=aaK h;exact⟨r0,akL _ h1,h2⟩
theorem akk(ks:List Nat)(r:aS):(wkR ks r).fp=r.fp:=by cases r<;>rfl
theorem Vt(kb:List (Nat × List Nat)):∀s:List aS,j_ (O6 kb s)=j_ s
 | []=>rfl
 | r::s=>by
  have:=Vt kb s;simp only[j_,O6,ac3]at this⊢;rw[this,akk]
theorem Conc.O6{w:World}{m:jd}{s:List aS}(kb:List (Nat × List Nat))(h:Conc w m s):Conc w m (O6 kb s)∧Trans w m s w m (O6 kb s):=by
 refine⟨⟨fun r hr=>?_,by rw[Vt];exact h.apart,h.wf,h.qY⟩,⟨rfl,rfl,rfl,abr _,Le.refl _ _,fun _ _ _=>⟨rfl,fun _ h=>h⟩,fun b hb=>.inl (by rw[Vt]at hb;exact hb),fun _=>abr _⟩⟩;obtain⟨r0,h0,ks,rfl⟩:=aaK hr;have:=h.each r0 h0;cases r0 with
 | box b cs=>obtain⟨vs,ty,h1,h2,h3⟩:=this;exact⟨vs,ty,h1,h2.wkC ks 0,h3⟩
 | _=>exact this
def Wk(e:Env)(s:List aS)(e':Env)(s':List aS):Prop:=∀w m n ds a,om w m n e s ds a→om w m n e' s' ds a∧Trans w m s w m s'
theorem Wk.less{e e' e2:Env}{s s':List aS}(h:Wk e s e' s')(hl:Less e2 e'):Wk e s e2 s':=fun w m n ds a hs=>⟨om.less hl (h w m n ds a hs).1,(h w m n ds a hs).2⟩
theorem Wk.sub{e e':Env}{s s' s2:List aS}(h:Wk e s e' s')(hl:s2.Sublist s'):Wk e s e' s2:=fun w m n ds a hs=>let⟨g,t⟩:=h w m n ds a hs;⟨⟨g.size,g.ds,g.env,g.gY.sub hl⟩,t.sub hl⟩
theorem Wk.wk(ap:List Nat)(kb:List (Nat × List Nat))(e:Env)(s:List aS):Wk e s (wkE ap e) (O6 kb s):=fun w m n ds a hs=>
 ⟨⟨hs.size,hs.ds,fun t=>by
  rcases aaU ap e t with h|h
  ·rw[h];exact hs.env t
  ·rw[h];exact(hs.env t).weak,(hs.gY.O6 kb).1⟩,(hs.gY.O6 kb).2⟩
theorem Wk.refl(e:Env)(s:List aS):Wk e s e s:=fun _ _ _ _ _ hs=>⟨hs,Trans.refl ..⟩
theorem aaf(kb:List (Nat × List Nat)):∀(s:List aS) (k:Nat),O6 kb (s.drop k)=(O6 kb s).drop k
 | [],k=>by simp[O6]
 | r::s,0=>rfl
 | r::s,k+1=>by simp only[List.drop_succ_cons,O6];exact aaf kb s k
theorem AW.wk{c:Code}{e:Env}{s:List aS}(hw:Wk env σ e s)(h:AW P n c e s ds Q):AW P n c env σ ds Q:=
 fun w m a QC hs ha=>let⟨g,t⟩:=hw w m n ds a hs;h w m a QC g (ha.step t)
theorem AW.alv{c:Code}{Q':Post}(h:AW P n c env σ ds Q')(hq:∀x e s d,Q' x e s d→∃e' s',Wk e s e' s'∧Q x e' s' d):AW P n c env σ ds Q:=
 fun w m a QC hs ha=>h w m a QC hs fun x ex e1 s1 d1 a1 w1 m1 h1 hx hs1 ht=>let⟨e',s',hl,hq'⟩:=hq _ _ _ _ h1;let⟨g,t⟩:=hl _ _ _ _ _ hs1;ha x ex e' s' d1 a1 w1 m1 hq' hx g (ht.trans t)
theorem AW.Sr{c:Code}:∀(l:List (Nat × Nat × Nat)) {σ:List aS},AW P n c env (Sr l σ) ds Q→AW P n c env σ ds Q
 | [],_,h=>h
 | (_,sz,e)::r,_,h=>AW.row sz e (AW.Sr r h)
theorem al6{α:Type}{c:Code}{k:List Fr}(E:Value→Value→α→Env)(T:Value→Value→α→List aS)(ap:List Nat)(kb:List (Nat × List Nat))(I:Nat→α→Prop)(k0:Nat)(x0:α)(v w:Value)(h0:settle (keysOf (E v w x0)) (wkE ap env)=some (E v w x0))(h1:O6 kb σ=T v w x0)(h2:I k0 x0)(z:∀x,I 0 x→False)
  (round:∀j v w x,I (j+1) x→AW P n c (E v w x) (T v w x) ds (den P n (.lp (fun e s d=>∃v w y,settle (keysOf (E v w y)) (wkE ap e)=some (E v w y)∧O6 kb (J5 (T v w y).length s)=T v w y∧d=ds∧I j y)::k) Q)):AW P n (.loop c) env σ ds (den P n k Q):=by
 refine AW.wk (Wk.less (Wk.wk ap kb env σ) (Less.settle h0)) ?_;rw[h1];refine AW.loop (α:=Nat × Value × Value × α) (fun q=>E q.2.1 q.2.2.1 q.2.2.2) (fun q=>T q.2.1 q.2.2.1 q.2.2.2) (fun q=>I q.1 q.2.2.2) (fun q=>q.1) (k0,v,w,x0) rfl rfl h2 ?_;rintro⟨j,v,w,q⟩ hI;cases j with
 | zero=>exact(z _ hI).elim
 | succ j=>
  refine AW.alv (Iu (round j v w q hI) fun e s d h=>h) ?_;intro ax e s d h;cases ax with
  | normal=>
   obtain⟨v',w',y,h3,h4,h5,h6⟩:=h;exact⟨_,_,Wk.less ((Wk.wk ap kb e s).sub (by unfold J5;rw[aaf];exact List.drop_sublist _ _)) (Less.settle h3),(j,v',w',y),rfl,h4,h5,h6,Nat.lt_succ_self j⟩
  | exit id=>exact⟨e,s,Wk.refl e s,h⟩
  | ret=>exact⟨e,s,Wk.refl e s,h⟩
  | panic p=>exact⟨e,s,Wk.refl e s,h⟩
end
class CT(P:Program){R:Type}(x:Option R)(e:outParam (R→dO))(m:outParam Nat)(a:outParam (List PV)):Prop where
 pf:dA P m=true
 h:∀ {r:R},x=some r→∀ {τ:List aS} {Q:dO→List aS→Prop},Q (e r) τ→AC P m a τ Q
class CB(P:Program){R:Type}(x:Option R)(e:outParam (R→dO))(m:outParam Nat)(a:outParam (Nat→List PV))(c0:outParam (List PV))(c1:outParam (R→List PV)):Prop where
 pf:dA P m=true
 h:∀ {r:R},x=some r→∀(b:Nat) {Q:dO→List aS→Prop},Q (e r) [.box b (c1 r)]→AC P m (a b) [.box b c0] Q
class CF1(P:Program){A B:Type}(f:A→Option B)(ea:outParam (A→PV))(eb:outParam (B→dO))(F:outParam FuncId)(C:outParam (List PV)):Prop where
 ct:∀a,CT P (f a) eb F (ea a::C)
class CF2(P:Program){A B D:Type}(f:A→B→Option D)(ea:outParam (A→PV))(eb:outParam (B→PV))(ed:outParam (D→dO))(F:outParam FuncId)(C:outParam (List PV)):Prop where
 ct:∀a b,CT P (f a b) ed F (ea a::eb b::C)
instance {P :Program} {A B:Type} {f:A→Option B} {ea:A→PV} {eb:B→dO} {F:FuncId} {C:List PV} [I:CF1 P f ea eb F C] (a:A):CT P (f a) eb F (ea a::C):=I.ct a
instance {P :Program} {A B D:Type} {f:A→B→Option D} {ea:A→PV} {eb:B→PV} {ed:D→dO} {F:FuncId} {C:List PV} [I:CF2 P f ea eb ed F C] (a:A) (b:B):CT P (f a b) ed F (ea a::eb b::C):=I.ct a b
class ML{α:outParam Type}(L:List (List PV))(l:outParam (List α))(f:outParam (α→List PV)):Prop where
 h:L=l.map f
class CE{α:Type}(f:α→List PV)(g:outParam (α→List PV)):Prop where
 h:∀y,f y=g y
class SF{α:Type}(f:α→List PV)(sz:outParam Nat):Prop where
 len:∀y,(f y).length=sz
 one:∀y,(f y).all PV.one=true
class TC(α:Type)(f:outParam (α→List PV)):Prop where
 ok:True
def NX(P:Program)[K:FA P](cf:Cf)(fm:Fm)(s:Ms):Nd:=nx K.F K.es K.bs K.sf K.un K.ic K.bo cf fm 999 s.st s.nm
def yT(i:Nat)(cs:List PV)(s:List aS):List aS:=match s[i]? with
 | some (.box b _)=>s.set i (.box b cs)
 | _=>s
def putRow(i:Nat)(v:Value)(m:Nat)(s:List aS):List aS:=match s[i]? with
 | some (.row _ _ sz e)=>s.set i (.row v m sz e)
 | _=>s
class LE{R:Type}(x:Option R){α:outParam Type}(F:outParam (Nat→α→Option R))(N:outParam Nat)(x0:outParam α)(ap:outParam (List Nat))(kb:outParam (List (Nat × List Nat)))(rw:outParam (List (Nat × Nat × Nat)))(ks:outParam (List Nat))(U:outParam (Value→Value→α→Env))(V:outParam (Value→Value→α→List aS→List aS)):Prop where
 h:x=F N x0
def LR{R α:Type}(F:Nat→α→Option R)(E:Value→Value→α→Env)(T:Value→Value→α→List aS)(ap:List Nat)(kb:List (Nat × List Nat))(j:Nat)(r:R):Env→List aS→List Deferred→Prop:=fun e s d=>∃v w y,settle (keysOf (E v w y)) (wkE ap e)=some (E v w y)∧O6 kb (J5 (T v w y).length s)=T v w y∧d=[]∧F j y=some r
structure KR(b:Bool):Prop where
 h:b=true
structure KB(b v:Bool):Prop where
 h:b=v
def bE(v:Bool):dO:=.ret (.bool v)
def bS(_:Bool):List aS:=[]
section
variable {P : Program} {cf : Cf}
inductive WN (P:Program) [K:FA P] (cf:Cf):Fm→(R:Type)→(R→dO)→(R→List aS)→R→Nd→Option R→Prop
 | non {fm R e S r d}:WN P cf fm R e S r d none
 | go {fm R e S r s x}:WN P cf fm R e S r (NX P cf fm s) x→WN P cf fm R e S r (.go s) x
 | OV {fm R e S r cs d x}:cs.map Prod.fst=cs.map Prod.snd→WN P cf fm R e S r d x→WN P cf fm R e S r (.OV cs d) x
 | ord {fm R e S r L k d x}:KR (Iq L k&&Nat.ble k L.length)→WN P cf fm R e S r d x→WN P cf fm R e S r (.ord L k d) x
 | aem {fm R e S r b d x}:KR b→WN P cf fm R e S r d x→WN P cf fm R e S r (.aem b d) x
 | same {fm R e S r b s x}:WN P cf fm R e S r (NX P cf fm s) x→WN P cf fm R e S r (.same b b s) x
 | alloc {fm R e S r k x}:(∀b,WN P cf fm R e S r (NX P cf fm (k b)) x)→WN P cf fm R e S r (.alloc k) x
 | cond {fm R e S r b t f x y}:(b=true→WN P cf fm R e S r (NX P cf fm t) x)→(b=false→WN P cf fm R e S r (NX P cf fm f) y)→WN P cf fm R e S r (.cond b t f) (if b=true then x else y)
 | cK {fm R e S r b t f x} {v:Bool}:KB b v→WN P cf fm R e S r (NX P cf fm (bif v then t else f)) x→WN P cf fm R e S r (.cond b t f) x
 | opt {fm R e S r β x k g}:(∀y,WN P cf fm R e S r (NX P cf fm (k y)) (g y))→WN P cf fm R e S r (.opt β x k) (av x g)
 | anz {fm R e S r x k}:WN P cf fm R e S r (NX P cf fm (k r)) (some r)→WN P cf fm R e S r (.opt R x k) x
 | chb {fm R e S r b s g}:WN P cf fm R e S r (NX P cf fm s) (g ())→WN P cf fm R e S r (.chb b s) (av (Ft.OV b) g)
 | chK {fm R e S r b s x}:b=true→WN P cf fm R e S r (NX P cf fm s) x→WN P cf fm R e S r (.chb b s) x
 | len {fm R e S r α L k x} {l:List α} {f} [I:ML L l f]:WN P cf fm R e S r (NX P cf fm (k l.length)) x→WN P cf fm R e S r (.len L k) x
 | anD {fm R e S r L k x}:WN P cf fm R e S r (NX P cf fm (k L.length)) x→WN P cf fm R e S r (.len L k) x
 | aof {fm R e S r L k x} {l:List UInt8} [I:ML L l fF]:WN P cf fm R e S r (NX P cf fm (k l)) x→WN P cf fm R e S r (.byt L k) x
 | aog {fm R e S r L k x} {l:List UInt8}:WN P cf fm R e S r (NX P cf fm (k l)) x→L=l.map fF→WN P cf fm R e S r (.byt L k) x
 | Zo {fm R e S r sz α L i k h} {l:List α} {f g} [I:ML L l f] [J:CE f g]:(∀y,(g y).length=sz)→(∀y,WN P cf fm R e S r (NX P cf fm (k (g y))) (h y))→WN P cf fm R e S r (.Zo sz L i k) (av (idx l i) h)
 | amf {fm R e S r sz L i k} {l:List R} {f g} [I:ML L l f] [J:CE f g]:(∀y,(g y).length=sz)→WN P cf fm R e S r (NX P cf fm (k (g r))) (some r)→WN P cf fm R e S r (.Zo sz L i k) (idx l i)
 | anH {fm R e S r sz α L i k h} {l:List α} {f g} [I:TC α f] [J:CE f g]:L=l.map g→(∀y,(g y).length=sz)→(∀y,WN P cf fm R e S r (NX P cf fm (k (g y))) (h y))→WN P cf fm R e S r (.Zo sz L i k) (av (idx l i) h)
 | slL {fm R e S r sz α L a b k h} {l:List α} {f} [I:ML L l f] [J:SF f sz]:(∀y,WN P cf fm R e S r (NX P cf fm (k (y.map f))) (h y))→WN P cf fm R e S r (.slL sz L a (some b) k) (av (sl l a b) h)
 | slN {fm R e S r sz α L a k h} {l:List α} {f} [I:ML L l f] [J:SF f sz]:(∀y,WN P cf fm R e S r (NX P cf fm (k (y.map f))) (h y))→WN P cf fm R e S r (.slL sz L a none k) (av (sl l a (l.length:Nat)) h)
 | aoj {fm R e S r v m sz α L M k h} {l l2:List α} {f} [T:TC α f] [C:SF f sz] [I:ML M l2 f]:L=l.map f→m=L.length→(∀v2 y,WN P cf fm R e S r (NX P cf fm (k v2 (y.map f))) (h y))→WN P cf fm R e S r (.app v v m sz L M k) (av (Ft.app l l2) h)
 | app {fm R e S r v m sz α L M k h} {l l2:List α} {f g} [T:TC α f] [C:SF f sz] [J:CE f g]:L=l.map f→m=L.length→M=l2.map g→(∀v2 y,WN P cf fm R e S r (NX P cf fm (k v2 (y.map f))) (h y))→WN P cf fm R e S r (.app v v m sz L M k) (av (Ft.app l l2) h)
 | u8 {fm R e S r f p q k x} {a b:UInt8}:p=(a.toNat:Int)→q=(b.toNat:Int)→WN P cf fm R e S r (NX P cf fm (k ((f a b).toNat:Int))) x→WN P cf fm R e S r (.u8 f p q k) x
 | u8c {fm R e S r f p c k x} {a:UInt8}:p=(a.toNat:Int)→WN P cf fm R e S r (NX P cf fm (k ((f a c).toNat:Int))) x→WN P cf fm R e S r (.u8c f p c k) x
 | byte {fm R e S r s x} {a:UInt8}:WN P cf fm R e S r (NX P cf fm s) x→WN P cf fm R e S r (.byte (a.toNat:Int) s) x
 | amK {fm R e S r m a a' k x} {e':R→dO} [I:CT P x e' m a]:a'=a→WN P cf fm R e S r (NX P cf fm (k (e' r))) (some r)→WN P cf fm R e S r (.call m a' k) x
 | amP {fm R e S r A0 m a a' k g} {x:Option (A0)} {e':A0→dO} [I:CT P x e' m a]:a'=a→(∀y0,WN P cf fm R e S r (NX P cf fm (k (e' (y0)))) (g y0))→WN P cf fm R e S r (.call m a' k) (av x g)
 | amO {fm R e S r A0 A1 m a a' k g} {x:Option (A0 × A1)} {e':A0 × A1→dO} [I:CT P x e' m a]:a'=a→(∀y0 y1,WN P cf fm R e S r (NX P cf fm (k (e' (y0,y1)))) (g y0 y1))→WN P cf fm R e S r (.call m a' k) (eD x g)
 | amN {fm R e S r A0 A1 A2 m a a' k g} {x:Option (A0 × A1 × A2)} {e':A0 × A1 × A2→dO} [I:CT P x e' m a]:a'=a→(∀y0 y1 y2,WN P cf fm R e S r (NX P cf fm (k (e' (y0,y1,y2)))) (g y0 y1 y2))→WN P cf fm R e S r (.call m a' k) (mD x g)
 | amM {fm R e S r A0 A1 A2 A3 m a a' k g} {x:Option (A0 × A1 × A2 × A3)} {e':A0 × A1 × A2 × A3→dO} [I:CT P x e' m a]:a'=a→(∀y0 y1 y2 y3,WN P cf fm R e S r (NX P cf fm (k (e' (y0,y1,y2,y3)))) (g y0 y1 y2 y3))→WN P cf fm R e S r (.call m a' k) (Jp x g)
 | amL {fm R e S r A0 A1 A2 A3 A4 m a a' k g} {x:Option (A0 × A1 × A2 × A3 × A4)} {e':A0 × A1 × A2 × A3 × A4→dO} [I:CT P x e' m a]:a'=a→(∀y0 y1 y2 y3 y4,WN P cf fm R e S r (NX P cf fm (k (e' (y0,y1,y2,y3,y4)))) (g y0 y1 y2 y3 y4))→WN P cf fm R e S r (.call m a' k) (Rb x g)
 | amJ {fm R e S r ε A m a a' k gb g} {x:Option (fq ε A)} {e':fq ε A→dO} [I:CT P x e' m a]:a'=a→(∀y,WN P cf fm R e S r (NX P cf fm (k (e' (.ok y)))) (g y))→(∀y,WN P cf fm R e S r (NX P cf fm (k (e' (.bad y)))) (gb y))→WN P cf fm R e S r (.call m a' k) (dM x gb g)
 | cbT {fm R e S r m a a' b cs c0 c1 k x} {e':R→dO} [I:CB P x e' m a c0 c1]:a'=a b→cs=c0→WN P cf fm R e S r (NX P cf fm (k (e' r) (c1 r))) (some r)→WN P cf fm R e S r (.Q5 m a' b cs k) x
 | cb1 {fm R e S r A0 m a a' b cs c0 c1 k g} {x:Option A0} {e':A0→dO} [I:CB P x e' m a c0 c1]:a'=a b→cs=c0→(∀y0,WN P cf fm R e S r (NX P cf fm (k (e' y0) (c1 y0))) (g y0))→WN P cf fm R e S r (.Q5 m a' b cs k) (av x g)
 | cb2 {fm R e S r A0 A1 m a a' b cs c0 c1 k g} {x:Option (A0 × A1)} {e':A0 × A1→dO} [I:CB P x e' m a c0 c1]:a'=a b→cs=c0→(∀y0 y1,WN P cf fm R e S r (NX P cf fm (k (e' (y0,y1)) (c1 (y0,y1)))) (g y0 y1))→WN P cf fm R e S r (.Q5 m a' b cs k) (eD x g)
 | cb3 {fm R e S r A0 A1 A2 m a a' b cs c0 c1 k g} {x:Option (A0 × A1 × A2)} {e':A0 × A1 × A2→dO} [I:CB P x e' m a c0 c1]:a'=a b→cs=c0→(∀y0 y1 y2,WN P cf fm R e S r (NX P cf fm (k (e' (y0,y1,y2)) (c1 (y0,y1,y2)))) (g y0 y1 y2))→WN P cf fm R e S r (.Q5 m a' b cs k) (mD x g)
 | cbX {fm R e S r ε A B m a a' b cs c0 c1 k gb g} {x:Option (fq ε A × B)} {e':fq ε A × B→dO} [I:CB P x e' m a c0 c1]:a'=a b→cs=c0→(∀y s,WN P cf fm R e S r (NX P cf fm (k (e' (.ok y,s)) (c1 (.ok y,s)))) (g y s))→(∀y s,WN P cf fm R e S r (NX P cf fm (k (e' (.bad y,s)) (c1 (.bad y,s)))) (gb y s))→WN P cf fm R e S r (.Q5 m a' b cs k) (fJ x gb g)
 | amc {fm R e S r b t E T ks kn s1 s2 k x y g}:(∀v,WN P cf (.yH t ks E T kn) Bool bE bS v (NX P cf (.yH t ks E T kn) s1) x)→(∀v,WN P cf (.yH t ks E T kn) Bool bE bS v (NX P cf (.yH t ks E T kn) s2) y)→(∀v,WN P cf fm R e S r (NX P cf fm (k v)) (g v))→WN P cf fm R e S r (.join b true t E T ks kn s1 s2 k) (av (if b=true then x else y) g)
 | aj7 {fm e S r b t E T ks kn s1 s2 k x y}:(∀v,WN P cf (.yH t ks E T kn) Bool bE bS v (NX P cf (.yH t ks E T kn) s1) x)→(∀v,WN P cf (.yH t ks E T kn) Bool bE bS v (NX P cf (.yH t ks E T kn) s2) y)→WN P cf fm Bool e S r (NX P cf fm (k r)) (some r)→WN P cf fm Bool e S r (.join b true t E T ks kn s1 s2 k) (if b=true then x else y)
 | lZ {fm R e S r b t E T ks kn s1 s2 k x y g}:(∀v,WN P cf (.yH t ks E T kn) Bool bE bS v (NX P cf (.yH t ks E T kn) s1) y)→(∀v,WN P cf (.yH t ks E T kn) Bool bE bS v (NX P cf (.yH t ks E T kn) s2) x)→(∀v,WN P cf fm R e S r (NX P cf fm (k v)) (g v))→WN P cf fm R e S r (.join b false t E T ks kn s1 s2 k) (av (if b=true then x else y) g)
 | aj8 {fm e S r b t E T ks kn s1 s2 k x y}:(∀v,WN P cf (.yH t ks E T kn) Bool bE bS v (NX P cf (.yH t ks E T kn) s1) y)→(∀v,WN P cf (.yH t ks E T kn) Bool bE bS v (NX P cf (.yH t ks E T kn) s2) x)→WN P cf fm Bool e S r (NX P cf fm (k r)) (some r)→WN P cf fm Bool e S r (.join b false t E T ks kn s1 s2 k) (if b=true then x else y)
 | aj9 {fm R e S r b t E T ks kn s1 s2 k X} {x:Bool}:(∀v,WN P cf (.yH t ks E T kn) Bool bE bS v (NX P cf (.yH t ks E T kn) s1) (some x))→(∀v,WN P cf (.yH t ks E T kn) Bool bE bS v (NX P cf (.yH t ks E T kn) s2) (some false))→WN P cf fm R e S r (NX P cf fm (k (b&&x))) X→WN P cf fm R e S r (.join b true t E T ks kn s1 s2 k) X
 | aj_ {fm R e S r b t E T ks kn s1 s2 k X} {x:Bool}:(∀v,WN P cf (.yH t ks E T kn) Bool bE bS v (NX P cf (.yH t ks E T kn) s1) (some x))→(∀v,WN P cf (.yH t ks E T kn) Bool bE bS v (NX P cf (.yH t ks E T kn) s2) (some true))→WN P cf fm R e S r (NX P cf fm (k (b||x))) X→WN P cf fm R e S r (.join b false t E T ks kn s1 s2 k) X
 | ret {rs R e S r p A s x}:dO.ret p=e x→J5 (S x).length s=S x→WN P cf (.body rs) R e S r (.ret A A p s) (some x)
 | pan {rs R e S r p s x}:dO.panic p=e x→J5 (S x).length s=S x→WN P cf (.body rs) R e S r (.pan p s) (some x)
 | MO {t ks E T kn r cs} {v:Bool}:cs.map Prod.fst=cs.map Prod.snd→WN P cf (.yH t ks E T kn) Bool bE bS r (.MO v E T cs) (some v)
 | loop {fm R e S r c k e0 s nm E0 α ap kb rw ks U V v w} {x:Option R} {F:Nat→α→Option R} {N:Nat} {x0:α} [I:LE x F N x0 ap kb rw ks U V]:settle ks (wkE ap e0)=some E0→settle (keysOf (U v w x0++E0)) (wkE ap e0)=some (U v w x0++E0)→O6 kb (Sr rw s)=O6 kb (V v w x0 (Sr rw s))→(∀p,F 0 p=none)→
   (∀j v w p,WN P cf fm R e S r (NX P cf fm ⟨.w c (.lp (LR F (fun v w p=>U v w p++E0) (fun v w p=>O6 kb (V v w p (Sr rw s))) ap kb j r)::k) (U v w p++E0) (O6 kb (V v w p (Sr rw s))),nmR rw s.length nm⟩) (F (j+1) p))→WN P cf fm R e S r (.loop c k e0 s nm) x
 | again {fm R e S r e0 s j α ap ap' kb kb' rw ks U V v w} {x:Option R} {F:Nat→α→Option R} {E T} {y:α} [I:LE x F j y ap' kb' rw ks U V]:settle (keysOf (E v w y)) (wkE ap e0)=some (E v w y)→O6 kb (J5 (T v w y).length s)=T v w y→WN P cf fm R e S r (.again (LR F E T ap kb j r) e0 s) x
def Fm.fin(G:dO→List aS→Prop)(Gn:Bool→Env→List aS→Prop):Fm→Prop
 | .yH _ _ E T _=>∀v,G (bE v) []→Gn v E T
 | .body _=>True
def Li(G:dO→List aS→Prop)(o:dO)(s:List aS):Prop:=∃s',s'.Sublist s∧G o s'
theorem gU[K:FA P]{fm:Fm}{s:Ms}{Q:Post}{Fin:dO→List aS→Prop}{Gn:Bool→Env→List aS→Prop}(hm:fm.fits K.F Q Fin Gn)(h:(NX P cf fm s).ok P cf.n Q Fin Gn):s.st.ok P cf.n Q:=fH 999 fm s.st s.nm Q Fin Gn hm h
theorem Vj{α β:Type}(f:α→β)(l:List α)(i:Int):idx (l.map f) i=(idx l i).map f:=by
 unfold idx;split
 ·simp
 ·rfl
theorem all_eq{α:Type}:∀ {cs:List (α × α)},cs.map Prod.fst=cs.map Prod.snd→∀c∈cs,c.1=c.2
 | [],_,c,hc=>by cases hc
 | d::cs,h,c,hc=>by
  simp only[agf,List.cons.injEq]at h;rcases agh.1 hc with rfl|hc
  ·exact h.1
  ·exact all_eq h.2 c hc
theorem QN{k:Nat}{s t:List aS}(h:J5 k s=t):t.Sublist s:=by rw[←h];exact List.drop_sublist _ _
theorem WN.sound[K:FA P]{fm:Fm}{R:Type}{e:R→dO}{S:R→List aS}{r:R}{nd:Nd}{x:Option R}(h:WN P cf fm R e S r nd x):∀(Q:Post) (G:dO→List aS→Prop) (Gn:Bool→Env→List aS→Prop),fm.fits K.F Q (Li G) Gn→
  fm.fin G Gn→x=some r→G (e r) (S r)→nd.ok P cf.n Q (Li G) Gn:=by
 induction h with
 | non=>intro Q G Gn hm hg hr hf;cases hr
 | go _ ih=>intro Q G Gn hm hg hr hf;exact gU hm (ih Q G Gn hm hg hr hf)
 | OV hc _ ih=>intro Q G Gn hm hg hr hf;exact⟨all_eq hc,ih Q G Gn hm hg hr hf⟩
 | ord ho _ ih=>intro Q G Gn hm hg hr hf;exact⟨ho.h,ih Q G Gn hm hg hr hf⟩
 | aem ho _ ih=>intro Q G Gn hm hg hr hf;exact⟨ho.h,ih Q G Gn hm hg hr hf⟩
 | same _ ih=>intro Q G Gn hm hg hr hf;exact⟨rfl,gU hm (ih Q G Gn hm hg hr hf)⟩
 | alloc _ ih=>intro Q G Gn hm hg hr hf;exact fun b=>gU hm (ih b Q G Gn hm hg hr hf)
 | cond _ _ i1 i2=>
  intro Q G Gn hm hg hr hf;exact⟨fun hb=>gU hm (i1 hb Q G Gn hm hg (nC hb hr) hf),fun hb=>gU hm (i2 hb Q G Gn hm hg (mO hb hr) hf)⟩
 | cK hv _ ih=>
  rename_i b t f x v _;intro Q G Gn hm hg hr hf;have h:=gU hm (ih Q G Gn hm hg hr hf);obtain rfl:=hv.h;exact⟨fun hb=>by rw[hb]at h;exact h,fun hb=>by rw[hb]at h;exact h⟩
 | opt _ ih=>
  intro Q G Gn hm hg hr hf;obtain⟨y,h1,h2⟩:=jE hr;exact⟨y,h1,gU hm (ih y Q G Gn hm hg h2 hf)⟩
 | anz _ ih=>intro Q G Gn hm hg hr hf;exact⟨_,hr,gU hm (ih Q G Gn hm hg rfl hf)⟩
 | chb _ ih=>
  intro Q G Gn hm hg hr hf;obtain⟨y,h1,h2⟩:=jE hr;exact⟨h1,gU hm (ih Q G Gn hm hg h2 hf)⟩
 | chK hb _ ih=>intro Q G Gn hm hg hr hf;exact⟨by rw[hb];rfl,gU hm (ih Q G Gn hm hg hr hf)⟩
 | anD _ ih=>intro Q G Gn hm hg hr hf;exact gU hm (ih Q G Gn hm hg hr hf)
 | anH hL hl _ ih=>
  intro Q G Gn hm hg hr hf;obtain⟨y,h1,h2⟩:=jE hr;refine⟨_,?_,hl y,gU hm (ih y Q G Gn hm hg h2 hf)⟩;rw[hL,Vj,h1];rfl
 | len _ ih=>
  rename_i I _;intro Q G Gn hm hg hr hf;have:=gU hm (ih Q G Gn hm hg hr hf);simp only[Nd.ok];rw[I.h,ama];exact this
 | Zo hl _ ih=>
  rename_i I J _;intro Q G Gn hm hg hr hf;obtain⟨y,h1,h2⟩:=jE hr;refine⟨_,?_,hl y,gU hm (ih y Q G Gn hm hg h2 hf)⟩;rw[I.h,Vj,h1,←J.h];rfl
 | amf hl _ ih=>
  rename_i I J _;intro Q G Gn hm hg hr hf;refine⟨_,?_,hl _,gU hm (ih Q G Gn hm hg rfl hf)⟩;rw[I.h,Vj,hr,←J.h];rfl
 | slL _ ih=>
  rename_i I J _;intro Q G Gn hm hg hr hf;obtain⟨y,h1,h2⟩:=jE hr;exact⟨_,_,_,y,I.h,J.len,h1,gU hm (ih y Q G Gn hm hg h2 hf)⟩
 | slN _ ih=>
  rename_i I J _;intro Q G Gn hm hg hr hf;obtain⟨y,h1,h2⟩:=jE hr;exact⟨_,_,_,y,I.h,J.len,h1,gU hm (ih y Q G Gn hm hg h2 hf)⟩
 | app hL hn hM _ ih=>
  rename_i f g T C J _;intro Q G Gn hm hg hr hf;obtain⟨y,h1,h2⟩:=jE hr;exact⟨rfl,hn,_,_,_,_,y,h1,hL,by rw[hM,show g=f from funext fun z=>(J.h z).symm],C.len,C.one,fun v2=>gU hm (ih v2 y Q G Gn hm hg h2 hf)⟩
 | aoj hL hn _ ih=>
  rename_i f T C I _;intro Q G Gn hm hg hr hf;obtain⟨y,h1,h2⟩:=jE hr;exact⟨rfl,hn,_,_,_,_,y,h1,hL,I.h,C.len,C.one,fun v2=>gU hm (ih v2 y Q G Gn hm hg h2 hf)⟩
 | aof _ ih=>
  rename_i I _;intro Q G Gn hm hg hr hf;exact⟨_,I.h,gU hm (ih Q G Gn hm hg hr hf)⟩
 | aog _ hl ih=>intro Q G Gn hm hg hr hf;exact⟨_,hl,gU hm (ih Q G Gn hm hg hr hf)⟩
 | u8 ha hb _ ih=>intro Q G Gn hm hg hr hf;exact⟨_,_,ha,hb,gU hm (ih Q G Gn hm hg hr hf)⟩
 | u8c ha _ ih=>intro Q G Gn hm hg hr hf;exact⟨_,ha,gU hm (ih Q G Gn hm hg hr hf)⟩
 | byte _ ih=>intro Q G Gn hm hg hr hf;exact⟨⟨_,rfl⟩,gU hm (ih Q G Gn hm hg hr hf)⟩
 | amK ha _ ih=>
  rename_i I _;intro Q G Gn hm hg hr hf;exact⟨I.pf,_,fun {τ R} hq=>by rw[ha];exact I.h hr hq,gU hm (ih Q G Gn hm hg rfl hf)⟩
 | amP ha _ ih=>
  rename_i I _;intro Q G Gn hm hg hr hf;obtain⟨y0,h1,h2⟩:=jE hr;exact⟨I.pf,_,fun {τ R} hq=>by rw[ha];exact I.h h1 hq,gU hm (ih y0 Q G Gn hm hg h2 hf)⟩
 | amO ha _ ih=>
  rename_i I _;intro Q G Gn hm hg hr hf;obtain⟨y0,y1,h1,h2⟩:=lI hr;exact⟨I.pf,_,fun {τ R} hq=>by rw[ha];exact I.h h1 hq,gU hm (ih y0 y1 Q G Gn hm hg h2 hf)⟩
 | amN ha _ ih=>
  rename_i I _;intro Q G Gn hm hg hr hf;obtain⟨y0,y1,y2,h1,h2⟩:=Er hr;exact⟨I.pf,_,fun {τ R} hq=>by rw[ha];exact I.h h1 hq,gU hm (ih y0 y1 y2 Q G Gn hm hg h2 hf)⟩
 | amM ha _ ih=>
  rename_i I _;intro Q G Gn hm hg hr hf;obtain⟨y0,y1,y2,y3,h1,h2⟩:=acS hr;exact⟨I.pf,_,fun {τ R} hq=>by rw[ha];exact I.h h1 hq,gU hm (ih y0 y1 y2 y3 Q G Gn hm hg h2 hf)⟩
 | amL ha _ ih=>
  rename_i I _;intro Q G Gn hm hg hr hf;obtain⟨y0,y1,y2,y3,y4,h1,h2⟩:=acR hr;exact⟨I.pf,_,fun {τ R} hq=>by rw[ha];exact I.h h1 hq,gU hm (ih y0 y1 y2 y3 y4 Q G Gn hm hg h2 hf)⟩
 | amJ ha _ _ i1 i2=>
  rename_i I _ _;intro Q G Gn hm hg hr hf;rcases dW hr with⟨y,h1,h2⟩|⟨y,h1,h2⟩
  ·exact⟨I.pf,_,fun {τ R} hq=>by rw[ha];exact I.h h1 hq,gU hm (i2 y Q G Gn hm hg h2 hf)⟩
  ·exact⟨I.pf,_,fun {τ R} hq=>by rw[ha];exact I.h h1 hq,gU hm (i1 y Q G Gn hm hg h2 hf)⟩
 | cbT ha hc _ ih=>
  rename_i I _;intro Q G Gn hm hg hr hf;exact⟨I.pf,_,_,fun {R} hq=>by rw[ha,hc];exact I.h hr _ hq,gU hm (ih Q G Gn hm hg rfl hf)⟩
 | cb1 ha hc _ ih=>
  rename_i I _;intro Q G Gn hm hg hr hf;obtain⟨y0,h1,h2⟩:=jE hr;exact⟨I.pf,_,_,fun {R} hq=>by rw[ha,hc];exact I.h h1 _ hq,gU hm (ih y0 Q G Gn hm hg h2 hf)⟩
 | cb2 ha hc _ ih=>
  rename_i I _;intro Q G Gn hm hg hr hf;obtain⟨y0,y1,h1,h2⟩:=lI hr;exact⟨I.pf,_,_,fun {R} hq=>by rw[ha,hc];exact I.h h1 _ hq,gU hm (ih y0 y1 Q G Gn hm hg h2 hf)⟩
 | cb3 ha hc _ ih=>
  rename_i I _;intro Q G Gn hm hg hr hf;obtain⟨y0,y1,y2,h1,h2⟩:=Er hr;exact⟨I.pf,_,_,fun {R} hq=>by rw[ha,hc];exact I.h h1 _ hq,gU hm (ih y0 y1 y2 Q G Gn hm hg h2 hf)⟩
 | cbX ha hc _ _ i1 i2=>
  rename_i I _ _;intro Q G Gn hm hg hr hf;rcases Q_ hr with⟨y,s,h1,h2⟩|⟨y,s,h1,h2⟩
  ·exact⟨I.pf,_,_,fun {R} hq=>by rw[ha,hc];exact I.h h1 _ hq,gU hm (i2 y s Q G Gn hm hg h2 hf)⟩
  ·exact⟨I.pf,_,_,fun {R} hq=>by rw[ha,hc];exact I.h h1 _ hq,gU hm (i1 y s Q G Gn hm hg h2 hf)⟩
 | amc _ _ _ i1 i2 ih=>
  rename_i t E T ks kn s1 s2 k x y g _ _ _;intro Q G Gn hm hg hr hf;obtain⟨v,h1,h2⟩:=jE hr
  have hm':Fm.fits K.F (Jl t E T v) (Li fun p _=>p=bE v) (fun v' e s=>v'=v∧e=E∧s=T) (.yH t ks E T kn):=by
   intro v' e s hv;obtain⟨rfl,rfl,rfl⟩:=hv;exact⟨rfl,rfl,rfl,rfl⟩
  have hg':∀v',bE v'=bE v→v'=v∧E=E∧T=T:=fun v' hv=>⟨by cases hv;rfl,rfl,rfl⟩;exact⟨v,(fun hb=>gU hm' (i1 v _ _ _ hm' hg' (nC hb h1) rfl)),(fun hb=>gU hm' (i2 v _ _ _ hm' hg' (mO (by simpa using hb) h1) rfl)),gU hm (ih v Q G Gn hm hg h2 hf)⟩
 | aj7 _ _ _ i1 i2 ih=>
  rename_i v b t E T ks kn s1 s2 k x y _ _ _;intro Q G Gn hm hg hr hf;have h1:=hr
  have hm':Fm.fits K.F (Jl t E T v) (Li fun p _=>p=bE v) (fun v' e s=>v'=v∧e=E∧s=T) (.yH t ks E T kn):=by
   intro v' e s hv;obtain⟨rfl,rfl,rfl⟩:=hv;exact⟨rfl,rfl,rfl,rfl⟩
  have hg':∀v',bE v'=bE v→v'=v∧E=E∧T=T:=fun v' hv=>⟨by cases hv;rfl,rfl,rfl⟩;exact⟨v,(fun hb=>gU hm' (i1 v _ _ _ hm' hg' (nC hb h1) rfl)),(fun hb=>gU hm' (i2 v _ _ _ hm' hg' (mO (by simpa using hb) h1) rfl)),gU hm (ih Q G Gn hm hg rfl hf)⟩
 | lZ _ _ _ i1 i2 ih=>
  rename_i t E T ks kn s1 s2 k x y g _ _ _;intro Q G Gn hm hg hr hf;obtain⟨v,h1,h2⟩:=jE hr
  have hm':Fm.fits K.F (Jl t E T v) (Li fun p _=>p=bE v) (fun v' e s=>v'=v∧e=E∧s=T) (.yH t ks E T kn):=by
   intro v' e s hv;obtain⟨rfl,rfl,rfl⟩:=hv;exact⟨rfl,rfl,rfl,rfl⟩
  have hg':∀v',bE v'=bE v→v'=v∧E=E∧T=T:=fun v' hv=>⟨by cases hv;rfl,rfl,rfl⟩;exact⟨v,(fun hb=>gU hm' (i1 v _ _ _ hm' hg' (mO hb h1) rfl)),(fun hb=>gU hm' (i2 v _ _ _ hm' hg' (nC (by simpa using hb) h1) rfl)),gU hm (ih v Q G Gn hm hg h2 hf)⟩
 | aj8 _ _ _ i1 i2 ih=>
  rename_i v b t E T ks kn s1 s2 k x y _ _ _;intro Q G Gn hm hg hr hf;have h1:=hr
  have hm':Fm.fits K.F (Jl t E T v) (Li fun p _=>p=bE v) (fun v' e s=>v'=v∧e=E∧s=T) (.yH t ks E T kn):=by
   intro v' e s hv;obtain⟨rfl,rfl,rfl⟩:=hv;exact⟨rfl,rfl,rfl,rfl⟩
  have hg':∀v',bE v'=bE v→v'=v∧E=E∧T=T:=fun v' hv=>⟨by cases hv;rfl,rfl,rfl⟩;exact⟨v,(fun hb=>gU hm' (i1 v _ _ _ hm' hg' (mO hb h1) rfl)),(fun hb=>gU hm' (i2 v _ _ _ hm' hg' (nC (by simpa using hb) h1) rfl)),gU hm (ih Q G Gn hm hg rfl hf)⟩
 | aj9 _ _ _ i1 i2 ih=>
  rename_i b t E T ks kn s1 s2 k X x _ _ _;intro Q G Gn hm hg hr hf
  have hm':∀v,Fm.fits K.F (Jl t E T v) (Li fun p _=>p=bE v) (fun v' e s=>v'=v∧e=E∧s=T) (.yH t ks E T kn):=by
   intro v v' e s hv;obtain⟨rfl,rfl,rfl⟩:=hv;exact⟨rfl,rfl,rfl,rfl⟩
  have hg':∀v v',bE v'=bE v→v'=v∧E=E∧T=T:=fun v v' hv=>⟨by cases hv;rfl,rfl,rfl⟩;refine⟨_,fun hb=>?_,fun hb=>?_,gU hm (ih Q G Gn hm hg hr hf)⟩
  ·have:=gU (hm' x) (i1 x _ _ _ (hm' x) (hg' x) rfl rfl);rw[hb];simpa using this
  ·have:=gU (hm' false) (i2 false _ _ _ (hm' _) (hg' _) rfl rfl);rw[hb];simpa using this
 | aj_ _ _ _ i1 i2 ih=>
  rename_i b t E T ks kn s1 s2 k X x _ _ _;intro Q G Gn hm hg hr hf
  have hm':∀v,Fm.fits K.F (Jl t E T v) (Li fun p _=>p=bE v) (fun v' e s=>v'=v∧e=E∧s=T) (.yH t ks E T kn):=by
   intro v v' e s hv;obtain⟨rfl,rfl,rfl⟩:=hv;exact⟨rfl,rfl,rfl,rfl⟩
  have hg':∀v v',bE v'=bE v→v'=v∧E=E∧T=T:=fun v v' hv=>⟨by cases hv;rfl,rfl,rfl⟩;refine⟨_,fun hb=>?_,fun hb=>?_,gU hm (ih Q G Gn hm hg hr hf)⟩
  ·have:=gU (hm' x) (i1 x _ _ _ (hm' x) (hg' x) rfl rfl);rw[hb];simpa using this
  ·have:=gU (hm' true) (i2 true _ _ _ (hm' _) (hg' _) rfl rfl);rw[hb];simpa using this
 | ret hp hs=>intro Q G Gn hm hg hr hf;cases hr;exact⟨rfl,_,QN hs,by rw[hp];exact hf⟩
 | pan hp hs=>intro Q G Gn hm hg hr hf;cases hr;exact⟨_,QN hs,by rw[hp];exact hf⟩
 | MO hc=>intro Q G Gn hm hg hr hf;cases hr;exact⟨all_eq hc,hg _ hf⟩
 | loop h0 h1 h2 hz _ ih=>
  rename_i s _ E0 α ap kb rw _ U V v w x F N x0 I _;intro Q G Gn hm hg hr hf;rw[I.h]at hr;exact AW.Sr rw (al6 (fun v w p=>U v w p++E0) (fun v w p=>O6 kb (V v w p (Sr rw s))) ap kb (fun j p=>F j p=some _) N x0 v w h1 h2 hr (fun p hz0=>by rw[hz]at hz0;cases hz0) fun j v w p hj=>gU (s:=⟨.w _ _ _ _,_⟩) hm (ih j v w p Q G Gn hm hg hj hf))
 | again h1 h2=>
  rename_i I;intro Q G Gn hm hg hr hf;exact⟨_,_,_,h1,h2,rfl,I.h ▸ hr⟩
theorem IE[K:FA P]{rs:List ResultVar}{R':dO→List aS→Prop}{Gn:Bool→Env→List aS→Prop}:(Fm.body rs).fits K.F (Ob P rs R') (Li R') Gn:=
 ⟨fun e s nm A ps h1 ⟨s',h2,h3⟩=>⟨⟨rfl,ps,OA K.ok h1 rfl,s',h2,h3⟩,⟨rfl,ps,OA K.ok h1 rfl,s',h2,h3⟩⟩,fun e s p ⟨s',h2,h3⟩=>⟨rfl,s',h2,h3⟩⟩
theorem CT.of[K:FA P]{R:Type}{x:Option R}{e:R→dO}{m:Nat}{a:List PV}{fn:Func}{c:Code}{env:Env}(cf:Cf)(hp:rT K.pf m=true)(hf:P.funcs[m]?=some fn)(hb:fn.body=some c)(hn:fn.ntmps=cf.n)(hl:Nat.ble a.length cf.n=true)
  (Co:settle (List.range a.length) (um 0 a)=some env) (h:∀r,WN P cf (.body fn.results.toList) R e (fun _=>[]) r (NX P cf (.body fn.results.toList) ⟨.w c [] env [],[]⟩) x):CT P x e m a:=
 ⟨xR K.pk hp,fun {r} hx {τ Q} hq=>AC.none (AC.kE cf.n fn.results.toList (List.range a.length) hf hb hn hl rfl Co
  (gU (s:=⟨.w c [] env [],[]⟩) (Q:=Ob P fn.results.toList fun o s=>Q o (s++τ)) IE ((h r).sound _ (fun o s=>Q o (s++τ)) (fun _ _ _=>False) IE trivial hx hq)))⟩
theorem CB.of[K:FA P]{R:Type}{x:Option R}{e:R→dO}{m:Nat}{a:Nat→List PV}{c0:List PV}{c1:R→List PV}{fn:Func}{c:Code}{env:Nat→Env}(cf:Cf)(i:Nat)(hp:rT K.pf m=true)(hf:P.funcs[m]?=some fn)(hb:fn.body=some c)(hn:fn.ntmps=cf.n)(hl:∀b,Nat.ble (a b).length cf.n=true)
  (Co:∀b,settle (List.range (a b).length) (um 0 (a b))=some (env b)) (h:∀b r,WN P cf (.body fn.results.toList) R e (fun r=>[.box b (c1 r)]) r (NX P cf (.body fn.results.toList) ⟨.w c [] (env b) [.box b c0],[(i,0)]⟩) x):CB P x e m a c0 c1:=
 ⟨xR K.pk hp,fun {r} hx b {Q} hq=>AC.kE cf.n fn.results.toList (List.range (a b).length) hf hb hn (hl b) rfl (Co b)
  (gU (s:=⟨.w c [] (env b) [.box b c0],[(i,0)]⟩) (Q:=Ob P fn.results.toList Q) IE ((h b r).sound _ Q (fun _ _ _=>False) IE trivial hx hq))⟩
theorem CT.none[K:FA P]{R:Type}{e:R→dO}{m:Nat}{a:List PV}(hp:rT K.pf m=true):CT P (Option.none:Option R) e m a:=⟨xR K.pk hp,fun h=>by cases h⟩
theorem CB.none[K:FA P]{R:Type}{e:R→dO}{m:Nat}{a:Nat→List PV}{c0:List PV}{c1:R→List PV}(hp:rT K.pf m=true):CB P (Option.none:Option R) e m a c0 c1:=⟨xR K.pk hp,fun h=>by cases h⟩
end
end Go.Abs
