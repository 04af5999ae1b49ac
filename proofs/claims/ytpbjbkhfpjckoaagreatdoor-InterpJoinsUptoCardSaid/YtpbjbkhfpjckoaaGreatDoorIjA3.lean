/- Proved here: how a functional text stands for a walk of the given code: ranges, maps, sorted lists, library functions. -/
import Derived.Test.YtpbjbkhfpjckoaaGreatDoorIjA2
import Derived.RangeFuncRecord
import Derived.RangeFuncIn
import Derived.OrdersIn
import Derived.TacticsIn
import Derived.Test.YtpbjbkhfpjckoaaGreatDoorIjA1
import Derived.Test.YtpbjbkhfpjckoaaGreatDoorIjWords
import Derived.Shelf.SlSortCmp.NoneTotal
import Derived.Shelf.Slices.CompactS
import Derived.Shelf.Strings.Search3
import Derived.Shelf.Strings.Split
import Derived.Shelf.Strings.OnBuilder
import Derived.Shelf.Strconv.Itoa3
import Derived.Shelf.Strconv.AtoiAll
import Derived.Lib.LaidTab
import Derived.Stop.LaidErr
import Derived.Lib.ItoaNum
import Derived.Shelf.Vars
import Derived.Shelf.Strings.Replace
set_option linter.unusedVariables false
set_option linter.unusedSimpArgs false
set_option linter.defProp false
set_option linter.unusedSectionVars false
namespace Go
def an0:=@Int.toNat_natCast
def an1:=@Array.getElem?_mapIdx
def an2:=@if_true
def an4:=@List.map_map
def an6:=@Nat.mul_le_mul_right
def an7:=@Go.callsIn_wide
def an8:=@Nat.zero_le
def anL:=@decide_eq_false_iff_not
def anM:=@Array.getElem?_toList
def anN:=@List.set_append_right
def anP:=@Array.getElem?_eq_getElem
def anQ:=@Array.getElem?_modify
def anR:=@getElem!_pos
def anS:=@List.getElem?_cons_zero
def anT:=@Bool.and_eq_false_iff
def anU:=@Nat.sub_self
def anV:=@List.getElem?_cons_succ
def anW:=@Bool.false_eq_true
def anX:=@List.length_mergeSort
def anY:=@List.mem_or_eq_of_mem_set
def anZ:=@Nat.lt_of_lt_of_le
end Go
namespace Go.Abs
variable [iD]
open Go
def ZP(r:Option Nat):Fence:={Fence.wide with round:=r}
def yw(o:Oper):Bool:=match o.op with|.defer _=>false|_=>true
theorem KM{o:Oper}(h:yw o=true):∀c,o.op≠.defer c:=by
 intro c hc;unfold yw at h;rw[hc]at h;cases h
section
variable {P : Program} {n : Nat} {r : Option Nat} {env : Env} {σ : List bC} {ds : List Deferred} {Q : Post} {all : Array Oper} {rest : List Oper} {o : Oper}
theorem agJ{f:FuncId}{args:Array Value}{w:World}{R:Ending→World→Prop}{n:Nat}(h:Calls P f args w R):CallsIn (ZP r) n P f args w R:=by
 have:=(an7 (n:=n)).2 h;exact this
theorem ahN{row:String}{args:Array Value}{w:World}{R:Value→World→Prop}{n:Nat}(h:Rows P row args w R):RowsIn (ZP r) n P row args w R:=
 fun c cs _=>let⟨v,w',r,s⟩:=h c cs;⟨v,w',r,stepsIn_wide.2 s⟩
theorem WV{a:Act}{w:World}{K:Act→World→Prop}{Q:Exit→Act→World→Prop}(hd:yw o=true)(h:o.wp P a w K Q):o.wpIn (ZP r) 0 P a w K Q:=by
 refine⟨fun _ _=>trivial,?_⟩;rw[Oper.semAt_eq _ _ _ (KM hd)];unfold Oper.wp at h;generalize (execOp a.eval o).run P w=x at h⊢;cases x with
 | ok v w'=>
  cases v<;>simp only[Oper.upon,Oper.uponIn]at h⊢<;>first
   | exact h
   | exact⟨fun hh=>by simp[ZP,Fence.wide]at hh,agJ h⟩
   | exact⟨fun hh=>by simp[ZP,Fence.wide]at hh,ahN h⟩
 | halt v w'=>cases v<;>simp only[Oper.upon,Oper.uponIn]at h⊢<;>exact h
theorem PU{Q:Exit→Act→World→Prop}(hno:¬LetsOut Q):∀(l:List Oper) (a:Act) (w:World),(∀o∈l,yw o=true)→wpList P all Q l a w→wpListIn (ZP r) 0 P all Q l a w
 | [],a,w,_,h=>h
 | o::rest,a,w,hd,h=>by
  unfold wpList at h;unfold wpListIn;split
  ·rename_i hw;rw[alm hw]at h;rcases h with h|⟨_,h⟩
   ·exact Oper.wpIn_mono (fun a w h=>PU hno rest a w (fun o ho=>hd o (by simp[ho])) h) (WV (hd o (by simp)) h)
   ·exact(hno h).elim
  ·rename_i hw;rw[akJ hw]at h;exact⟨fun _ _=>trivial,PU hno rest _ _ (fun o ho=>hd o (by simp[ho])) h⟩
def qA(P:Program)(r:Option Nat)(n:Nat)(c:Code)(env:Env)(σ:List bC)(ds:List Deferred)(Q:Post):Prop:=
 ∀w m a QC,qx w m n env σ ds a→Acc n Q w m σ QC→c.wpIn (ZP r) 0 P QC a w
def RB(Q:Exit→Act→World→Prop):Exit→Act→World→Prop:=fun e a w=>e≠.outgrown∧Q e a w
theorem EN(Q:Exit→Act→World→Prop):¬LetsOut (RB Q):=fun⟨_,_,h,_⟩=>h rfl
theorem Acc.RB{w:World}{m:jN}{QC:Exit→Act→World→Prop}(h:Acc n Q w m σ QC):Acc n Q w m σ (Abs.RB QC):=by
 intro x ex env' σ' ds' a' w' m' hq hx hs ht;refine⟨?_,h x ex env' σ' ds' a' w' m' hq hx hs ht⟩;rintro rfl;cases x<;>simp[amF]at hx
theorem qA.region{id:Nat}{l:List Oper}(hd:(l.all yw)=true)(h:AR P n l.toArray l env σ ds Q):qA P r n (.region id l.toArray false) env σ ds Q:=by
 intro w m a QC hs ha;rw[aiS]at hd;refine wpIn_mono (wpIn_region_lit (PU (EN QC) l a w hd (h w m a _ hs ha.RB))) fun e a w h=>h.2
theorem qA.skip(h:Q .normal env σ ds):qA P r n .skip env σ ds Q:=
 fun w m a _ hs ha=>wpIn_skip (ha .normal .normal env σ ds a w m h rfl hs (Trans.refl ..))
theorem qA.exit{id:Nat}(h:Q (.exit id) env σ ds):qA P r n (.exit id) env σ ds Q:=
 fun w m a _ hs ha=>wpIn_exit (ha (.exit id) (.exit id) env σ ds a w m h rfl hs (Trans.refl ..))
theorem qA.ret(h:Q .ret env σ ds):qA P r n .ret env σ ds Q:=
 fun w m a _ hs ha=>wpIn_ret (ha .ret .ret env σ ds a w m h rfl hs (Trans.refl ..))
theorem qA.seq{c d:Code}(h:qA P r n c env σ ds (AX.then (fun e s ds=>qA P r n d e s ds Q) Q)):qA P r n (.seq c d) env σ ds Q:=by
 intro w m a QC hs ha;refine wpIn_seq (h w m a _ hs ?_);intro x ex e1 σ1 d1 a1 w1 m1 hq hx hs1 ht;cases x with
 | normal=>cases hx;exact hq w1 m1 a1 QC hs1 (ha.step ht)
 | exit id=>cases hx;exact ha (.exit id) _ e1 σ1 d1 a1 w1 m1 hq rfl hs1 ht
 | ret=>cases hx;exact ha .ret _ e1 σ1 d1 a1 w1 m1 hq rfl hs1 ht
 | panic p=>obtain⟨v,rfl,hv⟩:=hx;exact ha (.panic p) _ e1 σ1 d1 a1 w1 m1 hq ⟨v,rfl,hv⟩ hs1 ht
theorem qA.cond{c:Operand}{x y:Code}{b:Bool}(hc:env.ev c=.bool b)(ht:b=true→qA P r n x env σ ds Q)(hf:b=false→qA P r n y env σ ds Q):
  qA P r n (.cond c x y) env σ ds Q:=by
 intro w m a QC hs ha;have he:=hs.env.ev c;rw[hc]at he;simp only[dP]at he;exact wpIn_cond_split he (fun h=>ht h w m a QC hs ha) (fun h=>hf h w m a QC hs ha)
theorem qA.block{id:Nat}{c:Code}(h:qA P r n c env σ ds (AX.inBlock id Q)):qA P r n (.block id c) env σ ds Q:=by
 intro w m a QC hs ha;refine wpIn_block (h w m a _ hs ?_);intro x ex e1 σ1 d1 a1 w1 m1 hq hx hs1 ht;cases x with
 | normal=>cases hx;exact ha .normal _ e1 σ1 d1 a1 w1 m1 hq rfl hs1 ht
 | exit id'=>
  cases hx;simp only[Exit.inBlock];simp only[AX.inBlock]at hq;by_cases e:id'=id
  ·subst e;simp only[Nat.beq_refl,cond_true]at hq;rw[alm rfl];exact ha .normal _ e1 σ1 d1 a1 w1 m1 hq rfl hs1 ht
  ·have:Nat.beq id' id=false:=vM e;simp only[this,cond_false]at hq;rw[akJ e];exact ha (.exit id') _ e1 σ1 d1 a1 w1 m1 hq rfl hs1 ht
 | ret=>cases hx;exact ha .ret _ e1 σ1 d1 a1 w1 m1 hq rfl hs1 ht
 | panic p=>obtain⟨v,rfl,hv⟩:=hx;exact ha (.panic p) _ e1 σ1 d1 a1 w1 m1 hq ⟨v,rfl,hv⟩ hs1 ht
theorem qA.mono{c:Code}{Q':Post}(h:qA P r n c env σ ds Q)(hq:∀x e s d,Q x e s d→Q' x e s d):qA P r n c env σ ds Q':=
 fun w m a QC hs ha=>h w m a QC hs fun x ex env' σ' ds' a' w' m' h1 h2 h3 h4=>ha x ex env' σ' ds' a' w' m' (hq _ _ _ _ h1) h2 h3 h4
theorem qA.settle{c:Code}{env':Env}(ps:List Nat)(hs:Abs.settle ps env=some env')(h:qA P r n c env' σ ds Q):qA P r n c env σ ds Q:=
 fun w m a QC sw ha=>h w m a QC ⟨sw.size,sw.ds,sw.env.settle hs,sw.iW⟩ ha
theorem qA.frame{c:Code}{τ:List bC}(h:qA P r n c env σ ds Q):qA P r n c env (σ++τ) ds (fun x e s d=>∃s0,s=s0++τ∧Q x e s0 d):=by
 intro w m a QC hs ha;refine h w m a QC ⟨hs.size,hs.ds,hs.env,hs.iW.left⟩ fun x ex e' σ' ds' a' w' m' hq hx hs' ht=>?_;obtain⟨k1,k2⟩:=Conc.frame hs.iW hs'.iW ht;exact ha x ex e' (σ'++τ) ds' a' w' m' ⟨σ',rfl,hq⟩ hx ⟨hs'.size,hs'.ds,hs'.env,k1⟩ k2
def E9(P:Program)(r:Option Nat)(n:Nat)(all:Array Oper)(l:List Oper)(env:Env)(σ:List bC)(ds:List Deferred)(Q:Post):Prop:=
 ∀w m a QC,qx w m n env σ ds a→Acc n Q w m σ QC→wpListIn (ZP r) 0 P all QC l a w
theorem E9.of{l:List Oper}(hd:(l.all yw)=true)(h:AR P n all l env σ ds Q):E9 P r n all l env σ ds Q:=by
 intro w m a QC hs ha;rw[aiS]at hd;have:=PU (r:=r) (EN QC) l a w hd (h w m a _ hs ha.RB)
 have key:∀(l:List Oper) (a:Act) (w:World),wpListIn (ZP r) 0 P all (RB QC) l a w→wpListIn (ZP r) 0 P all QC l a w:=by
  intro l
  induction l with
  | nil=>intro a w h;exact h.2
  | cons o l ih=>
   intro a w h;unfold wpListIn at h⊢;split
   ·rename_i hw;rw[alm hw]at h;refine⟨h.1,?_⟩;have h2:=h.2;generalize (o.semAt (ZP r).round a.eval).run P w=x at h2⊢;cases x with
    | ok v w'=>
     cases v<;>simp only[Oper.uponIn]at h2⊢<;>first
      | exact ih _ _ h2
      | exact⟨h2.1,CallsIn.mono h2.2 fun e w'' he=>by
        cases e with
        | returned v=>exact ih _ _ he
        | panicked c=>exact he.2
        | outgrown=>exact(EN QC he).elim⟩
      | exact⟨h2.1,RowsIn.mono h2.2 fun v w'' he=>ih _ _ he⟩
      | exact⟨h2.1,RoundIn.mono h2.2 fun e w'' he=>by
        cases e with
        | returned v=>exact ih _ _ he
        | panicked c=>exact he.2
        | outgrown=>exact(EN QC he).elim⟩
    | halt v w'=>
     cases v<;>simp only[Oper.uponIn]at h2⊢<;>exact h2.2
   ·rename_i hw;rw[akJ hw]at h;exact⟨h.1,ih _ _ h.2⟩
 exact key l a w this
theorem AW.abZ{id:Nat}{l:List Oper}(h:E9 P none n l.toArray l env σ ds Q):AW P n (.region id l.toArray false) env σ ds Q:=
 fun w m a QC hs ha=>wpIn_wide.1 (wpIn_region_lit (F:=ZP none) (n:=0) (h w m a QC hs ha))
theorem E9.step{t:Nat}(hnd:yw o=true)(hg:o.guard=none)(hd:o.dst=some t)(ht:Nat.blt t n=true)
  (h:AO P o env.ev σ (fun p σ'=>E9 P r n all rest ((t,p)::env) σ' ds Q) (fun p σ'=>Q (.panic p) env σ' ds)):
  E9 P r n all (o::rest) env σ ds Q:=by
 intro w m a QC hs ha;have ht:t<n:=CF ht;refine wpListIn_plain hg fun K hK=>WV hnd ?_;refine h w m a K QC (fun x _=>hs.env.ev x) hs.iW ?_ ?_
 ·intro p σ' v w' m' hr hv hc htr;exact hK _ _ (hr w' m' _ QC (hs.put hd ht hv hc htr.le) (ha.step htr))
 ·intro p σ' v w' m' hr hv hc htr;exact ha (.panic p) _ _ _ _ a w' m' hr ⟨v,rfl,hv⟩ ⟨hs.size,hs.ds,hs.env.mono htr.le,hc⟩ htr
def AY(P:Program)(l:Nat)(args:List PV)(σ:List bC)(R:eP→List bC→Prop):Prop:=
 ∀w m vs,Conc w m σ→bA w m args vs→∃fn tmps assign body,(Instr.yield l vs.toArray).run P w=.ok (.round l fn tmps assign body) w∧
  RoundIn Fence.wide 0 P l fn tmps assign body w fun e w'=>∃out σ' m',R out σ'∧AP w' m' out e∧Conc w' m' σ'∧Trans w m σ w' m' σ'
theorem E9.yield{t l:Nat}{c:Call}{σ':List bC}{p:PV}(hnd:yw o=true)(hg:o.guard=none)(hd:o.dst=some t)(ht:Nat.blt t n=true)(ho:o.op=.call c)(NR:Operand)(kR:c.callee=.value NR)
  (hf:env.ev NR=.val (.func (.yield l) #[] #[])) (h:AY P l ((c.args.toList.map env.ev).map PV.weak) σ (fun out s=>out=.ret p∧s=σ'))
  (hk:E9 P r n all rest ((t,p)::env) σ' ds Q):E9 P r n all (o::rest) env σ ds Q:=by
 intro w m a QC hs ha;have ht:t<n:=CF ht;refine wpListIn_plain hg fun K hK=>⟨fun _ _=>trivial,?_⟩;rw[Oper.semAt_eq _ _ _ (KM hnd)];have hcv:=hs.env.ev NR;rw[hf]at hcv;simp only[dP]at hcv;have hargs:bA w m (c.args.toList.map env.ev) (c.args.toList.map a.eval):=bA.map fun x _=>hs.env.ev x;obtain⟨fn,tmps,assign,body,h1,h2⟩:=h w m _ hs.iW hargs.weak
 have hrun:(execOp a.eval o).run P w=.ok (.round l fn tmps assign body) w:=by
  unfold execOp;simp only[ho,resolve,kR,hcv,Deferred.ofValue,invoke,Sem.run_bind,fM,bJ];rw[←h1];congr 2;apply Array.ext';simp
 rw[hrun];simp only[Oper.uponIn];refine⟨fun hh=>by simp[ZP,Fence.wide]at hh,?_⟩;refine RoundIn.mono (show RoundIn (ZP r) (0-1) P l fn tmps assign body w _ from h2) ?_;rintro e w' ⟨out,s,m',⟨rfl,rfl⟩,⟨v,rfl,hv⟩,hc,htr⟩;exact hK _ _ (hk w' m' _ QC (hs.put hd ht hv hc htr.le) (ha.step htr))
end
def TB:List Nat→List PV→Env→Env
 | t::ts,p::ps,e=>TB ts ps ((t,p)::e)
 | _,_,e=>e
theorem M7{w:World}{m:jN}{n:Nat}:∀ {ts:List Nat} {ps:List PV} {vs:List Value} {env:Env} {tmps:Array Value},tmps.size=n→(∀t∈ts,t<n)→bA w m ps vs→Dr w m env tmps→
  Dr w m (TB ts ps env) ((ts.zip vs).foldl (fun t (p,v)=>t.setIfInBounds p v) tmps)∧((ts.zip vs).foldl (fun t (p,v)=>t.setIfInBounds p v) tmps).size=n
 | [],_,_,_,_,hn,_,_,h=>by simpa[TB]using ⟨h,hn⟩
 | t::ts,[],vs,env,tmps,hn,_,hr,h=>by
  simp only[bA]at hr;subst hr;simpa[TB]using ⟨h,hn⟩
 | t::ts,p::ps,vs,env,tmps,hn,hlt,hr,h=>by
  simp only[bA]at hr;obtain⟨v,vs',rfl,h1,h2⟩:=hr;simp only[TB,List.zip_cons_cons,List.foldl_cons];refine M7 (by simpa using hn) (fun u hu=>hlt u (by simp[hu])) h2 ?_;exact h.put h1 (by rw[hn];exact hlt t (by simp))
def codeOf:Option AX→Option Code
 | some .ret=>some .ret
 | some (.exit id)=>some (.exit id)
 | _=>none
def vF(D:Nat):Deferred:={target:=.collected D,args:=#[]}
def vB(fn:FuncId)(tmps:Array Value)(ps:Array Tmp)(assign body:Code)(D:Nat)(x:Option AX):Loop:=
 {state:=if (codeOf x).isNone then .ready else .done,pending:=codeOf x,fn,tmps,params:=ps,assign,body,defers:=D}
def roundEnd{β:Type}(T:β→List bC)(pend:β→Option AX)(b:Bool)(s':β):Post:=fun x _ σ d=>d=[]∧(T s').Sublist σ∧
 match x with
 | .normal=>b=true∧pend s'=none
 | .ret=>b=false∧pend s'=some .ret
 | .exit id=>b=false∧pend s'=some (.exit id)
 | .panic _=>False
theorem wY{w:World}{m:jN}{σ:List bC}(hc:Conc w m σ){i b:Nat}{o o':Obj}(hi:σ[i]?=some (.obj b o)):
  Conc (w.putObj b o') m (σ.set i (.obj b o'))∧Trans w m σ (w.putObj b o') m (σ.set i (.obj b o')):=by
 obtain⟨hb,hm⟩:=hc.each _ (ahq hi)
 have hblt:b<w.heap.size:=by
  rcases gK b w.heap.size with h|h
  ·exact h
  ·simp[ahf h]at hb
 exact Conc.write (w':=w.putObj b o') (r':=.obj b o') hc hi rfl rfl hm ⟨World.putObj_heap_same hblt,hm⟩ ⟨rfl,rfl,rfl⟩ (by simp) (fun k hk=>World.putObj_heap_other hk)
section
variable {P : Program} {n : Nat} {env : Env} {σ : List bC} {ds : List Deferred} {Q : Post}
theorem AW.rangeFunc{β X:Type}{g:Operand}{ps:Array Tmp}{assign body:Code}{gf:Nat}{caps:List PV}(hg:env.ev g=.fn gf caps)(hp:bN P gf=true)
  (enc:X→List PV) (henc:∀x,(enc x).length=ps.toList.length) (hps:∀t∈ps.toList,t<n) (y:β→X→Option (Bool × β)) (T:β→List bC) (pend:β→Option AX) {s0 s1:β} (hσ:σ=T s0) (hs0:pend s0=none)
  (hit:∀(l:Nat) (T':β→List bC),(∀s x b s',y s x=some (b,s')→AY P l (enc x) (T' s) (fun out σ'=>out=.ret (.bool b)∧σ'=T' s'))→
   AC P gf (.val (.func (.yield l) #[] #[])::caps) (T' s0) (fun out σ'=>(∃p,out=.ret p)∧σ'=T' s1))
  (round:∀l s x b s',y s x=some (b,s')→pend s=none∧
   qA P (some l) n assign (TB ps.toList (enc x) env) (T s) [] (fun ax e σ' d=>ax=.normal∧qA P (some l) n body e σ' d (roundEnd T pend b s')))
  (hq:∀D,(match pend s1 with|none=>Q .normal env|some .ret=>Q .ret env|some (.exit id)=>Q (.exit id) env|some _=>fun _ _=>False) (T s1++[bC.obj D (.deferred (some []))]) (vF D::ds)):
  AW P n (.rangeFunc g ps assign body) env σ ds Q:=by
 subst hσ;intro w m a QC hs ha;refine(wpIn_wide (n:=0)).1 (wpIn_rangeFunc fun fn _=>?_);have hge:=hs.env.ev g;rw[hg]at hge;simp only[dP]at hge;obtain⟨cs,hcv,hcs⟩:=hge;have c1:=Co hs.iW (.deferred (some []))
 have t1:=jF (σ':=bC.obj w.heap.size (.deferred (some []))::T s0) hs.iW (.deferred (some [])) (fun _=>False) (fun b hb=>by
  simp[lq,bC.fp]at hb⊢;rcases hb with hb|hb
  ·exact .inr hb
  ·exact .inl hb)
 have c2:=Co c1 (.loop (vB fn a.tmps ps assign body w.heap.size none))
 have t2:=jF (σ':=.obj (w.alloc (.deferred (some []))).heap.size (.loop (vB fn a.tmps ps assign body w.heap.size none))::bC.obj w.heap.size (.deferred (some []))::T s0) c1 (.loop (vB fn a.tmps ps assign body w.heap.size none)) (fun _=>False) (fun b hb=>by
  simp[lq,bC.fp]at hb⊢;rcases hb with hb|hb|hb
  ·exact .inr hb
  ·exact .inl (.inl hb)
  ·exact .inl (.inr hb))
 have hsz:(w.alloc (.deferred (some []))).heap.size=w.heap.size+1:=by simp
 rw[hsz]at c2 t2;generalize hW:(w.alloc (.deferred (some []))).alloc (.loop (vB fn a.tmps ps assign body w.heap.size none))=W at c2 t2;generalize hM:(fun b off=>(m b off∨b=w.heap.size∧False)∨b=w.heap.size+1∧False)=M at c2 t2;have tW:=t1.trans t2;let rec' (s:β):Loop:=vB fn a.tmps ps assign body w.heap.size (pend s);let T' (s:β):List bC:=T s++[bC.obj (w.heap.size+1) (.loop (rec' s)),bC.obj w.heap.size (.deferred (some [])),bC.since w m]
 have hT0:(T' s0).Perm (.obj (w.heap.size+1) (.loop (vB fn a.tmps ps assign body w.heap.size none))::bC.obj w.heap.size (.deferred (some []))::T s0++[bC.since w m]):=by
  simp only[T',rec',hs0];refine amR.trans ?_;simp only[List.cons_append,List.nil_append];refine List.Perm.cons _ (List.Perm.cons _ ?_);exact(amR (l₁:=[bC.since w m]) (l₂:=T s0))
 have cT:Conc W M (T' s0):=by
  refine Conc.perm hT0.symm ?_;refine⟨fun r hr=>?_,?_,c2.wf,c2.rR⟩
  ·rcases aji.1 hr with h|h
   ·exact c2.each r h
   ·rw[ala]at h;subst h;exact tW.le
  ·have:=c2.apart;simpa[lq,bC.fp]using this
 have tT:Trans w m (T s0) W M (T' s0):=by
  refine Trans.perm (.refl _) hT0.symm ⟨tW.os,tW.tape,tW.output,tW.size,tW.le,tW.keep,fun b hb=>tW.fresh b ?_,tW.drawn⟩;simpa[lq,bC.fp]using hb
 refine⟨w.heap.size+1,[vF w.heap.size],W,{target:=.fn (.func gf) cs.toArray,args:=#[.func (.yield (w.heap.size+1)) #[] #[]]},W,gf,
  #[.func (.yield (w.heap.size+1)) #[] #[]]++cs.toArray,W,?_,?_,fun _ _=>trivial,?_,fun hh=>by simp[Fence.wide]at hh,?_⟩
 ·rw[←hW];exact run_enterLoop_outer _ _ _ _ _
 ·simp only[resolve,hcv];simp[go_sem]
 ·simp only[invoke];rw[rE hp]
 ·refine an7.2 ?_;have hac:=hit (w.heap.size+1) T' ?_
  ·have hcs':bA W M (.val (.func (.yield (w.heap.size+1)) #[] #[])::caps) (.func (.yield (w.heap.size+1)) #[] #[]::cs):=bA.cons (by simp[dP]) (bA.mono tW.le _ _ hcs);have:=hac W M _ cT hcs';rw[show (Value.func (.yield (w.heap.size+1)) #[] #[]::cs).toArray=#[.func (.yield (w.heap.size+1)) #[] #[]]++cs.toArray from by apply Array.ext';simp]at this;refine this.mono ?_;rintro e w' ⟨out,σ',m',⟨⟨p,rfl⟩,rfl⟩,⟨v,rfl,hv⟩,hc',ht'⟩;have hi:(T' s1)[(T s1).length]?=some (.obj (w.heap.size+1) (.loop (rec' s1))):=by simp[T']
   obtain⟨hb,_⟩:=hc'.each _ (ahq hi);obtain⟨k1,k2⟩:=wY (o':=.loop {rec' s1 with state:=.exhausted}) hc' hi
   have hsub:(T s1++[bC.obj w.heap.size (.deferred (some []))]).Sublist ((T' s1).set (T s1).length (.obj (w.heap.size+1) (.loop {rec' s1 with state:=.exhausted}))):=by
    simp only[T'];rw[anN _ _ (ahi _),anU];refine List.Sublist.append (List.Sublist.refl _) ?_;simp only[List.set_cons_zero];exact .cons _ (.cons_cons _ (.cons _ .slnil))
   have k3:=k1.sub hsub;have k4:=(tT.trans (ht'.trans k2)).sub hsub
   have hse:∀todo,qx (w'.putObj (w.heap.size+1) (.loop {rec' s1 with state:=.exhausted})) m' n env (T s1++[bC.obj w.heap.size (.deferred (some []))]) (vF w.heap.size::ds) {a with defers:=todo}∨todo≠[vF w.heap.size]++a.defers:=by
    intro todo;by_cases e:todo=[vF w.heap.size]++a.defers
    ·subst e;exact .inl ⟨hs.size,by simp[hs.ds],hs.env.mono k4.le,k3⟩
    ·exact .inr e
   have hse:=(hse ([vF w.heap.size]++a.defers)).resolve_right (by simp);refine⟨codeOf (pend s1),w'.putObj (w.heap.size+1) (.loop {rec' s1 with state:=.exhausted}),?_,?_⟩
   ·have:=run_endLoop (P:=P) (w:=w') (l:=w.heap.size+1) (r:=rec' s1) hb (by simp only[rec',vB];split<;>simp);exact this
   ·have hqD:=hq w.heap.size;cases hpe:pend s1 with
    | none=>
     rw[hpe]at hqD;exact ha .normal _ env _ _ _ _ m' hqD rfl hse k4
    | some x=>
     rw[hpe]at hqD;cases x with
     | ret=>exact wpIn_ret (ha .ret _ env _ _ _ _ m' hqD rfl hse k4)
     | exit id=>exact wpIn_exit (ha (.exit id) _ env _ _ _ _ m' hqD rfl hse k4)
     | normal=>exact hqD.elim
     | panic p=>exact hqD.elim
  ·
   intro s x b s' hy w1 m1 vs hc1 hv1;obtain⟨akI,aa2⟩:=round (w.heap.size+1) s x b s' hy;have hi:(T' s)[(T s).length]?=some (.obj (w.heap.size+1) (.loop (rec' s))):=by simp[T']
   obtain⟨hb1,_⟩:=hc1.each _ (ahq hi);have aa0:Le w m w1 m1:=hc1.each (.since w m) (by simp[T']);have hvl:=hv1.length_eq
   have hsz':vs.toArray.size=(rec' s).params.size:=by
    simp only[rec',vB,amO];rw[hvl,henc x];simp
   have hyr:=run_yield (P:=P) hb1 hsz';refine⟨_,_,_,_,hyr,?_⟩;refine roundIn_of_wpIn trivial ?_
   have af9:((rec' s).params.zip vs.toArray).foldl (fun tmps (t,a)=>tmps.setIfInBounds t a) (rec' s).tmps=(ps.toList.zip vs).foldl (fun t (p,v)=>t.setIfInBounds p v) a.tmps:=by
    simp only[rec',vB];rw[←Array.foldl_toList,Array.toList_zip]
   obtain⟨hb2,hb3⟩:=M7 (n:=n) (ts:=ps.toList) hs.size (fun t ht=>hps t ht) hv1 (hs.env.mono aa0);have hA:=qA.frame (τ:=[bC.obj (w.heap.size+1) (.loop (rec' s)),bC.obj w.heap.size (.deferred (some [])),bC.since w m]) aa2;refine hA w1 m1 _ _ ⟨?_,rfl,?_,hc1⟩ ?_
   ·rw[af9];exact hb3
   ·rw[af9];exact hb2
   ·rintro ax ex e2 σ2 d2 a2 w2 m2 ⟨Qb,rfl,rfl,hbody⟩ hx hs2 ht2;cases hx;have hi2:(Qb++[bC.obj (w.heap.size+1) (.loop (rec' s)),bC.obj w.heap.size (.deferred (some [])),bC.since w m])[Qb.length]?=some (.obj (w.heap.size+1) (.loop (rec' s))):=by simp
    obtain⟨hb4,_⟩:=hs2.iW.each _ (ahq hi2);have Sb:(rec' s).state=.ready:=by simp[rec',vB,akI,codeOf]
    refine⟨_,run_beginRound hb4 Sb,?_⟩;obtain⟨k1,k2⟩:=wY (o':=.loop {rec' s with state:=.busy}) hs2.iW hi2
    have hset:(Qb++[bC.obj (w.heap.size+1) (.loop (rec' s)),bC.obj w.heap.size (.deferred (some [])),bC.since w m]).set Qb.length (.obj (w.heap.size+1) (.loop {rec' s with state:=.busy}))=
      Qb++[bC.obj (w.heap.size+1) (.loop {rec' s with state:=.busy}),bC.obj w.heap.size (.deferred (some [])),bC.since w m]:=by
     rw[anN _ _ (ahi _),anU];rfl
    rw[hset]at k1 k2;have hB:=qA.frame (τ:=[bC.obj (w.heap.size+1) (.loop {rec' s with state:=.busy}),bC.obj w.heap.size (.deferred (some [])),bC.since w m]) hbody;refine hB _ m2 a2 _ ⟨hs2.size,hs2.ds,hs2.env.mono k2.le,k1⟩ ?_;rintro ax3 ex3 e3 σ3 d3 a3 w3 m3 ⟨MN,rfl,hd3,af_,hend⟩ hx3 hs3 ht3;have hi3:(MN++[bC.obj (w.heap.size+1) (.loop {rec' s with state:=.busy}),bC.obj w.heap.size (.deferred (some [])),bC.since w m])[MN.length]?=some (.obj (w.heap.size+1) (.loop {rec' s with state:=.busy})):=by simp
    obtain⟨hb5,_⟩:=hs3.iW.each _ (ahq hi3)
    have fin:∀jump:Option Code,jump=codeOf (pend s')→b=jump.isNone→∃v w',(Instr.endRound (w.heap.size+1) jump).run P w3=.ok v w'∧∃out σ' m',(out=eP.ret (.bool b)∧σ'=T' s')∧AP w' m' out (.returned v)∧Conc w' m' σ'∧Trans w1 m1 (T' s) w' m' σ':=by
     intro jump hj hbj;refine⟨_,_,run_endRound jump hb5,.ret (.bool b),T' s',m3,⟨rfl,rfl⟩,⟨_,rfl,by simp[dP,hbj]⟩,?_⟩;obtain⟨q1,q2⟩:=wY (o':=.loop {rec' s with state:=if jump.isNone then .ready else .done,pending:=jump}) hs3.iW hi3
     have hrec:({rec' s with state:=if jump.isNone then .ready else .done,pending:=jump}:Loop)=rec' s':=by
      simp only[rec',vB,hj]
     have aga:(MN++[bC.obj (w.heap.size+1) (.loop {rec' s with state:=.busy}),bC.obj w.heap.size (.deferred (some [])),bC.since w m]).set MN.length (.obj (w.heap.size+1) (.loop {rec' s with state:=if jump.isNone then .ready else .done,pending:=jump}))=
       MN++[bC.obj (w.heap.size+1) (.loop (rec' s')),bC.obj w.heap.size (.deferred (some [])),bC.since w m]:=by
      rw[anN _ _ (ahi _),anU,hrec];rfl
     rw[aga]at q1 q2;have hsub:(T' s').Sublist (MN++[bC.obj (w.heap.size+1) (.loop (rec' s')),bC.obj w.heap.size (.deferred (some [])),bC.since w m]):=List.Sublist.append af_ (List.Sublist.refl _);exact⟨q1.sub hsub,(ht2.trans (k2.trans (ht3.trans q2))).sub hsub⟩
    cases ax3 with
    | normal=>
     cases hx3;obtain⟨h5,h6⟩:=hend;exact fin none (by rw[h6];rfl) (by rw[h5];rfl)
    | ret=>
     cases hx3;obtain⟨h5,h6⟩:=hend;exact fin (some .ret) (by rw[h6];rfl) (by rw[h5];rfl)
    | exit id=>
     cases hx3;obtain⟨h5,h6⟩:=hend;exact fin (some (.exit id)) (by rw[h6];rfl) (by rw[h5];rfl)
    | panic p=>exact hend.elim
end
end Go.Abs
namespace Go.Abs
variable [iD]
open Go
theorem LB{P:Program}{fn:Func}{rs:List ResultVar}{env:Env}{σ:List bC}{w:World}{m:jN}{tmps:Array Value}{ps:List PV}(hrs:fn.results.toList=rs)(he:Dr w m env tmps)(hc:Conc w m σ)(h1:Du P env σ rs ps):
  ∃v,(results fn tmps).run P w=.ok v w∧dP w m (lJ (ps.map PV.weak)) v:=by
 obtain⟨us,k1,k2⟩:=DF he hc h1;have hl2:=k2.length_eq
 have hrun:(results fn tmps).run P w=.ok (if h:us.toArray.size=1 then us.toArray[0]else .tuple us.toArray) w:=by
  unfold results;rw[Array.mapM_eq_mapM_toList,hrs];have k1':=k1;simp only[Sem.run_bind,Sem.run_map]
  erw [k1']
  rfl
 have k2:=k2.weak;have hl2:us.length=(ps.map PV.weak).length:=by simpa using hl2
 refine⟨_,hrun,?_⟩;clear h1 hrun;generalize ps.map PV.weak=ps at k2 hl2⊢
 match ps,us,k2,hl2 with
 | [],us,k2,hl2=>
  simp only[bA]at k2;subst k2;simp only[lJ,dP];exact⟨[],by simp,bA.nil⟩
 | [p],us,k2,hl2=>
  simp only[bA]at k2;obtain⟨v,vs',rfl,h3,rfl⟩:=k2;simpa[lJ]using h3
 | p::q::ps,us,k2,hl2=>
  rw[dif_neg (by simp[hl2])];simp only[lJ,dP];exact⟨us,rfl,k2⟩
def ak8(P:Program)(rs:List ResultVar)(R:eP→List bC→Prop):Post
 | .normal,e,s,d|.ret,e,s,d=>∃D s1,d=[vF D]∧s=s1++[.obj D (.deferred (some []))]∧∃ps,Du P e s1 rs ps∧∃s',s'.Sublist s1∧R (.ret (lJ (ps.map PV.weak))) s'
 | _,_,_,_=>False
theorem AC.J9{P:Program}{f:FuncId}{fn:Func}{c:Code}{args:List PV}{σ:List bC}{R:eP→List bC→Prop}(n:Nat)(rs:List ResultVar)(ts:List Nat){env:Env}
  (hf:P.funcs[f]?=some fn) (hb:fn.body=some c) (hn:fn.ntmps=n) (hl:Nat.ble args.length n=true) (hrs:fn.results.toList=rs) (KR:settle ts (zH 0 args)=some env)
  (h:AW P n c env σ [] (ak8 P rs R)):AC P f args σ R:=by
 intro w m vs hc hv;have hl:args.length≤n:=CF hl;have hvl:=hv.length_eq;refine an7.1 (callsIn_of_wp_marks (n:=0) hf hb trivial (wpIn_wide.2 ?_));refine h w m _ _ ⟨?_,rfl,?_,hc⟩ ?_
 ·simp[hvl,hn];omega
 ·have:=ze (List.replicate (fn.ntmps-vs.toArray.size) Go.undef) [] hv;rw[show vs.toArray++Array.replicate (fn.ntmps-vs.toArray.size) Go.undef=([]++vs++List.replicate (fn.ntmps-vs.toArray.size) Go.undef).toArray from by simp];exact Dr.settle KR this
 ·intro x ex env' σ' ds' a' w' m' hq hx hs ht
  have hend:∀D s1,ds'=[vF D]→σ'=s1++[.obj D (.deferred (some []))]→∀ps s',Du P env' s1 rs ps→s'.Sublist s1→R (.ret (lJ (ps.map PV.weak))) s'→
    LeavesInM Fence.wide 0 P fn a'.tmps (fun e w'=>∃out σ' m',R out σ'∧AP w' m' out e∧Conc w' m' σ'∧Trans w m σ w' m' σ') a'.defers .returning w':=by
   intro D s1 hd hs1 ps s' h1 hsub h2;subst hs1;rw[hs.ds,hd];have hi:(s1++[bC.obj D (.deferred (some []))])[s1.length]?=some (.obj D (.deferred (some []))):=by simp
   obtain⟨hbD,_⟩:=hs.iW.each _ (ahq hi);obtain⟨k1,k2⟩:=wY (o':=.deferred Option.none) hs.iW hi
   have hset:(s1++[bC.obj D (.deferred (some []))]).set s1.length (.obj D (.deferred Option.none))=s1++[.obj D (.deferred Option.none)]:=by
    rw[anN _ _ (ahi _),anU];rfl
   rw[hset]at k1 k2;refine⟨by simp,.inl ⟨D,_,rfl,run_takeDeferred hbD,?_⟩⟩;have k3:=k1.left;obtain⟨v,hv1,hv2⟩:=LB hrs (hs.env.mono k2.le) k3 h1;refine⟨v,hv1,.ret _,s',m',h2,⟨v,rfl,hv2⟩,k3.sub hsub,?_⟩;exact(ht.trans k2).sub (hsub.trans (List.sublist_append_left _ _))
  cases x with
  | normal=>cases hx;obtain⟨D,s1,hd,hs1,ps,h1,s',hsub,h2⟩:=hq;exact hend D s1 hd hs1 ps s' h1 hsub h2
  | ret=>cases hx;obtain⟨D,s1,hd,hs1,ps,h1,s',hsub,h2⟩:=hq;exact hend D s1 hd hs1 ps s' h1 hsub h2
  | exit id=>exact hq.elim
  | panic p=>exact hq.elim
theorem abG{w:World}{m:jN}:∀ {vs cs:List Value},bA w m (vs.map PV.val) cs→cs=vs
 | [],cs,h=>by simpa[bA]using h
 | v::vs,cs,h=>by
  simp only[ahn,bA,dP]at h;obtain⟨u,us,rfl,h1,h2⟩:=h;rw[abG h2,h1]
theorem AR.defer{P:Program}{n:Nat}{env:Env}{σ:List bC}{ds:List Deferred}{Q:Post}{all:Array Oper}{rest:List Oper}{o:Oper}{c:Call}{NR:Operand}{g:FuncId}{vs:List Value}
  (hg:o.guard=Option.none) (hd:o.dst=Option.none) (ho:o.op=.defer c) (kR:c.callee=.value NR) (hargs:c.args=#[]) (hf:env.ev NR=.fn g (vs.map PV.val))
  (h:AR P n all rest env σ ({target:=.fn (.func g) vs.toArray,args:=#[]}::ds) Q):AR P n all (o::rest) env σ ds Q:=by
 intro w m a QC hs ha;refine wpList_plain hg fun K hK=>?_;have hcv:=hs.env.ev NR;rw[hf]at hcv;simp only[dP]at hcv;obtain⟨cs,hcv,hcs⟩:=hcv;have hcs':=abG hcs;subst hcs'
 have hrun:(execOp a.eval o).run P w=.ok (.defer {target:=.fn (.func g) cs.toArray,args:=#[]}) w:=by
  unfold execOp;simp[ho,resolve,kR,hcv,hargs,Deferred.ofValue]
 unfold Oper.wp;rw[hrun];refine hK _ _ (h w m _ QC ⟨?_,?_,?_,hs.iW⟩ ha)
 ·rw[hd];exact hs.size
 ·rw[hd];simp[Act.put,hs.ds]
 ·rw[hd];exact hs.env
def ak6(P:Program)(rs:List ResultVar)(R:eP→List bC→Prop)(g:FuncId)(nt t:Nat)(ops:List Oper)(o:Oper)(X:Code)(vs:List Value)(aa_:Env):Post
 | .normal,e,s,d|.ret,e,s,d=>d=[{target:=.fn (.func g) vs.toArray,args:=#[]}]∧
   AR P nt (o::ops).toArray ops ((t,.val .nilIface)::aa_) s [] (AX.then (fun e' s d=>AW P nt X e' s d (QD fun s'=>∃ps,Du P e s' rs ps∧∃s'',s''.Sublist s'∧R (.ret (lJ (ps.map PV.weak))) s'')) (QD fun s'=>∃ps,Du P e s' rs ps∧∃s'',s''.Sublist s'∧R (.ret (lJ (ps.map PV.weak))) s''))
 | .panic p,e,s,d=>d=[{target:=.fn (.func g) vs.toArray,args:=#[]}]∧
   AR P nt (o::ops).toArray ops ((t,p)::aa_) s [] (AX.then (fun e' s d=>AW P nt X e' s d (QD fun s'=>∃ps,Du P e s' rs ps∧∃s'',s''.Sublist s'∧R (.ret (lJ (ps.map PV.weak))) s'')) (QD fun s'=>∃ps,Du P e s' rs ps∧∃s'',s''.Sublist s'∧R (.ret (lJ (ps.map PV.weak))) s''))
 | _,_,_,_=>False
theorem Yv(w:World)(m:jN):∀vs:List Value,bA w m (vs.map PV.val) vs
 | []=>bA.nil
 | v::vs=>bA.cons (by simp[dP]) (Yv w m vs)
theorem AC.OH{P:Program}{f g:FuncId}{fn fd:Func}{c X:Code}{args:List PV}{σ:List bC}{R:eP→List bC→Prop}{id nt t:Nat}{ops:List Oper}{o:Oper}(n:Nat)(rs:List ResultVar)(ts td:List Nat){env:Env}
  (hf:P.funcs[f]?=some fn) (hb:fn.body=some c) (hn:fn.ntmps=n) (hl:Nat.ble args.length n=true) (hrs:fn.results.toList=rs) (KR:settle ts (zH 0 args)=some env)
  (hfd:P.funcs[g]?=some fd) (hbd:fd.body=some (.seq (.region id (o::ops).toArray false) X)) (hnd:fd.ntmps=nt) (hrsd:fd.results.toList=[])
  (hg:o.guard=Option.none) (ho:isRecover o=true) (hd:o.dst=some t) (ht:Nat.blt t nt=true) (hp:bN P g=true)
  (h:AW P n c env σ [] (fun x e s d=>∃vs aa_,Nat.ble vs.length nt=true∧settle td (zH 0 (vs.map PV.val))=some aa_∧ak6 P rs R g nt t ops o X vs aa_ x e s d)):AC P f args σ R:=by
 intro w m us hc hv;have hl:args.length≤n:=CF hl;have hvl:=hv.length_eq;refine calls_of_wp_defers hf hb ?_;refine h w m _ _ ⟨?_,rfl,?_,hc⟩ ?_
 ·simp[hvl,hn];omega
 ·have:=ze (List.replicate (fn.ntmps-us.toArray.size) Go.undef) [] hv;rw[show us.toArray++Array.replicate (fn.ntmps-us.toArray.size) Go.undef=([]++us++List.replicate (fn.ntmps-us.toArray.size) Go.undef).toArray from by simp];exact Dr.settle KR this
 ·intro x ex env' σ' ds' a' w' m' hq hx hs htr;obtain⟨vs,aa_,hvn,amf,hq⟩:=hq
  have key:∀(q:Option Value) (p:PV),(match q with|Option.none=>p=.val .nilIface|some v=>dP w' m' p v)→ds'=[{target:=.fn (.func g) vs.toArray,args:=#[]}]→
    AR P nt (o::ops).toArray ops ((t,p)::aa_) σ' [] (AX.then (fun e' s d=>AW P nt X e' s d (QD fun s'=>∃ps,Du P env' s' rs ps∧∃s'',s''.Sublist s'∧R (.ret (lJ (ps.map PV.weak))) s'')) (QD fun s'=>∃ps,Du P env' s' rs ps∧∃s'',s''.Sublist s'∧R (.ret (lJ (ps.map PV.weak))) s''))→
    Leaves P fn a'.tmps (fun e w'=>∃out σ' m',R out σ'∧AP w' m' out e∧Conc w' m' σ'∧Trans w m σ w' m' σ') a'.defers (LJ q) w':=by
   intro q p hqp hds har;rw[hs.ds,hds];refine leaves_cons (f:=g) (args:=vs.toArray) (by cases q<;>simp[LJ]) ?_ ?_
   ·simp only[invoke];rw[rE hp];simp
   ·refine CallsD.mono (CD.rec (args:=vs.map PV.val) td hfd hbd hnd (by simpa using hvn) hrsd amf hg ho hd ht har w' m' vs q hqp hs.iW (Yv w' m' vs)) ?_;rintro e u' w2 ⟨rfl,rfl,σ2,m2,⟨ps,h1,s'',hsub,h2⟩,hc2,ht2⟩;obtain⟨v,hv1,hv2⟩:=LB hrs (hs.env.mono ht2.le) hc2 h1;have hset:Go.settle (Cx q)=.returning:=by cases q<;>simp[Cx,Go.settle]
    simp only[hset];exact⟨v,hv1,.ret _,s'',m2,h2,⟨v,rfl,hv2⟩,hc2.sub hsub,(htr.trans ht2).sub hsub⟩
  cases x with
  | normal=>cases hx;exact key Option.none _ rfl hq.1 hq.2
  | ret=>cases hx;exact key Option.none _ rfl hq.1 hq.2
  | exit id=>exact hq.elim
  | panic p=>
   obtain⟨v,rfl,hv'⟩:=hx;exact key (some v) p hv' hq.1 hq.2
theorem Ql{w:World}{m:jN}{σ:List bC}{i b:Nat}{cs:List PV}(hi:σ[i]?=some (.box b cs))(hc:Conc w m σ):Conc w m (σ.set i (.box b (cs.map PV.vv)))∧Trans w m σ w m (σ.set i (.box b (cs.map PV.vv))):=by
 have hf:lq (σ.set i (.box b (cs.map PV.vv)))=lq σ:=by
  clear hc
  induction σ generalizing i with
  | nil=>rfl
  | cons r σ ih=>
   cases i with
   | zero=>
    simp only[anS,bX]at hi;subst hi;simp[lq,bC.fp]
   | succ i=>
    simp only[anV]at hi;have:=ih hi;simp only[lq,alp,ajn]at this⊢;rw[this]
 refine⟨⟨fun r hr=>?_,by rw[hf];exact hc.apart,hc.wf,hc.rR⟩,⟨rfl,rfl,rfl,ahi _,Le.refl _ _,fun _ _ _=>⟨rfl,fun _ h=>h⟩,fun x hx=>.inl (by rw[←hf];exact hx),fun _=>ahi _⟩⟩;rcases anY hr with h|h
 ·exact hc.each r h
 ·subst h;obtain⟨vs,ty,h1,h2,h3⟩:=hc.each _ (ahq hi);exact⟨vs,ty,h1,h2.vv,h3⟩
section
variable {P : Program} {n : Nat} {env : Env} {σ : List bC} {ds : List Deferred} {Q : Post} {all : Array Oper} {l : List Oper}
theorem AR.X0(i:Nat){b:Nat}{cs:List PV}(hi:σ[i]?=some (.box b cs))(h:AR P n all l env (σ.set i (.box b (cs.map PV.vv))) ds Q):AR P n all l env σ ds Q:=by
 intro w m a QC hs ha;obtain⟨k1,k2⟩:=Ql hi hs.iW;exact h w m a QC ⟨hs.size,hs.ds,hs.env,k1⟩ (ha.step k2)
theorem AW.X0{c:Code}(i:Nat){b:Nat}{cs:List PV}(hi:σ[i]?=some (.box b cs))(h:AW P n c env (σ.set i (.box b (cs.map PV.vv))) ds Q):AW P n c env σ ds Q:=by
 intro w m a QC hs ha;obtain⟨k1,k2⟩:=Ql hi hs.iW;exact h w m a QC ⟨hs.size,hs.ds,hs.env,k1⟩ (ha.step k2)
end
section
variable {P : Program} {o : Oper} {ρ : Operand → PV} {σ : List bC} {R S : PV → List bC → Prop}
theorem AO.abP{x:Operand}{xt t:TypeId}{p:PV}(ho:o.op=.typeAssert x xt t true)(hx:ρ x=.iface t p)(hrun:∀v w,(Instr.typeAssert (.iface t v) xt t true).run P w=.ok (.tuple #[v,.bool true]) w)
  (hR:R (.tuple [p,.bool true]) σ):AO P o ρ σ R S:=by
 refine AO.of_same hR fun w m ev hr hc=>?_;have h1:=hr x (by simp[ho,Op.operands]);rw[hx]at h1;simp only[dP]at h1;obtain⟨v,h1,h2⟩:=h1;refine⟨.tuple #[v,.bool true],?_,?_⟩
 ·simp only[execOp,ho,h1,Sem.run_bind,hrun,bJ,fM]
 ·simp only[dP];exact⟨[v,.bool true],rfl,bA.cons h2 (bA.cons (by simp[dP]) bA.nil)⟩
theorem AO.Yf{x:Operand}{xt t:TypeId}{p:PV}{z:Value}(ho:o.op=.typeAssert x xt t true)(hx:ρ x=.val .nilIface)(hrun:∀w,(Instr.typeAssert .nilIface xt t true).run P w=.ok (.tuple #[z,.bool false]) w)
  (hz:∀w m,dP w m p z) (hR:R (.tuple [p,.bool false]) σ):AO P o ρ σ R S:=by
 refine AO.of_same hR fun w m ev hr hc=>?_;have h1:=hr x (by simp[ho,Op.operands]);rw[hx]at h1;simp only[dP]at h1;refine⟨.tuple #[z,.bool false],?_,?_⟩
 ·simp only[execOp,ho,h1,Sem.run_bind,hrun,bJ,fM]
 ·simp only[dP];exact⟨[z,.bool false],rfl,bA.cons (hz w m) (bA.cons (by simp[dP]) bA.nil)⟩
end
end Go.Abs
namespace Go.Abs
variable [iD]
open Go
section
variable {P : Program} {n : Nat} {all : Array Oper} {l : List Oper} {env : Env} {σ : List bC} {ds : List Deferred} {Q : Post} {c : Code}
def AB:List bC→Nat→Option (List bC)
 | [],_=>none
 | _::σ,0=>some σ
 | r::σ,i+1=>match AB σ i with
  | some σ'=>some (r::σ')
  | none=>none
theorem F4:∀ {σ σ':List bC} {i:Nat},AB σ i=some σ'→σ'.Sublist σ
 | [],_,_,h=>by cases h
 | r::σ,_,0,h=>by simp only[AB,bX]at h;subst h;exact am2 _ _
 | r::σ,σ',i+1,h=>by
  simp only[AB]at h;split at h
  ·rename_i t ht;simp only[bX]at h;subst h;exact(F4 ht).cons_cons r
  ·cases h
theorem AR.ags(i:Nat){σ':List bC}(he:AB σ i=some σ')(h:AR P n all l env σ' ds Q):AR P n all l env σ ds Q:=
 fun w m a QC sw ha=>h w m a QC ⟨sw.size,sw.ds,sw.env,sw.iW.sub (F4 he)⟩ (ha.step (Trans.sub (Trans.refl w m σ) (F4 he)))
theorem AW.ags(i:Nat){σ':List bC}(he:AB σ i=some σ')(h:AW P n c env σ' ds Q):AW P n c env σ ds Q:=AW.drop _ (F4 he) h
end
end Go.Abs
namespace Go.Abs
variable [iD]
open Go Go.Proofs Go.Sort Go.Lib Go.Shelf
theorem Qz{w:World}{m:jN}:∀ {l:List (List UInt8)} {xs:List Value},bA w m (l.map PV.str) xs→xs=l.map fun s=>Value.string ⟨s.toArray⟩
 | [],xs,h=>by simpa only[List.map_nil,bA]using h
 | s::l,xs,h=>by
  simp only[ahn,bA]at h;obtain⟨v,vs,rfl,h1,h2⟩:=h;simp only[dP]at h1;rw[h1,Qz h2,ahn]
theorem QO{w:World}{m:jN}:∀l:List (List UInt8),bA w m (l.map PV.str) (l.map fun s=>Value.string ⟨s.toArray⟩)
 | []=>bA.nil
 | s::l=>bA.cons (by simp[dP]) (QO l)
@[reducible] def Mk:iD:={G:=fun _ _=>True,mono:=fun _ h=>h,D:=True}
theorem Trans.grown(hD:iD.D){w w':World}{m m':jN}{σ':List bC}(h:Trans w m [] w' m' σ'):∃q os,w'=Sort.grow (w.drewN q) os:=by
 refine⟨w'.drawn-w.drawn,w'.heap.extract w.heap.size w'.heap.size,?_⟩;have h1:=h.os;have h2:=h.tape;have h3:=h.output;have h4:=h.drawn hD;have h5:=h.size;have h6:=h.keep;cases w';cases w;simp only[World.drewN,Sort.grow]at *;subst h1 h2 h3;congr 1
 ·apply Array.ext_getElem?;intro k;rw[Array.getElem?_append];split
  ·rename_i hk;exact(h6 k hk (by simp[lq])).1
  ·rename_i hk;rw[Array.getElem?_extract];split
   ·congr 1;omega
   ·rw[ahf (by omega)]
 ·omega
abbrev rD:Type:={s:List UInt8 // s.length<4611686018427387904}
instance : Inhabited rD:=⟨⟨[],by decide⟩⟩
def IU(s:rD):Value:=.string ⟨s.1.toArray⟩
theorem RU:∀ {l:List (List UInt8)},(∀s∈l,s.length<4611686018427387904)→∃k:List rD,k.map (·.1)=l
 | [],_=>⟨[],rfl⟩
 | s::l,h=>by
  obtain⟨k,hk⟩:=RU (l:=l) fun x hx=>h x (List.mem_cons_of_mem _ hx);exact⟨⟨s,h s List.mem_cons_self⟩::k,by rw[ahn,hk]⟩
theorem Uh(f:List UInt8→List UInt8→Bool)(k:List rD):(k.mergeSort fun x y=>f x.1 y.1).map (·.1)=(k.map (·.1)).mergeSort f:=by
 rw[List.map_mergeSort (r:=fun x y:rD=>f x.1 y.1) (s:=f)];intro a _ b _;rfl
theorem LA{w:World}{m:jN}{g:Nat}{α:Type}[Inhabited α](enc:α→Value)(dk:Array α)(q:Nat)(os:Array Obj)(hm:∀off,¬m g off)(hwf:∀b off,m b off→b<w.heap.size):
  Le w m (Sort.grow (putRow enc (Sort.ahead w q) g 0 dk) os) m∧w.heap.size≤(Sort.grow (putRow enc (Sort.ahead w q) g 0 dk) os).heap.size:=by
 refine⟨fun b off hb=>⟨hb,?_⟩,by simp⟩;have hlt:=hwf b off hb;have hne:b≠g:=fun h=>hm off (h ▸ hb)
 have:(Sort.grow (putRow enc (Sort.ahead w q) g 0 dk) os).heap[b]?=w.heap[b]?:=by
  rw[heap_grow_old _ _ (by simpa using hlt)];show (w.heap.modify g _)[b]?=_;rw[anQ,akJ (Ne.symm hne)]
 simp only[World.cell?,this]
theorem acI{w:World}{m:jN}{g n cap:Nat}{e:TypeId}{l l':List (List UInt8)}{cur:Array Value}{fz:Nat × Nat}{α:Type}[Inhabited α](enc:α→Value)(dk:Array α)(q:Nat)(os:Array Obj)
  (hc:Conc w m [.buf (.slice (some ⟨g,0,none⟩) n cap) n 1 e (l.map PV.str)]) (hg:w.heap[g]?=some (.cells cur e fz)) (hfz:fz.1=fz.2∨cur.size≤fz.1) (hn:n≤cap) (hcap:cap≤maxLen) (hcur:cur.size=cap*1)
  (hm:∀off,¬m g off) (hdk:dk.size≤cap) {n':Nat} (hn':n'≤n) (hl':l'.length=n') (hput:(Go.Sort.putCells enc 0 dk cur).toList.take n'=l'.map fun s=>Value.string ⟨s.toArray⟩):
  let w':=Sort.grow (putRow enc (Sort.ahead w q) g 0 dk) os
  Conc w' m [.buf (.slice (some ⟨g,0,none⟩) n' cap) n' 1 e (l'.map PV.str)]∧Trans w m [.buf (.slice (some ⟨g,0,none⟩) n cap) n 1 e (l.map PV.str)] w' m [.buf (.slice (some ⟨g,0,none⟩) n' cap) n' 1 e (l'.map PV.str)]:=by
 intro w'
 have hgs:g<w.heap.size:=by
  rcases gK g w.heap.size with h|h
  ·exact h
  ·rw[ahf h]at hg;cases hg
 have hold:∀b,b<w.heap.size→b≠g→w'.heap[b]?=w.heap[b]?:=by
  intro b hb hne;show (Sort.grow _ _).heap[b]?=_;rw[heap_grow_old _ _ (by simpa using hb)];show (w.heap.modify g _)[b]?=_;rw[anQ,akJ (Ne.symm hne)]
 have hnew:w'.heap[g]?=some (.cells (Go.Sort.putCells enc 0 dk cur) e fz):=by
  show (Sort.grow _ _).heap[g]?=_;rw[heap_grow_old _ _ (by simpa using hgs)];show (w.heap.modify g _)[g]?=_;rw[anQ,alm rfl,hg];rfl
 have hle:Le w m w' m:=by
  intro b off hb;have hlt:=hc.wf b off hb;have hne:b≠g:=fun h=>hm off (h ▸ hb);refine⟨hb,?_⟩;simp only[World.cell?,hold b hlt hne]
 have hsz:w.heap.size≤w'.heap.size:=by
  show w.heap.size≤(Sort.grow _ _).heap.size;simp
 refine⟨⟨?_,?_,?_,iD.mono hle hc.rR⟩,⟨rfl,rfl,rfl,hsz,hle,?_,?_,?_⟩⟩
 ·intro r hr;simp only[ala]at hr;subst hr;refine⟨_,⟨?_,.inr ⟨g,cap,_,fz,rfl,hnew,?_,by omega,hcap,?_,?_⟩⟩,QO l',?_⟩
  ·simp[hl']
  ·simpa[Go.Sort.putCells]using hfz
  ·simpa[Go.Sort.putCells]using hcur
  ·simpa using hput
  ·intro b hb off;simp only[Value.ownBlock,bX]at hb;subst hb;exact hm off
 ·simp[lq,bC.fp,Value.ownBlock]
 ·intro b off hb;have:=hc.wf b off hb;omega
 ·intro b hb hf;have hne:b≠g:=fun h=>hf (by subst h;simp[lq,bC.fp,Value.ownBlock]);exact⟨hold b hb hne,fun _ h=>h⟩
 ·intro b hb;left;simpa[lq,bC.fp,Value.ownBlock]using hb
 ·intro _;show w.drawn≤w.drawn+q;omega
theorem AC.aeZ{P:Program}{ρ:Ren}(L:SlLaysF.n6 P ρ){g:FuncId}(hp:bN P g=true){cf:List UInt8→List UInt8→Int}
  (hcmp:∀a b:List UInt8,a.length<4611686018427387904→b.length<4611686018427387904→@AC Mk P g [.str a,.str b] [] fun out _=>out=.ret (.int .i64 (cf a b)))
  (hS:SWO (ltOf fun a b:rD=>cf a.1 b.1)) (hT:∀x y:rD,cf x.1 y.1 ≥ 0→cf y.1 x.1 ≥ 0→x.1=y.1)
  {l:List (List UInt8)} (hl:∀s∈l,s.length<4611686018427387904) (hb:l.length<4611686018427387904) {v:Value} {e:TypeId} {R:eP→List bC→Prop}
  (h:R (.ret (.tuple [])) [.buf v (l.mergeSort fun x y=>!decide (cf y x<0)).length 1 e ((l.mergeSort fun x y=>!decide (cf y x<0)).map PV.str)]):
  AC P (ρ.f 6) [.val v,.fn g []] [.buf v l.length 1 e (l.map PV.str)] R:=by
 rw[anX]at h;intro w m vs hc hv;simp only[bA,dP]at hv;obtain⟨v0,vs0,rfl,rfl,v1,vs1,rfl,⟨cs,rfl,rfl⟩,rfl⟩:=hv;obtain⟨xs,⟨hx1,hx2⟩,hrep,hm⟩:=hc.each _ (ala.2 rfl);have hxs:=Qz hrep;rcases hx2 with⟨rfl,hn⟩|⟨gb,cap,cur,fz,rfl,hg,hfz,hn,hcap,hcur,htake⟩
 ·have hl0:l=[]:=ZR hn;subst hl0;refine(AnyF.slices_SortFunc_none (P:=P) (ρ:=ρ) {L with} Option.none 0 (.func (.func g) #[] #[]) w).mono ?_;rintro en w' ⟨rfl,rfl⟩;have hnil:([]:List (List UInt8)).mergeSort (fun x y=>!decide (cf y x<0))=[]:=by simp
  rw[hnil]at h;exact⟨_,_,m,h,⟨_,rfl,by simp only[dP];exact⟨[],rfl,bA.nil⟩⟩,hc,Trans.refl _ _ _⟩
 ·obtain⟨k,hk⟩:=RU hl;have hkl:k.length=l.length:=by rw[←hk];simp
  have hgs:gb<w.heap.size:=by
   rcases gK gb w.heap.size with h|h
   ·exact h
   ·rw[ahf h]at hg;cases hg
  have hm':∀off,¬m gb off:=hm gb rfl
  have hcell:∀j (hj:j<l.length),cur[j]?=some (.string ⟨(l[j]).toArray⟩):=by
   intro j hj;have:(cur.toList.take (l.length*1))[j]?=xs[j]?:=by rw[htake]
   rw[amL,alm (by omega),hxs]at this;rw[←anM,this];simp[hj]
  have hH:Holds IU w gb 0 k.toArray:=by
   intro j hj;have hj':j<l.length:=by simpa[hkl]using hj
   refine⟨?_,?_⟩
   ·simp only[World.cell?,hg,ajD];rw[akJ (by simp),hcell j hj'];congr 1;rw[anR k.toArray j hj];unfold IU;congr 3;have:(k.map (·.1))[j]?=l[j]?:=by rw[hk]
    simpa[hj',hkl]using this.symm
   ·simp only[World.frozen?,hg];rcases hfz with h|h
    ·rcases fz with⟨a,b⟩;simp only at h⊢;subst h;simp only[anT,anL];omega
    ·rcases fz with⟨a,b⟩;simp only at h⊢;simp only[anT,anL];omega
  have agb:CmpLays1 P g #[] IU (fun a b:rD=>cf a.1 b.1) gb 0 k.toArray.size w:=by
   intro m0 os dk _ x y;refine(hcmp x.1 y.1 x.2 y.2 (sortWorld IU w gb 0 m0 dk os) (fun _ _=>False) [IU x,IU y] (@Conc.mk Mk _ _ _ (fun r hr=>by simp at hr) (by simp[lq]) (fun _ _ h=>h.elim) trivial) (bA.cons (by simp[dP,IU]) (bA.cons (by simp[dP,IU]) bA.nil))).mono ?_;rintro en w' ⟨out,σ',m',rfl,hout,_,ht⟩;obtain⟨r,rfl,hr⟩:=hout;simp only[dP]at hr;exact⟨by rw[hr],@Trans.grown Mk trivial _ _ _ _ _ ht⟩
  have key:=Any.slices_SortFunc_total L IU (fun x=>rfl) (fun a b:rD=>cf a.1 b.1) hS g #[] gb 0 cap k.toArray w (rE hp) agb hH hgs (by simpa[hkl]using hb)
   (fun x y h1 h2=>Subtype.ext (hT x y (by simpa[ltOf]using h1) (by simpa[ltOf]using h2)))
  have e0:k.toArray.size=l.length:=by simpa using hkl
  rw[e0]at key;refine key.mono ?_;rintro en w' ⟨rfl,q,os,rfl⟩
  have hms:(k.mergeSort fun x y=>!(ltOf (fun a b:rD=>cf a.1 b.1)) y x).map (·.1)=l.mergeSort fun x y=>!decide (cf y x<0):=by
   rw[←hk];exact Uh (fun x y=>!decide (cf y x<0)) k
  have hlen:(k.mergeSort fun x y=>!(ltOf (fun a b:rD=>cf a.1 b.1)) y x).length=l.length:=by rw[anX,hkl]
  obtain⟨c1,c2⟩:=acI (l':=l.mergeSort fun x y=>!decide (cf y x<0)) IU (k.mergeSort fun x y=>!(ltOf (fun a b:rD=>cf a.1 b.1)) y x).toArray q os hc hg hfz hn hcap hcur hm' (by simpa[hlen]using hn) (n':=l.length) (ahi _) (by simp) (by
   apply List.ext_getElem?;intro j;rw[←hms,amL];split
   ·rename_i hj;have h1:j<cur.size:=by omega
    simp only[Go.Sort.putCells,anM,an1,anP h1,anz];rw[alm ⟨an8 _,by simpa[hlen]using hj⟩];have h2:j<(k.mergeSort fun x y=>!(ltOf (fun a b:rD=>cf a.1 b.1)) y x).length:=by omega
    rw[Nat.sub_zero,anR _ j (by simpa using h2)];simp only[an4,List.getElem?_map,ahh h2,anz,IU,List.getElem_toArray,Function.comp_apply]
   ·rename_i hj
    rw[zf (by simp[hlen];omega)])
  exact⟨_,_,m,h,⟨_,rfl,by simp only[dP];exact⟨[],rfl,bA.nil⟩⟩,c1,c2⟩
end Go.Abs
namespace Go.Ft
open Go.Lib
theorem acy:∀(l:List Str) (x:Str),dd (l++[x])=if l.getLast?=some x then dd l else dd l++[x]
 | [],x=>by simp[dd]
 | [a],x=>by
  by_cases h:a=x<;>simp[dd,h]
 | a::b::l,x=>by
  have ih:=acy (b::l) x;simp only[List.cons_append]at ih⊢;simp only[dd];rw[ih];have:(a::b::l).getLast?=(b::l).getLast?:=by simp[List.getLast?_cons]
  rw[this];by_cases h:a=b<;>simp only[h,an2,amJ]<;>split<;>simp
theorem abg(l:List Str):Go.Lib.compact l=dd l:=by
 have key:∀m,m≤l.length→compactUpTo l.toArray m=dd (l.take m):=by
  intro m
  induction m with
  | zero=>intro _;simp[compactUpTo,dd]
  | succ m ih=>
   intro hm;have h1:l.take (m+1)=l.take m++[l[m]]:=by rw[List.take_succ_eq_append_getElem (by omega)]
   rw[h1,acy,←ih (by omega)];have e1:l.toArray[m]! =l[m]:=by rw[anR _ m (by simp;omega)];simp
   simp only[compactUpTo,List.range_succ,List.filter_append,List.map_append];by_cases h0:m=0
   ·subst h0;simp[keeps];rw[ahh (by omega)];rfl
   ·have e2:l.toArray[m-1]! =l[m-1]:=by rw[anR _ (m-1) (by simp;omega)];simp
    have e3:(l.take m).getLast?=some l[m-1]:=by
     rw[List.getLast?_eq_getElem?,al0,amD (by omega),amL,alm (by omega),ahh]
    by_cases hk:l[m]=l[m-1]
    ·have:keeps l.toArray m=false:=by simp only[keeps,e1,e2,hk];simp[h0]
     simp only[e3,hk,an2,List.filter_cons,this,anW,amJ,List.filter_nil,List.map_nil,List.append_nil]
    ·have:keeps l.toArray m=true:=by simp only[keeps,e1,e2];simp[hk]
     have hne:¬(some l[m-1]=some l[m]):=fun h=>hk (anA h).symm;simp only[e3,hne,amJ,List.filter_cons,this,an2,List.filter_nil,ahn,List.map_nil,e1]
 rw[Go.Lib.compact,key _ (ahi _),List.take_length]
end Go.Ft
namespace Go.Abs
variable [iD]
open Go Go.Proofs Go.Sort Go.Lib Go.Shelf
theorem agA:∀l:List Ft.Str,(Ft.dd l).length≤l.length
 | []=>by simp[Ft.dd]
 | [_]=>by simp[Ft.dd]
 | x::y::l=>by
  have:=agA (y::l);simp only[Ft.dd];split<;>simp only[ak9]at *<;>omega
theorem AC.agD{P:Program}{ρ:Ren}(L:Lays.n194 P ρ){l:List (List UInt8)}(hb:l.length≤9223372036854775807){v:Value}{e:TypeId}{R:eP→List bC→Prop}
  (h:∀v',R (.ret (.val v')) [.buf v' (Ft.dd l).length 1 e ((Ft.dd l).map PV.str)]):
  AC P (ρ.f 194) [.val v] [.buf v l.length 1 e (l.map PV.str)] R:=by
 intro w m vs hc hv;simp only[bA,dP]at hv;obtain⟨v0,vs0,rfl,rfl,rfl⟩:=hv;obtain⟨xs,⟨hx1,hx2⟩,hrep,hm⟩:=hc.each _ (ala.2 rfl);have hxs:=Qz hrep;rcases hx2 with⟨rfl,hn⟩|⟨gb,cap,cur,fz,rfl,hg,hfz,hn,hcap,hcur,htake⟩
 ·have hl0:l=[]:=ZR hn;subst hl0;refine(Any.slices_Compact_string_empty (P:=P) (ρ:=ρ) L Option.none 0 w).mono ?_;rintro en w' ⟨rfl,rfl⟩;exact⟨_,_,m,h _,⟨_,rfl,by simp only[dP]⟩,by simpa[Ft.dd]using hc,Trans.refl _ _ _⟩
 ·have hm':∀off,¬m gb off:=hm gb rfl
  have hcell:∀j (hj:j<l.length),cur[j]?=some (.string ⟨(l[j]).toArray⟩):=by
   intro j hj;have:(cur.toList.take (l.length*1))[j]?=xs[j]?:=by rw[htake]
   rw[amL,alm (by omega),hxs]at this;rw[←anM,this];simp[hj]
  have hH:Holds encStr w gb 0 l.toArray:=by
   intro j hj;have hj':j<l.length:=by simpa using hj
   refine⟨?_,?_⟩
   ·simp only[World.cell?,hg,ajD];rw[akJ (by simp),hcell j hj'];congr 1;rw[anR l.toArray j hj];rfl
   ·simp only[World.frozen?,hg];rcases hfz with h|h
    ·rcases fz with⟨a,b⟩;simp only at h⊢;subst h;simp only[anT,anL];omega
    ·rcases fz with⟨a,b⟩;simp only at h⊢;simp only[anT,anL];omega
  refine(Any.slices_Compact_string L gb 0 cap l w hH hb hn).mono ?_;rintro en w' ⟨rfl,q,rfl⟩;rw[Ft.abg];have hdl:=agA l
  obtain⟨c1,c2⟩:=acI (l':=Ft.dd l) encStr (Ft.dd l++List.replicate (l.length-(Ft.dd l).length) []).toArray q #[] hc hg hfz hn hcap hcur hm' (by simp;omega) hdl rfl (by
   apply List.ext_getElem?;intro j;rw[amL];split
   ·rename_i hj;have h1:j<cur.size:=by omega
    simp only[Go.Sort.putCells,anM,an1,anP h1,anz];rw[alm ⟨an8 _,by simp;omega⟩];rw[Nat.sub_zero,anR _ j (by simp;omega)];simp[encStr,hj]
   ·rename_i hj
    rw[zf (by simp;omega)])
  rw[Sort.grow_empty]at c1 c2;exact⟨_,_,m,h _,⟨_,rfl,by simp only[dP]⟩,c1,c2⟩
end Go.Abs
namespace Go.Abs
variable [iD]
open Go
section
variable {P : Program} {o : Oper} {ρ : Operand → PV} {σ : List bC} {R S : PV → List bC → Prop}
theorem QJ(w:World)(t e:TypeId)(a:Option Addr)(l c:Nat)(h:P.underlying t=some (.slice e)):(binOp .eql t (.slice a l c) (.slice none 0 0)).run P w=.ok (.bool a.isNone) w:=by
 have h:∀d:Nat,(Op.equalIn (d+1) t (.slice a l c) (.slice none 0 0)).run P w=.ok a.isNone w:=fun d=>by
  cases a<;>simp[Op.equalIn,run_underlying h]
 simp only[binOp];simp[Op.equal,Op.maxDepth,h 9999]
theorem AO.BL{t e yt:TypeId}{x:Operand}{l:List (List PV)}(ho:o.op=.binOp .eql t x (.const (.slice none 0 0)) yt)(hx:(ρ x).els=some l)(hu:P.underlying t=some (.slice e))
  (hR:∀b:Bool,(b=true→l=[])→R (.bool b) σ):AO P o ρ σ R S:=by
 intro w m a K QC hr hc hK _;have hv:=hr x (by simp[ho,Op.operands]);obtain⟨ad,cap,e1,e2,e3⟩:=hv.els hx;have hev:a.eval (.const (.slice none 0 0))=.slice none 0 0:=rfl
 have hrun:(execOp a.eval o).run P w=.ok (.value (.bool ad.isNone)) w:=by
  simp only[execOp,ho,hev,e1,Sem.run_bind];rw[show eqGuard .eql t x (.const (.slice none 0 0)) (.slice ad l.length cap) (.slice none 0 0)=pure ()from rfl];simp only[fM,bJ,QJ w t e ad l.length cap hu]
 unfold Oper.wp;rw[hrun];refine hK (.bool ad.isNone) σ _ w m (hR _ fun h=>?_) (by simp only[dP]) hc (Trans.refl _ _ _);rcases e3 with rfl|⟨bk,off,sz,rfl,_⟩
 ·rfl
 ·cases h
theorem AO.LZ{x:Operand}{v:Value}{l:List (List PV)}(ho:o.op=.assign x)(hx:ρ x=.own v l)(hR:R (.val v) σ):AO P o ρ σ R S:=by
 refine AO.of_same hR fun w m ev hr _=>?_;have h1:=hr x (by simp[ho,Op.operands]);rw[hx]at h1;simp only[dP]at h1;exact⟨ev x,by simp[execOp,ho],by simp only[dP];exact h1.1⟩
theorem AO.clip{t:TypeId}{x y z:Operand}{l:List (List PV)}{sz:Nat}{k k':IntKind}(ho:o.op=.slice t x none (some y) (some z))(hs:elemSize P t=some sz)(hx:(ρ x).els=some l)
  (hy:ρ y=.int k l.length) (hz:ρ z=.int k' l.length) (hR:R (.list l) σ):AO P o ρ σ R S:=by
 refine AO.of_same hR fun w m ev hr _=>?_;have hv:=hr x (by simp[ho,Op.operands]);obtain⟨ad,cap,e1,e2,e3⟩:=hv.els hx;obtain⟨el,inf,g1,g2,g3⟩:=n_ hs;have h1:=hr y (by simp[ho,Op.operands]);have h2:=hr z (by simp[ho,Op.operands]);rw[hy]at h1;rw[hz]at h2;simp only[dP]at h1 h2
 have hb:(Instr.sliceBounds true l.length cap none (some (ev y)) (some (ev z))).run P w=.ok (0,l.length,l.length) w:=by
  simp[Instr.sliceBounds,h1,h2,Instr.sliceBound,asIntOf,e2]
 refine⟨.slice (if l.length=0 then ad else ad.map (·.add (0*sz))) (l.length-0) (l.length-0),?_,?_⟩
 ·simp only[execOp,ho,Instr.sliceAt,Sem.run_bind,run_underlying g1,bJ,Instr.slice,e1,anz,Option.map_none,hb,fM,sizeOf,run_typeInfo g2,g3]
 ·simp only[dP];refine⟨_,l.length,rfl,ahi _,?_⟩;rcases e3 with rfl|⟨bk,off,sz',rfl,e4⟩
  ·exact .inl rfl
  ·right;refine⟨bk,off,sz',?_,e4⟩;split<;>simp[Addr.add_lit]
end
theorem AW.akX{P:Program}{n:Nat}{c:Code}{env:Env}{σ:List bC}{ds:List Deferred}{Q:Post}(sz e:Nat)(h:AW P n c env (.buf (.slice none 0 0) 0 sz e []::σ) ds Q):AW P n c env σ ds Q:=by
 intro w m a QC hs ha
 have hc:Conc w m (.buf (.slice none 0 0) 0 sz e []::σ):=by
  refine⟨fun r hr=>?_,by simpa[lq,bC.fp,Value.ownBlock]using hs.iW.apart,hs.iW.wf,hs.iW.rR⟩;rcases List.mem_cons.1 hr with rfl|hr
  ·exact⟨[],⟨by simp,.inl ⟨rfl,rfl⟩⟩,bA.nil,fun b hb=>by cases hb⟩
  ·exact hs.iW.each r hr
 exact h w m a QC ⟨hs.size,hs.ds,hs.env,hc⟩ (ha.step ⟨rfl,rfl,rfl,ahi _,Le.refl _ _,fun b _ _=>⟨rfl,fun _ h=>h⟩,fun b hb=>.inl (by simpa[lq,bC.fp,Value.ownBlock]using hb),fun _=>ahi _⟩)
theorem AR.freeze{P:Program}{k:Nat}{all:Array Oper}{lo:List Oper}{env:Env}{σ:List bC}{ds:List Deferred}{Q:Post}{v:Value}{n sz e:Nat}{cs:List PV}(t i:Nat)(l:List (List PV))(ht:env.get t=.val v)(hi:σ[i]?=some (bC.buf v n sz e cs))
  (hl:l.flatten=cs) (hsz:∀x∈l,x.length=sz) (hn:l.length=n) (h:AR P k all lo ((t,.own v l)::env) (σ.set i (.row v n sz e)) ds Q):AR P k all lo env σ ds Q:=by
 intro w m a QC hs ha;obtain⟨m',h1,h2,h3⟩:=hs.iW.freeze hi hl hsz hn;refine h w m' a QC ⟨hs.size,hs.ds,fun u=>?_,h2⟩ (ha.step h3);have hu:=hs.env u;simp only[Env.get];cases hb:Nat.beq t u with
 | false=>exact dP.mono h3.le _ _ hu
 | true=>
  have:=je hb;subst this;rw[ht]at hu;simp only[dP]at hu;rw[hu];exact h1
end Go.Abs
namespace Go.Abs
variable [iD]
open Go
def AV:List Bool→List PV→List PV
 | true::ms,c::cs=>c.vv::AV ms cs
 | false::ms,c::cs=>c::AV ms cs
 | [],cs=>cs
 | _::_,[]=>[]
theorem bA.AV{w:World}{m:jN}:∀ {ms:List Bool} {ps:List PV} {vs:List Value},bA w m ps vs→bA w m (Abs.AV ms ps) vs
 | [],_,_,h=>h
 | true::ms,[],_,h=>h
 | false::ms,[],_,h=>h
 | true::ms,p::ps,_,h=>by
  simp only[bA]at h;obtain⟨v,vs',rfl,h1,h2⟩:=h;exact bA.cons h1.vv (bA.AV h2)
 | false::ms,p::ps,_,h=>by
  simp only[bA]at h;obtain⟨v,vs',rfl,h1,h2⟩:=h;exact bA.cons h1 (bA.AV h2)
theorem Qk{w:World}{m:jN}{σ:List bC}{i b:Nat}{ms:List Bool}{cs:List PV}(hi:σ[i]?=some (.box b cs))(hc:Conc w m σ):Conc w m (σ.set i (.box b (Abs.AV ms cs)))∧Trans w m σ w m (σ.set i (.box b (Abs.AV ms cs))):=by
 have hf:lq (σ.set i (.box b (Abs.AV ms cs)))=lq σ:=by
  clear hc
  induction σ generalizing i with
  | nil=>rfl
  | cons r σ ih=>
   cases i with
   | zero=>
    simp only[anS,bX]at hi;subst hi;simp[lq,bC.fp]
   | succ i=>
    simp only[anV]at hi;have:=ih hi;simp only[lq,alp,ajn]at this⊢;rw[this]
 refine⟨⟨fun r hr=>?_,by rw[hf];exact hc.apart,hc.wf,hc.rR⟩,⟨rfl,rfl,rfl,ahi _,Le.refl _ _,fun _ _ _=>⟨rfl,fun _ h=>h⟩,fun x hx=>.inl (by rw[←hf];exact hx),fun _=>ahi _⟩⟩;rcases anY hr with h|h
 ·exact hc.each r h
 ·subst h;obtain⟨vs,ty,h1,h2,h3⟩:=hc.each _ (ahq hi);exact⟨vs,ty,h1,h2.AV,h3⟩
section
variable {P : Program} {n : Nat} {env : Env} {σ : List bC} {ds : List Deferred} {Q : Post} {all : Array Oper} {l : List Oper}
theorem AR.AV(i:Nat)(ms:List Bool){b:Nat}{cs:List PV}(hi:σ[i]?=some (.box b cs))(h:AR P n all l env (σ.set i (.box b (Abs.AV ms cs))) ds Q):AR P n all l env σ ds Q:=by
 intro w m a QC hs ha;obtain⟨k1,k2⟩:=Qk hi hs.iW;exact h w m a QC ⟨hs.size,hs.ds,hs.env,k1⟩ (ha.step k2)
theorem AW.AV{c:Code}(i:Nat)(ms:List Bool){b:Nat}{cs:List PV}(hi:σ[i]?=some (.box b cs))(h:AW P n c env (σ.set i (.box b (Abs.AV ms cs))) ds Q):AW P n c env σ ds Q:=by
 intro w m a QC hs ha;obtain⟨k1,k2⟩:=Qk hi hs.iW;exact h w m a QC ⟨hs.size,hs.ds,hs.env,k1⟩ (ha.step k2)
end
end Go.Abs
namespace Go.Abs
variable [iD]
open Go
section
variable {P : Program} {n : Nat} {ds : List Deferred} {L : List Oper} {k : Nat}
theorem aho(hk:k≤L.length)(ho:abx L k k){d:Nat→Nat}(hd:∀i o,i<k→L[i]?=some o→o.dst=some (d i)∧d i<n){σ:List bC}{Q:Post}{c:Nat}(hck:c<k)
  {QC:Exit→Act→World→Prop}:∀(fuel:Nat) (listed:Array Bool) (a:Act) (w:World) (m:jN) (E:Env),listed.size=L.length→listed.toList.count false≤fuel→
   (∀j,k≤j→j<L.length→listed.getD j true=false)→(∀i o,L[i]?=some o→listed.getD i true=true→∀j∈gJ o,listed.getD j true=true)→listed.getD c true=false→
   (∀i o,i<k→i≠c→L[i]?=some o→listed.getD i true=false→tC P L.toArray E σ o (E.get (d i)))→(∀o,L[c]?=some o→o.guard=none∧AO P o E.ev σ (fun _ _=>False) (fun p σ'=>Q (.panic p) [] σ' ds))→
   qx w m n (hide (fun t=>(List.range k).any fun i=>!listed.getD i true&&Nat.beq (d i) t) E) σ ds a→Acc n Q w m σ QC→wpAny P .any L.toArray QC fuel listed a w:=by
 have hidden:∀(listed:Array Bool) (t:Nat),((List.range k).any fun i=>!listed.getD i true&&Nat.beq (d i) t)=true↔∃i,i<k∧listed.getD i true=false∧d i=t:=by
  intro listed t;rw[List.any_eq_true];constructor
  ·rintro⟨i,hi,h⟩;simp only[Bool.and_eq_true,Bool.not_eq_true']at h;exact⟨i,by simpa using hi,h.1,je h.2⟩
  ·rintro⟨i,hi,h1,h2⟩;exact⟨i,by simpa using hi,by simp[h1,h2]⟩
 intro fuel
 induction fuel with
 | zero=>
  intro listed a w m E hsz hcnt hun ES hlc hfa hX hs ha;exfalso;have h0:listed.toList.count false=0:=by omega
  rw[List.count_eq_zero]at h0;apply h0;have hj':c<listed.size:=by omega
  have:listed[c]=false:=by simpa[Array.getD,hj']using hlc
  rw[←this];simp
 | succ fuel ih=>
  intro listed a w m E hsz hcnt hun ES hlc hfa hX hs ha
  have hex:∃i,i<k∧listed.getD i true=false∧∀j,j<i→listed.getD j true=true:=by
   have key:∀q,(∀j,j<q→j<k→listed.getD j true=true)∨∃i,i<k∧listed.getD i true=false∧∀j,j<i→listed.getD j true=true:=by
    intro q
    induction q with
    | zero=>exact .inl fun j hj=>by omega
    | succ q ihc=>
     rcases ihc with h|h
     ·by_cases hc:q<k∧listed.getD q true=false
      ·exact .inr ⟨q,hc.1,hc.2,fun j hj=>h j hj (by omega)⟩
      ·refine .inl fun j hj hjk=>?_;by_cases e:j=q
       ·subst e;cases e:listed.getD j true with
        | true=>rfl
        | false=>exact absurd ⟨hjk,e⟩ hc
       ·exact h j (by omega) hjk
     ·exact .inr h
   rcases key k with h|h
   ·have:=h c hck hck;rw[hlc]at this;cases this
   ·exact h
  have FZ:∀j b,j<L.length→listed.getD j b=listed.getD j true:=by
   intro j b hj;have:j<listed.size:=by omega
   simp[Array.getD,this]
  refine⟨fun h0=>?_,fun i hi'=>?_⟩
  ·exfalso;obtain⟨i,hik,hif,hlow⟩:=hex;have Lb:i<L.length:=by omega
   have:i∈Region.ready .any L.toArray listed:=by
    refine mem_ready.2 ⟨by simpa using Lb,hif,L[i],by simp[Lb],fun e he hb=>?_⟩;have hj:=ho.before i _ (ahh Lb) e.on (uX.2 ⟨e,he,hb,rfl⟩);rw[FZ _ _ (by omega)];exact hlow _ hj
   rw[h0]at this;cases this
  ·obtain⟨h1,h2,o,h3,h4⟩:=mem_ready.1 hi';have Lb:i<L.length:=by simpa using h1
   have hoi:L[i]?=some o:=by simpa using h3
   have hpred:∀j∈gJ o,listed.getD j true=true:=by
    intro j hj;obtain⟨e,he,hb,hon⟩:=uX.1 hj;have h5:=h4 e he hb;rw[hon,FZ _ _ (by have:=ho.before i o hoi j hj;omega)]at h5;exact h5
   have hdn:∀j∈yP L i,listed.getD j true=true:=by
    intro j hj;unfold yP at hj;rw[hoi]at hj;exact BP (k:=i) (listed:=fun j=>listed.getD j true=true) (fun q oq _ hq hl=>ES q oq hq hl) i (gJ o) (ahi _) hpred j hj
   have hik:i<k:=by
    rcases gK i k with h|h
    ·exact h
    ·exfalso;obtain⟨q,hqk,hqf,_⟩:=hex;rcases gK k i with h'|h'
     ·obtain⟨j,hj,hji⟩:=ho.tails i o h' hoi;have h6:=hpred j hj;rw[hun j (by omega) (by omega)]at h6;cases h6
     ·have hik:i=k:=by omega
      subst hik;have h6:=hdn q (ho.abQ o hoi q hqk);rw[hqf]at h6;cases h6
   have hset:∀j,(listed.setIfInBounds i true).getD j true=if i=j then true else listed.getD j true:=Ml (by omega)
   have hget:∀t∈readsOf L o,(hide (fun t=>(List.range k).any fun i=>!listed.getD i true&&Nat.beq (d i) t) E).get t=E.get t:=by
    intro t ht;rw[oU,akJ];rw[hidden];rintro⟨j,hjk,hjf,hjt⟩;have hoj:L[j]?=some L[j]:=ahh (by omega);have hdj:=(hd j _ hjk hoj).1;rw[hjt]at hdj;by_cases e:i=j
    ·subst e;have e9:=anA (hoi.symm.trans hoj);rw[←e9]at hdj;exact ho.self i o t hik hoi hdj ht
    ·have:=hpred j ((ho.apart i o j _ t hik hoi (by omega) hoj e hdj).2 ht).2;rw[hjf]at this;cases this
   by_cases hic:i=c
   ·subst hic;obtain⟨hg,hao⟩:=hX o hoi;unfold wpOp;rw[h3];simp only;rw[alm (by simp[Region.wanted,hg])];left;refine hao w m a _ QC (fun x hx=>?_) hs.iW (fun p σ' v w' m' hf=>hf.elim) ?_
    ·have h9:=hs.env.ev x
     have:(hide (fun t=>(List.range k).any fun i=>!listed.getD i true&&Nat.beq (d i) t) E).ev x=E.ev x:=IQ fun t ht=>hget t (by
      subst ht;unfold readsOf
      exact aji.2 (.inl (List.mem_filterMap.2 ⟨.tmp t,by simpa using hx,rfl⟩)))
     rw[this]at h9;exact h9
    ·rintro p σ' v w' m' hq hv hc htr;exact ha (.panic p) _ [] _ ds a w' m' hq ⟨v,rfl,hv⟩ ⟨hs.size,hs.ds,fun t=>by simp[Env.get,dP],hc⟩ htr
   ·have ace:(listed.setIfInBounds i true).toList.count false≤fuel:=by
     have hil:listed.toList[i]?=some false:=by
      have hi':i<listed.size:=by omega
      have:listed[i]=false:=by simpa[Array.getD,hi']using h2
      simp[hi',this]
     have:=count_set hil;rw[Array.toList_setIfInBounds];omega
    have hun':∀j,k≤j→j<L.length→(listed.setIfInBounds i true).getD j true=false:=by
     intro j hkj hj;rw[hset,akJ (by omega)];exact hun j hkj hj
    have Xd:∀q oq,L[q]?=some oq→(listed.setIfInBounds i true).getD q true=true→∀j∈gJ oq,(listed.setIfInBounds i true).getD j true=true:=by
     intro q oq hoq hl j hj;rw[hset]at hl⊢;by_cases e:i=j
     ·simp[e]
     ·simp only[e,amJ];by_cases e2:i=q
      ·subst e2;rw[hoi]at hoq;cases hoq;exact hpred j hj
      ·simp only[e2,amJ]at hl;exact ES q oq hoq hl j hj
    obtain⟨hdo,akK⟩:=hd i o hik hoi;have hev:=hfa i o hik hic hoi h2;refine Kv (t:=d i) h3 hdo akK (tC.NM rfl hev hget) hs fun a' w' m' hs' Nz=>?_;refine ih _ a' w' m' E (by simpa using hsz) ace hun' Xd (by rw[hset,akJ hic];exact hlc) ?_ hX ?_ (ha.step Nz)
    ·intro q oq hq hqc hoq hl;rw[hset]at hl;by_cases e:i=q
     ·simp[e]at hl
     ·simp only[e,amJ]at hl;exact hfa q oq hq hqc hoq hl
    ·refine hs'.congr fun t=>?_;rw[oU];split
     ·exact .inl rfl
     ·rename_i hh;right;simp only[Env.get];by_cases e:d i=t
      ·subst e;simp
      ·rw[vM e,cond_false,oU,akJ];intro hh';apply hh;rw[hidden]at hh'⊢;obtain⟨j,h5,h6,h7⟩:=hh';refine⟨j,h5,?_,h7⟩;rw[hset,akJ (fun hij=>e (by rw[hij];exact h7))];exact h6
theorem AW.acu{env:Env}{σ:List bC}{Q:Post}{id:Nat}(c k:Nat)(hm:P.follows .mixedOrders=true)(ho:KL L k k=true)(hck:Nat.blt c k=true)(hk:Nat.ble k L.length=true)
  (h:Ev P n L.toArray σ env (L.take c) fun e1=>∃o t,L[c]?=some o∧o.guard=none∧o.dst=some t∧Nat.blt t n=true∧AO P o e1.ev σ (fun _ _=>False) (fun p σ'=>Q (.panic p) [] σ' ds)∧Ev P n L.toArray σ ((t,.undef)::e1) ((L.drop (c+1)).take (k-(c+1))) fun _=>True):
  AW P n (.region id L.toArray true) env σ ds Q:=by
 intro w m a QC hs ha;have hck:c<k:=ow.1 hck;have hk:k≤L.length:=CF hk;have ho:=Nq (ahi k) ho;obtain⟨d1,p1,f1,oc,tc,g1,g2,g3,g3',g4,g5⟩:=Ev.facts h;rw[al0,amD (by omega)]at g4 g5;obtain⟨d2,p2,f2,_⟩:=Ev.facts g5;let d:Nat→Nat:=fun i=>if i<c then d1 i else if i=c then tc else d2 (i-(c+1));let p:Nat→PV:=fun i=>if i<c then p1 i else if i=c then .undef else p2 (i-(c+1))
 have e1:∀j,j≤c→mV (fun _=>true) d p env j=mV (fun _=>true) d1 p1 env j:=by
  intro j
  induction j with
  | zero=>intro _;rfl
  | succ j ih=>intro hj;simp only[mV,an2];rw[ih (by omega)];simp only[d,p];rw[alm (by omega),alm (by omega)]
 have e2:∀j,mV (fun _=>true) d p env (c+1+j)=mV (fun _=>true) d2 p2 ((tc,.undef)::mV (fun _=>true) d1 p1 env c) j:=by
  intro j
  induction j with
  | zero=>simp only[mV,an2];rw[e1 c (ahi _)];simp only[d,p,Nat.lt_irrefl,amJ,an2]
  | succ j ih=>
   rw[←Nat.add_assoc];simp only[mV,an2];rw[ih];simp only[d,p];rw[akJ (by omega),akJ (by omega),akJ (by omega),akJ (by omega),Nat.add_sub_cancel_left]
 have agc:∀i o,i<k→i≠c→L[i]?=some o→o.dst=some (d i)∧d i<n∧tC P L.toArray (mV (fun _=>true) d p env i) σ o (p i):=by
  intro i o hi hic hoi;rcases gK i c with hlt|hge
  ·have:=f1 i o (by rw[am7 hlt];exact hoi);rw[e1 i (by omega)];simp only[d,p,alm hlt];exact this
  ·obtain⟨j,rfl⟩:∃j,i=c+1+j:=⟨i-(c+1),by omega⟩;have:=f2 j o (by rw[am7 (by omega),List.getElem?_drop];exact hoi);rw[e2 j];simp only[d,p,akJ (show ¬c+1+j<c by omega),akJ (show ¬c+1+j=c by omega),Nat.add_sub_cancel_left];exact this
 have hd:∀i o,i<k→L[i]?=some o→o.dst=some (d i)∧d i<n:=by
  intro i o hi hoi;by_cases hic:i=c
  ·subst hic;have:=anA (g1.symm.trans hoi);subst this;simp only[d,Nat.lt_irrefl,amJ,an2];exact⟨g3,ow.1 g3'⟩
  ·have:=agc i o hi hic hoi;exact⟨this.1,this.2.1⟩
 have hother:∀i o t,i<k→L[i]?=some o→(o.dst=some t∨t∈readsOf L o)→∀j,(i≤j∧t∈readsOf L o∨i+1≤j)→j<k→d j≠t:=by
  intro i o t hi hoi ht j hj hjk hdj;have hoj:L[j]?=some L[j]:=ahh (by omega);have e1:=(hd j _ hjk hoj).1;rw[hdj]at e1;by_cases e:i=j
  ·subst e;have e9:=anA (hoi.symm.trans hoj);rw[←e9]at e1;rcases hj with⟨_,hj⟩|hj
   ·exact ho.self i o t hi hoi e1 hj
   ·omega
  ·obtain⟨e2,e3⟩:=ho.apart i o j _ t hi hoi (by omega) hoj e e1;rcases ht with ht|ht
   ·exact e2 ht
   ·have:=ho.before i o hoi j (e3 ht).2;omega
 have yG:Trans w m σ {w with drawn:=w.drawn+1} m σ:=⟨rfl,rfl,rfl,ahi _,fun _ _ h=>⟨h,rfl⟩,fun _ _ _=>⟨rfl,fun _ h=>h⟩,fun _ h=>.inl h,fun _=>Nat.le_succ _⟩;have hc':Conc {w with drawn:=w.drawn+1} m σ:=⟨fun r hr=>bC.rP (hs.iW.each r hr) yG.le fun _ _=>⟨rfl,fun _ h=>h⟩,hs.iW.apart,hs.iW.wf,iD.mono yG.le hs.iW.rR⟩;refine wp_region_any hm ?_;refine aho (ds:=ds) (d:=d) (σ:=σ) (Q:=Q) hk ho hd hck _ _ a _ m (mV (fun _=>true) d p env k) (by simp) ?_ ?_ ?_ ?_ ?_ ?_ ?_ (ha.step yG)
 ·simp
 ·intro j _ hj;simp[Array.getD,hj]
 ·intro i o hoi hl
  have Lb:i<L.length:=by
   rcases gK i L.length with h|h
   ·exact h
   ·simp[zf h]at hoi
  simp[Array.getD,Lb]at hl
 ·have:c<L.length:=by omega
  simp[Array.getD,this]
 ·intro i o hi hic hoi _;obtain⟨q1,q2,q3⟩:=agc i o hi hic hoi
  have agr:(mV (fun _=>true) d p env k).get (d i)=p i:=by
   rw[iw (i:=i+1) (by omega) fun j h4 h5 _=>hother i o (d i) hi hoi (.inl q1) j (.inr h4) h5];simp[mV,Env.get]
  rw[agr];refine tC.NM rfl q3 fun t ht=>?_;exact iw (by omega) fun j h4 h5 _=>hother i o t hi hoi (.inr ht) j (.inl ⟨h4,ht⟩) h5
 ·intro o hoi;have:=anA (g1.symm.trans hoi);subst this;refine⟨g2,AO.congr g4 fun x hx=>IQ fun t ht=>?_⟩
  have hr:t∈readsOf L oc:=by
   subst ht;unfold readsOf;exact aji.2 (.inl (List.mem_filterMap.2 ⟨.tmp t,by simpa using hx,rfl⟩))
  rw[iw (i:=c) (by omega) fun j h4 h5 _=>hother c oc t hck g1 (.inr hr) j (.inl ⟨h4,hr⟩) h5,e1 c (ahi _)]
 ·refine⟨hs.size,hs.ds,fun t=>?_,hc'⟩;rw[oU];split
  ·simp[dP]
  ·rename_i hh;rw[iw (i:=0) (an8 _)]
   ·exact hs.env.mono yG.le t
   ·intro j _ hj _ hdj;apply hh;rw[List.any_eq_true];have hjL:j<L.length:=by omega
    exact⟨j,by simpa using hj,by simp[Array.getD,hjL,hdj]⟩
end
end Go.Abs
namespace Go.Abs
variable [iD]
open Go
theorem aaP{n:Nat}(a b:Int):BitVec.ofInt n (a-b)=BitVec.ofInt n a-BitVec.ofInt n b:=by
 rw[Int.sub_eq_add_neg,Ry,BitVec.ofInt_neg,BitVec.sub_eq_add_neg]
theorem aeF{n:Nat}(a:BitVec n)(s:Nat):a >>> (min s n)=a >>> s:=by
 rcases Nat.le_total s n with h|h
 ·rw[amD h]
 ·rw[Nat.min_eq_right h];apply BitVec.eq_of_toNat_eq;rw[BitVec.toNat_ushiftRight,BitVec.toNat_ushiftRight,Nat.shiftRight_eq_div_pow,Nat.shiftRight_eq_div_pow];have h1:a.toNat<2 ^ n:=a.isLt;have h2:a.toNat<2 ^ s:=anZ h1 (Nat.pow_le_pow_right (by omega) h);rw[Nat.div_eq_of_lt h1,Nat.div_eq_of_lt h2]
theorem aeG{n:Nat}(a:BitVec n)(s:Nat):a <<< (min s n)=a <<< s:=by
 rcases Nat.le_total s n with h|h
 ·rw[amD h]
 ·rw[Nat.min_eq_right h];rw[BitVec.shiftLeft_eq_zero (ahi n),BitVec.shiftLeft_eq_zero h]
section
variable {P : Program} {o : Oper} {ρ : Operand → PV} {σ : List bC} {R S : PV → List bC → Prop}
theorem AO.akT{src dst:TypeId}{x:Operand}{d:TypeDesc}{k k':IntKind}{n r:Int}(ho:o.op=.convert src dst x)(hs:P.underlying src=some d)(hd:P.underlying dst=some (.int k'))(hx:ρ x=.int k n)(hr:k'.wrap n=r)
  (hR:R (.int k' r) σ):AO P o ρ σ R S:=AO.IX ho hs hd hx (by rw[hr];exact hR)
theorem AO.Py{t u:TypeId}{x y:Operand}{p q:Int}(a b:BitVec 64)(ho:o.op=.binOp .add t x y u)(hx:ρ x=.int .u64 p)(hy:ρ y=.int .u64 q)(ha:p=(a.toNat:Int))(hb:q=(b.toNat:Int))
  (hR:R (.int .u64 ((a+b).toNat:Int)) σ):AO P o ρ σ R S:=by
 refine AO.VK (p:=.int .u64 (IntKind.u64.wrap (p+q))) (by simp only[pev,ho,hx,hy];rfl) ?_ hR;rw[aai,ha,hb,Ry,l9,l9]
theorem AO.abK{t u:TypeId}{x y:Operand}{p q:Int}(a b:BitVec 64)(ho:o.op=.binOp .mul t x y u)(hx:ρ x=.int .u64 p)(hy:ρ y=.int .u64 q)(ha:p=(a.toNat:Int))(hb:q=(b.toNat:Int))
  (hR:R (.int .u64 ((a*b).toNat:Int)) σ):AO P o ρ σ R S:=by
 refine AO.VK (p:=.int .u64 (IntKind.u64.wrap (p*q))) (by simp only[pev,ho,hx,hy];rfl) ?_ hR;rw[aai,ha,hb,Rv,l9,l9]
theorem AO.u64_and{t u:TypeId}{x y:Operand}{p q:Int}(a b:BitVec 64)(ho:o.op=.binOp .and t x y u)(hx:ρ x=.int .u64 p)(hy:ρ y=.int .u64 q)(ha:p=(a.toNat:Int))(hb:q=(b.toNat:Int))
  (hR:R (.int .u64 ((a &&& b).toNat:Int)) σ):AO P o ρ σ R S:=by
 refine AO.VK (p:=.int .u64 (IntKind.u64.wrap (BitVec.ofInt IntKind.u64.bits p &&& BitVec.ofInt IntKind.u64.bits q).toNat)) (by simp only[pev,ho,hx,hy];rfl) ?_ hR;rw[aiO,ha,hb,l9,l9]
theorem AO.u64_or{t u:TypeId}{x y:Operand}{p q:Int}(a b:BitVec 64)(ho:o.op=.binOp .or t x y u)(hx:ρ x=.int .u64 p)(hy:ρ y=.int .u64 q)(ha:p=(a.toNat:Int))(hb:q=(b.toNat:Int))
  (hR:R (.int .u64 ((a ||| b).toNat:Int)) σ):AO P o ρ σ R S:=by
 refine AO.VK (p:=.int .u64 (IntKind.u64.wrap (BitVec.ofInt IntKind.u64.bits p ||| BitVec.ofInt IntKind.u64.bits q).toNat)) (by simp only[pev,ho,hx,hy];rfl) ?_ hR;rw[akx,ha,hb,l9,l9]
theorem AO.Lp{t u:TypeId}{x y:Operand}{yk:IntKind}{p q:Int}(a:BitVec 64)(s:Nat)(ho:o.op=.binOp .shr t x y u)(hx:ρ x=.int .u64 p)(hy:ρ y=.int yk q)(ha:p=(a.toNat:Int))(hq:q=(s:Int))(hR:R (.int .u64 ((a >>> s).toNat:Int)) σ):AO P o ρ σ R S:=by
 subst ha hq;refine AO.shr ho hx hy (by omega) ?_;rw[agm,an0,show IntKind.u64.bits=64 from rfl,aeF];exact hR
theorem AO.ahs{t u:TypeId}{x y:Operand}{yk:IntKind}{p q:Int}(a:BitVec 64)(s:Nat)(ho:o.op=.binOp .shl t x y u)(hx:ρ x=.int .u64 p)(hy:ρ y=.int yk q)(ha:p=(a.toNat:Int))(hq:q=(s:Int))(hR:R (.int .u64 ((a <<< s).toNat:Int)) σ):AO P o ρ σ R S:=by
 subst ha hq;refine AO.shl ho hx hy (by omega) ?_;rw[aai,an0,show IntKind.u64.bits=64 from rfl,adv,l9,aeG];exact hR
theorem AO.u64_neg{t:TypeId}{x:Operand}{p:Int}(a:BitVec 64)(ho:o.op=.unOp .neg t x)(hx:ρ x=.int .u64 p)(ha:p=(a.toNat:Int))(hR:R (.int .u64 ((-a).toNat:Int)) σ):AO P o ρ σ R S:=by
 refine AO.VK (p:=.int .u64 (IntKind.u64.wrap (0-p))) (by simp only[pev,ho,hx];rfl) ?_ hR;rw[aai,ha,aaP,l9]
 try simp
theorem AO.aeN{src dst:TypeId}{x:Operand}{d:TypeDesc}{k:IntKind}{n:Int}(ho:o.op=.convert src dst x)(hs:P.underlying src=some d)(hd:P.underlying dst=some (.int .u64))(hx:ρ x=.int k n)
  (hR:R (.int .u64 ((BitVec.ofInt 64 n).toNat:Int)) σ):AO P o ρ σ R S:=AO.akT ho hs hd hx (aai n) hR
theorem AO.aeJ{t u:TypeId}{x y:Operand}{p q:Int}(a b:BitVec 64){v:BitVec 64}(hv:some (a+b)=some v)(ho:o.op=.binOp .add t x y u)(hx:ρ x=.int .u64 p)(hy:ρ y=.int .u64 q)(ha:p=(a.toNat:Int))(hb:q=(b.toNat:Int))(hR:R (.int .u64 (v.toNat:Int)) σ):AO P o ρ σ R S:=AO.Py a b ho hx hy ha hb (by cases hv;exact hR)
theorem AO.Qs{t u:TypeId}{x y:Operand}{p q:Int}(a b:BitVec 64){v:BitVec 64}(hv:some (a*b)=some v)(ho:o.op=.binOp .mul t x y u)(hx:ρ x=.int .u64 p)(hy:ρ y=.int .u64 q)(ha:p=(a.toNat:Int))(hb:q=(b.toNat:Int))(hR:R (.int .u64 (v.toNat:Int)) σ):AO P o ρ σ R S:=AO.abK a b ho hx hy ha hb (by cases hv;exact hR)
theorem AO.aeI{t u:TypeId}{x y:Operand}{p q:Int}(a b:BitVec 64){v:BitVec 64}(hv:some (a &&& b)=some v)(ho:o.op=.binOp .and t x y u)(hx:ρ x=.int .u64 p)(hy:ρ y=.int .u64 q)(ha:p=(a.toNat:Int))(hb:q=(b.toNat:Int))(hR:R (.int .u64 (v.toNat:Int)) σ):AO P o ρ σ R S:=AO.u64_and a b ho hx hy ha hb (by cases hv;exact hR)
theorem AO.aht{t u:TypeId}{x y:Operand}{p q:Int}(a b:BitVec 64){v:BitVec 64}(hv:some (a ||| b)=some v)(ho:o.op=.binOp .or t x y u)(hx:ρ x=.int .u64 p)(hy:ρ y=.int .u64 q)(ha:p=(a.toNat:Int))(hb:q=(b.toNat:Int))(hR:R (.int .u64 (v.toNat:Int)) σ):AO P o ρ σ R S:=AO.u64_or a b ho hx hy ha hb (by cases hv;exact hR)
theorem AO.afN{t u:TypeId}{x y:Operand}{e n:Nat}{k:IntKind}{cs ds:List PV}(Ec bs:List Int)(ho:o.op=.binOp .neq t x y u)(hu:P.underlying t=some (.array n e))(he:P.underlying e=some (.int k))(hce:P.cellsOf e=1)(hct:P.cellsOf t=n)(hg:P.eqGuardType P.depth t=false)
  (hx:ρ x=.agg cs) (hy:ρ y=.agg ds) (hcs:cs=Ec.map (PV.int k)) (hds:ds=bs.map (PV.int k)) (hn:Ec.length=n) (hn':bs.length=n) (hw:∀a∈Ec,(Lit.int k a).wf=true) (hw':∀a∈bs,(Lit.int k a).wf=true)
  (hR:R (.bool (!decide (Ec=bs))) σ):AO P o ρ σ R S:=by
 subst hcs hds;refine AO.of_same hR fun w m ev hr _=>?_;have h1:=hr x (by simp[ho,Op.operands]);have h2:=hr y (by simp[ho,Op.operands]);rw[hx]at h1;rw[hy]at h2;simp only[dP]at h1 h2;obtain⟨vs,e1,r1⟩:=h1;obtain⟨us,e2,r2⟩:=h2
 have hval:∀(Ec:List Int) (vs:List Value),bA w m (Ec.map (PV.int k)) vs→vs=Ec.map (Value.int k):=by
  intro Ec
  induction Ec with
  | nil=>intro vs h;simpa[bA]using h
  | cons a Ec ih=>
   intro vs h;simp only[ahn,bA,dP]at h;obtain⟨v,vs',rfl,rfl,h⟩:=h;rw[ih vs' h];rfl
 obtain rfl:=hval Ec vs r1;obtain rfl:=hval bs us r2;have hk:P.keyTypeAt 2 t=true:=by simp[Program.keyTypeAt,hu,he]
 have form:∀Ec:List Int,Ec.length=n→(Value.agg (Ec.map (Value.int k)).toArray).formed P t=true:=by
  intro Ec h;simp[Value.formed,hu,h,hct]
 obtain⟨r,hr',hiff⟩:=run_equalIn_deep 9998 2 t hk w 2 2 (.agg (Ec.map (Value.int k)).toArray) (.agg (bs.map (Value.int k)).toArray) _ _ (form Ec hn) (form bs hn')
  (by simpa[Value.cells]using Mh hu he hce hct hn hw) (by simpa[Value.cells]using Mh hu he hce hct hn' hw')
 have hb:r=decide (Ec=bs):=by
  have hinj:(Ec.map (Lit.int k)=bs.map (Lit.int k))↔Ec=bs:=by
   constructor
   ·intro h;have:=congrArg (List.map fun x:Lit=>match x with|.int _ a=>a|_=>0) h
    simpa[Function.comp_def]using this
   ·intro h;rw[h]
  rw[hinj]at hiff;cases r with
  | true=>simp[hiff.1 rfl]
  | false=>symm;simp only[anL];intro h;exact absurd (hiff.2 h) (by simp)
 refine⟨.bool (!decide (Ec=bs)),?_,by simp only[dP]⟩;have e3:binOp .neq t (.agg (Ec.map (Value.int k)).toArray) (.agg (bs.map (Value.int k)).toArray)=(do pure (.bool (!(←Op.equal t (.agg (Ec.map (Value.int k)).toArray) (.agg (bs.map (Value.int k)).toArray))))):=rfl;have e4:(Op.equal t (.agg (Ec.map (Value.int k)).toArray) (.agg (bs.map (Value.int k)).toArray)).run P w=.ok r w:=hr';simp only[execOp,ho,e1,e2,e3,Sem.run_bind,fM];simp[eqGuard,hg,e4,hb]
theorem AO.uq{t n sz:Nat}{x i:Operand}{k:IntKind}{cs cs':List PV}(j:Nat)(ho:o.op=.indexAddr t x i)(ha:zV P t=some (n,sz))(hx:ρ x=.ref cs)(hi:ρ i=.int k (j:Int))(h1:j<n)(hd:Da (j*sz) cs=some cs')
  (hR:R (.ref cs') σ):AO P o ρ σ R S:=by
 obtain⟨e1,e2⟩:=C_ hd;exact AO.Uj ho ha hx hi (by omega) (by simpa using h1) (by simpa using e2) (by simpa[←e1]using hR)
theorem abF(l:List (BitVec 64)):∀a∈l.map fun c:BitVec 64=>(c.toNat:Int),(Lit.int .u64 a).wf=true:=by
 intro a ha;obtain⟨c,_,rfl⟩:=ano.1 ha;have:=c.isLt;simp[Lit.wf,IntKind.min,IntKind.max,IntKind.signed,IntKind.bits];omega
end
end Go.Abs
namespace Go.Abs
variable [iD]
open Go
theorem AO.amv{P:Program}{o:Oper}{ρ:Operand→PV}{σ:List bC}{R S:PV→List bC→Prop}{c:Call}{f:FuncId}{caps:List PV}
  (ho:o.op=.call c) (NR:Operand) (kR:c.callee=.value NR) (hf:ρ NR=.fn f caps) (hp:bN P f=true)
  (h:AC P f (c.args.toList.map ρ++caps) σ fun out σ'=>match out with|.ret p=>R p σ'|.panic p=>S p σ'):AO P o ρ σ R S:=by
 intro w m a K QC hr hc hK hS;have hcr:=hr NR (by simp[ho,Op.operands,Call.operands,kR]);rw[hf]at hcr;simp only[dP]at hcr;obtain⟨cs,hcv,hcs⟩:=hcr;have hargs:bA w m (c.args.toList.map ρ) (c.args.toList.map a.eval):=bA.map fun x hx=>hr x (by simp[ho,Op.operands,Call.operands,kR];exact .inr (by simpa using hx))
 have hrun:(execOp a.eval o).run P w=.ok (.enter f (c.args.toList.map a.eval++cs).toArray) w:=by
  unfold execOp;simp only[ho,resolve,kR,hcv,Deferred.ofValue,invoke,Sem.run_bind,fM,bJ];rw[rE hp];congr 2;apply Array.ext';simp
 unfold Oper.wp;rw[hrun,Oper.upon_enter];refine(h w m _ hc (hargs.append hcs)).mono ?_;rintro e w' ⟨out,σ',m',h1,h2,h3,h4⟩;cases out with
 | ret p=>
  obtain⟨v,rfl,hv⟩:=h2;exact hK p σ' v w' m' h1 hv h3 h4
 | panic p=>
  obtain⟨v,rfl,hv⟩:=h2;exact hS p σ' v w' m' h1 hv h3 h4
def ak5(P:Program)(rs:List ResultVar)(R:eP→List bC→Prop):Post
 | .normal,e,s,d|.ret,e,s,d=>d=[]∧∃ps,Du P e s rs ps∧∃s',s'.Sublist s∧R (.ret (lJ ps)) s'
 | .panic p,_,s,d=>d=[]∧∃s',s'.Sublist s∧R (.panic p) s'
 | _,_,_,_=>False
theorem AC.afI{P:Program}{f:FuncId}{fn:Func}{c:Code}{args:List PV}{σ:List bC}{R:eP→List bC→Prop}(n:Nat)(rs:List ResultVar)(ts:List Nat){env:Env}
  (hf:P.funcs[f]?=some fn) (hb:fn.body=some c) (hn:fn.ntmps=n) (hl:Nat.ble args.length n=true) (hrs:fn.results.toList=rs) (KR:settle ts (zH 0 args)=some env)
  (h:AW P n c env σ [] (ak5 P rs R)):AC P f args σ R:=by
 intro w m vs hc hv;have hl:args.length≤n:=CF hl;have hvl:=hv.length_eq;refine calls_of_wp hf hb ?_;refine h w m _ _ ⟨?_,rfl,?_,hc⟩ ?_
 ·simp[hvl,hn];omega
 ·have:=ze (List.replicate (fn.ntmps-vs.toArray.size) Go.undef) [] hv;rw[show vs.toArray++Array.replicate (fn.ntmps-vs.toArray.size) Go.undef=([]++vs++List.replicate (fn.ntmps-vs.toArray.size) Go.undef).toArray from by simp];exact Dr.settle KR this
 ·intro x ex env' σ' ds' a' w' m' hq hx hs ht
  have hend:∀ps s',ds'=[]→Du P env' σ' rs ps→s'.Sublist σ'→R (.ret (lJ ps)) s'→a'.defers=[]∧∃v,(results fn a'.tmps).run P w'=.ok v w'∧∃out σ' m',R out σ'∧AP w' m' out (.returned v)∧Conc w' m' σ'∧Trans w m σ w' m' σ':=by
   intro ps s' hd h1 hsub h2;obtain⟨us,k1,k2⟩:=DF hs.env hs.iW h1;have hl2:=k2.length_eq;refine⟨by rw[hs.ds,hd],?_⟩
   have hrun:(results fn a'.tmps).run P w'=.ok (if h:us.toArray.size=1 then us.toArray[0]else .tuple us.toArray) w':=by
    unfold results;rw[Array.mapM_eq_mapM_toList,hrs];have k1':=k1;simp only[Sem.run_bind,Sem.run_map]
    erw [k1']
    rfl
   have hl2:us.length=ps.length:=hl2;refine⟨_,hrun,.ret (lJ ps),s',m',h2,⟨_,rfl,?_⟩,hs.iW.sub hsub,ht.sub hsub⟩;clear h1 h2
   match ps,us,k2,hl2 with
   | [],us,k2,hl2=>
    simp only[bA]at k2;subst k2;simp only[lJ,dP];exact⟨[],by simp,bA.nil⟩
   | [p],us,k2,hl2=>
    simp only[bA]at k2;obtain⟨v,vs',rfl,h3,rfl⟩:=k2;simpa[lJ]using h3
   | p::q::ps,us,k2,hl2=>
    rw[dif_neg (by simp[hl2])];simp only[lJ,dP];exact⟨us,rfl,k2⟩
  cases x with
  | normal=>cases hx;obtain⟨hd,ps,h1,s',hsub,h2⟩:=hq;exact hend ps s' hd h1 hsub h2
  | ret=>cases hx;obtain⟨hd,ps,h1,s',hsub,h2⟩:=hq;exact hend ps s' hd h1 hsub h2
  | exit id=>exact hq.elim
  | panic p=>
   obtain⟨v,rfl,hv'⟩:=hx;obtain⟨hd,s',hsub,h2⟩:=hq;exact⟨by rw[hs.ds,hd],.panic p,s',m',h2,⟨v,rfl,hv'⟩,hs.iW.sub hsub,ht.sub hsub⟩
end Go.Abs
namespace Go.Abs
variable [iD]
open Go
theorem VB:∀ {σ σ':List bC} {i:Nat},AB σ i=some σ'→σ'=σ.eraseIdx i
 | [],_,_,h=>by cases h
 | r::σ,_,0,h=>by simp only[AB,bX]at h;subst h;rfl
 | r::σ,σ',i+1,h=>by
  simp only[AB]at h;split at h
  ·rename_i t ht;simp only[bX]at h;subst h;rw[VB ht];rfl
  ·cases h
theorem Conc.abM{w:World}{m:jN}{σ:List bC}{i b:Nat}{cs cs':List PV}(hc:Conc w m σ)(hi:σ[i]?=some (.box b cs))(hwk:G7 cs=some cs'):
  ∃m',dP w m' (.ref cs') (.pointer (some ⟨b,0,none⟩))∧Conc w m' (σ.eraseIdx i)∧Trans w m σ w m' (σ.eraseIdx i):=by
 have hcs:=Lh hwk;subst hcs;obtain⟨p1,_⟩:=yj hi (.box b cs);have hc1:=hc.perm p1;obtain⟨vs,ty,h1,h2,h3⟩:=hc.each _ (ahq hi);have hle:Le w m w (fun c off=>m c off∨(c=b∧off<vs.length)):=fun c off h=>⟨.inl h,rfl⟩
 have hbs:b<w.heap.size:=by
  rcases gK b w.heap.size with h|h
  ·exact h
  ·rw[ahf h]at h1;cases h1
 have hap:=hc1.apart;rw[wS,List.nodup_append]at hap;have hb:b∉lq (σ.eraseIdx i):=fun h=>hap.2.2 b (by simp[lq,bC.fp]) b h rfl;refine⟨fun c off=>m c off∨(c=b∧off<vs.length),?_,⟨fun r hr=>?_,hap.2.1,fun c off h=>?_,iD.mono hle hc.rR⟩,⟨rfl,rfl,rfl,ahi _,hle,fun c hcl hn=>⟨rfl,fun off h=>?_⟩,fun c hcf=>?_,fun _=>ahi _⟩⟩
 ·simp only[dP];refine⟨b,0,rfl,oM.2 ⟨vs,(bA.mono hle _ _ h2).vv,fun j v hj=>⟨.inr ⟨rfl,?_⟩,?_⟩⟩⟩
  ·rw[ajD];rcases gK j vs.length with h|h
   ·exact h
   ·rw[zf h]at hj;cases hj
  ·rw[cell_of_row w b (0+j) vs.toArray ty (0,0) h1];simpa using hj
 ·refine bC.rP (hc1.right.each r hr) hle fun c hcf=>⟨rfl,fun off h=>?_⟩;rcases h with h|⟨h,_⟩
  ·exact h
  ·subst h;exact absurd (by simp only[lq,List.mem_flatMap];exact⟨r,hr,hcf⟩) hb
 ·rcases h with h|⟨rfl,_⟩
  ·exact hc.wf c off h
  ·exact hbs
 ·rcases h with h|⟨rfl,_⟩
  ·exact h
  ·exact absurd (by simp only[lq,List.mem_flatMap];exact⟨_,ahq hi,by simp[bC.fp]⟩) hn
 ·left;exact aci (List.eraseIdx_sublist σ i) c hcf
section
variable {P : Program} {n : Nat} {all : Array Oper} {l : List Oper} {env : Env} {σ : List bC} {ds : List Deferred} {Q : Post} {c : Code}
theorem U9{w:World}{m:jN}{a:Act}{t i b:Nat}{cs cs':List PV}{σ':List bC}(ht:env.get t=.val (.pointer (some ⟨b,0,none⟩)))(hi:σ[i]?=some (.box b cs))(hwk:G7 cs=some cs')(he:AB σ i=some σ')
  (hs:qx w m n env σ ds a):∃m',qx w m' n ((t,.ref cs')::env) σ' ds a∧Trans w m σ w m' σ':=by
 obtain⟨m',h1,h2,h3⟩:=hs.iW.abM hi hwk;rw[←VB he]at h2 h3;refine⟨m',⟨hs.size,hs.ds,fun u=>?_,h2⟩,h3⟩;have hu:=hs.env u;simp only[Env.get];cases hb:Nat.beq t u with
 | false=>exact dP.mono h3.le _ _ hu
 | true=>
  have:=je hb;subst this;rw[ht]at hu;simp only[dP]at hu;rw[hu];exact h1
theorem AR.abM(t i:Nat){b:Nat}{cs cs':List PV}{σ':List bC}(ht:env.get t=.val (.pointer (some ⟨b,0,none⟩)))(hi:σ[i]?=some (.box b cs))(hwk:G7 cs=some cs')(he:AB σ i=some σ')
  (h:AR P n all l ((t,.ref cs')::env) σ' ds Q):AR P n all l env σ ds Q:=by
 intro w m a QC hs ha;obtain⟨m',k1,k2⟩:=U9 ht hi hwk he hs;exact h w m' a QC k1 (ha.step k2)
theorem AW.abM(t i:Nat){b:Nat}{cs cs':List PV}{σ':List bC}(ht:env.get t=.val (.pointer (some ⟨b,0,none⟩)))(hi:σ[i]?=some (.box b cs))(hwk:G7 cs=some cs')(he:AB σ i=some σ')
  (h:AW P n c ((t,.ref cs')::env) σ' ds Q):AW P n c env σ ds Q:=by
 intro w m a QC hs ha;obtain⟨m',k1,k2⟩:=U9 ht hi hwk he hs;exact h w m' a QC k1 (ha.step k2)
end
end Go.Abs
namespace Go.Abs
variable [iD]
open Go Go.Proofs Go.Sort Go.Lib Go.Shelf
theorem agN{w:World}{m:jN}{g n cap sz:Nat}{e:TypeId}{cs cs':List PV}{cur:Array Value}{fz:Nat × Nat}(dk:Array Value)(q:Nat)(os:Array Obj){vs':List Value}
  (hc:Conc w m [.buf (.slice (some ⟨g,0,none⟩) n cap) n sz e cs]) (hg:w.heap[g]?=some (.cells cur e fz)) (hfz:fz.1=fz.2∨cur.size≤fz.1) (hn:n≤cap) (hcap:cap≤maxLen) (hcur:cur.size=cap*sz)
  (hm:∀off,¬m g off) (hlen:vs'.length=n*sz) (hput:(Go.Sort.putCells id 0 dk cur).toList.take (n*sz)=vs') (hrep:bA w m cs' vs'):
  let w':=Sort.grow (putRow id (Sort.ahead w q) g 0 dk) os
  Conc w' m [.buf (.slice (some ⟨g,0,none⟩) n cap) n sz e cs']∧Trans w m [.buf (.slice (some ⟨g,0,none⟩) n cap) n sz e cs] w' m [.buf (.slice (some ⟨g,0,none⟩) n cap) n sz e cs']:=by
 intro w'
 have hgs:g<w.heap.size:=by
  rcases gK g w.heap.size with h|h
  ·exact h
  ·rw[ahf h]at hg;cases hg
 have hold:∀b,b<w.heap.size→b≠g→w'.heap[b]?=w.heap[b]?:=by
  intro b hb hne;show (Sort.grow _ _).heap[b]?=_;rw[heap_grow_old _ _ (by simpa using hb)];show (w.heap.modify g _)[b]?=_;rw[anQ,akJ (Ne.symm hne)]
 have hnew:w'.heap[g]?=some (.cells (Go.Sort.putCells id 0 dk cur) e fz):=by
  show (Sort.grow _ _).heap[g]?=_;rw[heap_grow_old _ _ (by simpa using hgs)];show (w.heap.modify g _)[g]?=_;rw[anQ,alm rfl,hg];rfl
 obtain⟨hle,hsz⟩:=LA id dk q os hm hc.wf;refine⟨⟨?_,?_,fun b off hb=>anZ (hc.wf b off hb) hsz,iD.mono hle hc.rR⟩,⟨rfl,rfl,rfl,hsz,hle,?_,?_,?_⟩⟩
 ·intro r hr;simp only[ala]at hr;subst hr;refine⟨vs',⟨hlen,.inr ⟨g,cap,_,fz,rfl,hnew,?_,hn,hcap,?_,hput⟩⟩,bA.mono hle _ _ hrep,?_⟩
  ·simpa[Go.Sort.putCells]using hfz
  ·simpa[Go.Sort.putCells]using hcur
  ·intro b hb off;simp only[Value.ownBlock,bX]at hb;subst hb;exact hm off
 ·simp[lq,bC.fp,Value.ownBlock]
 ·intro b hb hf;have hne:b≠g:=fun h=>hf (by subst h;simp[lq,bC.fp,Value.ownBlock]);exact⟨hold b hb hne,fun _ h=>h⟩
 ·intro b hb;left;simpa[lq,bC.fp,Value.ownBlock]using hb
 ·intro _;show w.drawn≤w.drawn+q;omega
theorem VJ{T:Type}{w:World}{m:jN}{f:T→List PV}:∀ {l:List T} {xs:List Value},bA w m (l.flatMap f) xs→∃zs:List (T × List Value),zs.map (·.1)=l∧(zs.map (·.2)).flatten=xs∧∀z∈zs,bA w m (f z.1) z.2
 | [],xs,h=>by
  simp only[List.flatMap_nil,bA]at h;exact⟨[],rfl,by simp[h],fun z hz=>by cases hz⟩
 | x::l,xs,h=>by
  rw[ajn]at h
  have h1:bA w m (f x) (xs.take (f x).length):=by
   have:=h.take (f x).length;simpa using this
  have h2:bA w m (l.flatMap f) (xs.drop (f x).length):=by
   have:=h.drop (f x).length;simpa using this
  obtain⟨zs,e1,e2,e3⟩:=VJ h2;refine⟨(x,xs.take (f x).length)::zs,by simp[e1],by simp[e2],fun z hz=>?_⟩;rcases List.mem_cons.1 hz with rfl|hz
  ·exact h1
  ·exact e3 z hz
theorem acn:∀ {L:List (List Value)} {k:Nat},0<k→(∀x∈L,x.length=k)→∀j,j<L.length*k→L.flatten[j]?=some ((L[j/k]!)[j%k]!)
 | [],k,_,_,j,hj=>by simp at hj
 | x::L,k,hk,h,j,hj=>by
  have hx:x.length=k:=h x (by simp);rw[List.flatten_cons];by_cases hlt:j<k
  ·rw[List.getElem?_append_left (by omega),Nat.div_eq_of_lt hlt,Nat.mod_eq_of_lt hlt,List.getElem!_cons_zero,ahh (by omega),anR x j (by omega)]
  ·rw[List.getElem?_append_right (by omega),hx,acn hk (fun y hy=>h y (by simp[hy])) (j-k) (by simp only[ak9,Nat.add_mul,Nat.one_mul]at hj;omega)];obtain⟨d,hd⟩:∃d,j=d+k:=⟨j-k,by omega⟩;subst hd;rw[Nat.add_sub_cancel,Nat.add_div_right _ hk,Nat.add_mod_right,List.getElem!_cons_succ]
theorem Ze{α:Type}[Inhabited α](enc:α→List Value){k:Nat}(hk:0<k)(henc:∀x,(enc x).length=k)(d:List α):(flatK enc k d.toArray).toList=(d.map enc).flatten:=by
 apply List.ext_getElem?;intro j
 have hfl:((d.map enc).flatten).length=d.length*k:=by
  rw[List.length_flatten,an4];clear hk
  induction d with
  | nil=>simp
  | cons x d ih=>simp only[ahn,List.sum_cons,ak9,Function.comp_apply,henc,ih,Nat.add_mul,Nat.one_mul,Nat.add_comm]
 by_cases hj:j<d.length*k
 ·rw[acn hk (fun x hx=>by obtain⟨y,_,rfl⟩:=ano.1 hx;exact henc y) j (by simpa using hj)];have hs:j<(flatK enc k d.toArray).size:=by simpa using hj
  rw[anM,anP hs,←anR _ j hs,get_flatK enc k d.toArray j (by simpa using hj)];have hq:j/k<d.length:=Nat.div_lt_of_lt_mul (by rw[Nat.mul_comm];exact hj);congr 2;rw[anR d.toArray (j/k) (by simpa using hq),anR (d.map enc) (j/k) (by simpa using hq)];simp
 ·have h1:((flatK enc k d.toArray).toList)[j]?=none:=zf (by rw[alo,size_flatK];simp only[amO];omega);have h2:((d.map enc).flatten)[j]?=none:=zf (by rw[hfl];omega);rw[h1,h2]
theorem OU{α β:Type}(zs:List α)(g:α→β):(zs.attach.map fun a=>g a.1)=zs.map g:=by
 conv=>rhs;rw[←List.attach_map_subtype_val zs]
 rw[an4];rfl
theorem AC.ac4{P:Program}{ρ:Ren}(L:SlLaysF0.n6 P ρ){T:Type}(f:T→List PV){k:Nat}(hk0:0<k)(hfl:∀x,(f x).length=k)(hone:∀x,(f x).all PV.one=true)
  (aE:∀w,(isAgg (ρ.t 24)).run P w=.ok true w) (zE:∀w,(Go.sizeOf (ρ.t 24)).run P w=.ok k w) {g:FuncId} (hp:bN P g=true) {cf:T→T→Int} {l:List T}
  (hcmp:∀a b,a∈l→b∈l→@AC Mk P g [.agg (f a),.agg (f b)] [] fun out _=>out=.ret (.int .i64 (cf a b)))
  (s1:∀x,¬cf x x<0) (s2:∀x y z,cf x y<0→cf y z<0→cf x z<0) (s3:∀x y z,¬cf x y<0→¬cf y z<0→¬cf x z<0)
  (hd:l.Pairwise fun x y=>cf x y<0∨cf y x<0) (hb:l.length<4611686018427387904) {v:Value} {e:TypeId} {R:eP→List bC→Prop}
  (h:R (.ret (.tuple [])) [.buf v (l.mergeSort fun x y=>!decide (cf y x<0)).length k e ((l.mergeSort fun x y=>!decide (cf y x<0)).flatMap f)]):
  AC P (ρ.f 6) [.val v,.fn g []] [.buf v l.length k e (l.flatMap f)] R:=by
 rw[anX]at h;intro w m vs hc hv;simp only[bA,dP]at hv;obtain⟨v0,vs0,rfl,rfl,v1,vs1,rfl,⟨cs,rfl,rfl⟩,rfl⟩:=hv
 have nil:l=[]→Calls P (ρ.f 6) #[v0,.func (.func g) #[] #[]] w fun en w'=>∃out σ' m',R out σ'∧AP w' m' out en∧Conc w' m' σ'∧Trans w m [.buf v0 l.length k e (l.flatMap f)] w' m' σ':=by
  intro hl0;subst hl0;obtain⟨xs,⟨hx1,hx2⟩,hrep,hm⟩:=hc.each _ (ala.2 rfl);have hnil:([]:List T).mergeSort (fun x y=>!decide (cf y x<0))=[]:=by simp
  rw[hnil]at h;rcases hx2 with⟨rfl,hn⟩|⟨gb,cap,cur,fz,rfl,hg,hfz,hn,hcap,hcur,htake⟩
  ·refine(AnyF.slices_SortFunc_none (P:=P) (ρ:=ρ) {L with} Option.none 0 (.func (.func g) #[] #[]) w).mono ?_;rintro en w' ⟨rfl,rfl⟩;exact⟨_,_,m,h,⟨_,rfl,by simp only[dP];exact⟨[],rfl,bA.nil⟩⟩,hc,Trans.refl _ _ _⟩
  ·refine(AnyF.slices_SortFunc_none (P:=P) (ρ:=ρ) {L with} (some ⟨gb,0,Option.none⟩) cap (.func (.func g) #[] #[]) w).mono ?_;rintro en w' ⟨rfl,rfl⟩;exact⟨_,_,m,h,⟨_,rfl,by simp only[dP];exact⟨[],rfl,bA.nil⟩⟩,hc,Trans.refl _ _ _⟩
 by_cases hl0:l=[]
 ·exact nil hl0
 obtain⟨xs,⟨hx1,hx2⟩,hrep,hm⟩:=hc.each _ (ala.2 rfl);rcases hx2 with⟨rfl,hn⟩|⟨gb,cap,cur,fz,rfl,hg,hfz,hn,hcap,hcur,htake⟩
 ·exact absurd (ZR hn) hl0
 obtain⟨zs,z1,z2,z3⟩:=VJ hrep;have hzl:zs.length=l.length:=by rw[←z1];simp
 have hgs:gb<w.heap.size:=by
  rcases gK gb w.heap.size with h|h
  ·exact h
  ·rw[ahf h]at hg;cases hg
 have hm':∀off,¬m gb off:=hm gb rfl
 obtain⟨z0,hz0⟩:∃z,z∈zs:=by
  cases hzz:zs with
  | nil=>rw[hzz]at hzl;exact absurd (ZR hzl.symm) hl0
  | cons z r=>exact⟨z,by simp⟩
 let A:Type:={z:T × List Value // z∈zs}
 letI:Inhabited A:=⟨⟨z0,hz0⟩⟩
 let enc:A→List Value:=fun a=>a.1.2;let cA:A→A→Int:=fun a b=>cf a.1.1 b.1.1
 have henc:∀a:A,(enc a).length=k:=fun a=>by
  have:=(z3 a.1 a.2).length_eq;rw[hfl]at this;exact this
 have amh:∀a:A,∀u∈enc a,u.oneCell'=true:=fun a=>(z3 a.1 a.2).oneCell (hone _)
 have hSA:SWO (ltOf cA):={
  irrefl:=fun x=>by simp only[ltOf,cA,anL];exact s1 _
  trans:=fun x y z a b=>by simp only[ltOf,cA,decide_eq_true_eq]at *;exact s2 _ _ _ a b
  ntrans:=fun x y z a b=>by simp only[ltOf,cA,anL]at *;exact s3 _ _ _ a b}
 have hpz:zs.Pairwise fun x y=>cf x.1 y.1<0∨cf y.1 x.1<0:=by
  rw[←z1,List.pairwise_map]at hd;exact hd
 have hTA:∀x y:A,(ltOf cA) x y=false→(ltOf cA) y x=false→x=y:=by
  intro x y a b;simp only[ltOf,cA,anL]at a b;apply Subtype.ext;obtain⟨i,hi,ei⟩:=List.mem_iff_getElem.1 x.2;obtain⟨j,hj,ej⟩:=List.mem_iff_getElem.1 y.2;rw[←ei,←ej]at a b⊢;rcases Nat.lt_trichotomy i j with hij|hij|hij
  ·rcases List.pairwise_iff_getElem.1 hpz i j hi hj hij with h'|h'
   ·exact absurd h' a
   ·exact absurd h' b
  ·subst hij;rfl
  ·rcases List.pairwise_iff_getElem.1 hpz j i hj hi hij with h'|h'
   ·exact absurd h' b
   ·exact absurd h' a
 have ant:(zs.attach.map enc).flatten=xs:=by
  rw[←z2];congr 1;exact OU zs (fun z=>z.2)
 have hat:zs.attach.toArray.size=l.length:=by
  have:zs.attach.length=zs.length:=List.length_attach;simpa only[amO,hzl]using this
 have hcell:∀j (hj:j<l.length*k),cur[j]?=xs[j]?:=by
  intro j hj;have:(cur.toList.take (l.length*k))[j]?=xs[j]?:=by rw[htake]
  rw[amL,alm hj]at this;rw[←anM,this]
 have hH:HoldsK enc k w gb 0 zs.attach.toArray:=by
  intro j hj;have hj':j<l.length*k:=by rw[←hat,←size_flatK enc];exact hj
  refine⟨?_,?_⟩
  ·simp only[World.cell?,hg,ajD];rw[akJ (by simp),hcell j hj',←ant,←Ze enc hk0 henc,anM,anP hj];congr 1;exact(anR _ j hj).symm
  ·simp only[World.frozen?,hg];rcases hfz with h|h
   ·rcases fz with⟨a,b⟩;simp only at h⊢;subst h;simp only[anT,anL];omega
   ·rcases fz with⟨a,b⟩;simp only at h⊢;simp only[anT,anL];rw[hcur]at h;have hcm:l.length*k≤cap*k:=an6 k hn;omega
 have agb:CmpLays P g #[] enc k cA gb 0 zs.attach.toArray.size w:=by
  intro m0 os dk _ x y;obtain⟨l1,l2⟩:=LA id (flatK enc k dk) m0 os hm' hc.wf;have hx:x.1.1∈l:=by rw[←z1];exact ano.2 ⟨x.1,x.2,rfl⟩
  have hy:y.1.1∈l:=by rw[←z1];exact ano.2 ⟨y.1,y.2,rfl⟩
  refine(hcmp x.1.1 y.1.1 hx hy (sortWorldK enc k w gb 0 m0 dk os) m [.agg (enc x).toArray,.agg (enc y).toArray] (@Conc.mk Mk _ _ _ (fun r hr=>by simp at hr) (by simp[lq]) (fun b off h=>anZ (hc.wf b off h) l2) trivial)
   (bA.cons (by simp only[dP];exact⟨enc x,rfl,bA.mono l1 _ _ (z3 x.1 x.2)⟩) (bA.cons (by simp only[dP];exact⟨enc y,rfl,bA.mono l1 _ _ (z3 y.1 y.2)⟩) bA.nil))).mono ?_
  rintro en w' ⟨out,σ',m',rfl,hout,_,ht⟩;obtain⟨r,rfl,hr⟩:=hout;simp only[dP]at hr;exact⟨by rw[hr],@Trans.grown Mk trivial _ _ _ _ _ (@Trans.sub Mk _ _ _ _ _ _ _ ht (List.nil_sublist _))⟩
 have key:=AnyQ.slices_SortFunc_total L k aE zE enc henc amh cA hSA g #[] gb 0 cap zs.attach.toArray w (rE hp) agb hH hgs (by rw[hat];exact hb) hTA;have e0:=hat;rw[e0]at key;refine key.mono ?_;rintro en w' ⟨rfl,q,os,rfl⟩
 have hms:((zs.attach.mergeSort fun x y=>!(ltOf cA) y x).map fun a=>a.1.1)=l.mergeSort fun x y=>!decide (cf y x<0):=by
  have e1:(zs.attach.map fun a:A=>a.1.1)=l:=by
   rw[←z1];exact OU zs (fun z=>z.1)
  rw[List.map_mergeSort (r:=fun x y:A=>!(ltOf cA) y x) (s:=fun x y:T=>!decide (cf y x<0)) (f:=fun a:A=>a.1.1),e1];intro a _ b _;rfl
 have hlen:(zs.attach.mergeSort fun x y=>!(ltOf cA) y x).length=l.length:=by rw[anX];simpa using hzl
 have ajl:=Ze enc hk0 henc (zs.attach.mergeSort fun x y=>!(ltOf cA) y x)
 have hfs:((zs.attach.mergeSort fun x y=>!(ltOf cA) y x).map enc).flatten.length=l.length*k:=by
  rw[←ajl,alo,size_flatK];simp[hlen]
 have hcm:l.length*k≤cap*k:=an6 k hn
 have amd:bA w m ((l.mergeSort fun x y=>!decide (cf y x<0)).flatMap f) ((zs.attach.mergeSort fun x y=>!(ltOf cA) y x).map enc).flatten:=by
  rw[←hms];generalize (zs.attach.mergeSort fun x y=>!(ltOf cA) y x)=ss
  induction ss with
  | nil=>exact bA.nil
  | cons a ss ih=>
   simp only[ahn,ajn,List.flatten_cons];exact bA.append (z3 a.1 a.2) ih
 obtain⟨c1,c2⟩:=agN (flatK enc k (zs.attach.mergeSort fun x y=>!(ltOf cA) y x).toArray) q os hc hg hfz hn hcap hcur hm' hfs (by
  rw[←ajl];apply List.ext_getElem?;intro j;rw[amL];split
  ·rename_i hj;have h1:j<cur.size:=by omega
   have h2:j<(flatK enc k (zs.attach.mergeSort fun x y=>!(ltOf cA) y x).toArray).size:=by simpa[hlen]using hj
   simp only[Go.Sort.putCells,anM,an1,anP h1,anz];rw[alm ⟨an8 _,by rw[ajD];exact h2⟩,Nat.sub_zero,anR _ j h2,anP h2];rfl
  ·rename_i hj
   rw[zf (by rw[alo,size_flatK];simp[hlen];omega)]) amd
 exact⟨_,_,m,h,⟨_,rfl,by simp only[dP];exact⟨[],rfl,bA.nil⟩⟩,c1,c2⟩
end Go.Abs
namespace Go.Ft
open Go Go.Lib
theorem JH:∀s t:Str,Go.Lib.index s t=match mo s t with|none=>-1|some i=>(i:Int)
 | [],t=>by
  unfold Go.Lib.index mo;cases t.isEmpty<;>rfl
 | b::l,t=>by
  unfold Go.Lib.index mo;rw[JH l t];cases t.isPrefixOf (b::l)with
  | true=>rfl
  | false=>
   simp only[anW,amJ];cases mo l t with
   | none=>rfl
   | some i=>
    have:(((i:Nat):Int)==-1)=false:=by rw[beq_eq_false_iff_ne];omega
    simp only[this,anW,amJ,anz];show (i:Int)+1=((i+1:Nat):Int);omega
theorem abf(s t:Str):Go.Lib.contains s t=(mo s t).isSome:=by
 unfold Go.Lib.contains;rw[JH];cases mo s t with
 | none=>rfl
 | some i=>simp
theorem Y6{s t:Str}{i:Nat}(h:mo s t=some i):i+t.length≤s.length:=by
 have:=index_room s t (by rw[JH,h];exact Int.natCast_nonneg i);rw[JH,h]at this;simp only at this;omega
theorem abS{t:Str}(ht:t≠[]):∀(n:Nat) (s:Str) (f k:Nat),s.length<n→n≤f→n≤k→splitK t 0 (countFrom t f s) s=nZ t k s
 | 0,s,f,k,h,_,_=>by omega
 | n+1,s,f,k,h,hf,hk=>by
  obtain⟨f,rfl⟩:∃g,f=g+1:=⟨f-1,by omega⟩;obtain⟨k,rfl⟩:∃g,k=g+1:=⟨k-1,by omega⟩;rw[countFrom,nZ,JH];cases hi:mo s t with
  | none=>simp[splitK]
  | some i=>
   have hr:=Y6 hi;have htl:0<t.length:=List.length_pos_iff.2 ht;have hb:(((i:Nat):Int)==-1)=false:=by rw[beq_eq_false_iff_ne];omega
   simp only[hb,anW,amJ,an0];rw[Nat.add_comm 1,splitK,JH,hi];simp only[hb,anW,amJ,an0,Nat.add_zero];rw[abS ht n (s.drop (i+t.length)) f k (by simp;omega) (by omega) (by omega)]
theorem aaX:∀(l:List Str) (t:Str),Go.Lib.join l t=nT l t
 | [],_=>rfl
 | [x],t=>by rw[nT,join_one]
 | x::y::r,t=>by
  rw[nT,←aaX (y::r) t,join_cons,join_cons];simp[joinTail]
theorem agv:∀(k u:Nat),u<10 ^ (k+1)→sG (k+1) u=decDigits u
 | 0,u,h=>by rw[sG,decDigits,alm (by simpa using h),dif_pos (by simpa using h)]
 | k+1,u,h=>by
  rw[sG,decDigits];by_cases hu:u<10
  ·rw[alm hu,dif_pos hu]
  ·rw[akJ hu,dif_neg hu,agv k (u/10) (by rw[Nat.pow_succ]at h;omega)]
theorem akH{n:Int}(h1:-9223372036854775808≤n)(h2:n≤9223372036854775807):um n=itoa n:=by
 unfold um itoa;rw[agv 19 _ (by have:(10:Nat) ^ 20=100000000000000000000:=(by decide);omega),agv 19 _ (by have:(10:Nat) ^ 20=100000000000000000000:=(by decide);omega)]
theorem ajh:∀(l:Str) (acc:Nat),Iq acc l=match parseUint10 acc l with|.ok v=>(0,v)|.range=>(2,0)|_=>(1,0)
 | [],acc=>rfl
 | c::r,acc=>by
  rw[Iq,parseUint10];split
  ·split
   ·rfl
   ·split
    ·rfl
    ·exact ajh r _
  ·rfl
theorem ak0(l:Str):uM l=match atoiAll l with|.ok v=>(0,v)|.range=>(2,atoiSat l)|_=>(1,0):=by
 cases l with
 | nil=>rfl
 | cons c r=>
  have anf:atoiSat (c::r)=if c.toNat=45 then -9223372036854775808 else 9223372036854775807:=by
   unfold atoiSat;simp
  rw[anf];unfold uM atoiAll parseMag;simp only;generalize (if c.toNat=43∨c.toNat=45 then r else c::r)=body;by_cases hb:body=[]
  ·simp[hb]
  ·rw[akJ hb,akJ hb,ajh];cases parseUint10 0 body with
   | ok u=>
    simp only;by_cases h1:¬c.toNat=45∧9223372036854775808≤u
    ·simp[h1]
    ·by_cases h2:c.toNat=45∧9223372036854775808<u
     ·simp[h2]
     ·simp[h1,h2]
   | _=>rfl
end Go.Ft
namespace Go.Abs
variable [iD]
open Go Go.Proofs Go.Lib Go.Shelf Go.RowKit
theorem xG(hD:¬iD.D){w w':World}{m:jN}(hc:Conc w m [])(hb:Below w.heap.size w w'):Conc w' m []∧Trans w m [] w' m []:=by
 have hle:Le w m w' m:=fun b off hm=>⟨hm,ak4 (w:=w) (hb.block b (hc.wf b off hm))⟩
 exact⟨⟨fun r hr=>by simp at hr,by simp[lq],fun b off hm=>anZ (hc.wf b off hm) hb.size,iD.mono hle hc.rR⟩,
  ⟨hb.os,hb.tape,hb.output,hb.size,hle,fun b hlt _=>⟨hb.block b hlt,fun _ h=>h⟩,fun b hb=>by simp[lq]at hb,fun d=>absurd d hD⟩⟩
section
variable {P : Program} {ρ : Ren} {R : eP → List bC → Prop}
theorem AC.contains(L:Lays.n144 P ρ){s t:List UInt8}(hs:s.length<4294967281)(hm:∀(w:World) (m:jN),iD.G w m→∃n:Int,w.cell? ⟨ρ.g 1,0,Option.none⟩=some (.int .i64 n))
  (h:R (.ret (.bool (Ft.mo s t).isSome)) []):AC P (ρ.f 144) [.str s,.str t] [] R:=by
 intro w m vs hc hv;simp only[bA,dP]at hv;obtain⟨v0,vs0,rfl,rfl,v1,vs1,rfl,rfl,rfl⟩:=hv;obtain⟨n,hn⟩:=hm w m hc.rR;refine(Any.strings_Contains L ⟨s.toArray⟩ ⟨t.toArray⟩ n w (by simpa[ByteArray.size]using hs) hn).mono ?_;rintro en w' ⟨rfl,rfl⟩;exact⟨_,_,m,h,⟨_,rfl,by simp only[dP];rw[Ft.abf]⟩,hc,Trans.refl _ _ _⟩
theorem AC.itoa(hD:¬iD.D)(L:LaysM.n171 P ρ){n:Int}(h0:-9223372036854775808≤n)(h1:n≤9223372036854775807)(ht:∀(w:World) (m:jN),iD.G w m→Lib.TabIs P w "internal/strconv.uint64pow10" .u64 Lib.pow10Tab)
  (h:R (.ret (.str (Ft.um n))) []):AC P (ρ.f 171) [.int .i64 n] [] R:=by
 intro w m vs hc hv;simp only[bA,dP]at hv;obtain⟨v0,vs0,rfl,rfl,rfl⟩:=hv;refine(Any.strconv_Itoa L n h0 h1 w (ht w m hc.rR)).mono ?_;rintro en w' ⟨rfl,k,os,rfl⟩;have hb:Below w.heap.size w (Sort.grow (w.drewN k) os):=⟨rfl,rfl,rfl,by rw[Sort.size_grow];exact Nat.le_add_right _ _,fun j hj=>Sort.heap_grow_old (w.drewN k) os hj⟩;obtain⟨c1,c2⟩:=xG hD hc hb;exact⟨_,_,m,h,⟨_,rfl,by simp only[dP];rw[Ft.akH h0 h1]⟩,c1,c2⟩
theorem AC.atoi(hD:¬iD.D)(L:LaysC.n172 P ρ){s:List UInt8}(hs:s.length≤281474976710656){E:TypeId}(hE:ρ.t 168=E)
  (hv1:∀(w:World) (m:jN),iD.G w m→∃ev,w.cell? ⟨ρ.g 15,0,Option.none⟩=some ev∧(ev=.nilIface∨∃te pe,ev=.iface te pe)) (hv2:∀(w:World) (m:jN),iD.G w m→∃ev,w.cell? ⟨ρ.g 16,0,Option.none⟩=some ev∧(ev=.nilIface∨∃te pe,ev=.iface te pe))
  (h:R (.ret (.tuple [.int .i64 (Ft.uM s).2,.err (if (Ft.uM s).1=0 then Option.none else some E)])) []):AC P (ρ.f 172) [.str s] [] R:=by
 subst hE;intro w m vs hc hv;simp only[bA,dP]at hv;obtain⟨v0,vs0,rfl,rfl,rfl⟩:=hv;have hF:=Ft.ak0 s;have hsz:(⟨s.toArray⟩:ByteArray).size=s.length:=by simp[ByteArray.size]
 have tup:∀(w':World) (a:Int) (e:Option TypeId) (x:Value),dP w' m (.err e) x→dP w' m (.tuple [.int .i64 a,.err e]) (.tuple #[.int .i64 a,x]):=fun w' a e x hx=>by
  simp only[dP];exact⟨[.int .i64 a,x],rfl,bA.cons (by simp only[dP]) (bA.cons hx bA.nil)⟩
 cases ha:atoiAll s with
 | ok v=>
  rw[ha]at hF;simp only at hF;rw[hF]at h;refine(Any.strconv_Atoi_ok L ⟨s.toArray⟩ (by rw[hsz];omega) v (by simpa using ha) w).mono ?_;rintro en w' ⟨rfl,hw⟩
  have hb:Below w.heap.size w w':=by
   rcases hw with rfl|⟨t,rfl⟩
   ·exact Below.refl _ _
   ·refine⟨rfl,rfl,rfl,?_,fun j hj=>Lib.bytesWorld_at_old w _ _ j hj⟩;have hsz2:(Lib.bytesWorld w (ρ.t 5) t).heap.size=w.heap.size+1:=Lib.bytesWorld_size ..;omega
  obtain⟨c1,c2⟩:=xG hD hc hb;exact⟨_,_,m,h,⟨_,rfl,tup _ _ Option.none _ (by simp only[dP])⟩,c1,c2⟩
 | range=>
  rw[ha]at hF;simp only at hF;rw[hF]at h;obtain⟨ev,e1,e2⟩:=hv2 w m hc.rR;refine(Any.strconv_Atoi_range L ⟨s.toArray⟩ (by rw[hsz];exact hs) (by simpa using ha) ev w e1 e2).mono ?_;rintro en w' ⟨N,rfl,_,_,hb⟩;obtain⟨c1,c2⟩:=xG hD hc hb;exact⟨_,_,m,h,⟨_,rfl,tup _ _ (some _) _ (by simp only[dP];exact⟨_,rfl⟩)⟩,c1,c2⟩
 | _=>
  rw[ha]at hF;simp only at hF;rw[hF]at h;obtain⟨ev,e1,e2⟩:=hv1 w m hc.rR;refine(Any.strconv_Atoi_syntax L ⟨s.toArray⟩ (by rw[hsz];exact hs) (by simpa using ha) ev w e1 e2).mono ?_;rintro en w' ⟨N,rfl,_,_,hb⟩;obtain⟨c1,c2⟩:=xG hD hc hb;exact⟨_,_,m,h,⟨_,rfl,tup _ _ (some _) _ (by simp only[dP];exact⟨_,rfl⟩)⟩,c1,c2⟩
theorem Yg{w:World}{m:jN}{b:Nat}:∀ {l:List (List UInt8)} {off:Nat},jG w m b 1 off (l.map fun s=>[PV.str s])→∀(j:Nat) (x:ByteArray),(l.map fun s=>(⟨s.toArray⟩:ByteArray))[j]?=some x→m b (off+j)∧w.cell? ⟨b,off+j,Option.none⟩=some (.string x)
 | [],_,_,j,x,h=>by simp at h
 | s::l,off,hr,j,x,h=>by
  simp only[ahn,jG,qj,dP]at hr;obtain⟨⟨_,⟨v,h1,h2,h3⟩,_⟩,h4⟩:=hr;cases j with
  | zero=>
   simp only[ahn,anS,bX]at h;subst h;rw[h3]at h2;exact⟨h1,h2⟩
  | succ j=>
   simp only[ahn,anV]at h;have:=Yg h4 j x h;rw[show off+(j+1)=off+1+j from by omega];exact this
theorem AC.join(hD:¬iD.D)(L:Lays.n156 P ρ)(X:Builder.Extra P ρ){l:List (List UInt8)}{t:List UInt8}(hl:l.length≤140737488355328)(hj:(Ft.nT l t).length≤140737488355328)
  (h:R (.ret (.str (Ft.nT l t))) []):AC P (ρ.f 156) [.list (l.map fun s=>[PV.str s]),.str t] [] R:=by
 intro w m vs hc hv;simp only[bA]at hv;obtain⟨v0,vs0,rfl,h1,v1,vs1,rfl,h2,rfl⟩:=hv;simp only[dP]at h1 h2;obtain⟨a,cap,rfl,hcap,hel⟩:=h1;subst h2;have hml:(l.map fun s=>[PV.str s]).length=l.length:=am0 _;rw[hml]at hcap⊢
 have hdata:(l.map fun s=>(⟨s.toArray⟩:ByteArray)).map (·.data.toList)=l:=by
  rw[an4];exact(List.map_congr_left (fun s _=>by simp)).trans (List.map_id l)
 rcases hel with he|⟨b,off,sz,rfl,he⟩
 ·have hl0:l=[]:=List.map_eq_nil_iff.1 he;subst hl0;refine(Any.strings_Join_none L X a cap ⟨t.toArray⟩ w).mono ?_;rintro en w' ⟨rfl,rfl⟩;exact⟨_,_,m,h,⟨_,rfl,by simp only[dP];rfl⟩,hc,Trans.refl _ _ _⟩
 ·cases hl0:l with
  | nil=>
   subst hl0;refine(Any.strings_Join_none L X _ cap ⟨t.toArray⟩ w).mono ?_;rintro en w' ⟨rfl,rfl⟩;exact⟨_,_,m,h,⟨_,rfl,by simp only[dP];rfl⟩,hc,Trans.refl _ _ _⟩
  | cons x r=>
   have hsz:sz=1:=by
    rw[hl0]at he;simp only[ahn,jG]at he;exact he.1.1.symm
   subst hsz;rw[←hl0];have hcell:=Yg he;have hbk:b<w.heap.size:=hc.wf b (off+0) (hcell 0 ⟨x.toArray⟩ (by simp[hl0])).1;have hlm:(l.map fun s=>(⟨s.toArray⟩:ByteArray)).length=l.length:=am0 _
   have key:=Any.strings_Join L X b off cap (l.map fun s=>(⟨s.toArray⟩:ByteArray)) ⟨t.toArray⟩ w (fun j x hx=>(hcell j x hx).2) hbk (by rw[hlm];exact hl) (by rw[hlm];exact hcap)
    (by rw[hdata];simpa[Ft.aaX]using hj)
   rw[hlm,hdata]at key;refine key.mono ?_;rintro en w' ⟨rfl,hb⟩;obtain⟨c1,c2⟩:=xG hD hc hb;exact⟨_,_,m,h,⟨_,rfl,by simp only[dP];rw[Ft.aaX]⟩,c1,c2⟩
theorem AC.split(L:Lays.n146 P ρ)(hi9:(P.info? (ρ.t 9)).map (fun i=>(i.zero,i.size,i.bytes))=some (some (.string ByteArray.empty),1,16)){s t:List UInt8}(hs:s.length<4294967281)(ht:t≠[])
  (hm:∀(w:World) (m:jN),iD.G w m→∃n:Int,w.cell? ⟨ρ.g 1,0,Option.none⟩=some (.int .i64 n))
  (h:R (.ret (.list ((Ft.nZ t (s.length+1) s).map fun s=>[PV.str s]))) []):AC P (ρ.f 146) [.str s,.str t] [] R:=by
 intro w m vs hc hv;simp only[bA,dP]at hv;obtain⟨v0,vs0,rfl,rfl,v1,vs1,rfl,rfl,rfl⟩:=hv;obtain⟨n,hn⟩:=hm w m hc.rR;have htl:1≤t.length:=List.length_pos_iff.2 ht;have hts:1≤(⟨t.toArray⟩:ByteArray).size:=by simpa[ByteArray.size]using htl
 refine(Any.strings_Split L hi9 ⟨s.toArray⟩ ⟨t.toArray⟩ n w (by simpa[ByteArray.size]using hs) hn hts).mono ?_;rintro en w' ⟨rfl,rfl⟩;have hall:=Lib.splitB_all ⟨t.toArray⟩ hts 0 _ ⟨s.toArray⟩ rfl
 have hdata:(Lib.splitB ⟨t.toArray⟩ 0 (Lib.countB ⟨s.toArray⟩ ⟨t.toArray⟩) ⟨s.toArray⟩).map (·.data.toList)=Ft.nZ t (s.length+1) s:=by
  rw[splitB_data];exact Ft.abS ht (s.length+1) s (s.length+1) (s.length+1) (Nat.lt_succ_self _) (ahi _) (ahi _)
 have hlen:Lib.countB ⟨s.toArray⟩ ⟨t.toArray⟩+1=(Ft.nZ t (s.length+1) s).length:=by rw[←hdata,am0,hall]
 have ama:(Lib.splitB ⟨t.toArray⟩ 0 (Lib.countB ⟨s.toArray⟩ ⟨t.toArray⟩) ⟨s.toArray⟩).map Value.string=(Ft.nZ t (s.length+1) s).map fun s=>Value.string ⟨s.toArray⟩:=by
  rw[←hdata,an4];exact List.map_congr_left fun x _=>by simp
 rw[hlen,ama];generalize Ft.nZ t (s.length+1) s=r at h⊢;have hcl:=rV hc (.cells (r.map fun s=>Value.string ⟨s.toArray⟩).toArray (ρ.t 9)) (fun _=>True);have htr:=jF (σ':=[]) hc (.cells (r.map fun s=>Value.string ⟨s.toArray⟩).toArray (ρ.t 9)) (fun _=>True) (fun b hb=>by simp[lq]at hb);have href:=EZ hc (r.map fun s=>Value.string ⟨s.toArray⟩) (r.map PV.str) (QO r) (ρ.t 9);refine⟨_,_,_,h,⟨_,rfl,?_⟩,hcl,htr⟩;simp only[dP];have hml:(r.map fun s=>[PV.str s]).length=r.length:=am0 _;rw[hml];refine⟨_,_,rfl,ahi _,.inr ⟨w.heap.size,0,1,rfl,qy.2 ⟨fun e he=>?_,?_⟩⟩⟩
 ·obtain⟨x,_,rfl⟩:=ano.1 he;rfl
 ·have hfl:(r.map fun s=>[PV.str s]).flatten=r.map PV.str:=by
   clear h hcl htr href hml
   induction r with
   | nil=>rfl
   | cons x r ih=>simp[ih]
  rw[hfl];exact href
end
end Go.Abs
namespace Go.Abs
open Go
@[reducible] def amn(ints errs:List Nat)(tabs:List (Nat × List Value)):iD where
 G:=fun w m=>(∀g∈ints,m g 0∧∃n:Int,w.cell? ⟨g,0,none⟩=some (.int .i64 n))∧(∀g∈errs,m g 0∧∃u v,w.cell? ⟨g,0,none⟩=some (.iface u v))∧∀p∈tabs,∀off,m p.1 off∧w.cell? ⟨p.1,off,none⟩=p.2[off]?
 mono:=fun {w w' m m'} hle ⟨h1,h2,h3⟩=>⟨fun g hg=>by
   obtain⟨a,n,b⟩:=h1 g hg;obtain⟨c,d⟩:=hle g 0 a
   exact⟨c,n,by rw[d,b]⟩,fun g hg=>by
   obtain⟨a,u,v,b⟩:=h2 g hg;obtain⟨c,d⟩:=hle g 0 a
   exact⟨c,u,v,by rw[d,b]⟩,fun p hp off=>by
   obtain⟨a,b⟩:=h3 p hp off;obtain⟨c,d⟩:=hle p.1 off a
   exact⟨c,by rw[d,b]⟩⟩
 D:=False
theorem SK{W:World}{g off:Nat}{v:Value}(h:W.cell? ⟨g,off,none⟩=some v):wX W g 0:=by
 unfold World.cell? at h;show g<W.heap.size;rcases gK g W.heap.size with hl|hl
 ·exact hl
 ·simp only at h;rw[ahf hl]at h;cases h
theorem R3{P:Program}{n nm:String}{d:DataW Unit}{r:List (String × DataW Unit)}{W:World}{g t:Nat}{ms:Array (String × TypeId)}(h:laidMet P ((n,.iface nm d)::r) W)(hg:P.globalNamed n=some g)
  (ht:(P.globals[g]?).map (·.type)=some t) (hi:P.underlying t=some (.interface ms)):∃u v,W.cell? ⟨g,0,none⟩=some (.iface u v):=by
 obtain⟨ps,⟨g0,t0,cs0,f0,p0,q0,hg0,ht0,hv0,hd0,_,e0⟩,_,_⟩:=h;obtain rfl:=anA (hg.symm.trans hg0);obtain rfl:=anA (ht.symm.trans ht0);obtain⟨l0⟩:=cs0;cases f0 with
 | zero=>simp[DataW.trod]at hd0
 | succ f0=>
  unfold DataW.trod at hd0;rw[hi]at hd0;simp only at hd0;split at hd0<;>first|(cases hd0;done)|skip
  all_goals first
   | (rename_i e;cases e;done)
   | skip
  all_goals simp_all
  all_goals exact⟨_,_,by simpa using World.var?_cell hg0 hv0 0⟩
theorem ac1{P:Program}{w:World}{name:String}{k:IntKind}{zs:List Int}{g:Nat}(hg:P.globalNamed name=some g)(h:Lib.TabIs P w name k zs):∀off,wX w g off∧w.cell? ⟨g,off,none⟩=(zs.map fun z=>Value.int k z)[off]?:=by
 intro off;unfold Lib.TabIs World.var? at h;rw[hg]at h;simp only[Option.bind_some]at h;split at h
 ·rename_i cs t f hc;cases h;refine⟨?_,?_⟩
  ·show g<w.heap.size;rcases gK g w.heap.size with hl|hl
   ·exact hl
   ·rw[ahf hl]at hc;cases hc
  ·unfold World.cell?;simp only[hc];simp
 ·cases h
theorem ad6{P:Program}{w:World}{name:String}{k:IntKind}{zs:List Int}{g:Nat}(hg:P.globalNamed name=some g)(hne:zs≠[])(h:∀off,w.cell? ⟨g,off,none⟩=(zs.map fun z=>Value.int k z)[off]?):Lib.TabIs P w name k zs:=by
 unfold Lib.TabIs World.var?;rw[hg];simp only[Option.bind_some];have h0:=h 0
 obtain⟨z,r,rfl⟩:∃z r,zs=z::r:=by
  cases zs with
  | nil=>exact absurd rfl hne
  | cons z r=>exact⟨z,r,rfl⟩
 unfold World.cell? at h0;simp only at h0;split at h0
 ·rename_i cs t f hc;rw[hc];simp only[bX];apply Array.ext_getElem?;intro i;have hi:=h i;unfold World.cell? at hi;simp only[hc]at hi;simpa using hi
 ·simp at h0
end Go.Abs
namespace Go.Abs
variable [iD]
open Go
section
variable {P : Program} {o : Oper} {ρ : Operand → PV} {σ : List bC} {R S : PV → List bC → Prop}
theorem aeT{α:Type}(C L:List α)(N off:Nat)(h1:off+L.length≤N)(h2:N≤C.length):(C.take N).take off++(L++(C.take N).drop (off+L.length))=(C.take off++(L++C.drop (off+L.length))).take N:=by
 have a1:(C.take off).length=off:=by rw[al0];omega
 rw[List.take_append,List.take_append,a1,List.take_of_length_le (l:=C.take off) (by omega),List.take_of_length_le (l:=L) (by omega),List.take_take,amD (by omega),List.drop_take,Nat.sub_sub]
theorem AO.aap{t:TypeId}{x y:Operand}{v:Value}{n sz e i off k:Nat}{ag:Bool}{cs new cs':List PV}{σ':List bC}(ho:o.op=.store t x y)(hx:ρ x=.val (.pointer (some ⟨v.blk,off,none⟩)))(hi:σ[i]?=some (bC.buf v n sz e cs))
  (ht:jk P t=some (ag,k)) (hnew:(ρ y).yQ=some new) (hone:new.all PV.one=true) (hk:new.length=k) (h0:0<new.length) (hfit:off+new.length≤cs.length) (hput:putCells cs off new=cs') (hset:Ba σ i (.buf v n sz e cs')=some σ') (hR:R .undef σ'):AO P o ρ σ R S:=by
 obtain⟨hnew,hok⟩:=Cm hnew;have hnew:=hnew.symm;have hset:=PG hset;subst hset;subst hput;intro w m a K QC hr hc hK _;have h:=hr x (by simp[ho,Op.operands]);have hy:=hr y (by simp[ho,Op.operands]);rw[hx]at h;simp only[dP]at h;obtain⟨xs,hrow,hrep,hm⟩:=hc.each _ (ahq hi);have hyl:=hy.cells hok;rw[hnew]at hyl;have hl:=hyl.length_eq;have hl2:=hrep.length_eq;have hn:=hrow.1;rcases hrow.2 with⟨_,rfl⟩|⟨g,cap,cur,fz,rfl,hg,hfz,hnc,hcm,hcs,htake⟩
 ·omega
 have hle:n*sz≤cap*sz:=an6 _ hnc;have hst:=xQ P g off e fz (a.eval y).cells.toList 0 cur w hg (by simp at hl⊢;omega) (fun j hj=>by rcases hfz with h|h<;>omega) (hyl.oneCell hone);obtain⟨_,hsz⟩:=Ca ht w;have hsize:(a.eval y).cells.size=k:=by rw[←alo,hl,hk]
 generalize hL:(a.eval y).cells.toList=L at *
 have hrun:(execOp a.eval o).run P w=.ok .skip (w.setRow g (cur.toList.take off++(L++cur.toList.drop (off+L.length))).toArray):=by
  simp only[execOp,ho,Instr.storeAt,h,Instr.sureAddr,storeVar,Sem.run_bind,fM,bJ,hsz,hsize,ne_eq,not_true_eq_false,amJ];rw[show Go.Value.blk (.slice (some ⟨g,0,none⟩) n cap)=g from rfl,hL,hst];simp
 have hxs:xs.take off++(L++xs.drop (off+L.length))=(cur.toList.take off++(L++cur.toList.drop (off+L.length))).take (n*sz):=by
  have hcl:cur.toList.length=cap*sz:=by simpa using hcs
  rw[←htake];exact aeT _ _ _ _ (by omega) (by omega)
 have hl':bA w m (putCells cs off new) (xs.take off++(L++xs.drop (off+L.length))):=by
  unfold putCells;refine(hrep.take off).append (hyl.append ?_);rw[hl];exact hrep.drop _
 have hother:∀k,k≠g→(w.setRow g (cur.toList.take off++(L++cur.toList.drop (off+L.length))).toArray).heap[k]?=w.heap[k]?:=fun k hk=>setRow_other w g k _ hk;have hmg:∀off,¬m g off:=hm g rfl;have hle':Le w m (w.setRow g (cur.toList.take off++(L++cur.toList.drop (off+L.length))).toArray) m:=fun c off' hco=>⟨hco,ak4 (w:=w) (hother c (fun e=>by subst e;exact hmg off' hco))⟩
 have hsz':(cur.toList.take off++(L++cur.toList.drop (off+L.length))).length=cur.size:=by
  simp only[ak_,al0,List.length_drop,alo];omega
 obtain⟨k1,k2⟩:=Conc.write (b:=g) (r':=.buf (.slice (some ⟨g,0,none⟩) n cap) n sz e (putCells cs off new)) (w':=w.setRow g (cur.toList.take off++(L++cur.toList.drop (off+L.length))).toArray) hc hi rfl rfl hmg
  ⟨xs.take off++(L++xs.drop (off+L.length)),⟨by simp only[ak_,al0,List.length_drop];omega,.inr ⟨g,cap,_,fz,rfl,setRow_heap w g cur _ e _ hg,by
   rcases hfz with h|h
   ·exact .inl h
   ·right;rw[amO,hsz'];exact h,hnc,hcm,by rw[amO,hsz'];exact hcs,hxs.symm⟩⟩,bA.mono hle' _ _ hl',hm⟩ ⟨rfl,rfl,rfl⟩ (by simp[World.setRow]) hother
 unfold Oper.wp;rw[hrun];exact hK .undef _ _ _ m hR trivial k1 k2
end
theorem Sy{w:World}{m:jN}{σ:List bC}{i b:Nat}{cs cs':List PV}(hi:σ[i]?=some (.box b cs))(hc:Conc w m σ)(h:∀vs,bA w m cs vs→bA w m cs' vs):Conc w m (σ.set i (.box b cs'))∧Trans w m σ w m (σ.set i (.box b cs')):=by
 have hf:lq (σ.set i (.box b cs'))=lq σ:=by
  clear hc h
  induction σ generalizing i with
  | nil=>rfl
  | cons r σ ih=>
   cases i with
   | zero=>
    simp only[anS,bX]at hi;subst hi;simp[lq,bC.fp]
   | succ i=>
    simp only[anV]at hi;have:=ih hi;simp only[lq,alp,ajn]at this⊢;rw[this]
 refine⟨⟨fun r hr=>?_,by rw[hf];exact hc.apart,hc.wf,hc.rR⟩,⟨rfl,rfl,rfl,ahi _,Le.refl _ _,fun _ _ _=>⟨rfl,fun _ h=>h⟩,fun x hx=>.inl (by rw[←hf];exact hx),fun _=>ahi _⟩⟩;rcases anY hr with h'|h'
 ·exact hc.each r h'
 ·subst h';obtain⟨vs,ty,h1,h2,h3⟩:=hc.each _ (ahq hi);exact⟨vs,ty,h1,h vs h2,h3⟩
theorem bA.atV{w:World}{m:jN}{v:Value}{l:List (List PV)}(hv:dP w m (.list l) v):∀(k:Nat) (cs:List PV) (vs:List Value),cs[k]?=some (.val v)→bA w m cs vs→bA w m (cs.set k (.list l)) vs
 | 0,[],_,h,_=>by simp at h
 | k+1,[],_,h,_=>by simp at h
 | 0,c::cs,vs,h,hr=>by
  simp only[anS,bX]at h;subst h;simp only[bA]at hr;obtain⟨u,vs',rfl,h1,h2⟩:=hr;simp only[dP]at h1;subst h1;exact bA.cons hv h2
 | k+1,c::cs,vs,h,hr=>by
  simp only[bA]at hr;obtain⟨u,vs',rfl,h1,h2⟩:=hr;exact bA.cons h1 (bA.atV hv k cs vs' (by simpa using h) h2)
theorem AW.aio{P:Program}{k:Nat}{c:Code}{env:Env}{σ:List bC}{ds:List Deferred}{Q:Post}{v:Value}{n sz e b q:Nat}{cs cells:List PV}(i j:Nat)(l:List (List PV))(hi:σ[i]?=some (bC.buf v n sz e cs))(hj:(σ.set i (.row v n sz e))[j]?=some (.box b cells))(hq:cells[q]?=some (.val v))
  (hl:l.flatten=cs) (hsz:∀x∈l,x.length=sz) (hn:l.length=n) (h:AW P k c env ((σ.set i (.row v n sz e)).set j (.box b (cells.set q (.list l)))) ds Q):AW P k c env σ ds Q:=by
 intro w m a QC hs ha;obtain⟨m',h1,h2,h3⟩:=hs.iW.freeze hi hl hsz hn;obtain⟨k1,k2⟩:=Sy hj h2 fun vs hvs=>bA.atV h1.weak q cells vs hq hvs;exact h w m' a QC ⟨hs.size,hs.ds,fun u=>dP.mono h3.le _ _ (hs.env u),k1⟩ (ha.step (h3.trans k2))
end Go.Abs
namespace Go.Abs
theorem Zd{α:Type}{f:α→List PV}{k:Nat}(hf:∀x,(f x).length=k):∀l:List α,(l.flatMap f).length=l.length*k
 | []=>by simp
 | x::r=>by rw[ajn,ak_,hf,Zd hf r,ak9,Nat.add_mul];omega
end Go.Abs
namespace Go.Abs
variable [iD]
theorem AR.acJ{P:Program}{n:Nat}{all:Array Oper}{lo:List Oper}{env:Env}{σ:List bC}{ds:List Deferred}{Q:Post}{v:Value}{k sz e:Nat}{cs:List PV}(i:Nat)(hi:σ[i]?=some (bC.buf v k sz e cs))(h:PV.yQ (.val v)=some [.val v]→[PV.val v].all PV.one=true→AR P n all lo env σ ds Q):AR P n all lo env σ ds Q:=by
 intro w m a QC hs ha;obtain⟨xs,hrow,_,_⟩:=hs.iW.each _ (ahq hi)
 have hv:v.oneCell'=true:=by
  rcases hrow.2 with⟨rfl,_⟩|⟨g,cap,cur,fz,rfl,_⟩<;>rfl
 exact h (by simp[PV.yQ,hv]) (by simp[PV.one,hv]) w m a QC hs ha
end Go.Abs
namespace Go.Abs
variable [iD]
open Go
theorem Less.nil{e:Env}:Less [] e:=fun _=>.inl rfl
theorem Less.add{e e':Env}{t:Nat}{p:PV}(h:e.get t=p)(k:Less e' e):Less ((t,p)::e') e:=by
 intro u;simp only[Env.get];cases hb:Nat.beq t u with
 | false=>exact k u
 | true=>
  have:=je hb;subst this;exact .inr h.symm
section
variable {P : Program} {n : Nat} {ds : List Deferred} {L : List Oper}
def AD(P:Program)(n:Nat)(L:List Oper)(env:Env)(σ:List bC)(ds:List Deferred)(Q:Post):Prop:=
 ∀w m a QC,qx w m n env σ ds a→Acc n Q w m σ QC→wpAny P .any L.toArray QC L.toArray.size (Array.replicate L.toArray.size false) a {w with drawn:=w.drawn+1}
theorem AD.acv{env:Env}{σ:List bC}{Q:Post}(k k2:Nat)(σ1 σ2:List bC)(J:(Nat→Bool)→Env→List bC→Prop)(ho:KL L k k2=true)(hk:Nat.ble k k2=true)(hk2:Nat.ble k2 L.length=true)
  (hperm:σ.Perm (σ1++σ2))
  (h:Ev P n L.toArray σ1 env (L.take k) fun env'=>J (fun i=>Nat.blt i k) env' σ2)
  (hI:∀S S' e s,(∀i,k≤i→i<k2→S i=S' i)→J S e s→J S' e s)
  (hT:∀S e σ2 i o,J S e σ2→k≤i→i<k2→S i=false→(∀j∈gJ o,k≤j→S j=true)→L[i]?=some o→o.guard=none∧(∀t,o.dst=some t→t<n)∧
   AO P o e.ev σ2 (fun p wM=>J (fun j=>if i=j then true else S j) (O6 o.dst p e) wM) (fun p wM=>Q (.panic p) [] (σ1++wM) ds))
  (hend:∀S e σ2,(∀i,k≤i→i<k2→S i=true)→J S e σ2→AR P n L.toArray (L.drop k2) e (σ1++σ2) ds Q):
  AD P n L env σ ds Q:=by
 intro w m a QC hs ha;have hk:k≤k2:=CF hk;have hk2:k2≤L.length:=CF hk2;have ho:=Nq hk ho;obtain⟨d,p,h1,h2⟩:=Ev.facts h;rw[al0,amD (by omega)]at h2;have yG:Trans w m σ {w with drawn:=w.drawn+1} m σ:=⟨rfl,rfl,rfl,ahi _,fun _ _ h=>⟨h,rfl⟩,fun _ _ _=>⟨rfl,fun _ h=>h⟩,fun _ h=>.inl h,fun _=>Nat.le_succ _⟩;have hc':Conc {w with drawn:=w.drawn+1} m σ:=⟨fun r hr=>bC.rP (hs.iW.each r hr) yG.le fun _ _=>⟨rfl,fun _ h=>h⟩,hs.iW.apart,hs.iW.wf,iD.mono yG.le hs.iW.rR⟩;have Nz:Trans w m σ {w with drawn:=w.drawn+1} m (σ1++σ2):=yG.perm (.refl _) hperm;have h1':∀i o,i<k→L[i]?=some o→o.dst=some (d i)∧d i<n∧tC P L.toArray (mV (fun _=>true) d p env i) σ1 o (p i):=fun i o hi hoi=>h1 i o (by rw[am7 hi];exact hoi);have hd:∀i o,i<k→L[i]?=some o→o.dst=some (d i)∧d i<n:=fun i o hi hoi=>⟨(h1' i o hi hoi).1,(h1' i o hi hoi).2.1⟩;refine abC 0 (fun _ _ _ _ h=>by omega) (ds:=ds) (d:=d) (σ1:=σ1) (Q:=Q) hk hk2 ho hd J hI hT hend _ _ a _ m (mV (fun _=>true) d p env k) σ2 (by simp) ?_ ?_ ?_ ?_ ?_ ?_ (ha.step Nz)
 ·simp
 ·intro j _ hj;simp[Array.getD,hj]
 ·intro i o hoi hl
  have Lb:i<L.length:=by
   rcases gK i L.length with h|h
   ·exact h
   ·simp[zf h]at hoi
  simp[Array.getD,Lb]at hl
 ·intro i o hi hoi _;obtain⟨f1,f2,f3⟩:=h1' i o hi hoi
  have hother:∀t,(o.dst=some t∨t∈readsOf L o)→∀j,(i≤j∧t∈readsOf L o∨i+1≤j)→j<k→d j≠t:=by
   intro t ht j hj hjk hdj;have hoj:L[j]?=some L[j]:=ahh (by omega);have e1:=(hd j _ hjk hoj).1;rw[hdj]at e1;by_cases e:i=j
   ·subst e;have e9:=anA (hoi.symm.trans hoj);rw[←e9]at e1;rcases hj with⟨_,hj⟩|hj
    ·exact ho.self i o t hi hoi e1 hj
    ·omega
   ·obtain⟨e2,e3⟩:=ho.apart i o j _ t hi hoi (by omega) hoj e e1;rcases ht with ht|ht
    ·exact e2 ht
    ·have:=ho.before i o hoi j (e3 ht).2;omega
  have agr:(mV (fun _=>true) d p env k).get (d i)=p i:=by
   rw[iw (i:=i+1) (by omega) fun j h4 h5 _=>hother (d i) (.inl f1) j (.inr h4) h5];simp[mV,Env.get]
  rw[agr,akJ (by omega)];refine tC.NM rfl f3 fun t ht=>?_;exact iw (by omega) fun j h4 h5 _=>hother t (.inr ht) j (.inl ⟨h4,ht⟩) h5
 ·refine hI _ _ _ _ (fun i hi hi2=>?_) h2;have Lb:i<L.length:=by omega
  have hb:Nat.blt i k=false:=by
   cases e:Nat.blt i k with
   | false=>rfl
   | true=>have:=ow.1 e;omega
  rw[hb];simp[Array.getD,Lb]
 ·refine⟨hs.size,hs.ds,fun t=>?_,hc'.perm hperm⟩;rw[oU];split
  ·simp[dP]
  ·rename_i hh;rw[iw (i:=0) (an8 _)]
   ·exact hs.env.mono yG.le t
   ·intro j _ hj _ hdj;apply hh;rw[List.any_eq_true];have hjL:j<L.length:=by omega
    exact⟨j,by simpa using hj,by simp[Array.getD,hjL,hdj]⟩
theorem AW.acv{env:Env}{σ:List bC}{Q:Post}{id:Nat}(k k2:Nat)(σ1 σ2:List bC)(J:(Nat→Bool)→Env→List bC→Prop)(hm:P.follows .mixedOrders=true)(ho:KL L k k2=true)(hk:Nat.ble k k2=true)(hk2:Nat.ble k2 L.length=true)
  (hperm:σ.Perm (σ1++σ2))
  (h:Ev P n L.toArray σ1 env (L.take k) fun env'=>J (fun i=>Nat.blt i k) env' σ2)
  (hI:∀S S' e s,(∀i,k≤i→i<k2→S i=S' i)→J S e s→J S' e s)
  (hT:∀S e σ2 i o,J S e σ2→k≤i→i<k2→S i=false→(∀j∈gJ o,k≤j→S j=true)→L[i]?=some o→o.guard=none∧(∀t,o.dst=some t→t<n)∧
   AO P o e.ev σ2 (fun p wM=>J (fun j=>if i=j then true else S j) (O6 o.dst p e) wM) (fun p wM=>Q (.panic p) [] (σ1++wM) ds))
  (hend:∀S e σ2,(∀i,k≤i→i<k2→S i=true)→J S e σ2→AR P n L.toArray (L.drop k2) e (σ1++σ2) ds Q):
  AW P n (.region id L.toArray true) env σ ds Q:=
 fun w m a QC hs ha=>wp_region_any hm (AD.acv k k2 σ1 σ2 J ho hk hk2 hperm h hI hT hend w m a QC hs ha)
end
end Go.Abs
namespace Go.Abs
variable [iD]
open Go Go.Ft
theorem adq{α:Type}(a b c d:α):[a,b,c,d].Perm ([b,c,d]++[a]):=by
 show (a::[b,c,d]).Perm ([b,c,d]++[a]);exact(List.perm_append_singleton a [b,c,d]).symm
section
variable {P : Program} {o : Oper} {ρ : Operand → PV} {σ : List bC} {R S : PV → List bC → Prop}
theorem AO.aam{src dst t e:TypeId}{x:Operand}{b i n k:Nat}{cs:List PV}{j:TypeInfo}(ho:o.op=.convert src dst x)(hs:P.underlying src=some (.pointer t))(hd:P.underlying dst=some .unsafePointer)(ht:P.info? t=some j)(hj:(j.size !=0)=true)
  (hx:ρ x=.val (.pointer (some ⟨b,k,none⟩))) (hi:σ[i]?=some (bC.l8 b e cs)) (hn:cs.length=k+n+1) (hR:R (.val (.pointer (some ⟨b,k,none⟩))) σ):AO P o ρ σ R S:=by
 refine AO.of_same hR fun w m ev hr hc=>?_;have h1:=hr x (by simp[ho,Op.operands]);rw[hx]at h1;simp only[dP]at h1;obtain⟨vs,g1,g2,_⟩:=hc.l8 hi;have hsh:w.shape? b=some (e,vs.length):=by simp[World.shape?,g1]
 have hl:=g2.length_eq;refine⟨.pointer (some ⟨b,k,none⟩),?_,by simp only[dP]⟩;have:=Lib.run_to_unsafe w ⟨b,k,none⟩ hs hd ht (by simpa using hj) hsh (by show k<vs.length;omega);simp[execOp,ho,h1,this]
theorem AO.Xg{src dst u e:TypeId}{x:Operand}{b i n k:Nat}{cs:List PV}{j:TypeInfo}(ho:o.op=.convert src dst x)(hs:P.underlying src=some .unsafePointer)(hd:P.underlying dst=some (.pointer u))(hu:P.info? u=some j)
  (hx:ρ x=.val (.pointer (some ⟨b,k,none⟩))) (hi:σ[i]?=some (bC.l8 b e cs)) (hn:cs.length=n) (hlies:liesAt P P.depth e (n/P.cellsOf e) k u 1=true) (hR:R (.val (.pointer (some ⟨b,k,none⟩))) σ):AO P o ρ σ R S:=by
 refine AO.of_same hR fun w m ev hr hc=>?_;have h1:=hr x (by simp[ho,Op.operands]);rw[hx]at h1;simp only[dP]at h1;obtain⟨vs,g1,g2,_⟩:=hc.l8 hi;have hsh:w.shape? b=some (e,n):=by simp[World.shape?,g1,←hn,g2.length_eq]
 refine⟨.pointer (some ⟨b,k,none⟩),?_,by simp only[dP]⟩;have:=Lib.run_from_unsafe w ⟨b,k,none⟩ hs hd hu hsh hlies;simp[execOp,ho,h1,this]
theorem AO.TU{c:Call}{x y:Operand}{pt it e eu:TypeId}{b:Nat}{v p:Value}{q:PV}{bs:List UInt8}(ho:o.op=.call c)(kR:c.callee=.builtin .unsafeString)(hargs:c.args=#[x,y])(hty:c.argTypes=#[pt,it])
  (hp:P.underlying pt=some (.pointer eu)) (hce:P.cellsOf eu=1) (hσ:σ=[.row v bs.length 1 eu,.l8 b e [q,.val p,.own v (bs.map jE)]]) (hx:ρ x=.val (.pointer (OG v))) (hy:ρ y=.int .i64 bs.length)
  (hR:R (.str bs) [.l8 b e [q,.val p,.own v (bs.map jE)]]):AO P o ρ σ R S:=by
 subst hσ;refine AO.of_run' fun w m ev hr hc=>?_;have h1:=hr x (by simp[ho,Op.operands,Call.operands,kR,hargs]);have h2:=hr y (by simp[ho,Op.operands,Call.operands,kR,hargs]);rw[hx]at h1;rw[hy]at h2;simp only[dP]at h1 h2;have htb:=hc.each (.l8 b e [q,.val p,.own v (bs.map jE)]) (by simp);obtain⟨vs,g1,g2,g2m⟩:=hc.each (.l8 b e [q,.val p,.own v (bs.map jE)]) (by simp);obtain⟨xs,hrow,Um⟩:=hc.each (.row v bs.length 1 eu) (by simp);have g2':=g2;simp only[bA]at g2;obtain⟨v0,vs0,rfl,g0,v1,vs1,rfl,g3,v2,vs2,rfl,g4,rfl⟩:=g2;have hvv:v2=v:=by simp only[dP]at g4;exact g4.1
 rw[hvv]at g4;have hxs:=Rp hrow (by simp) (Cn bs) g4;rw[Dq]at hxs;have hxs:=(zk bs xs).1 hxs;subst hxs;have hap:=hc.apart;simp only[lq,bC.fp,ajn,List.flatMap_nil,List.append_nil]at hap;have hbn:v.ownBlock≠some b:=fun h=>(List.nodup_append.1 hap).2.2 b (by simp[h]) b (by simp) rfl
 have ex:∀r,(Builtin.unsafeString_ #[pt,it] o.type #[.pointer (OG v),.int .i64 bs.length]).run P w=r→(execOp ev o).run P w=r.andThen fun v w'=>.ok (.value v) w':=by
  intro r hr';simp[execOp,ho,resolve,kR,hargs,hty,invoke,builtin,h1,h2];rw[←hr']
 have fin:∀w',w'.os=w.os→w'.tape=w.tape→w'.output=w.output→w'.heap.size=w.heap.size→w'.drawn=w.drawn→(∀k a,(w'.cell? ⟨k,a,none⟩)=w.cell? ⟨k,a,none⟩)→(∀k,v.ownBlock≠some k→w'.heap[k]?=w.heap[k]?)→
   Conc w' m [.l8 b e [q,.val p,.own v (bs.map jE)]]∧Trans w m [.row v bs.length 1 eu,.l8 b e [q,.val p,.own v (bs.map jE)]] w' m [.l8 b e [q,.val p,.own v (bs.map jE)]]:=by
  intro w' e1 e2 e3 e4 ed e5 e6;have hle:Le w m w' m:=fun c off h=>⟨h,e5 c off⟩;refine⟨⟨fun r hr=>?_,by simp[lq,bC.fp],fun c off h=>by rw[e4];exact hc.wf c off h,iD.mono hle hc.rR⟩,⟨e1,e2,e3,by omega,hle,fun c hcl hn=>⟨e6 c fun h=>hn ?_,fun _ h=>h⟩,fun c hcf=>.inl ?_,fun _=>Nat.le_of_eq ed.symm⟩⟩
  ·obtain rfl:=ala.1 hr;exact⟨_,by rw[e6 b hbn];exact g1,bA.mono hle _ _ g2',g2m⟩
  ·simp[lq,bC.fp,h]
  ·simp only[lq,bC.fp,ajn,List.flatMap_nil,List.append_nil,ala]at hcf;simp[lq,bC.fp,hcf]
 by_cases h0:bs=[]
 ·subst h0;have hrun:=Lib.run_unsafeString_none (P:=P) w pt it o.type (OG v);obtain⟨k1,k2⟩:=fin w rfl rfl rfl rfl rfl (fun _ _=>rfl) (fun _ _=>rfl);exact⟨.str [],_,.string .empty,w,m,hR,by rw[ex _ (by simpa using hrun)];rfl,by simp only[dP];rfl,k1,k2⟩
 ·rcases hrow.2 with⟨_,hn⟩|⟨g,cap,cur,fz,rfl,hg,hfz,hnc,hcm,hcs,htake⟩
  ·exact absurd (ZR hn) h0
  ·have hsh:w.shape? g=some (eu,cur.size):=by simp[World.shape?,hg]
   have hrun:=Lib.run_unsafeString_row (P:=P) w pt it o.type eu hp hce g cur.size hsh bs h0 (by omega) (by unfold maxLen at hcm;omega) (fun j x hj=>by
    rw[Addr.add_lit,ajD,hrow.cell (b:=g) rfl (by have:=(List.getElem?_eq_some_iff.1 hj).1;omega)]
    simp[hj])
   have hz:bs.length≠0:=by simpa using h0
   have hsame:∀k,k≠g→(w.freeze ⟨g,0,none⟩ bs.length).heap[k]?=w.heap[k]?:=by
    intro k hk;simp[World.freeze,hz,anQ,Ne.symm hk]
   have hcell:∀k a,(w.freeze ⟨g,0,none⟩ bs.length).cell? ⟨k,a,none⟩=w.cell? ⟨k,a,none⟩:=by
    intro k a;by_cases hk:k=g
    ·subst hk;simp[World.cell?,World.freeze,hz,anQ,hg]
    ·simp only[World.cell?,hsame k hk]
   obtain⟨k1,k2⟩:=fin (w.freeze ⟨g,0,none⟩ bs.length) (by simp[World.freeze,hz]) (by simp[World.freeze,hz]) (by simp[World.freeze,hz]) (by simp[World.freeze,hz]) (by simp[World.freeze,hz]) hcell (fun k hk=>hsame k fun e=>hk (by subst e;rfl));refine⟨.str bs,_,.string ⟨bs.toArray⟩,_,m,hR,?_,by simp only[dP],k1,k2⟩;rw[ex _ hrun];rfl
theorem AO.abt{e:TypeId}{cs:List PV}(ho:o.op=.alloc e)(hz:mh P e=some cs)(hR:∀b,R (.val (.pointer (some ⟨b,0,none⟩))) (.l8 b e cs::σ)):AO P o ρ σ R S:=by
 refine AO.of_run' fun w m ev hr hc=>?_;obtain⟨z,h1,h2⟩:=EH hz w;have hc':=rV hc (.cells z.cells e) (fun _=>False);have hle:Le w m (w.alloc (.cells z.cells e)) (fun b off=>m b off∨(b=w.heap.size∧False)):=(jF (σ':=σ) hc (.cells z.cells e) (fun _=>False) fun b hb=>.inl hb).le
 have hnew:Conc (w.alloc (.cells z.cells e)) (fun b off=>m b off∨(b=w.heap.size∧False)) (.l8 w.heap.size e cs::σ):=by
  refine JL ⟨z.cells.toList,?_,bA.mono hle _ _ (h2 m),fun off ho=>?_⟩ (by simp[bC.fp]) (fun b hb hm=>?_) hc'
  ·rw[heap_alloc_new w _,Array.toArray_toList]
  ·rcases ho with ho|⟨_,ho⟩
   ·have:=hc.wf _ off ho;omega
   ·exact ho
  ·simp[bC.fp]at hb;subst hb;have:=hc.NH _ hm;omega
 refine⟨_,_,.pointer (some ⟨w.heap.size,0,none⟩),_,_,hR w.heap.size,?_,by simp[dP],hnew,jF hc _ _ fun b hb=>?_⟩
 ·simp[execOp,ho,Instr.alloc,newVar,newRow,h1,go_sem]
 ·simp[lq,bC.fp]at hb⊢;rcases hb with hb|hb
  ·exact .inr hb
  ·exact .inl hb
end
end Go.Abs
namespace Go.Abs
variable [iD]
open Go
section
variable {P : Program} {o : Oper} {ρ : Operand → PV} {σ : List bC} {R S : PV → List bC → Prop}
theorem AO.agW{c:Call}{s x:Operand}{t tx e sz bytes:Nat}{v:Value}{l2:List (List PV)}{i n:Nat}{cs:List PV}(ho:o.op=.call c)(kR:c.callee=.builtin .append)(hargs:c.args=#[s,x])(hty:c.argTypes=#[t,tx])
  (hs:ρ s=.val v) (hx:(ρ x).els=some l2) (hi:σ[i]?=some (bC.buf v n sz e cs)) (hf:jh P t e sz bytes) (htx:elemSize P tx=some sz)
  (h2:∀y∈l2,y.length=sz) (h3:∀y∈l2,y.all PV.one=true) (hb1:n+l2.length≤maxLen) (hb2:(n+l2.length)*bytes≤140737488355328)
  (hR:∀v' σ',Ba σ i (.buf v' (n+l2.length) sz e (cs++l2.flatten))=some σ'→R (.val v') σ'):AO P o ρ σ R S:=by
 refine AO.of_run' fun w m ev hr hc=>?_;have hsv:=hr s (by simp[ho,Op.operands,Call.operands,kR,hargs]);have hxv:=hr x (by simp[ho,Op.operands,Call.operands,kR,hargs]);rw[hs]at hsv;simp only[dP]at hsv;have hev:ev s=v:=hsv;obtain⟨xs,hrow,hrep,hm0⟩:=hc.each _ (ahq hi);obtain⟨inf,z,g1,g2,g3,g4,g5⟩:=hf.info;obtain⟨ex,ix,q1,q2,q3⟩:=n_ htx
 obtain⟨news,hsrc,hnews⟩:∃news,Src P sz tx (ev x) l2.length news w∧bA w m l2.flatten news:=by
  obtain⟨a,cap,e1,e2,e3⟩:=hxv.els hx;by_cases hnil:l2=[]
  ·subst hnil;refine⟨[],?_,by simpa using bA.nil⟩;rw[e1];cases a with
   | none=>exact Src.ofNil w q1 _
   | some a=>exact Src.ofSlice w q1 a 0 cap [] (by simp) (by simp) (by simp)
  ·rcases e3 with e3|⟨b,off,sz',rfl,e4⟩
   ·exact absurd e3 hnil
   ·have hsz':sz'=sz:=by
     cases l2 with
     | nil=>exact absurd rfl hnil
     | cons y ys=>
      simp only[jG]at e4;rw[←e4.1.1];exact h2 y (by simp)
    subst hsz';obtain⟨vs,k1,k2,k3⟩:=Ee e4;refine⟨vs,?_,k1⟩;rw[e1];refine Src.ofSlice w q1 ⟨b,off,none⟩ _ cap vs k2 (fun j u hj=>by rw[Addr.add_lit];exact(k3 j u hj).2) (k1.oneCell ?_);rw[aiS];intro p hp;rw[List.mem_flatten]at hp;obtain⟨y,hy,hp⟩:=hp;exact aiS.1 (h3 y hy) p hp
 subst g2 g3;obtain⟨v',w',r1,r2,r3,_,r5⟩:=Cw (ty:=o.type) hf.und g1 g4 g5 hrow hsrc (by omega) (by simpa using hb2);obtain⟨p1,p2⟩:=yj hi (.buf v' (n+l2.length) inf.size e (cs++l2.flatten));have hc1:=hc.perm p1
 have hos:w'.os=w.os∧w'.tape=w.tape∧w'.output=w.output∧w.heap.size≤w'.heap.size:=by
  rcases r3 with⟨_,hg⟩|⟨_,hg⟩<;>exact⟨hg.os,hg.tape,hg.output,hg.size⟩
 have hkeep:∀b,b<w.heap.size→v.ownBlock≠some b→w'.heap[b]?=w.heap[b]?:=by
  intro b hb hne;rcases r3 with⟨_,hg⟩|⟨_,hg⟩
  ·exact hg.block b hb (fun h=>hne h.symm)
  ·exact hg.block b hb (by simp)
 have hle:Le w m w' m:=fun b off hm=>⟨hm,ak4 (w:=w) (hkeep b (hc.wf b off hm) (fun h=>hm0 b h off hm))⟩
 have hm':∀b,v'.ownBlock=some b→∀off,¬m b off:=by
  intro b hb off hm;rcases r3 with⟨h1,_⟩|⟨h1,_⟩
  ·exact hm0 b (h1 ▸ hb) off hm
  ·rw[h1]at hb;cases hb;have:=hc.wf _ off hm;omega
 have hk:Conc w' m [.buf v' (n+l2.length) inf.size e (cs++l2.flatten)]:=
  ⟨fun r hr=>by rw[ala]at hr;subst hr;exact⟨xs++news,r2,(bA.mono hle _ _ hrep).append (bA.mono hle _ _ hnews),hm'⟩,by cases h:v'.ownBlock<;>simp[lq,bC.fp,h],fun b off hm=>by have:=hc.wf b off hm;omega,iD.mono hle hc.rR⟩
 have ht:Trans w m [.buf v n inf.size e cs] w' m [.buf v' (n+l2.length) inf.size e (cs++l2.flatten)]:=by
  refine⟨hos.1,hos.2.1,hos.2.2.1,hos.2.2.2,hle,fun b hb hn=>⟨hkeep b hb fun h=>hn (by simp[lq,bC.fp,h]),fun _ h=>h⟩,fun b hb=>?_,fun _=>r5⟩;simp[lq,bC.fp]at hb;rcases r3 with⟨h1,_⟩|⟨h1,_⟩
  ·left;simp[lq,bC.fp,←h1,hb]
  ·right;rw[h1]at hb;simp at hb;omega
 obtain⟨f1,f2⟩:=Conc.frame hc1 hk ht
 have hilt:i<σ.length:=by
  rcases gK i σ.length with h|h
  ·exact h
  ·simp[zf h]at hi
 have hset:∀(σ:List bC) (i:Nat) (r:bC),i<σ.length→Ba σ i r=some (σ.set i r):=by
  intro σ
  induction σ with
  | nil=>intro i r h;simp at h
  | cons a σ ih=>
   intro i r h;cases i with
   | zero=>simp[Ba]
   | succ i=>simp only[Ba,ih i r (by simpa using h),alp]
 refine⟨.val v',_,v',w',m,hR v' _ (hset σ i _ hilt),?_,by simp only[dP],f1.perm p2.symm,f2.perm p1.symm p2.symm⟩;simp only[execOp,ho,resolve,kR,hargs,hty,invoke,builtin,Sem.run_bind,fM,bJ];simp only[List.map_toArray,ahn,List.map_nil,hev,r1,bJ]
theorem AO.acJ{v:Value}{k sz e:Nat}{cs:List PV}(i:Nat)(hi:σ[i]?=some (bC.buf v k sz e cs))(h:PV.yQ (.val v)=some [.val v]→[PV.val v].all PV.one=true→AO P o ρ σ R S):AO P o ρ σ R S:=by
 intro w m a K QC hr hc hK hP;obtain⟨xs,hrow,_,_⟩:=hc.each _ (ahq hi)
 have hv:v.oneCell'=true:=by
  rcases hrow.2 with⟨rfl,_⟩|⟨g,cap,cur,fz,rfl,_⟩<;>rfl
 exact h (by simp[PV.yQ,hv]) (by simp[PV.one,hv]) w m a K QC hr hc hK hP
end
end Go.Abs
namespace Go.Abs
variable [iD]
open Go
def ada{β:Type}(T:β→List bC→Prop)(pend:β→Option AX)(b:Bool)(s':β):Post:=fun x _ σ d=>d=[]∧(∃τ,τ.Sublist σ∧T s' τ)∧
 match x with
 | .normal=>b=true∧pend s'=none
 | .ret=>b=false∧pend s'=some .ret
 | .exit id=>b=false∧pend s'=some (.exit id)
 | .panic _=>False
section
variable {P : Program} {n : Nat} {r : Option Nat} {env : Env} {σ : List bC} {ds : List Deferred} {Q : Post} {all : Array Oper} {rest : List Oper} {o : Oper}
theorem E9.ajG{t l:Nat}{c:Call}{K0:List bC→Prop}{p:PV}(hnd:yw o=true)(hg:o.guard=none)(hd:o.dst=some t)(ht:Nat.blt t n=true)(ho:o.op=.call c)(NR:Operand)(kR:c.callee=.value NR)
  (hf:env.ev NR=.val (.func (.yield l) #[] #[])) (h:AY P l ((c.args.toList.map env.ev).map PV.weak) σ (fun out s=>out=.ret p∧K0 s))
  (hk:∀s,K0 s→E9 P r n all rest ((t,p)::env) s ds Q):E9 P r n all (o::rest) env σ ds Q:=by
 intro w m a QC hs ha;have ht:t<n:=CF ht;refine wpListIn_plain hg fun K hK=>⟨fun _ _=>trivial,?_⟩;rw[Oper.semAt_eq _ _ _ (KM hnd)];have hcv:=hs.env.ev NR;rw[hf]at hcv;simp only[dP]at hcv;have hargs:bA w m (c.args.toList.map env.ev) (c.args.toList.map a.eval):=bA.map fun x _=>hs.env.ev x;obtain⟨fn,tmps,assign,body,h1,h2⟩:=h w m _ hs.iW hargs.weak
 have hrun:(execOp a.eval o).run P w=.ok (.round l fn tmps assign body) w:=by
  unfold execOp;simp only[ho,resolve,kR,hcv,Deferred.ofValue,invoke,Sem.run_bind,fM,bJ];rw[←h1];congr 2;apply Array.ext';simp
 rw[hrun];simp only[Oper.uponIn];refine⟨fun hh=>by simp[ZP,Fence.wide]at hh,?_⟩;refine RoundIn.mono (show RoundIn (ZP r) (0-1) P l fn tmps assign body w _ from h2) ?_;rintro e w' ⟨out,s,m',⟨rfl,hK0⟩,⟨v,rfl,hv⟩,hc,htr⟩;exact hK _ _ (hk s hK0 w' m' _ QC (hs.put hd ht hv hc htr.le) (ha.step htr))
theorem E9.run{j u:Nat}{want:Bool}{oj:Oper}(hg:o.guard=some (j,want))(hj:all[j]?=some oj)(hu:oj.dst=some u)(hb:env.get u=.bool want)
  (h:E9 P r n all ({o with guard:=none}::rest) env σ ds Q):E9 P r n all (o::rest) env σ ds Q:=by
 intro w m a QC hs ha;have h':=h w m a QC hs ha;unfold wpListIn at h'⊢;rw[alm (by simp[Region.wanted])]at h';rw[alm (by simp[Region.wanted,hg,A8 hs hj hu hb])];exact h'
theorem E9.drop1{l:List Oper}{x:bC}(h:E9 P r n all l env σ ds Q):E9 P r n all l env (x::σ) ds Q:=
 fun w m a QC sw ha=>h w m a QC ⟨sw.size,sw.ds,sw.env,sw.iW.sub (am2 x σ)⟩ (ha.step (Trans.sub (Trans.refl w m (x::σ)) (am2 x σ)))
theorem E9.is{l:List Oper}{b want:Bool}(u:Nat)(h:b=want)(hu:env.get u=.bool b)(hr:E9 P r n all l ((u,.bool want)::env) σ ds Q):E9 P r n all l env σ ds Q:=by
 subst h;intro w m a QC hs ha;refine hr w m a QC ⟨hs.size,hs.ds,fun t=>?_,hs.iW⟩ ha;simp only[Env.get];cases e:Nat.beq u t with
 | false=>exact hs.env t
 | true=>have:=hs.env u;rw[hu,je e]at this;exact this
theorem XI{md:Region.Mode}{ops:Array Oper}{Q:Exit→Act→World→Prop}(hno:¬LetsOut Q)(hd:∀o∈ops.toList,yw o=true):∀(fuel:Nat) (listed:Array Bool) (a:Act) (w:World),wpAny P md ops Q fuel listed a w→wpAnyIn (ZP r) 0 P md ops Q fuel listed a w
 | 0,_,_,_,h=>h
 | fuel+1,listed,a,w,h=>by
  refine⟨h.1,fun i hi=>?_⟩;have h2:=h.2 i hi;unfold wpOp at h2;unfold wpOpIn;cases ho:ops[i]? with
  | none=>rw[ho]at h2;exact XI hno hd fuel _ a w h2
  | some o=>
   rw[ho]at h2;have hdo:=hd o (by have:=Array.mem_of_getElem? ho;simpa using this);simp only at h2⊢;split
   ·rename_i hw;rw[alm hw]at h2;rcases h2 with h2|⟨_,h2⟩
    ·exact Oper.wpIn_mono (fun a w h=>XI hno hd fuel _ a w h) (WV hdo h2)
    ·exact(hno h2).elim
   ·rename_i hw;rw[akJ hw]at h2;exact⟨fun _ _=>trivial,XI hno hd fuel _ _ w h2⟩
theorem qA.drawn{id:Nat}{L:List Oper}(hm:P.follows .mixedOrders=true)(hd:(L.all yw)=true)(h:AD P n L env σ ds Q):qA P r n (.region id L.toArray true) env σ ds Q:=by
 intro w m a QC hs ha;rw[aiS]at hd;refine wpIn_mono (wpIn_region_any hm (XI (EN QC) (by simpa using hd) _ _ _ _ (h w m a _ hs ha.RB))) fun e a w h=>h.2
end
section
variable {P : Program} {n : Nat} {env : Env} {σ : List bC} {ds : List Deferred} {Q : Post}
theorem AW.QV{β X:Type}{g:Operand}{ps:Array Tmp}{assign body:Code}{gf:Nat}{caps:List PV}(hg:env.ev g=.fn gf caps)(hp:bN P gf=true)
  (enc:X→List PV) (henc:∀x,(enc x).length=ps.toList.length) (hps:∀t∈ps.toList,t<n) (y:β→X→Option (Bool × β)) (T:β→List bC→Prop) (pend:β→Option AX) {s0 s1:β} (hσ:T s0 σ) (hs0:pend s0=none)
  (hit:∀(l:Nat) (T':β→List bC→Prop),(∀s x b s' τ,y s x=some (b,s')→T' s τ→AY P l (enc x) τ (fun out σ'=>out=.ret (.bool b)∧T' s' σ'))→
   ∀τ,T' s0 τ→AC P gf (.val (.func (.yield l) #[] #[])::caps) τ (fun out σ'=>(∃p,out=.ret p)∧T' s1 σ'))
  (round:∀l s x b s' τ,y s x=some (b,s')→T s τ→pend s=none∧
   qA P (some l) n assign (TB ps.toList (enc x) env) τ [] (fun ax e σ' d=>ax=.normal∧qA P (some l) n body e σ' d (ada T pend b s')))
  (hq:∀D τ,T s1 τ→(match pend s1 with|none=>Q .normal env|some .ret=>Q .ret env|some (.exit id)=>Q (.exit id) env|some _=>fun _ _=>False) (τ++[bC.obj D (.deferred (some []))]) (vF D::ds)):
  AW P n (.rangeFunc g ps assign body) env σ ds Q:=by
 intro w m a QC hs ha;refine(wpIn_wide (n:=0)).1 (wpIn_rangeFunc fun fn _=>?_);have hge:=hs.env.ev g;rw[hg]at hge;simp only[dP]at hge;obtain⟨cs,hcv,hcs⟩:=hge;have c1:=Co hs.iW (.deferred (some []))
 have t1:=jF (σ':=bC.obj w.heap.size (.deferred (some []))::σ) hs.iW (.deferred (some [])) (fun _=>False) (fun b hb=>by
  simp[lq,bC.fp]at hb⊢;rcases hb with hb|hb
  ·exact .inr hb
  ·exact .inl hb)
 have c2:=Co c1 (.loop (vB fn a.tmps ps assign body w.heap.size none))
 have t2:=jF (σ':=.obj (w.alloc (.deferred (some []))).heap.size (.loop (vB fn a.tmps ps assign body w.heap.size none))::bC.obj w.heap.size (.deferred (some []))::σ) c1 (.loop (vB fn a.tmps ps assign body w.heap.size none)) (fun _=>False) (fun b hb=>by
  simp[lq,bC.fp]at hb⊢;rcases hb with hb|hb|hb
  ·exact .inr hb
  ·exact .inl (.inl hb)
  ·exact .inl (.inr hb))
 have hsz:(w.alloc (.deferred (some []))).heap.size=w.heap.size+1:=by simp
 rw[hsz]at c2 t2;generalize hW:(w.alloc (.deferred (some []))).alloc (.loop (vB fn a.tmps ps assign body w.heap.size none))=W at c2 t2;generalize hM:(fun b off=>(m b off∨b=w.heap.size∧False)∨b=w.heap.size+1∧False)=M at c2 t2;have tW:=t1.trans t2;let rec' (s:β):Loop:=vB fn a.tmps ps assign body w.heap.size (pend s);let R' (s:β):List bC:=[bC.obj (w.heap.size+1) (.loop (rec' s)),bC.obj w.heap.size (.deferred (some [])),bC.since w m];let T' (s:β) (τ:List bC):Prop:=∃τ0,T s τ0∧τ=τ0++R' s
 have hT0:(σ++R' s0).Perm (.obj (w.heap.size+1) (.loop (vB fn a.tmps ps assign body w.heap.size none))::bC.obj w.heap.size (.deferred (some []))::σ++[bC.since w m]):=by
  simp only[R',rec',hs0];refine amR.trans ?_;simp only[List.cons_append,List.nil_append];refine List.Perm.cons _ (List.Perm.cons _ ?_);exact(amR (l₁:=[bC.since w m]) (l₂:=σ))
 have cT:Conc W M (σ++R' s0):=by
  refine Conc.perm hT0.symm ?_;refine⟨fun r hr=>?_,?_,c2.wf,c2.rR⟩
  ·rcases aji.1 hr with h|h
   ·exact c2.each r h
   ·rw[ala]at h;subst h;exact tW.le
  ·have:=c2.apart;simpa[lq,bC.fp]using this
 have tT:Trans w m σ W M (σ++R' s0):=by
  refine Trans.perm (.refl _) hT0.symm ⟨tW.os,tW.tape,tW.output,tW.size,tW.le,tW.keep,fun b hb=>tW.fresh b ?_,tW.drawn⟩;simpa[lq,bC.fp]using hb
 refine⟨w.heap.size+1,[vF w.heap.size],W,{target:=.fn (.func gf) cs.toArray,args:=#[.func (.yield (w.heap.size+1)) #[] #[]]},W,gf,
  #[.func (.yield (w.heap.size+1)) #[] #[]]++cs.toArray,W,?_,?_,fun _ _=>trivial,?_,fun hh=>by simp[Fence.wide]at hh,?_⟩
 ·rw[←hW];exact run_enterLoop_outer _ _ _ _ _
 ·simp only[resolve,hcv];simp[go_sem]
 ·simp only[invoke];rw[rE hp]
 ·refine an7.2 ?_;have hac:=hit (w.heap.size+1) T' ?_ _ ⟨σ,hσ,rfl⟩
  ·have hcs':bA W M (.val (.func (.yield (w.heap.size+1)) #[] #[])::caps) (.func (.yield (w.heap.size+1)) #[] #[]::cs):=bA.cons (by simp[dP]) (bA.mono tW.le _ _ hcs);have:=hac W M _ cT hcs';rw[show (Value.func (.yield (w.heap.size+1)) #[] #[]::cs).toArray=#[.func (.yield (w.heap.size+1)) #[] #[]]++cs.toArray from by apply Array.ext';simp]at this;refine this.mono ?_;rintro e w' ⟨out,σ',m',⟨⟨p,rfl⟩,τ1,am9,rfl⟩,⟨v,rfl,hv⟩,hc',ht'⟩;have hi:(τ1++R' s1)[τ1.length]?=some (.obj (w.heap.size+1) (.loop (rec' s1))):=by simp[R']
   obtain⟨hb,_⟩:=hc'.each _ (ahq hi);obtain⟨k1,k2⟩:=wY (o':=.loop {rec' s1 with state:=.exhausted}) hc' hi
   have hsub:(τ1++[bC.obj w.heap.size (.deferred (some []))]).Sublist ((τ1++R' s1).set τ1.length (.obj (w.heap.size+1) (.loop {rec' s1 with state:=.exhausted}))):=by
    simp only[R'];rw[anN _ _ (ahi _),anU];refine List.Sublist.append (List.Sublist.refl _) ?_;simp only[List.set_cons_zero];exact .cons _ (.cons_cons _ (.cons _ .slnil))
   have k3:=k1.sub hsub;have k4:=(tT.trans (ht'.trans k2)).sub hsub
   have hse:∀todo,qx (w'.putObj (w.heap.size+1) (.loop {rec' s1 with state:=.exhausted})) m' n env (τ1++[bC.obj w.heap.size (.deferred (some []))]) (vF w.heap.size::ds) {a with defers:=todo}∨todo≠[vF w.heap.size]++a.defers:=by
    intro todo;by_cases e:todo=[vF w.heap.size]++a.defers
    ·subst e;exact .inl ⟨hs.size,by simp[hs.ds],hs.env.mono k4.le,k3⟩
    ·exact .inr e
   have hse:=(hse ([vF w.heap.size]++a.defers)).resolve_right (by simp);refine⟨codeOf (pend s1),w'.putObj (w.heap.size+1) (.loop {rec' s1 with state:=.exhausted}),?_,?_⟩
   ·have:=run_endLoop (P:=P) (w:=w') (l:=w.heap.size+1) (r:=rec' s1) hb (by simp only[rec',vB];split<;>simp);exact this
   ·have hqD:=hq w.heap.size τ1 am9;cases hpe:pend s1 with
    | none=>
     rw[hpe]at hqD;exact ha .normal _ env _ _ _ _ m' hqD rfl hse k4
    | some x=>
     rw[hpe]at hqD;cases x with
     | ret=>exact wpIn_ret (ha .ret _ env _ _ _ _ m' hqD rfl hse k4)
     | exit id=>exact wpIn_exit (ha (.exit id) _ env _ _ _ _ m' hqD rfl hse k4)
     | normal=>exact hqD.elim
     | panic p=>exact hqD.elim
  ·
   rintro s x b s' _ hy ⟨τ,hτ,rfl⟩ w1 m1 vs hc1 hv1;obtain⟨akI,aa2⟩:=round (w.heap.size+1) s x b s' τ hy hτ;have hi:(τ++R' s)[τ.length]?=some (.obj (w.heap.size+1) (.loop (rec' s))):=by simp[R']
   obtain⟨hb1,_⟩:=hc1.each _ (ahq hi);have aa0:Le w m w1 m1:=hc1.each (.since w m) (by simp[R']);have hvl:=hv1.length_eq
   have hsz':vs.toArray.size=(rec' s).params.size:=by
    simp only[rec',vB,amO];rw[hvl,henc x];simp
   have hyr:=run_yield (P:=P) hb1 hsz';refine⟨_,_,_,_,hyr,?_⟩;refine roundIn_of_wpIn trivial ?_
   have af9:((rec' s).params.zip vs.toArray).foldl (fun tmps (t,a)=>tmps.setIfInBounds t a) (rec' s).tmps=(ps.toList.zip vs).foldl (fun t (p,v)=>t.setIfInBounds p v) a.tmps:=by
    simp only[rec',vB];rw[←Array.foldl_toList,Array.toList_zip]
   obtain⟨hb2,hb3⟩:=M7 (n:=n) (ts:=ps.toList) hs.size (fun t ht=>hps t ht) hv1 (hs.env.mono aa0);have hA:=qA.frame (τ:=[bC.obj (w.heap.size+1) (.loop (rec' s)),bC.obj w.heap.size (.deferred (some [])),bC.since w m]) aa2;refine hA w1 m1 _ _ ⟨?_,rfl,?_,hc1⟩ ?_
   ·rw[af9];exact hb3
   ·rw[af9];exact hb2
   ·rintro ax ex e2 σ2 d2 a2 w2 m2 ⟨Qb,rfl,rfl,hbody⟩ hx hs2 ht2;cases hx;have hi2:(Qb++[bC.obj (w.heap.size+1) (.loop (rec' s)),bC.obj w.heap.size (.deferred (some [])),bC.since w m])[Qb.length]?=some (.obj (w.heap.size+1) (.loop (rec' s))):=by simp
    obtain⟨hb4,_⟩:=hs2.iW.each _ (ahq hi2);have Sb:(rec' s).state=.ready:=by simp[rec',vB,akI,codeOf]
    refine⟨_,run_beginRound hb4 Sb,?_⟩;obtain⟨k1,k2⟩:=wY (o':=.loop {rec' s with state:=.busy}) hs2.iW hi2
    have hset:(Qb++[bC.obj (w.heap.size+1) (.loop (rec' s)),bC.obj w.heap.size (.deferred (some [])),bC.since w m]).set Qb.length (.obj (w.heap.size+1) (.loop {rec' s with state:=.busy}))=
      Qb++[bC.obj (w.heap.size+1) (.loop {rec' s with state:=.busy}),bC.obj w.heap.size (.deferred (some [])),bC.since w m]:=by
     rw[anN _ _ (ahi _),anU];rfl
    rw[hset]at k1 k2;have hB:=qA.frame (τ:=[bC.obj (w.heap.size+1) (.loop {rec' s with state:=.busy}),bC.obj w.heap.size (.deferred (some [])),bC.since w m]) hbody;refine hB _ m2 a2 _ ⟨hs2.size,hs2.ds,hs2.env.mono k2.le,k1⟩ ?_;rintro ax3 ex3 e3 σ3 d3 a3 w3 m3 ⟨MN,rfl,hd3,⟨τ2,af_,am8⟩,hend⟩ hx3 hs3 ht3;have hi3:(MN++[bC.obj (w.heap.size+1) (.loop {rec' s with state:=.busy}),bC.obj w.heap.size (.deferred (some [])),bC.since w m])[MN.length]?=some (.obj (w.heap.size+1) (.loop {rec' s with state:=.busy})):=by simp
    obtain⟨hb5,_⟩:=hs3.iW.each _ (ahq hi3)
    have fin:∀jump:Option Code,jump=codeOf (pend s')→b=jump.isNone→∃v w',(Instr.endRound (w.heap.size+1) jump).run P w3=.ok v w'∧∃out σ' m',(out=eP.ret (.bool b)∧T' s' σ')∧AP w' m' out (.returned v)∧Conc w' m' σ'∧Trans w1 m1 (τ++R' s) w' m' σ':=by
     intro jump hj hbj;refine⟨_,_,run_endRound jump hb5,.ret (.bool b),τ2++R' s',m3,⟨rfl,τ2,am8,rfl⟩,⟨_,rfl,by simp[dP,hbj]⟩,?_⟩;obtain⟨q1,q2⟩:=wY (o':=.loop {rec' s with state:=if jump.isNone then .ready else .done,pending:=jump}) hs3.iW hi3
     have hrec:({rec' s with state:=if jump.isNone then .ready else .done,pending:=jump}:Loop)=rec' s':=by
      simp only[rec',vB,hj]
     have aga:(MN++[bC.obj (w.heap.size+1) (.loop {rec' s with state:=.busy}),bC.obj w.heap.size (.deferred (some [])),bC.since w m]).set MN.length (.obj (w.heap.size+1) (.loop {rec' s with state:=if jump.isNone then .ready else .done,pending:=jump}))=
       MN++[bC.obj (w.heap.size+1) (.loop (rec' s')),bC.obj w.heap.size (.deferred (some [])),bC.since w m]:=by
      rw[anN _ _ (ahi _),anU,hrec];rfl
     rw[aga]at q1 q2;have hsub:(τ2++R' s').Sublist (MN++[bC.obj (w.heap.size+1) (.loop (rec' s')),bC.obj w.heap.size (.deferred (some [])),bC.since w m]):=List.Sublist.append af_ (List.Sublist.refl _);exact⟨q1.sub hsub,(ht2.trans (k2.trans (ht3.trans q2))).sub hsub⟩
    cases ax3 with
    | normal=>
     cases hx3;obtain⟨h5,h6⟩:=hend;exact fin none (by rw[h6];rfl) (by rw[h5];rfl)
    | ret=>
     cases hx3;obtain⟨h5,h6⟩:=hend;exact fin (some .ret) (by rw[h6];rfl) (by rw[h5];rfl)
    | exit id=>
     cases hx3;obtain⟨h5,h6⟩:=hend;exact fin (some (.exit id)) (by rw[h6];rfl) (by rw[h5];rfl)
    | panic p=>exact hend.elim
end
def ak7(P:Program)(rs:List ResultVar)(R:eP→List bC→Prop):Post
 | .normal,e,s,d|.ret,e,s,d=>(d=[]∧∃ps,Du P e s rs ps∧∃s',s'.Sublist s∧R (.ret (lJ (ps.map PV.weak))) s')∨∃D s1,d=[vF D]∧s=s1++[.obj D (.deferred (some []))]∧∃ps,Du P e s1 rs ps∧∃s',s'.Sublist s1∧R (.ret (lJ (ps.map PV.weak))) s'
 | _,_,_,_=>False
theorem AC.Ru{P:Program}{f:FuncId}{fn:Func}{c:Code}{args:List PV}{σ:List bC}{R:eP→List bC→Prop}(n:Nat)(rs:List ResultVar)(ts:List Nat){env:Env}
  (hf:P.funcs[f]?=some fn) (hb:fn.body=some c) (hn:fn.ntmps=n) (hl:Nat.ble args.length n=true) (hrs:fn.results.toList=rs) (KR:settle ts (zH 0 args)=some env)
  (h:AW P n c env σ [] (ak7 P rs R)):AC P f args σ R:=by
 intro w m vs hc hv;have hl:args.length≤n:=CF hl;have hvl:=hv.length_eq;refine an7.1 (callsIn_of_wp_marks (n:=0) hf hb trivial (wpIn_wide.2 ?_));refine h w m _ _ ⟨?_,rfl,?_,hc⟩ ?_
 ·simp[hvl,hn];omega
 ·have:=ze (List.replicate (fn.ntmps-vs.toArray.size) Go.undef) [] hv;rw[show vs.toArray++Array.replicate (fn.ntmps-vs.toArray.size) Go.undef=([]++vs++List.replicate (fn.ntmps-vs.toArray.size) Go.undef).toArray from by simp];exact Dr.settle KR this
 ·intro x ex env' σ' ds' a' w' m' hq hx hs ht
  have hend:∀D s1,ds'=[vF D]→σ'=s1++[.obj D (.deferred (some []))]→∀ps s',Du P env' s1 rs ps→s'.Sublist s1→R (.ret (lJ (ps.map PV.weak))) s'→
    LeavesInM Fence.wide 0 P fn a'.tmps (fun e w'=>∃out σ' m',R out σ'∧AP w' m' out e∧Conc w' m' σ'∧Trans w m σ w' m' σ') a'.defers .returning w':=by
   intro D s1 hd hs1 ps s' h1 hsub h2;subst hs1;rw[hs.ds,hd];have hi:(s1++[bC.obj D (.deferred (some []))])[s1.length]?=some (.obj D (.deferred (some []))):=by simp
   obtain⟨hbD,_⟩:=hs.iW.each _ (ahq hi);obtain⟨k1,k2⟩:=wY (o':=.deferred Option.none) hs.iW hi
   have hset:(s1++[bC.obj D (.deferred (some []))]).set s1.length (.obj D (.deferred Option.none))=s1++[.obj D (.deferred Option.none)]:=by
    rw[anN _ _ (ahi _),anU];rfl
   rw[hset]at k1 k2;refine⟨by simp,.inl ⟨D,_,rfl,run_takeDeferred hbD,?_⟩⟩;have k3:=k1.left;obtain⟨v,hv1,hv2⟩:=LB hrs (hs.env.mono k2.le) k3 h1;refine⟨v,hv1,.ret _,s',m',h2,⟨v,rfl,hv2⟩,k3.sub hsub,?_⟩;exact(ht.trans k2).sub (hsub.trans (List.sublist_append_left _ _))
  have ajm:ds'=[]→∀ps s',Du P env' σ' rs ps→s'.Sublist σ'→R (.ret (lJ (ps.map PV.weak))) s'→
    LeavesInM Fence.wide 0 P fn a'.tmps (fun e w'=>∃out σ' m',R out σ'∧AP w' m' out e∧Conc w' m' σ'∧Trans w m σ w' m' σ') a'.defers .returning w':=by
   intro hd ps s' h1 hsub h2;rw[hs.ds,hd];obtain⟨v,hv1,hv2⟩:=LB hrs hs.env hs.iW h1;exact⟨v,hv1,.ret _,s',m',h2,⟨v,rfl,hv2⟩,hs.iW.sub hsub,ht.sub hsub⟩
  cases x with
  | normal=>
   cases hx;rcases hq with⟨hd,ps,h1,s',hsub,h2⟩|⟨D,s1,hd,hs1,ps,h1,s',hsub,h2⟩
   ·exact ajm hd ps s' h1 hsub h2
   ·exact hend D s1 hd hs1 ps s' h1 hsub h2
  | ret=>
   cases hx;rcases hq with⟨hd,ps,h1,s',hsub,h2⟩|⟨D,s1,hd,hs1,ps,h1,s',hsub,h2⟩
   ·exact ajm hd ps s' h1 hsub h2
   ·exact hend D s1 hd hs1 ps s' h1 hsub h2
  | exit id=>exact hq.elim
  | panic p=>exact hq.elim
theorem AW.akU{P:Program}{n:Nat}{c:Code}{env:Env}{σ:List bC}{ds:List Deferred}{Q:Post}(i:Nat){b:Nat}{cs:List PV}(cs':List PV)(hi:σ[i]?=some (.box b cs))(hc:∀w m vs,bA w m cs vs→bA w m cs' vs)
  (h:AW P n c env (σ.set i (.box b cs')) ds Q):AW P n c env σ ds Q:=by
 intro w m a QC hs ha;obtain⟨k1,k2⟩:=Sy hi hs.iW fun vs=>hc w m vs;exact h w m a QC ⟨hs.size,hs.ds,hs.env,k1⟩ (ha.step k2)
theorem bA.LZ{w:World}{m:jN}{v:Value}{l:List (List PV)}:∀(k:Nat) (cs:List PV) (vs:List Value),cs[k]?=some (.own v l)→bA w m cs vs→bA w m (cs.set k (.val v)) vs
 | 0,[],_,h,_=>by simp at h
 | k+1,[],_,h,_=>by simp at h
 | 0,c::cs,vs,h,hr=>by
  simp only[anS,bX]at h;subst h;simp only[bA]at hr;obtain⟨u,vs',rfl,h1,h2⟩:=hr;simp only[dP]at h1;exact bA.cons (by simp only[dP];exact h1.1) h2
 | k+1,c::cs,vs,h,hr=>by
  simp only[bA]at hr;obtain⟨u,vs',rfl,h1,h2⟩:=hr;exact bA.cons h1 (bA.LZ k cs vs' (by simpa using h) h2)
end Go.Abs
namespace Go.Abs
variable [iD]
open Go Go.Proofs Go.Shelf
theorem AC.replaceAll{P:Program}{ρ:Ren}{R:eP→List bC→Prop}(hD:¬iD.D)(L:Lays.n155 P ρ)(X:Builder.Extra P ρ){s old new:List UInt8}(hs:s.length<4294967281)(h1:1≤old.length)
  (hm:∀(w:World) (m:jN),iD.G w m→∃n:Int,w.cell? ⟨ρ.g 1,0,Option.none⟩=some (.int .i64 n)) (hlen:s.length+Lib.count s old*new.length≤140737488355328)
  (h:R (.ret (.str (Lib.replaceAll s old new))) []):AC P (ρ.f 155) [.str s,.str old,.str new] [] R:=by
 intro w m vs hc hv;simp only[bA,dP]at hv;obtain⟨v0,vs0,rfl,rfl,v1,vs1,rfl,rfl,v2,vs2,rfl,rfl,rfl⟩:=hv;obtain⟨n,hn⟩:=hm w m hc.rR;refine(Any.strings_ReplaceAll L X ⟨s.toArray⟩ ⟨old.toArray⟩ ⟨new.toArray⟩ n w (by simpa[ByteArray.size]using hs) hn (by simpa[ByteArray.size]using h1) (by simpa[ByteArray.size,Lib.countB]using hlen)).mono ?_;rintro en w' ⟨rfl,hb⟩;obtain⟨c1,c2⟩:=xG hD hc hb;exact⟨_,_,m,h,⟨_,rfl,by simp only[dP]⟩,c1,c2⟩
theorem Oy(c:UInt8)(new:List UInt8):∀s:List UInt8,Lib.replaceK [c] new (Lib.count s [c]) s=s.flatMap fun x=>if x==c then new else [x]
 | []=>rfl
 | b::l=>by
  have ih:=Oy c new l;by_cases hb:b=c
  ·subst hb;have hi:Lib.index (b::l) [b]=((0:Nat):Int):=by simp[Lib.index,List.isPrefixOf]
   rw[Lib.count_cons_eq,Nat.add_comm,Lib.replaceK_hit _ _ _ _ 0 hi];simp only[List.take_zero,List.nil_append,List.length_singleton,ajD,List.drop_succ_cons,List.drop_zero,ih,ajn,beq_self_eq_true,an2]
  ·rw[Lib.count_cons_ne b c l hb,ajn,←ih,akJ (by simpa using hb)];cases hk:Lib.count l [c]with
   | zero=>rfl
   | succ k=>
    obtain⟨i,hi⟩:=Lib.index_of_count (s:=l) (old:=[c]) (by omega);have hp:([c]:List UInt8).isPrefixOf (b::l)=false:=by simp[List.isPrefixOf,Ne.symm hb]
    have hi2:Lib.index (b::l) [c]=((i+1:Nat):Int):=by
     have hne:(Lib.index l [c]==-1)=false:=by rw[hi];simp
     rw[Lib.index,akJ (by rw[hp];simp),akJ (by rw[hne];simp),hi];omega
    rw[Lib.replaceK_hit _ _ _ _ _ hi2,Lib.replaceK_hit _ _ _ _ _ hi];simp
theorem QN{c:UInt8}{new s:List UInt8}(hn:([c]==new)=false):Lib.replaceAll s [c] new=s.flatMap fun x=>if x==c then new else [x]:=by
 unfold Lib.replaceAll Lib.replace;rw[hn,akJ (by simp),←Oy c new s];simp[Lib.replaceNum]
end Go.Abs
