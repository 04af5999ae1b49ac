/- Proved here: how a functional text stands for a walk of the given code: ranges, maps, sorted lists, library functions. -/
import Derived.Test.YtpbjbkhfpjckoaaGreatDoorIcA2
import Derived.RangeFuncRecord
import Derived.RangeFuncIn
import Derived.OrdersIn
import Derived.TacticsIn
import Derived.Test.YtpbjbkhfpjckoaaGreatDoorIcA1
import Derived.Test.YtpbjbkhfpjckoaaGreatDoorIcWords
import Derived.Shelf.SlSortCmp.NoneTotal
import Derived.Shelf.Slices.CompactS
import Derived.Shelf.Strings.Search3
import Derived.Shelf.Strings.Split
import Derived.Shelf.Strings.OnBuilder
import Derived.Shelf.Strconv.Itoa3
import Derived.Shelf.Strconv.AtoiAll
import Derived.Lib.LaidTab
import Derived.Stop.LaidErr
import Derived.Lib.ItoaNum
import Derived.Shelf.Vars
import Derived.Shelf.Strings.Replace
set_option linter.unusedVariables false
set_option linter.unusedSimpArgs false
set_option linter.unusedSectionVars false
namespace Go.Abs
variable [fJ]
open Go
def TD (r:Option Nat):Fence:={Fence.wide with round:=r}
def vK (o:Oper):Bool:=match o.op with | .defer _=>false | _=>true
theorem Gy {o:Oper} (h:vK o=true):∀ c,o.op≠.defer c:=by
 intro c hc; unfold vK at h; rw [hc] at h; cases h
section
variable {P : Program} {n : Nat} {r : Option Nat} {env : Env} {σ : List aQ} {ds : List Deferred} {Q : Post} {all : Array Oper} {rest : List Oper} {o : Oper}
theorem aai {f:FuncId} {args:Array Value} {w:World} {R:Ending→World→Prop} {n:Nat} (h:Calls P f args w R):CallsIn (TD r) n P f args w R:=by
 have:=(callsIn_wide (n:=n)).2 h; exact this
theorem abP {row:String} {args:Array Value} {w:World} {R:Value→World→Prop} {n:Nat} (h:Rows P row args w R):RowsIn (TD r) n P row args w R:=
 fun c cs _=>let ⟨v,w',r,s⟩:=h c cs; ⟨v,w',r,stepsIn_wide.2 s⟩
theorem Qn {a:Act} {w:World} {K:Act→World→Prop} {Q:Exit→Act→World→Prop} (hd:vK o=true) (h:o.wp P a w K Q):o.wpIn (TD r) 0 P a w K Q:=by
 refine ⟨fun _ _=>trivial,?_⟩; rw [Oper.semAt_eq _ _ _ (Gy hd)]; unfold Oper.wp at h; generalize (execOp a.eval o).run P w=x at h ⊢; cases x with
 | ok v w'=>
  cases v <;> simp only [Oper.upon,Oper.uponIn] at h ⊢ <;> first
   | exact h
   | exact ⟨fun hh=>by simp [TD,Fence.wide] at hh,aai h⟩
   | exact ⟨fun hh=>by simp [TD,Fence.wide] at hh,abP h⟩
 | halt v w'=>cases v <;> simp only [Oper.upon,Oper.uponIn] at h ⊢ <;> exact h
theorem KZ {Q:Exit→Act→World→Prop} (hno:¬ LetsOut Q):∀ (l:List Oper) (a:Act) (w:World),(∀ o∈l,vK o=true)→wpList P all Q l a w→wpListIn (TD r) 0 P all Q l a w
 | [],a,w,_,h=>h
 | o :: rest,a,w,hd,h=>by
  unfold wpList at h; unfold wpListIn; split
  ·
   rename_i hw; rw [if_pos hw] at h; rcases h with h | ⟨_,h⟩
   · exact Oper.wpIn_mono (fun a w h=>KZ hno rest a w (fun o ho=>hd o (by simp [ho])) h) (Qn (hd o (by simp)) h)
   · exact (hno h).elim
  ·
   rename_i hw; rw [if_neg hw] at h; exact ⟨fun _ _=>trivial,KZ hno rest _ _ (fun o ho=>hd o (by simp [ho])) h⟩
def qK (P:Program) (r:Option Nat) (n:Nat) (c:Code) (env:Env) (σ:List aQ) (ds:List Deferred) (Q:Post):Prop:=
 ∀ w m a QC,oz w m n env σ ds a→Acc n Q w m σ QC→c.wpIn (TD r) 0 P QC a w
def Me (Q:Exit→Act→World→Prop):Exit→Act→World→Prop:=fun e a w=>e≠.outgrown∧Q e a w
theorem Cw (Q:Exit→Act→World→Prop):¬ LetsOut (Me Q):=fun ⟨_,_,h,_⟩=>h rfl
theorem Acc.Me {w:World} {m:iY} {QC:Exit→Act→World→Prop} (h:Acc n Q w m σ QC):Acc n Q w m σ (Abs.Me QC):=by
 intro x ex env' σ' ds' a' w' m' hq hx hs ht; refine ⟨?_,h x ex env' σ' ds' a' w' m' hq hx hs ht⟩; rintro rfl; cases x <;> simp [ahT] at hx
theorem qK.region {id:Nat} {l:List Oper} (hd:(l.all vK)=true) (h:AR P n l.toArray l env σ ds Q):qK P r n (.region id l.toArray false) env σ ds Q:=by
 intro w m a QC hs ha; rw [List.all_eq_true] at hd; refine wpIn_mono (wpIn_region_lit (KZ (Cw QC) l a w hd (h w m a _ hs ha.Me))) fun e a w h=>h.2
theorem qK.skip (h:Q .normal env σ ds):qK P r n .skip env σ ds Q:=
 fun w m a _ hs ha=>wpIn_skip (ha .normal .normal env σ ds a w m h rfl hs (Trans.refl ..))
theorem qK.exit {id:Nat} (h:Q (.exit id) env σ ds):qK P r n (.exit id) env σ ds Q:=
 fun w m a _ hs ha=>wpIn_exit (ha (.exit id) (.exit id) env σ ds a w m h rfl hs (Trans.refl ..))
theorem qK.ret (h:Q .ret env σ ds):qK P r n .ret env σ ds Q:=
 fun w m a _ hs ha=>wpIn_ret (ha .ret .ret env σ ds a w m h rfl hs (Trans.refl ..))
theorem qK.seq {c d:Code} (h:qK P r n c env σ ds (AX.then (fun e s ds=>qK P r n d e s ds Q) Q)):qK P r n (.seq c d) env σ ds Q:=by
 intro w m a QC hs ha; refine wpIn_seq (h w m a _ hs ?_); intro x ex e1 σ1 d1 a1 w1 m1 hq hx hs1 ht; cases x with
 | normal=>cases hx; exact hq w1 m1 a1 QC hs1 (ha.step ht)
 | exit id=>cases hx; exact ha (.exit id) _ e1 σ1 d1 a1 w1 m1 hq rfl hs1 ht
 | ret=>cases hx; exact ha .ret _ e1 σ1 d1 a1 w1 m1 hq rfl hs1 ht
 | panic p=>obtain ⟨v,rfl,hv⟩:=hx; exact ha (.panic p) _ e1 σ1 d1 a1 w1 m1 hq ⟨v,rfl,hv⟩ hs1 ht
theorem qK.cond {c:Operand} {x y:Code} {b:Bool} (hc:env.ev c=.bool b) (ht:b=true→qK P r n x env σ ds Q) (hf:b=false→qK P r n y env σ ds Q):
  qK P r n (.cond c x y) env σ ds Q:=by
 intro w m a QC hs ha; have he:=hs.env.ev c; rw [hc] at he; simp only [cu] at he; exact wpIn_cond_split he (fun h=>ht h w m a QC hs ha) (fun h=>hf h w m a QC hs ha)
theorem qK.block {id:Nat} {c:Code} (h:qK P r n c env σ ds (AX.inBlock id Q)):qK P r n (.block id c) env σ ds Q:=by
 intro w m a QC hs ha; refine wpIn_block (h w m a _ hs ?_); intro x ex e1 σ1 d1 a1 w1 m1 hq hx hs1 ht; cases x with
 | normal=>cases hx; exact ha .normal _ e1 σ1 d1 a1 w1 m1 hq rfl hs1 ht
 | exit id'=>
  cases hx; simp only [Exit.inBlock]; simp only [AX.inBlock] at hq; by_cases e:id'=id
  ·
   subst e; simp only [Nat.beq_refl,cond_true] at hq; rw [if_pos rfl]; exact ha .normal _ e1 σ1 d1 a1 w1 m1 hq rfl hs1 ht
  ·
   have:Nat.beq id' id=false:=sS e; simp only [this,cond_false] at hq; rw [if_neg e]; exact ha (.exit id') _ e1 σ1 d1 a1 w1 m1 hq rfl hs1 ht
 | ret=>cases hx; exact ha .ret _ e1 σ1 d1 a1 w1 m1 hq rfl hs1 ht
 | panic p=>obtain ⟨v,rfl,hv⟩:=hx; exact ha (.panic p) _ e1 σ1 d1 a1 w1 m1 hq ⟨v,rfl,hv⟩ hs1 ht
theorem qK.mono {c:Code} {Q':Post} (h:qK P r n c env σ ds Q) (hq:∀ x e s d,Q x e s d→Q' x e s d):qK P r n c env σ ds Q':=
 fun w m a QC hs ha=>h w m a QC hs fun x ex env' σ' ds' a' w' m' h1 h2 h3 h4=>ha x ex env' σ' ds' a' w' m' (hq _ _ _ _ h1) h2 h3 h4
theorem qK.settle {c:Code} {env':Env} (ps:List Nat) (hs:Abs.settle ps env=some env') (h:qK P r n c env' σ ds Q):qK P r n c env σ ds Q:=
 fun w m a QC qg ha=>h w m a QC ⟨qg.size,qg.ds,qg.env.settle hs,qg.gX⟩ ha
theorem qK.frame {c:Code} {τ:List aQ} (h:qK P r n c env σ ds Q):qK P r n c env (σ ++ τ) ds (fun x e s d=>∃ s0,s=s0 ++ τ∧Q x e s0 d):=by
 intro w m a QC hs ha; refine h w m a QC ⟨hs.size,hs.ds,hs.env,hs.gX.left⟩ fun x ex e' σ' ds' a' w' m' hq hx hs' ht=>?_; obtain ⟨k1,k2⟩:=Conc.frame hs.gX hs'.gX ht; exact ha x ex e' (σ' ++ τ) ds' a' w' m' ⟨σ',rfl,hq⟩ hx ⟨hs'.size,hs'.ds,hs'.env,k1⟩ k2
def Db (P:Program) (r:Option Nat) (n:Nat) (all:Array Oper) (l:List Oper) (env:Env) (σ:List aQ) (ds:List Deferred) (Q:Post):Prop:=
 ∀ w m a QC,oz w m n env σ ds a→Acc n Q w m σ QC→wpListIn (TD r) 0 P all QC l a w
theorem Db.of {l:List Oper} (hd:(l.all vK)=true) (h:AR P n all l env σ ds Q):Db P r n all l env σ ds Q:=by
 intro w m a QC hs ha; rw [List.all_eq_true] at hd; have:=KZ (r:=r) (Cw QC) l a w hd (h w m a _ hs ha.Me)
 have key:∀ (l:List Oper) (a:Act) (w:World),wpListIn (TD r) 0 P all (Me QC) l a w→wpListIn (TD r) 0 P all QC l a w:=by
  intro l
  induction l with
  | nil=>intro a w h; exact h.2
  | cons o l ih=>
   intro a w h; unfold wpListIn at h ⊢; split
   ·
    rename_i hw; rw [if_pos hw] at h; refine ⟨h.1,?_⟩; have h2:=h.2; generalize (o.semAt (TD r).round a.eval).run P w=x at h2 ⊢; cases x with
    | ok v w'=>
     cases v <;> simp only [Oper.uponIn] at h2 ⊢ <;> first
      | exact ih _ _ h2
      | exact ⟨h2.1,CallsIn.mono h2.2 fun e w'' he=>by
        cases e with
        | returned v=>exact ih _ _ he
        | panicked c=>exact he.2
        | outgrown=>exact (Cw QC he).elim⟩
      | exact ⟨h2.1,RowsIn.mono h2.2 fun v w'' he=>ih _ _ he⟩
      | exact ⟨h2.1,RoundIn.mono h2.2 fun e w'' he=>by
        cases e with
        | returned v=>exact ih _ _ he
        | panicked c=>exact he.2
        | outgrown=>exact (Cw QC he).elim⟩
    | halt v w'=>
     cases v <;> simp only [Oper.uponIn] at h2 ⊢ <;> exact h2.2
   ·
    rename_i hw; rw [if_neg hw] at h; exact ⟨h.1,ih _ _ h.2⟩
 exact key l a w this
theorem AW.Vq {id:Nat} {l:List Oper} (h:Db P none n l.toArray l env σ ds Q):AW P n (.region id l.toArray false) env σ ds Q:=
 fun w m a QC hs ha=>wpIn_wide.1 (wpIn_region_lit (F:=TD none) (n:=0) (h w m a QC hs ha))
theorem Db.step {t:Nat} (hnd:vK o=true) (hg:o.guard=none) (hd:o.dst=some t) (ht:Nat.blt t n=true)
  (h:AO P o env.ev σ (fun p σ'=>Db P r n all rest ((t,p) :: env) σ' ds Q) (fun p σ'=>Q (.panic p) env σ' ds)):
  Db P r n all (o :: rest) env σ ds Q:=by
 intro w m a QC hs ha; have ht:t < n:=Nat.le_of_ble_eq_true ht; refine wpListIn_plain hg fun K hK=>Qn hnd ?_; refine h w m a K QC (fun x _=>hs.env.ev x) hs.gX ?_ ?_
 ·
  intro p σ' v w' m' hr hv hc htr; exact hK _ _ (hr w' m' _ QC (hs.put hd ht hv hc htr.le) (ha.step htr))
 ·
  intro p σ' v w' m' hr hv hc htr; exact ha (.panic p) _ _ _ _ a w' m' hr ⟨v,rfl,hv⟩ ⟨hs.size,hs.ds,hs.env.mono htr.le,hc⟩ htr
def AY (P:Program) (l:Nat) (args:List PV) (σ:List aQ) (R:dL→List aQ→Prop):Prop:=
 ∀ w m vs,Conc w m σ→aW w m args vs→∃ fn tmps assign body,(Instr.yield l vs.toArray).run P w=.ok (.round l fn tmps assign body) w∧
  RoundIn Fence.wide 0 P l fn tmps assign body w fun e w'=>∃ out σ' m',R out σ'∧BU w' m' out e∧Conc w' m' σ'∧Trans w m σ w' m' σ'
theorem Db.yield {t l:Nat} {c:Call} {σ':List aQ} {p:PV} (hnd:vK o=true) (hg:o.guard=none) (hd:o.dst=some t) (ht:Nat.blt t n=true) (ho:o.op=.call c) (Gf:Operand) (gu:c.callee=.value Gf)
  (hf:env.ev Gf=.val (.func (.yield l) #[] #[])) (h:AY P l ((c.args.toList.map env.ev).map PV.weak) σ (fun out s=>out=.ret p∧s=σ'))
  (hk:Db P r n all rest ((t,p) :: env) σ' ds Q):Db P r n all (o :: rest) env σ ds Q:=by
 intro w m a QC hs ha; have ht:t < n:=Nat.le_of_ble_eq_true ht; refine wpListIn_plain hg fun K hK=>⟨fun _ _=>trivial,?_⟩; rw [Oper.semAt_eq _ _ _ (Gy hnd)]; have hcv:=hs.env.ev Gf; rw [hf] at hcv; simp only [cu] at hcv; have hargs:aW w m (c.args.toList.map env.ev) (c.args.toList.map a.eval):=aW.map fun x _=>hs.env.ev x; obtain ⟨fn,tmps,assign,body,h1,h2⟩:=h w m _ hs.gX hargs.weak
 have hrun:(execOp a.eval o).run P w=.ok (.round l fn tmps assign body) w:=by
  unfold execOp; simp only [ho,resolve,gu,hcv,Deferred.ofValue,invoke,Sem.run_bind,Sem.run_pure,Result.andThen_ok]; rw [←h1]; congr 2; apply Array.ext'; simp
 rw [hrun]; simp only [Oper.uponIn]; refine ⟨fun hh=>by simp [TD,Fence.wide] at hh,?_⟩; refine RoundIn.mono (show RoundIn (TD r) (0 - 1) P l fn tmps assign body w _ from h2) ?_; rintro e w' ⟨out,s,m',⟨rfl,rfl⟩,⟨v,rfl,hv⟩,hc,htr⟩; exact hK _ _ (hk w' m' _ QC (hs.put hd ht hv hc htr.le) (ha.step htr))
end
def Nq :List Nat→List PV→Env→Env
 | t :: ts,p :: ps,e=>Nq ts ps ((t,p) :: e)
 | _,_,e=>e
theorem Jf {w:World} {m:iY} {n:Nat}:∀ {ts:List Nat} {ps:List PV} {vs:List Value} {env:Env} {tmps:Array Value},tmps.size=n→(∀ t∈ts,t < n)→aW w m ps vs→AZ w m env tmps→
  AZ w m (Nq ts ps env) ((ts.zip vs).foldl (fun t (p,v)=>t.setIfInBounds p v) tmps)∧((ts.zip vs).foldl (fun t (p,v)=>t.setIfInBounds p v) tmps).size=n
 | [],_,_,_,_,hn,_,_,h=>by simpa [Nq] using ⟨h,hn⟩
 | t :: ts,[],vs,env,tmps,hn,_,hr,h=>by
  simp only [aW] at hr; subst hr; simpa [Nq] using ⟨h,hn⟩
 | t :: ts,p :: ps,vs,env,tmps,hn,hlt,hr,h=>by
  simp only [aW] at hr; obtain ⟨v,vs',rfl,h1,h2⟩:=hr; simp only [Nq,List.zip_cons_cons,List.foldl_cons]; refine Jf (by simpa using hn) (fun u hu=>hlt u (by simp [hu])) h2 ?_; exact h.put h1 (by rw [hn]; exact hlt t (by simp))
def codeOf :Option AX→Option Code
 | some .ret=>some .ret
 | some (.exit id)=>some (.exit id)
 | _=>none
def sK (D:Nat):Deferred:={target:=.collected D,args:=#[]}
def sG (fn:FuncId) (tmps:Array Value) (ps:Array Tmp) (assign body:Code) (D:Nat) (x:Option AX):Loop:=
 {state:=if (codeOf x).isNone then .ready else .done,pending:=codeOf x,fn,tmps,params:=ps,assign,body,defers:=D}
def roundEnd {β:Type} (T:β→List aQ) (pend:β→Option AX) (b:Bool) (s':β):Post:=fun x _ σ d=>d=[]∧(T s').Sublist σ∧
 match x with
 | .normal=>b=true∧pend s'=none
 | .ret=>b=false∧pend s'=some .ret
 | .exit id=>b=false∧pend s'=some (.exit id)
 | .panic _=>False
theorem uH {w:World} {m:iY} {σ:List aQ} (hc:Conc w m σ) {i b:Nat} {o o':Obj} (hi:σ[i]?=some (.obj b o)):
  Conc (w.putObj b o') m (σ.set i (.obj b o'))∧Trans w m σ (w.putObj b o') m (σ.set i (.obj b o')):=by
 obtain ⟨hb,hm⟩:=hc.each _ (List.mem_of_getElem? hi)
 have hblt:b < w.heap.size:=by
  rcases Nat.lt_or_ge b w.heap.size with h | h
  · exact h
  · simp [Array.getElem?_eq_none h] at hb
 exact Conc.write (w':=w.putObj b o') (r':=.obj b o') hc hi rfl rfl hm ⟨World.putObj_heap_same hblt,hm⟩ ⟨rfl,rfl,rfl⟩ (by simp) (fun k hk=>World.putObj_heap_other hk)
section
variable {P : Program} {n : Nat} {env : Env} {σ : List aQ} {ds : List Deferred} {Q : Post}
theorem AW.rangeFunc {β X:Type} {g:Operand} {ps:Array Tmp} {assign body:Code} {gf:Nat} {caps:List PV} (hg:env.ev g=.fn gf caps) (hp:cZ P gf=true)
  (enc:X→List PV) (henc:∀ x,(enc x).length=ps.toList.length) (hps:∀ t∈ps.toList,t < n) (y:β→X→Option (Bool × β)) (T:β→List aQ) (pend:β→Option AX) {s0 s1:β} (hσ:σ=T s0) (hs0:pend s0=none)
  (hit:∀ (l:Nat) (T':β→List aQ),(∀ s x b s',y s x=some (b,s')→AY P l (enc x) (T' s) (fun out σ'=>out=.ret (.bool b)∧σ'=T' s'))→
   AC P gf (.val (.func (.yield l) #[] #[]) :: caps) (T' s0) (fun out σ'=>(∃ p,out=.ret p)∧σ'=T' s1))
  (round:∀ l s x b s',y s x=some (b,s')→pend s=none∧
   qK P (some l) n assign (Nq ps.toList (enc x) env) (T s) [] (fun ax e σ' d=>ax=.normal∧qK P (some l) n body e σ' d (roundEnd T pend b s')))
  (hq:∀ D,(match pend s1 with | none=>Q .normal env | some .ret=>Q .ret env | some (.exit id)=>Q (.exit id) env | some _=>fun _ _=>False) (T s1 ++ [aQ.obj D (.deferred (some []))]) (sK D :: ds)):
  AW P n (.rangeFunc g ps assign body) env σ ds Q:=by
 subst hσ; intro w m a QC hs ha; refine (wpIn_wide (n:=0)).1 (wpIn_rangeFunc fun fn _=>?_); have hge:=hs.env.ev g; rw [hg] at hge; simp only [cu] at hge; obtain ⟨cs,hcv,hcs⟩:=hge; have c1:=zQ hs.gX (.deferred (some []))
 have t1:=iy (σ':=aQ.obj w.heap.size (.deferred (some [])) :: T s0) hs.gX (.deferred (some [])) (fun _=>False) (fun b hb=>by
  simp [kr,aQ.fp] at hb ⊢; rcases hb with hb | hb
  · exact .inr hb
  · exact .inl hb)
 have c2:=zQ c1 (.loop (sG fn a.tmps ps assign body w.heap.size none))
 have t2:=iy (σ':=.obj (w.alloc (.deferred (some []))).heap.size (.loop (sG fn a.tmps ps assign body w.heap.size none)) :: aQ.obj w.heap.size (.deferred (some [])) :: T s0) c1 (.loop (sG fn a.tmps ps assign body w.heap.size none)) (fun _=>False) (fun b hb=>by
  simp [kr,aQ.fp] at hb ⊢; rcases hb with hb | hb | hb
  · exact .inr hb
  · exact .inl (.inl hb)
  · exact .inl (.inr hb))
 have hsz:(w.alloc (.deferred (some []))).heap.size=w.heap.size + 1:=by simp
 rw [hsz] at c2 t2; generalize hW:(w.alloc (.deferred (some []))).alloc (.loop (sG fn a.tmps ps assign body w.heap.size none))=W at c2 t2; generalize hM:(fun b off=>(m b off∨b=w.heap.size∧False)∨b=w.heap.size + 1∧False)=M at c2 t2; have tW:=t1.trans t2; let rec' (s:β):Loop:=sG fn a.tmps ps assign body w.heap.size (pend s); let T' (s:β):List aQ:=T s ++ [aQ.obj (w.heap.size + 1) (.loop (rec' s)),aQ.obj w.heap.size (.deferred (some [])),aQ.since w m]
 have hT0:(T' s0).Perm (.obj (w.heap.size + 1) (.loop (sG fn a.tmps ps assign body w.heap.size none)) :: aQ.obj w.heap.size (.deferred (some [])) :: T s0 ++ [aQ.since w m]):=by
  simp only [T',rec',hs0]; refine List.perm_append_comm.trans ?_; simp only [List.cons_append,List.nil_append]; refine List.Perm.cons _ (List.Perm.cons _ ?_); exact (List.perm_append_comm (l₁:=[aQ.since w m]) (l₂:=T s0))
 have cT:Conc W M (T' s0):=by
  refine Conc.perm hT0.symm ?_; refine ⟨fun r hr=>?_,?_,c2.wf,c2.rH⟩
  ·
   rcases List.mem_append.1 hr with h | h
   · exact c2.each r h
   ·
    rw [List.mem_singleton] at h; subst h; exact tW.le
  ·
   have:=c2.apart; simpa [kr,aQ.fp] using this
 have tT:Trans w m (T s0) W M (T' s0):=by
  refine Trans.perm (.refl _) hT0.symm ⟨tW.os,tW.tape,tW.output,tW.size,tW.le,tW.keep,fun b hb=>tW.fresh b ?_,tW.drawn⟩; simpa [kr,aQ.fp] using hb
 refine ⟨w.heap.size + 1,[sK w.heap.size],W,{target:=.fn (.func gf) cs.toArray,args:=#[.func (.yield (w.heap.size + 1)) #[] #[]]},W,gf,
  #[.func (.yield (w.heap.size + 1)) #[] #[]] ++ cs.toArray,W,?_,?_,fun _ _=>trivial,?_,fun hh=>by simp [Fence.wide] at hh,?_⟩
 · rw [←hW]; exact run_enterLoop_outer _ _ _ _ _
 ·
  simp only [resolve,hcv]; simp [go_sem]
 ·
  simp only [invoke]; rw [uY hp]
 ·
  refine callsIn_wide.2 ?_; have hac:=hit (w.heap.size + 1) T' ?_
  ·
   have hcs':aW W M (.val (.func (.yield (w.heap.size + 1)) #[] #[]) :: caps) (.func (.yield (w.heap.size + 1)) #[] #[] :: cs):=aW.cons (by simp [cu]) (aW.mono tW.le _ _ hcs); have:=hac W M _ cT hcs'; rw [show (Value.func (.yield (w.heap.size + 1)) #[] #[] :: cs).toArray=#[.func (.yield (w.heap.size + 1)) #[] #[]] ++ cs.toArray from by apply Array.ext'; simp] at this; refine this.mono ?_; rintro e w' ⟨out,σ',m',⟨⟨p,rfl⟩,rfl⟩,⟨v,rfl,hv⟩,hc',ht'⟩; have hi:(T' s1)[(T s1).length]?=some (.obj (w.heap.size + 1) (.loop (rec' s1))):=by simp [T']
   obtain ⟨hb,_⟩:=hc'.each _ (List.mem_of_getElem? hi); obtain ⟨k1,k2⟩:=uH (o':=.loop {rec' s1 with state:=.exhausted}) hc' hi
   have hsub:(T s1 ++ [aQ.obj w.heap.size (.deferred (some []))]).Sublist ((T' s1).set (T s1).length (.obj (w.heap.size + 1) (.loop {rec' s1 with state:=.exhausted}))):=by
    simp only [T']; rw [List.set_append_right _ _ (Nat.le_refl _),Nat.sub_self]; refine List.Sublist.append (List.Sublist.refl _) ?_; simp only [List.set_cons_zero]; exact .cons _ (.cons_cons _ (.cons _ .slnil))
   have k3:=k1.sub hsub; have k4:=(tT.trans (ht'.trans k2)).sub hsub
   have hse:∀ todo,oz (w'.putObj (w.heap.size + 1) (.loop {rec' s1 with state:=.exhausted})) m' n env (T s1 ++ [aQ.obj w.heap.size (.deferred (some []))]) (sK w.heap.size :: ds) {a with defers:=todo}∨todo≠[sK w.heap.size] ++ a.defers:=by
    intro todo; by_cases e:todo=[sK w.heap.size] ++ a.defers
    ·
     subst e; exact .inl ⟨hs.size,by simp [hs.ds],hs.env.mono k4.le,k3⟩
    · exact .inr e
   have hse:=(hse ([sK w.heap.size] ++ a.defers)).resolve_right (by simp); refine ⟨codeOf (pend s1),w'.putObj (w.heap.size + 1) (.loop {rec' s1 with state:=.exhausted}),?_,?_⟩
   ·
    have:=run_endLoop (P:=P) (w:=w') (l:=w.heap.size + 1) (r:=rec' s1) hb (by simp only [rec',sG]; split <;> simp); exact this
   ·
    have Uu:=hq w.heap.size; cases hpe:pend s1 with
    | none=>
     rw [hpe] at Uu; exact ha .normal _ env _ _ _ _ m' Uu rfl hse k4
    | some x=>
     rw [hpe] at Uu; cases x with
     | ret=>exact wpIn_ret (ha .ret _ env _ _ _ _ m' Uu rfl hse k4)
     | exit id=>exact wpIn_exit (ha (.exit id) _ env _ _ _ _ m' Uu rfl hse k4)
     | normal=>exact Uu.elim
     | panic p=>exact Uu.elim
  ·
   
   intro s x b s' hy w1 m1 vs hc1 hv1; obtain ⟨afg,Ut⟩:=round (w.heap.size + 1) s x b s' hy; have hi:(T' s)[(T s).length]?=some (.obj (w.heap.size + 1) (.loop (rec' s))):=by simp [T']
   obtain ⟨hb1,_⟩:=hc1.each _ (List.mem_of_getElem? hi); have Us:Le w m w1 m1:=hc1.each (.since w m) (by simp [T']); have hvl:=hv1.length_eq
   have hsz':vs.toArray.size=(rec' s).params.size:=by
    simp only [rec',sG,List.size_toArray]; rw [hvl,henc x]; simp
   have hyr:=run_yield (P:=P) hb1 hsz'; refine ⟨_,_,_,_,hyr,?_⟩; refine roundIn_of_wpIn trivial ?_
   have ZA:((rec' s).params.zip vs.toArray).foldl (fun tmps (t,a)=>tmps.setIfInBounds t a) (rec' s).tmps=(ps.toList.zip vs).foldl (fun t (p,v)=>t.setIfInBounds p v) a.tmps:=by
    simp only [rec',sG]; rw [←Array.foldl_toList,Array.toList_zip]
   obtain ⟨hb2,hb3⟩:=Jf (n:=n) (ts:=ps.toList) hs.size (fun t ht=>hps t ht) hv1 (hs.env.mono Us); have hA:=qK.frame (τ:=[aQ.obj (w.heap.size + 1) (.loop (rec' s)),aQ.obj w.heap.size (.deferred (some [])),aQ.since w m]) Ut; refine hA w1 m1 _ _ ⟨?_,rfl,?_,hc1⟩ ?_
   · rw [ZA]; exact hb3
   · rw [ZA]; exact hb2
   ·
    rintro ax ex e2 σ2 d2 a2 w2 m2 ⟨K9,rfl,rfl,hbody⟩ hx hs2 ht2; cases hx; have hi2:(K9 ++ [aQ.obj (w.heap.size + 1) (.loop (rec' s)),aQ.obj w.heap.size (.deferred (some [])),aQ.since w m])[K9.length]?=some (.obj (w.heap.size + 1) (.loop (rec' s))):=by simp
    obtain ⟨hb4,_⟩:=hs2.gX.each _ (List.mem_of_getElem? hi2); have MO:(rec' s).state=.ready:=by simp [rec',sG,afg,codeOf]
    refine ⟨_,run_beginRound hb4 MO,?_⟩; obtain ⟨k1,k2⟩:=uH (o':=.loop {rec' s with state:=.busy}) hs2.gX hi2
    have hset:(K9 ++ [aQ.obj (w.heap.size + 1) (.loop (rec' s)),aQ.obj w.heap.size (.deferred (some [])),aQ.since w m]).set K9.length (.obj (w.heap.size + 1) (.loop {rec' s with state:=.busy}))=
      K9 ++ [aQ.obj (w.heap.size + 1) (.loop {rec' s with state:=.busy}),aQ.obj w.heap.size (.deferred (some [])),aQ.since w m]:=by
     rw [List.set_append_right _ _ (Nat.le_refl _),Nat.sub_self]; rfl
    rw [hset] at k1 k2; have hB:=qK.frame (τ:=[aQ.obj (w.heap.size + 1) (.loop {rec' s with state:=.busy}),aQ.obj w.heap.size (.deferred (some [])),aQ.since w m]) hbody; refine hB _ m2 a2 _ ⟨hs2.size,hs2.ds,hs2.env.mono k2.le,k1⟩ ?_; rintro ax3 ex3 e3 σ3 d3 a3 w3 m3 ⟨I7,rfl,hd3,ZB,hend⟩ hx3 hs3 ht3; have hi3:(I7 ++ [aQ.obj (w.heap.size + 1) (.loop {rec' s with state:=.busy}),aQ.obj w.heap.size (.deferred (some [])),aQ.since w m])[I7.length]?=some (.obj (w.heap.size + 1) (.loop {rec' s with state:=.busy})):=by simp
    obtain ⟨hb5,_⟩:=hs3.gX.each _ (List.mem_of_getElem? hi3)
    have fin:∀ jump:Option Code,jump=codeOf (pend s')→b=jump.isNone→∃ v w',(Instr.endRound (w.heap.size + 1) jump).run P w3=.ok v w'∧∃ out σ' m',(out=dL.ret (.bool b)∧σ'=T' s')∧BU w' m' out (.returned v)∧Conc w' m' σ'∧Trans w1 m1 (T' s) w' m' σ':=by
     intro jump hj hbj; refine ⟨_,_,run_endRound jump hb5,.ret (.bool b),T' s',m3,⟨rfl,rfl⟩,⟨_,rfl,by simp [cu,hbj]⟩,?_⟩; obtain ⟨q1,q2⟩:=uH (o':=.loop {rec' s with state:=if jump.isNone then .ready else .done,pending:=jump}) hs3.gX hi3
     have hrec:({rec' s with state:=if jump.isNone then .ready else .done,pending:=jump}:Loop)=rec' s':=by
      simp only [rec',sG,hj]
     have ZE:(I7 ++ [aQ.obj (w.heap.size + 1) (.loop {rec' s with state:=.busy}),aQ.obj w.heap.size (.deferred (some [])),aQ.since w m]).set I7.length (.obj (w.heap.size + 1) (.loop {rec' s with state:=if jump.isNone then .ready else .done,pending:=jump}))=
       I7 ++ [aQ.obj (w.heap.size + 1) (.loop (rec' s')),aQ.obj w.heap.size (.deferred (some [])),aQ.since w m]:=by
      rw [List.set_append_right _ _ (Nat.le_refl _),Nat.sub_self,hrec]; rfl
     rw [ZE] at q1 q2; have hsub:(T' s').Sublist (I7 ++ [aQ.obj (w.heap.size + 1) (.loop (rec' s')),aQ.obj w.heap.size (.deferred (some [])),aQ.since w m]):=List.Sublist.append ZB (List.Sublist.refl _); exact ⟨q1.sub hsub,(ht2.trans (k2.trans (ht3.trans q2))).sub hsub⟩
    cases ax3 with
    | normal=>
     cases hx3; obtain ⟨h5,h6⟩:=hend; exact fin none (by rw [h6]; rfl) (by rw [h5]; rfl)
    | ret=>
     cases hx3; obtain ⟨h5,h6⟩:=hend; exact fin (some .ret) (by rw [h6]; rfl) (by rw [h5]; rfl)
    | exit id=>
     cases hx3; obtain ⟨h5,h6⟩:=hend; exact fin (some (.exit id)) (by rw [h6]; rfl) (by rw [h5]; rfl)
    | panic p=>exact hend.elim
end
end Go.Abs
namespace Go.Abs
variable [fJ]
open Go
theorem Hy {P:Program} {fn:Func} {rs:List ResultVar} {env:Env} {σ:List aQ} {w:World} {m:iY} {tmps:Array Value} {ps:List PV} (hrs:fn.results.toList=rs) (he:AZ w m env tmps) (hc:Conc w m σ) (h1:A8 P env σ rs ps):
  ∃ v,(results fn tmps).run P w=.ok v w∧cu w m (jW (ps.map PV.weak)) v:=by
 obtain ⟨us,k1,k2⟩:=Et he hc h1; have hl2:=k2.length_eq
 have hrun:(results fn tmps).run P w=.ok (if h:us.toArray.size=1 then us.toArray[0] else .tuple us.toArray) w:=by
  unfold results; rw [Array.mapM_eq_mapM_toList,hrs]; have k1':=k1; simp only [Sem.run_bind,Sem.run_map]
  erw [k1']
  rfl
 have k2:=k2.weak; have hl2:us.length=(ps.map PV.weak).length:=by simpa using hl2
 refine ⟨_,hrun,?_⟩; clear h1 hrun; generalize ps.map PV.weak=ps at k2 hl2 ⊢
 match ps,us,k2,hl2 with
 | [],us,k2,hl2=>
  simp only [aW] at k2; subst k2; simp only [jW,cu]; exact ⟨[],by simp,aW.nil⟩
 | [p],us,k2,hl2=>
  simp only [aW] at k2; obtain ⟨v,vs',rfl,h3,rfl⟩:=k2; simpa [jW] using h3
 | p :: q :: ps,us,k2,hl2=>
  rw [dif_neg (by simp [hl2])]; simp only [jW,cu]; exact ⟨us,rfl,k2⟩
def afQ (P:Program) (rs:List ResultVar) (R:dL→List aQ→Prop):Post
 | .normal,e,s,d | .ret,e,s,d=>∃ D s1,d=[sK D]∧s=s1 ++ [.obj D (.deferred (some []))]∧∃ ps,A8 P e s1 rs ps∧∃ s',s'.Sublist s1∧R (.ret (jW (ps.map PV.weak))) s'
 | _,_,_,_=>False
theorem AC.NW {P:Program} {f:FuncId} {fn:Func} {c:Code} {args:List PV} {σ:List aQ} {R:dL→List aQ→Prop} (n:Nat) (rs:List ResultVar) (ts:List Nat) {env:Env}
  (hf:P.funcs[f]?=some fn) (hb:fn.body=some c) (hn:fn.ntmps=n) (hl:Nat.ble args.length n=true) (hrs:fn.results.toList=rs) (BP:settle ts (sU 0 args)=some env)
  (h:AW P n c env σ [] (afQ P rs R)):AC P f args σ R:=by
 intro w m vs hc hv; have hl:args.length≤n:=Nat.le_of_ble_eq_true hl; have hvl:=hv.length_eq; refine callsIn_wide.1 (callsIn_of_wp_marks (n:=0) hf hb trivial (wpIn_wide.2 ?_)); refine h w m _ _ ⟨?_,rfl,?_,hc⟩ ?_
 · simp [hvl,hn]; omega
 ·
  have:=zA (List.replicate (fn.ntmps - vs.toArray.size) Go.undef) [] hv; rw [show vs.toArray ++ Array.replicate (fn.ntmps - vs.toArray.size) Go.undef=([] ++ vs ++ List.replicate (fn.ntmps - vs.toArray.size) Go.undef).toArray from by simp]; exact AZ.settle BP this
 ·
  intro x ex env' σ' ds' a' w' m' hq hx hs ht
  have hend:∀ D s1,ds'=[sK D]→σ'=s1 ++ [.obj D (.deferred (some []))]→∀ ps s',A8 P env' s1 rs ps→s'.Sublist s1→R (.ret (jW (ps.map PV.weak))) s'→
    LeavesInM Fence.wide 0 P fn a'.tmps (fun e w'=>∃ out σ' m',R out σ'∧BU w' m' out e∧Conc w' m' σ'∧Trans w m σ w' m' σ') a'.defers .returning w':=by
   intro D s1 hd hs1 ps s' h1 hsub h2; subst hs1; rw [hs.ds,hd]; have hi:(s1 ++ [aQ.obj D (.deferred (some []))])[s1.length]?=some (.obj D (.deferred (some []))):=by simp
   obtain ⟨hbD,_⟩:=hs.gX.each _ (List.mem_of_getElem? hi); obtain ⟨k1,k2⟩:=uH (o':=.deferred Option.none) hs.gX hi
   have hset:(s1 ++ [aQ.obj D (.deferred (some []))]).set s1.length (.obj D (.deferred Option.none))=s1 ++ [.obj D (.deferred Option.none)]:=by
    rw [List.set_append_right _ _ (Nat.le_refl _),Nat.sub_self]; rfl
   rw [hset] at k1 k2; refine ⟨by simp,.inl ⟨D,_,rfl,run_takeDeferred hbD,?_⟩⟩; have k3:=k1.left; obtain ⟨v,hv1,hv2⟩:=Hy hrs (hs.env.mono k2.le) k3 h1; refine ⟨v,hv1,.ret _,s',m',h2,⟨v,rfl,hv2⟩,k3.sub hsub,?_⟩; exact (ht.trans k2).sub (hsub.trans (List.sublist_append_left _ _))
  cases x with
  | normal=>cases hx; obtain ⟨D,s1,hd,hs1,ps,h1,s',hsub,h2⟩:=hq; exact hend D s1 hd hs1 ps s' h1 hsub h2
  | ret=>cases hx; obtain ⟨D,s1,hd,hs1,ps,h1,s',hsub,h2⟩:=hq; exact hend D s1 hd hs1 ps s' h1 hsub h2
  | exit id=>exact hq.elim
  | panic p=>exact hq.elim
theorem Vg {w:World} {m:iY}:∀ {vs cs:List Value},aW w m (vs.map PV.val) cs→cs=vs
 | [],cs,h=>by simpa [aW] using h
 | v :: vs,cs,h=>by
  simp only [List.map_cons,aW,cu] at h; obtain ⟨u,us,rfl,h1,h2⟩:=h; rw [Vg h2,h1]
theorem AR.defer {P:Program} {n:Nat} {env:Env} {σ:List aQ} {ds:List Deferred} {Q:Post} {all:Array Oper} {rest:List Oper} {o:Oper} {c:Call} {Gf:Operand} {g:FuncId} {vs:List Value}
  (hg:o.guard=Option.none) (hd:o.dst=Option.none) (ho:o.op=.defer c) (gu:c.callee=.value Gf) (hargs:c.args=#[]) (hf:env.ev Gf=.fn g (vs.map PV.val))
  (h:AR P n all rest env σ ({target:=.fn (.func g) vs.toArray,args:=#[]} :: ds) Q):AR P n all (o :: rest) env σ ds Q:=by
 intro w m a QC hs ha; refine wpList_plain hg fun K hK=>?_; have hcv:=hs.env.ev Gf; rw [hf] at hcv; simp only [cu] at hcv; obtain ⟨cs,hcv,hcs⟩:=hcv; have hcs':=Vg hcs; subst hcs'
 have hrun:(execOp a.eval o).run P w=.ok (.defer {target:=.fn (.func g) cs.toArray,args:=#[]}) w:=by
  unfold execOp; simp [ho,resolve,gu,hcv,hargs,Deferred.ofValue]
 unfold Oper.wp; rw [hrun]; refine hK _ _ (h w m _ QC ⟨?_,?_,?_,hs.gX⟩ ha)
 · rw [hd]; exact hs.size
 · rw [hd]; simp [Act.put,hs.ds]
 · rw [hd]; exact hs.env
def afO (P:Program) (rs:List ResultVar) (R:dL→List aQ→Prop) (g:FuncId) (nt t:Nat) (ops:List Oper) (o:Oper) (X:Code) (vs:List Value) (Ux:Env):Post
 | .normal,e,s,d | .ret,e,s,d=>d=[{target:=.fn (.func g) vs.toArray,args:=#[]}]∧
   AR P nt (o :: ops).toArray ops ((t,.val .nilIface) :: Ux) s [] (AX.then (fun e' s d=>AW P nt X e' s d (QD fun s'=>∃ ps,A8 P e s' rs ps∧∃ s'',s''.Sublist s'∧R (.ret (jW (ps.map PV.weak))) s'')) (QD fun s'=>∃ ps,A8 P e s' rs ps∧∃ s'',s''.Sublist s'∧R (.ret (jW (ps.map PV.weak))) s''))
 | .panic p,e,s,d=>d=[{target:=.fn (.func g) vs.toArray,args:=#[]}]∧
   AR P nt (o :: ops).toArray ops ((t,p) :: Ux) s [] (AX.then (fun e' s d=>AW P nt X e' s d (QD fun s'=>∃ ps,A8 P e s' rs ps∧∃ s'',s''.Sublist s'∧R (.ret (jW (ps.map PV.weak))) s'')) (QD fun s'=>∃ ps,A8 P e s' rs ps∧∃ s'',s''.Sublist s'∧R (.ret (jW (ps.map PV.weak))) s''))
 | _,_,_,_=>False
theorem RV (w:World) (m:iY):∀ vs:List Value,aW w m (vs.map PV.val) vs
 | []=>aW.nil
 | v :: vs=>aW.cons (by simp [cu]) (RV w m vs)
theorem AC.Kk {P:Program} {f g:FuncId} {fn fd:Func} {c X:Code} {args:List PV} {σ:List aQ} {R:dL→List aQ→Prop} {id nt t:Nat} {ops:List Oper} {o:Oper} (n:Nat) (rs:List ResultVar) (ts td:List Nat) {env:Env}
  (hf:P.funcs[f]?=some fn) (hb:fn.body=some c) (hn:fn.ntmps=n) (hl:Nat.ble args.length n=true) (hrs:fn.results.toList=rs) (BP:settle ts (sU 0 args)=some env)
  (hfd:P.funcs[g]?=some fd) (hbd:fd.body=some (.seq (.region id (o :: ops).toArray false) X)) (hnd:fd.ntmps=nt) (hrsd:fd.results.toList=[])
  (hg:o.guard=Option.none) (ho:isRecover o=true) (hd:o.dst=some t) (ht:Nat.blt t nt=true) (hp:cZ P g=true)
  (h:AW P n c env σ [] (fun x e s d=>∃ vs Ux,Nat.ble vs.length nt=true∧settle td (sU 0 (vs.map PV.val))=some Ux∧afO P rs R g nt t ops o X vs Ux x e s d)):AC P f args σ R:=by
 intro w m us hc hv; have hl:args.length≤n:=Nat.le_of_ble_eq_true hl; have hvl:=hv.length_eq; refine calls_of_wp_defers hf hb ?_; refine h w m _ _ ⟨?_,rfl,?_,hc⟩ ?_
 · simp [hvl,hn]; omega
 ·
  have:=zA (List.replicate (fn.ntmps - us.toArray.size) Go.undef) [] hv; rw [show us.toArray ++ Array.replicate (fn.ntmps - us.toArray.size) Go.undef=([] ++ us ++ List.replicate (fn.ntmps - us.toArray.size) Go.undef).toArray from by simp]; exact AZ.settle BP this
 ·
  intro x ex env' σ' ds' a' w' m' hq hx hs htr; obtain ⟨vs,Ux,hvn,ahi,hq⟩:=hq
  have key:∀ (q:Option Value) (p:PV),(match q with | Option.none=>p=.val .nilIface | some v=>cu w' m' p v)→ds'=[{target:=.fn (.func g) vs.toArray,args:=#[]}]→
    AR P nt (o :: ops).toArray ops ((t,p) :: Ux) σ' [] (AX.then (fun e' s d=>AW P nt X e' s d (QD fun s'=>∃ ps,A8 P env' s' rs ps∧∃ s'',s''.Sublist s'∧R (.ret (jW (ps.map PV.weak))) s'')) (QD fun s'=>∃ ps,A8 P env' s' rs ps∧∃ s'',s''.Sublist s'∧R (.ret (jW (ps.map PV.weak))) s''))→
    Leaves P fn a'.tmps (fun e w'=>∃ out σ' m',R out σ'∧BU w' m' out e∧Conc w' m' σ'∧Trans w m σ w' m' σ') a'.defers (H7 q) w':=by
   intro q p hqp hds har; rw [hs.ds,hds]; refine leaves_cons (f:=g) (args:=vs.toArray) (by cases q <;> simp [H7]) ?_ ?_
   ·
    simp only [invoke]; rw [uY hp]; simp
   ·
    refine CallsD.mono (CD.rec (args:=vs.map PV.val) td hfd hbd hnd (by simpa using hvn) hrsd ahi hg ho hd ht har w' m' vs q hqp hs.gX (RV w' m' vs)) ?_; rintro e u' w2 ⟨rfl,rfl,σ2,m2,⟨ps,h1,s'',hsub,h2⟩,hc2,ht2⟩; obtain ⟨v,hv1,hv2⟩:=Hy hrs (hs.env.mono ht2.le) hc2 h1; have hset:Go.settle (z8 q)=.returning:=by cases q <;> simp [z8,Go.settle]
    simp only [hset]; exact ⟨v,hv1,.ret _,s'',m2,h2,⟨v,rfl,hv2⟩,hc2.sub hsub,(htr.trans ht2).sub hsub⟩
  cases x with
  | normal=>cases hx; exact key Option.none _ rfl hq.1 hq.2
  | ret=>cases hx; exact key Option.none _ rfl hq.1 hq.2
  | exit id=>exact hq.elim
  | panic p=>
   obtain ⟨v,rfl,hv'⟩:=hx; exact key (some v) p hv' hq.1 hq.2
section
variable {P : Program} {n : Nat} {env : Env} {σ : List aQ} {ds : List Deferred} {Q : Post} {all : Array Oper} {l : List Oper}
end
section
variable {P : Program} {o : Oper} {ρ : Operand → PV} {σ : List aQ} {R S : PV → List aQ → Prop}
theorem AO.Vk {x:Operand} {xt t:TypeId} {p:PV} (ho:o.op=.typeAssert x xt t true) (hx:ρ x=.iface t p) (hrun:∀ v w,(Instr.typeAssert (.iface t v) xt t true).run P w=.ok (.tuple #[v,.bool true]) w)
  (hR:R (.tuple [p,.bool true]) σ):AO P o ρ σ R S:=by
 refine AO.of_same hR fun w m ev hr hc=>?_; have h1:=hr x (by simp [ho,Op.operands]); rw [hx] at h1; simp only [cu] at h1; obtain ⟨v,h1,h2⟩:=h1; refine ⟨.tuple #[v,.bool true],?_,?_⟩
 · simp only [execOp,ho,h1,Sem.run_bind,hrun,Result.andThen_ok,Sem.run_pure]
 ·
  simp only [cu]; exact ⟨[v,.bool true],rfl,aW.cons h2 (aW.cons (by simp [cu]) aW.nil)⟩
theorem AO.RD {x:Operand} {xt t:TypeId} {p:PV} {z:Value} (ho:o.op=.typeAssert x xt t true) (hx:ρ x=.val .nilIface) (hrun:∀ w,(Instr.typeAssert .nilIface xt t true).run P w=.ok (.tuple #[z,.bool false]) w)
  (hz:∀ w m,cu w m p z) (hR:R (.tuple [p,.bool false]) σ):AO P o ρ σ R S:=by
 refine AO.of_same hR fun w m ev hr hc=>?_; have h1:=hr x (by simp [ho,Op.operands]); rw [hx] at h1; simp only [cu] at h1; refine ⟨.tuple #[z,.bool false],?_,?_⟩
 · simp only [execOp,ho,h1,Sem.run_bind,hrun,Result.andThen_ok,Sem.run_pure]
 ·
  simp only [cu]; exact ⟨[z,.bool false],rfl,aW.cons (hz w m) (aW.cons (by simp [cu]) aW.nil)⟩
end
end Go.Abs
namespace Go.Abs
variable [fJ]
open Go
section
variable {P : Program} {n : Nat} {all : Array Oper} {l : List Oper} {env : Env} {σ : List aQ} {ds : List Deferred} {Q : Post} {c : Code}
def JE :List aQ→Nat→Option (List aQ)
 | [],_=>none
 | _ :: σ,0=>some σ
 | r :: σ,i + 1=>match JE σ i with
  | some σ'=>some (r :: σ')
  | none=>none
theorem Dz :∀ {σ σ':List aQ} {i:Nat},JE σ i=some σ'→σ'.Sublist σ
 | [],_,_,h=>by cases h
 | r :: σ,_,0,h=>by simp only [JE,Option.some.injEq] at h; subst h; exact List.sublist_cons_self _ _
 | r :: σ,σ',i + 1,h=>by
  simp only [JE] at h; split at h
  ·
   rename_i t ht; simp only [Option.some.injEq] at h; subst h; exact (Dz ht).cons_cons r
  · cases h
theorem AR.Uy (i:Nat) {σ':List aQ} (he:JE σ i=some σ') (h:AR P n all l env σ' ds Q):AR P n all l env σ ds Q:=
 fun w m a QC qg ha=>h w m a QC ⟨qg.size,qg.ds,qg.env,qg.gX.sub (Dz he)⟩ (ha.step (Trans.sub (Trans.refl w m σ) (Dz he)))
theorem AW.Uy (i:Nat) {σ':List aQ} (he:JE σ i=some σ') (h:AW P n c env σ' ds Q):AW P n c env σ ds Q:=AW.drop _ (Dz he) h
end
end Go.Abs
namespace Go.Abs
variable [fJ]
open Go Go.Proofs Go.Sort Go.Lib Go.Shelf
theorem LA {w:World} {m:iY}:∀ {l:List (List UInt8)} {xs:List Value},aW w m (l.map PV.str) xs→xs=l.map fun s=>Value.string ⟨s.toArray⟩
 | [],xs,h=>by simpa only [List.map_nil,aW] using h
 | s :: l,xs,h=>by
  simp only [List.map_cons,aW] at h; obtain ⟨v,vs,rfl,h1,h2⟩:=h; simp only [cu] at h1; rw [h1,LA h2,List.map_cons]
theorem LP {w:World} {m:iY}:∀ l:List (List UInt8),aW w m (l.map PV.str) (l.map fun s=>Value.string ⟨s.toArray⟩)
 | []=>aW.nil
 | s :: l=>aW.cons (by simp [cu]) (LP l)
@[reducible] def VL :fJ:={G:=fun _ _=>True,mono:=fun _ h=>h,D:=True}
theorem Trans.grown (hD:fJ.D) {w w':World} {m m':iY} {σ':List aQ} (h:Trans w m [] w' m' σ'):∃ q os,w'=Sort.grow (w.drewN q) os:=by
 refine ⟨w'.drawn - w.drawn,w'.heap.extract w.heap.size w'.heap.size,?_⟩; have h1:=h.os; have h2:=h.tape; have h3:=h.output; have h4:=h.drawn hD; have h5:=h.size; have h6:=h.keep; cases w'; cases w; simp only [World.drewN,Sort.grow] at *; subst h1 h2 h3; congr 1
 ·
  apply Array.ext_getElem?; intro k; rw [Array.getElem?_append]; split
  ·
   rename_i hk; exact (h6 k hk (by simp [kr])).1
  ·
   rename_i hk; rw [Array.getElem?_extract]; split
   · congr 1; omega
   · rw [Array.getElem?_eq_none (by omega)]
 · omega
abbrev uo :Type:={s:List UInt8 // s.length < 4611686018427387904}
instance : Inhabited uo:=⟨⟨[],by decide⟩⟩
def EW (s:uo):Value:=.string ⟨s.1.toArray⟩
theorem MB :∀ {l:List (List UInt8)},(∀ s∈l,s.length < 4611686018427387904)→∃ k:List uo,k.map (·.1)=l
 | [],_=>⟨[],rfl⟩
 | s :: l,h=>by
  obtain ⟨k,hk⟩:=MB (l:=l) fun x hx=>h x (List.mem_cons_of_mem _ hx); exact ⟨⟨s,h s List.mem_cons_self⟩ :: k,by rw [List.map_cons,hk]⟩
theorem NZ (f:List UInt8→List UInt8→Bool) (k:List uo):(k.mergeSort fun x y=>f x.1 y.1).map (·.1)=(k.map (·.1)).mergeSort f:=by
 rw [List.map_mergeSort (r:=fun x y:uo=>f x.1 y.1) (s:=f)]; intro a _ b _; rfl
theorem V4 {w:World} {m:iY} {g n cap:Nat} {e:TypeId} {l l':List (List UInt8)} {cur:Array Value} {fz:Nat × Nat} {α:Type} [Inhabited α] (enc:α→Value) (dk:Array α) (q:Nat) (os:Array Obj)
  (hc:Conc w m [.buf (.slice (some ⟨g,0,none⟩) n cap) n 1 e (l.map PV.str)]) (hg:w.heap[g]?=some (.cells cur e fz)) (hfz:fz.1=fz.2∨cur.size≤fz.1) (hn:n≤cap) (hcap:cap≤maxLen) (hcur:cur.size=cap * 1)
  (hm:∀ off,¬ m g off) (hdk:dk.size≤cap) {n':Nat} (hn':n'≤n) (hl':l'.length=n') (hput:(Go.Sort.putCells enc 0 dk cur).toList.take n'=l'.map fun s=>Value.string ⟨s.toArray⟩):
  let w':=Sort.grow (putRow enc (Sort.ahead w q) g 0 dk) os
  Conc w' m [.buf (.slice (some ⟨g,0,none⟩) n' cap) n' 1 e (l'.map PV.str)]∧Trans w m [.buf (.slice (some ⟨g,0,none⟩) n cap) n 1 e (l.map PV.str)] w' m [.buf (.slice (some ⟨g,0,none⟩) n' cap) n' 1 e (l'.map PV.str)]:=by
 intro w'
 have hgs:g < w.heap.size:=by
  rcases Nat.lt_or_ge g w.heap.size with h | h
  · exact h
  · rw [Array.getElem?_eq_none h] at hg; cases hg
 have hold:∀ b,b < w.heap.size→b≠g→w'.heap[b]?=w.heap[b]?:=by
  intro b hb hne; show (Sort.grow _ _).heap[b]?=_; rw [heap_grow_old _ _ (by simpa using hb)]; show (w.heap.modify g _)[b]?=_; rw [Array.getElem?_modify,if_neg (Ne.symm hne)]
 have hnew:w'.heap[g]?=some (.cells (Go.Sort.putCells enc 0 dk cur) e fz):=by
  show (Sort.grow _ _).heap[g]?=_; rw [heap_grow_old _ _ (by simpa using hgs)]; show (w.heap.modify g _)[g]?=_; rw [Array.getElem?_modify,if_pos rfl,hg]; rfl
 have hle:Le w m w' m:=by
  intro b off hb; have hlt:=hc.wf b off hb; have hne:b≠g:=fun h=>hm off (h ▸ hb); refine ⟨hb,?_⟩; simp only [World.cell?,hold b hlt hne]
 have hsz:w.heap.size≤w'.heap.size:=by
  show w.heap.size≤(Sort.grow _ _).heap.size; simp
 refine ⟨⟨?_,?_,?_,fJ.mono hle hc.rH⟩,⟨rfl,rfl,rfl,hsz,hle,?_,?_,?_⟩⟩
 ·
  intro r hr; simp only [List.mem_singleton] at hr; subst hr; refine ⟨_,⟨?_,.inr ⟨g,cap,_,fz,rfl,hnew,?_,by omega,hcap,?_,?_⟩⟩,LP l',?_⟩
  · simp [hl']
  · simpa [Go.Sort.putCells] using hfz
  · simpa [Go.Sort.putCells] using hcur
  · simpa using hput
  ·
   intro b hb off; simp only [Value.ownBlock,Option.some.injEq] at hb; subst hb; exact hm off
 · simp [kr,aQ.fp,Value.ownBlock]
 ·
  intro b off hb; have:=hc.wf b off hb; omega
 ·
  intro b hb hf; have hne:b≠g:=fun h=>hf (by subst h; simp [kr,aQ.fp,Value.ownBlock]); exact ⟨hold b hb hne,fun _ h=>h⟩
 ·
  intro b hb; left; simpa [kr,aQ.fp,Value.ownBlock] using hb
 ·
  intro _; show w.drawn≤w.drawn + q; omega
theorem AC.YV {P:Program} {ρ:Ren} (L:SlLaysF.n6 P ρ) {g:FuncId} (hp:cZ P g=true) {cf:List UInt8→List UInt8→Int}
  (hcmp:∀ a b:List UInt8,a.length < 4611686018427387904→b.length < 4611686018427387904→@AC VL P g [.str a,.str b] [] fun out _=>out=.ret (.int .i64 (cf a b)))
  (hS:SWO (ltOf fun a b:uo=>cf a.1 b.1)) (hT:∀ x y:uo,cf x.1 y.1 ≥ 0→cf y.1 x.1 ≥ 0→x.1=y.1)
  {l:List (List UInt8)} (hl:∀ s∈l,s.length < 4611686018427387904) (hb:l.length < 4611686018427387904) {v:Value} {e:TypeId} {R:dL→List aQ→Prop}
  (h:R (.ret (.tuple [])) [.buf v (l.mergeSort fun x y=>!decide (cf y x < 0)).length 1 e ((l.mergeSort fun x y=>!decide (cf y x < 0)).map PV.str)]):
  AC P (ρ.f 6) [.val v,.fn g []] [.buf v l.length 1 e (l.map PV.str)] R:=by
 rw [List.length_mergeSort] at h; intro w m vs hc hv; simp only [aW,cu] at hv; obtain ⟨v0,vs0,rfl,rfl,v1,vs1,rfl,⟨cs,rfl,rfl⟩,rfl⟩:=hv; obtain ⟨xs,⟨hx1,hx2⟩,hrep,hm⟩:=hc.each _ (List.mem_singleton.2 rfl); have hxs:=LA hrep; rcases hx2 with ⟨rfl,hn⟩ | ⟨gb,cap,cur,fz,rfl,hg,hfz,hn,hcap,hcur,htake⟩
 ·
  have hl0:l=[]:=List.eq_nil_of_length_eq_zero hn; subst hl0; refine (AnyF.slices_SortFunc_none (P:=P) (ρ:=ρ) {L with} Option.none 0 (.func (.func g) #[] #[]) w).mono ?_; rintro en w' ⟨rfl,rfl⟩; have hnil:([]:List (List UInt8)).mergeSort (fun x y=>!decide (cf y x < 0))=[]:=by simp
  rw [hnil] at h; exact ⟨_,_,m,h,⟨_,rfl,by simp only [cu]; exact ⟨[],rfl,aW.nil⟩⟩,hc,Trans.refl _ _ _⟩
 ·
  obtain ⟨k,hk⟩:=MB hl; have hkl:k.length=l.length:=by rw [←hk]; simp
  have hgs:gb < w.heap.size:=by
   rcases Nat.lt_or_ge gb w.heap.size with h | h
   · exact h
   · rw [Array.getElem?_eq_none h] at hg; cases hg
  have hm':∀ off,¬ m gb off:=hm gb rfl
  have hcell:∀ j (hj:j < l.length),cur[j]?=some (.string ⟨(l[j]).toArray⟩):=by
   intro j hj; have:(cur.toList.take (l.length * 1))[j]?=xs[j]?:=by rw [htake]
   rw [List.getElem?_take,if_pos (by omega),hxs] at this; rw [←Array.getElem?_toList,this]; simp [hj]
  have hH:Holds EW w gb 0 k.toArray:=by
   intro j hj; have hj':j < l.length:=by simpa [hkl] using hj
   refine ⟨?_,?_⟩
   ·
    simp only [World.cell?,hg,Nat.zero_add]; rw [if_neg (by simp),hcell j hj']; congr 1; rw [getElem!_pos k.toArray j hj]; unfold EW; congr 3; have:(k.map (·.1))[j]?=l[j]?:=by rw [hk]
    simpa [hj',hkl] using this.symm
   ·
    simp only [World.frozen?,hg]; rcases hfz with h | h
    ·
     rcases fz with ⟨a,b⟩; simp only at h ⊢; subst h; simp only [Bool.and_eq_false_iff,decide_eq_false_iff_not]; omega
    ·
     rcases fz with ⟨a,b⟩; simp only at h ⊢; simp only [Bool.and_eq_false_iff,decide_eq_false_iff_not]; omega
  have ahg:CmpLays1 P g #[] EW (fun a b:uo=>cf a.1 b.1) gb 0 k.toArray.size w:=by
   intro m0 os dk _ x y; refine (hcmp x.1 y.1 x.2 y.2 (sortWorld EW w gb 0 m0 dk os) (fun _ _=>False) [EW x,EW y] (@Conc.mk VL _ _ _ (fun r hr=>by simp at hr) (by simp [kr]) (fun _ _ h=>h.elim) trivial) (aW.cons (by simp [cu,EW]) (aW.cons (by simp [cu,EW]) aW.nil))).mono ?_; rintro en w' ⟨out,σ',m',rfl,hout,_,ht⟩; obtain ⟨r,rfl,hr⟩:=hout; simp only [cu] at hr; exact ⟨by rw [hr],@Trans.grown VL trivial _ _ _ _ _ ht⟩
  have key:=Any.slices_SortFunc_total L EW (fun x=>rfl) (fun a b:uo=>cf a.1 b.1) hS g #[] gb 0 cap k.toArray w (uY hp) ahg hH hgs (by simpa [hkl] using hb)
   (fun x y h1 h2=>Subtype.ext (hT x y (by simpa [ltOf] using h1) (by simpa [ltOf] using h2)))
  have e0:k.toArray.size=l.length:=by simpa using hkl
  rw [e0] at key; refine key.mono ?_; rintro en w' ⟨rfl,q,os,rfl⟩
  have hms:(k.mergeSort fun x y=>!(ltOf (fun a b:uo=>cf a.1 b.1)) y x).map (·.1)=l.mergeSort fun x y=>!decide (cf y x < 0):=by
   rw [←hk]; exact NZ (fun x y=>!decide (cf y x < 0)) k
  have hlen:(k.mergeSort fun x y=>!(ltOf (fun a b:uo=>cf a.1 b.1)) y x).length=l.length:=by rw [List.length_mergeSort,hkl]
  obtain ⟨c1,c2⟩:=V4 (l':=l.mergeSort fun x y=>!decide (cf y x < 0)) EW (k.mergeSort fun x y=>!(ltOf (fun a b:uo=>cf a.1 b.1)) y x).toArray q os hc hg hfz hn hcap hcur hm' (by simpa [hlen] using hn) (n':=l.length) (Nat.le_refl _) (by simp) (by
   apply List.ext_getElem?; intro j; rw [←hms,List.getElem?_take]; split
   ·
    rename_i hj; have h1:j < cur.size:=by omega
    simp only [Go.Sort.putCells,Array.getElem?_toList,Array.getElem?_mapIdx,Array.getElem?_eq_getElem h1,Option.map_some]; rw [if_pos ⟨Nat.zero_le _,by simpa [hlen] using hj⟩]; have h2:j < (k.mergeSort fun x y=>!(ltOf (fun a b:uo=>cf a.1 b.1)) y x).length:=by omega
    rw [Nat.sub_zero,getElem!_pos _ j (by simpa using h2)]; simp only [List.map_map,List.getElem?_map,List.getElem?_eq_getElem h2,Option.map_some,EW,List.getElem_toArray,Function.comp_apply]
   ·
    rename_i hj
    rw [List.getElem?_eq_none (by simp [hlen]; omega)])
  exact ⟨_,_,m,h,⟨_,rfl,by simp only [cu]; exact ⟨[],rfl,aW.nil⟩⟩,c1,c2⟩
end Go.Abs
namespace Go.Ft
open Go.Lib
theorem VR :∀ (l:List Str) (x:Str),dd (l ++ [x])=if l.getLast?=some x then dd l else dd l ++ [x]
 | [],x=>by simp [dd]
 | [a],x=>by
  by_cases h:a=x <;> simp [dd,h]
 | a :: b :: l,x=>by
  have ih:=VR (b :: l) x; simp only [List.cons_append] at ih ⊢; simp only [dd]; rw [ih]; have:(a :: b :: l).getLast?=(b :: l).getLast?:=by simp [List.getLast?_cons]
  rw [this]; by_cases h:a=b <;> simp only [h,if_true,if_false] <;> split <;> simp
theorem UD (l:List Str):Go.Lib.compact l=dd l:=by
 have key:∀ m,m≤l.length→compactUpTo l.toArray m=dd (l.take m):=by
  intro m
  induction m with
  | zero=>intro _; simp [compactUpTo,dd]
  | succ m ih=>
   intro hm; have h1:l.take (m + 1)=l.take m ++ [l[m]]:=by rw [List.take_succ_eq_append_getElem (by omega)]
   rw [h1,VR,←ih (by omega)]; have e1:l.toArray[m]! =l[m]:=by rw [getElem!_pos _ m (by simp; omega)]; simp
   simp only [compactUpTo,List.range_succ,List.filter_append,List.map_append]; by_cases h0:m=0
   ·
    subst h0; simp [keeps]; rw [List.getElem?_eq_getElem (by omega)]; rfl
   ·
    have e2:l.toArray[m - 1]! =l[m - 1]:=by rw [getElem!_pos _ (m - 1) (by simp; omega)]; simp
    have e3:(l.take m).getLast?=some l[m - 1]:=by
     rw [List.getLast?_eq_getElem?,List.length_take,Nat.min_eq_left (by omega),List.getElem?_take,if_pos (by omega),List.getElem?_eq_getElem]
    by_cases hk:l[m]=l[m - 1]
    ·
     have:keeps l.toArray m=false:=by simp only [keeps,e1,e2,hk]; simp [h0]
     simp only [e3,hk,if_true,List.filter_cons,this,Bool.false_eq_true,if_false,List.filter_nil,List.map_nil,List.append_nil]
    ·
     have:keeps l.toArray m=true:=by simp only [keeps,e1,e2]; simp [hk]
     have hne:¬ (some l[m - 1]=some l[m]):=fun h=>hk (Option.some.inj h).symm; simp only [e3,hne,if_false,List.filter_cons,this,if_true,List.filter_nil,List.map_cons,List.map_nil,e1]
 rw [Go.Lib.compact,key _ (Nat.le_refl _),List.take_length]
end Go.Ft
namespace Go.Abs
variable [fJ]
open Go Go.Proofs Go.Sort Go.Lib Go.Shelf
theorem Z7 :∀ l:List Ft.Str,(Ft.dd l).length≤l.length
 | []=>by simp [Ft.dd]
 | [_]=>by simp [Ft.dd]
 | x :: y :: l=>by
  have:=Z7 (y :: l); simp only [Ft.dd]; split <;> simp only [List.length_cons] at * <;> omega
theorem AC.aac {P:Program} {ρ:Ren} (L:Lays.n194 P ρ) {l:List (List UInt8)} (hb:l.length≤9223372036854775807) {v:Value} {e:TypeId} {R:dL→List aQ→Prop}
  (h:∀ v',R (.ret (.val v')) [.buf v' (Ft.dd l).length 1 e ((Ft.dd l).map PV.str)]):
  AC P (ρ.f 194) [.val v] [.buf v l.length 1 e (l.map PV.str)] R:=by
 intro w m vs hc hv; simp only [aW,cu] at hv; obtain ⟨v0,vs0,rfl,rfl,rfl⟩:=hv; obtain ⟨xs,⟨hx1,hx2⟩,hrep,hm⟩:=hc.each _ (List.mem_singleton.2 rfl); have hxs:=LA hrep; rcases hx2 with ⟨rfl,hn⟩ | ⟨gb,cap,cur,fz,rfl,hg,hfz,hn,hcap,hcur,htake⟩
 ·
  have hl0:l=[]:=List.eq_nil_of_length_eq_zero hn; subst hl0; refine (Any.slices_Compact_string_empty (P:=P) (ρ:=ρ) L Option.none 0 w).mono ?_; rintro en w' ⟨rfl,rfl⟩; exact ⟨_,_,m,h _,⟨_,rfl,by simp only [cu]⟩,by simpa [Ft.dd] using hc,Trans.refl _ _ _⟩
 ·
  have hm':∀ off,¬ m gb off:=hm gb rfl
  have hcell:∀ j (hj:j < l.length),cur[j]?=some (.string ⟨(l[j]).toArray⟩):=by
   intro j hj; have:(cur.toList.take (l.length * 1))[j]?=xs[j]?:=by rw [htake]
   rw [List.getElem?_take,if_pos (by omega),hxs] at this; rw [←Array.getElem?_toList,this]; simp [hj]
  have hH:Holds encStr w gb 0 l.toArray:=by
   intro j hj; have hj':j < l.length:=by simpa using hj
   refine ⟨?_,?_⟩
   ·
    simp only [World.cell?,hg,Nat.zero_add]; rw [if_neg (by simp),hcell j hj']; congr 1; rw [getElem!_pos l.toArray j hj]; rfl
   ·
    simp only [World.frozen?,hg]; rcases hfz with h | h
    ·
     rcases fz with ⟨a,b⟩; simp only at h ⊢; subst h; simp only [Bool.and_eq_false_iff,decide_eq_false_iff_not]; omega
    ·
     rcases fz with ⟨a,b⟩; simp only at h ⊢; simp only [Bool.and_eq_false_iff,decide_eq_false_iff_not]; omega
  refine (Any.slices_Compact_string L gb 0 cap l w hH hb hn).mono ?_; rintro en w' ⟨rfl,q,rfl⟩; rw [Ft.UD]; have hdl:=Z7 l
  obtain ⟨c1,c2⟩:=V4 (l':=Ft.dd l) encStr (Ft.dd l ++ List.replicate (l.length - (Ft.dd l).length) []).toArray q #[] hc hg hfz hn hcap hcur hm' (by simp; omega) hdl rfl (by
   apply List.ext_getElem?; intro j; rw [List.getElem?_take]; split
   ·
    rename_i hj; have h1:j < cur.size:=by omega
    simp only [Go.Sort.putCells,Array.getElem?_toList,Array.getElem?_mapIdx,Array.getElem?_eq_getElem h1,Option.map_some]; rw [if_pos ⟨Nat.zero_le _,by simp; omega⟩]; rw [Nat.sub_zero,getElem!_pos _ j (by simp; omega)]; simp [encStr,List.getElem?_map,hj,List.getElem_append]
   ·
    rename_i hj
    rw [List.getElem?_eq_none (by simp; omega)])
  rw [Sort.grow_empty] at c1 c2; exact ⟨_,_,m,h _,⟨_,rfl,by simp only [cu]⟩,c1,c2⟩
end Go.Abs
namespace Go.Abs
variable [fJ]
open Go
section
variable {P : Program} {o : Oper} {ρ : Operand → PV} {σ : List aQ} {R S : PV → List aQ → Prop}
theorem LH (w:World) (t e:TypeId) (a:Option Addr) (l c:Nat) (h:P.underlying t=some (.slice e)):(binOp .eql t (.slice a l c) (.slice none 0 0)).run P w=.ok (.bool a.isNone) w:=by
 have h:∀ d:Nat,(Op.equalIn (d + 1) t (.slice a l c) (.slice none 0 0)).run P w=.ok a.isNone w:=fun d=>by
  cases a <;> simp [Op.equalIn,run_underlying h]
 simp only [binOp]; simp [Op.equal,Op.maxDepth,h 9999]
theorem AO.QH {t e yt:TypeId} {x:Operand} {l:List (List PV)} (ho:o.op=.binOp .eql t x (.const (.slice none 0 0)) yt) (hx:(ρ x).els=some l) (hu:P.underlying t=some (.slice e))
  (hR:∀ b:Bool,(b=true→l=[])→R (.bool b) σ):AO P o ρ σ R S:=by
 intro w m a K QC hr hc hK _; have hv:=hr x (by simp [ho,Op.operands]); obtain ⟨ad,cap,e1,e2,e3⟩:=hv.els hx; have hev:a.eval (.const (.slice none 0 0))=.slice none 0 0:=rfl
 have hrun:(execOp a.eval o).run P w=.ok (.value (.bool ad.isNone)) w:=by
  simp only [execOp,ho,hev,e1,Sem.run_bind]; rw [show eqGuard .eql t x (.const (.slice none 0 0)) (.slice ad l.length cap) (.slice none 0 0)=pure () from rfl]; simp only [Sem.run_pure,Result.andThen_ok,LH w t e ad l.length cap hu]
 unfold Oper.wp; rw [hrun]; refine hK (.bool ad.isNone) σ _ w m (hR _ fun h=>?_) (by simp only [cu]) hc (Trans.refl _ _ _); rcases e3 with rfl | ⟨bk,off,sz,rfl,_⟩
 · rfl
 · cases h
theorem AO.Ij {x:Operand} {v:Value} {l:List (List PV)} (ho:o.op=.assign x) (hx:ρ x=.own v l) (hR:R (.val v) σ):AO P o ρ σ R S:=by
 refine AO.of_same hR fun w m ev hr _=>?_; have h1:=hr x (by simp [ho,Op.operands]); rw [hx] at h1; simp only [cu] at h1; exact ⟨ev x,by simp [execOp,ho],by simp only [cu]; exact h1.1⟩
theorem AO.clip {t:TypeId} {x y z:Operand} {l:List (List PV)} {sz:Nat} {k k':IntKind} (ho:o.op=.slice t x none (some y) (some z)) (hs:elemSize P t=some sz) (hx:(ρ x).els=some l)
  (hy:ρ y=.int k l.length) (hz:ρ z=.int k' l.length) (hR:R (.list l) σ):AO P o ρ σ R S:=by
 refine AO.of_same hR fun w m ev hr _=>?_; have hv:=hr x (by simp [ho,Op.operands]); obtain ⟨ad,cap,e1,e2,e3⟩:=hv.els hx; obtain ⟨el,inf,g1,g2,g3⟩:=lK hs; have h1:=hr y (by simp [ho,Op.operands]); have h2:=hr z (by simp [ho,Op.operands]); rw [hy] at h1; rw [hz] at h2; simp only [cu] at h1 h2
 have hb:(Instr.sliceBounds true l.length cap none (some (ev y)) (some (ev z))).run P w=.ok (0,l.length,l.length) w:=by
  simp [Instr.sliceBounds,h1,h2,Instr.sliceBound,asIntOf,e2]
 refine ⟨.slice (if l.length=0 then ad else ad.map (·.add (0 * sz))) (l.length - 0) (l.length - 0),?_,?_⟩
 · simp only [execOp,ho,Instr.sliceAt,Sem.run_bind,run_underlying g1,Result.andThen_ok,Instr.slice,e1,Option.map_some,Option.map_none,hb,Sem.run_pure,sizeOf,run_typeInfo g2,g3]
 ·
  simp only [cu]; refine ⟨_,l.length,rfl,Nat.le_refl _,?_⟩; rcases e3 with rfl | ⟨bk,off,sz',rfl,e4⟩
  · exact .inl rfl
  ·
   right; refine ⟨bk,off,sz',?_,e4⟩; split <;> simp [Addr.add_lit]
end
theorem AW.afq {P:Program} {n:Nat} {c:Code} {env:Env} {σ:List aQ} {ds:List Deferred} {Q:Post} (sz e:Nat) (h:AW P n c env (.buf (.slice none 0 0) 0 sz e [] :: σ) ds Q):AW P n c env σ ds Q:=by
 intro w m a QC hs ha
 have hc:Conc w m (.buf (.slice none 0 0) 0 sz e [] :: σ):=by
  refine ⟨fun r hr=>?_,by simpa [kr,aQ.fp,Value.ownBlock] using hs.gX.apart,hs.gX.wf,hs.gX.rH⟩; rcases List.mem_cons.1 hr with rfl | hr
  · exact ⟨[],⟨by simp,.inl ⟨rfl,rfl⟩⟩,aW.nil,fun b hb=>by cases hb⟩
  · exact hs.gX.each r hr
 exact h w m a QC ⟨hs.size,hs.ds,hs.env,hc⟩ (ha.step ⟨rfl,rfl,rfl,Nat.le_refl _,Le.refl _ _,fun b _ _=>⟨rfl,fun _ h=>h⟩,fun b hb=>.inl (by simpa [kr,aQ.fp,Value.ownBlock] using hb),fun _=>Nat.le_refl _⟩)
theorem AR.freeze {P:Program} {k:Nat} {all:Array Oper} {lo:List Oper} {env:Env} {σ:List aQ} {ds:List Deferred} {Q:Post} {v:Value} {n sz e:Nat} {cs:List PV} (t i:Nat) (l:List (List PV)) (ht:env.get t=.val v) (hi:σ[i]?=some (aQ.buf v n sz e cs))
  (hl:l.flatten=cs) (hsz:∀ x∈l,x.length=sz) (hn:l.length=n) (h:AR P k all lo ((t,.own v l) :: env) (σ.set i (.row v n sz e)) ds Q):AR P k all lo env σ ds Q:=by
 intro w m a QC hs ha; obtain ⟨m',h1,h2,h3⟩:=hs.gX.freeze hi hl hsz hn; refine h w m' a QC ⟨hs.size,hs.ds,fun u=>?_,h2⟩ (ha.step h3); have hu:=hs.env u; simp only [Env.get]; cases hb:Nat.beq t u with
 | false=>exact cu.mono h3.le _ _ hu
 | true=>
  have:=Nat.eq_of_beq_eq_true hb; subst this; rw [ht] at hu; simp only [cu] at hu; rw [hu]; exact h1
end Go.Abs
namespace Go.Abs
variable [fJ]
open Go
section
variable {P : Program} {n : Nat} {env : Env} {σ : List aQ} {ds : List Deferred} {Q : Post} {all : Array Oper} {l : List Oper}
end
end Go.Abs
namespace Go.Abs
variable [fJ]
open Go
section
variable {P : Program} {n : Nat} {ds : List Deferred} {L : List Oper} {k : Nat}
end
end Go.Abs
namespace Go.Abs
variable [fJ]
open Go
section
variable {P : Program} {o : Oper} {ρ : Operand → PV} {σ : List aQ} {R S : PV → List aQ → Prop}
end
end Go.Abs
namespace Go.Abs
variable [fJ]
open Go
end Go.Abs
namespace Go.Abs
variable [fJ]
open Go
section
variable {P : Program} {n : Nat} {all : Array Oper} {l : List Oper} {env : Env} {σ : List aQ} {ds : List Deferred} {Q : Post} {c : Code}
end
end Go.Abs
namespace Go.Abs
variable [fJ]
open Go Go.Proofs Go.Sort Go.Lib Go.Shelf
end Go.Abs
namespace Go.Ft
open Go Go.Lib
theorem FC :∀ s t:Str,Go.Lib.index s t=match Au s t with | none=>-1 | some i=>(i:Int)
 | [],t=>by
  unfold Go.Lib.index Au; cases t.isEmpty <;> rfl
 | b :: l,t=>by
  unfold Go.Lib.index Au; rw [FC l t]; cases t.isPrefixOf (b :: l) with
  | true=>rfl
  | false=>
   simp only [Bool.false_eq_true,if_false]; cases Au l t with
   | none=>rfl
   | some i=>
    have:(((i:Nat):Int) == -1)=false:=by rw [beq_eq_false_iff_ne]; omega
    simp only [this,Bool.false_eq_true,if_false,Option.map_some]; show (i:Int) + 1=((i + 1:Nat):Int); omega
theorem UC (s t:Str):Go.Lib.contains s t=(Au s t).isSome:=by
 unfold Go.Lib.contains; rw [FC]; cases Au s t with
 | none=>rfl
 | some i=>simp
theorem Sq {s t:Str} {i:Nat} (h:Au s t=some i):i + t.length≤s.length:=by
 have:=index_room s t (by rw [FC,h]; exact Int.natCast_nonneg i); rw [FC,h] at this; simp only at this; omega
theorem Vl {t:Str} (ht:t≠[]):∀ (n:Nat) (s:Str) (f k:Nat),s.length < n→n≤f→n≤k→splitK t 0 (countFrom t f s) s=Er t k s
 | 0,s,f,k,h,_,_=>by omega
 | n + 1,s,f,k,h,hf,hk=>by
  obtain ⟨f,rfl⟩:∃ g,f=g + 1:=⟨f - 1,by omega⟩; obtain ⟨k,rfl⟩:∃ g,k=g + 1:=⟨k - 1,by omega⟩; rw [countFrom,Er,FC]; cases hi:Au s t with
  | none=>simp [splitK]
  | some i=>
   have hr:=Sq hi; have htl:0 < t.length:=List.length_pos_iff.2 ht; have hb:(((i:Nat):Int) == -1)=false:=by rw [beq_eq_false_iff_ne]; omega
   simp only [hb,Bool.false_eq_true,if_false,Int.toNat_natCast]; rw [Nat.add_comm 1,splitK,FC,hi]; simp only [hb,Bool.false_eq_true,if_false,Int.toNat_natCast,Nat.add_zero]; rw [Vl ht n (s.drop (i + t.length)) f k (by simp; omega) (by omega) (by omega)]
theorem Um :∀ (l:List Str) (t:Str),Go.Lib.join l t=Ku l t
 | [],_=>rfl
 | [x],t=>by rw [Ku,join_one]
 | x :: y :: r,t=>by
  rw [Ku,←Um (y :: r) t,join_cons,join_cons]; simp [joinTail]
theorem Z0 :∀ (k u:Nat),u < 10 ^ (k + 1)→sQ (k + 1) u=decDigits u
 | 0,u,h=>by rw [sQ,decDigits,if_pos (by simpa using h),dif_pos (by simpa using h)]
 | k + 1,u,h=>by
  rw [sQ,decDigits]; by_cases hu:u < 10
  · rw [if_pos hu,dif_pos hu]
  · rw [if_neg hu,dif_neg hu,Z0 k (u / 10) (by rw [Nat.pow_succ] at h; omega)]
theorem afd {n:Int} (h1:-9223372036854775808≤n) (h2:n≤9223372036854775807):VF n=itoa n:=by
 unfold VF itoa; rw [Z0 19 _ (by have:(10:Nat) ^ 20=100000000000000000000:=(by decide); omega),Z0 19 _ (by have:(10:Nat) ^ 20=100000000000000000000:=(by decide); omega)]
theorem adp :∀ (l:Str) (acc:Nat),GH acc l=match parseUint10 acc l with | .ok v=>(0,v) | .range=>(2,0) | _=>(1,0)
 | [],acc=>rfl
 | c :: r,acc=>by
  rw [GH,parseUint10]; split
  ·
   split
   · rfl
   ·
    split
    · rfl
    · exact adp r _
  · rfl
theorem aft (l:Str):CV l=match atoiAll l with | .ok v=>(0,v) | .range=>(2,atoiSat l) | _=>(1,0):=by
 cases l with
 | nil=>rfl
 | cons c r=>
  have aiQ:atoiSat (c :: r)=if c.toNat=45 then -9223372036854775808 else 9223372036854775807:=by
   unfold atoiSat; simp
  rw [aiQ]; unfold CV atoiAll parseMag; simp only; generalize (if c.toNat=43∨c.toNat=45 then r else c :: r)=body; by_cases hb:body=[]
  · simp [hb]
  ·
   rw [if_neg hb,if_neg hb,adp]; cases parseUint10 0 body with
   | ok u=>
    simp only; by_cases h1:¬c.toNat=45∧9223372036854775808≤u
    · simp [h1]
    ·
     by_cases h2:c.toNat=45∧9223372036854775808 < u
     · simp [h1,h2]
     · simp [h1,h2]
   | _=>rfl
end Go.Ft
namespace Go.Abs
variable [fJ]
open Go Go.Proofs Go.Lib Go.Shelf Go.RowKit
theorem yj (hD:¬ fJ.D) {w w':World} {m:iY} (hc:Conc w m []) (hb:Below w.heap.size w w'):Conc w' m []∧Trans w m [] w' m []:=by
 have hle:Le w m w' m:=fun b off hm=>⟨hm,World.cell?_of_block (w:=w) (hb.block b (hc.wf b off hm))⟩
 exact ⟨⟨fun r hr=>by simp at hr,by simp [kr],fun b off hm=>Nat.lt_of_lt_of_le (hc.wf b off hm) hb.size,fJ.mono hle hc.rH⟩,
  ⟨hb.os,hb.tape,hb.output,hb.size,hle,fun b hlt _=>⟨hb.block b hlt,fun _ h=>h⟩,fun b hb=>by simp [kr] at hb,fun d=>absurd d hD⟩⟩
section
variable {P : Program} {ρ : Ren} {R : dL → List aQ → Prop}
theorem AC.contains (L:Lays.n144 P ρ) {s t:List UInt8} (hs:s.length < 4294967281) (hm:∀ (w:World) (m:iY),fJ.G w m→∃ n:Int,w.cell? ⟨ρ.g 1,0,Option.none⟩=some (.int .i64 n))
  (h:R (.ret (.bool (Ft.Au s t).isSome)) []):AC P (ρ.f 144) [.str s,.str t] [] R:=by
 intro w m vs hc hv; simp only [aW,cu] at hv; obtain ⟨v0,vs0,rfl,rfl,v1,vs1,rfl,rfl,rfl⟩:=hv; obtain ⟨n,hn⟩:=hm w m hc.rH; refine (Any.strings_Contains L ⟨s.toArray⟩ ⟨t.toArray⟩ n w (by simpa [ByteArray.size] using hs) hn).mono ?_; rintro en w' ⟨rfl,rfl⟩; exact ⟨_,_,m,h,⟨_,rfl,by simp only [cu]; rw [Ft.UC]⟩,hc,Trans.refl _ _ _⟩
theorem AC.itoa (hD:¬ fJ.D) (L:LaysM.n171 P ρ) {n:Int} (h0:-9223372036854775808≤n) (h1:n≤9223372036854775807) (ht:∀ (w:World) (m:iY),fJ.G w m→Lib.TabIs P w "internal/strconv.uint64pow10" .u64 Lib.pow10Tab)
  (h:R (.ret (.str (Ft.VF n))) []):AC P (ρ.f 171) [.int .i64 n] [] R:=by
 intro w m vs hc hv; simp only [aW,cu] at hv; obtain ⟨v0,vs0,rfl,rfl,rfl⟩:=hv; refine (Any.strconv_Itoa L n h0 h1 w (ht w m hc.rH)).mono ?_; rintro en w' ⟨rfl,k,os,rfl⟩; have hb:Below w.heap.size w (Sort.grow (w.drewN k) os):=⟨rfl,rfl,rfl,by rw [Sort.size_grow]; exact Nat.le_add_right _ _,fun j hj=>Sort.heap_grow_old (w.drewN k) os hj⟩; obtain ⟨c1,c2⟩:=yj hD hc hb; exact ⟨_,_,m,h,⟨_,rfl,by simp only [cu]; rw [Ft.afd h0 h1]⟩,c1,c2⟩
theorem AC.atoi (hD:¬ fJ.D) (L:LaysC.n172 P ρ) {s:List UInt8} (hs:s.length≤281474976710656) {E:TypeId} (hE:ρ.t 168=E)
  (hv1:∀ (w:World) (m:iY),fJ.G w m→∃ ev,w.cell? ⟨ρ.g 15,0,Option.none⟩=some ev∧(ev=.nilIface∨∃ te pe,ev=.iface te pe)) (hv2:∀ (w:World) (m:iY),fJ.G w m→∃ ev,w.cell? ⟨ρ.g 16,0,Option.none⟩=some ev∧(ev=.nilIface∨∃ te pe,ev=.iface te pe))
  (h:R (.ret (.tuple [.int .i64 (Ft.CV s).2,.err (if (Ft.CV s).1=0 then Option.none else some E)])) []):AC P (ρ.f 172) [.str s] [] R:=by
 subst hE; intro w m vs hc hv; simp only [aW,cu] at hv; obtain ⟨v0,vs0,rfl,rfl,rfl⟩:=hv; have hF:=Ft.aft s; have hsz:(⟨s.toArray⟩:ByteArray).size=s.length:=by simp [ByteArray.size]
 have tup:∀ (w':World) (a:Int) (e:Option TypeId) (x:Value),cu w' m (.err e) x→cu w' m (.tuple [.int .i64 a,.err e]) (.tuple #[.int .i64 a,x]):=fun w' a e x hx=>by
  simp only [cu]; exact ⟨[.int .i64 a,x],rfl,aW.cons (by simp only [cu]) (aW.cons hx aW.nil)⟩
 cases ha:atoiAll s with
 | ok v=>
  rw [ha] at hF; simp only at hF; rw [hF] at h; refine (Any.strconv_Atoi_ok L ⟨s.toArray⟩ (by rw [hsz]; omega) v (by simpa using ha) w).mono ?_; rintro en w' ⟨rfl,hw⟩
  have hb:Below w.heap.size w w':=by
   rcases hw with rfl | ⟨t,rfl⟩
   · exact Below.refl _ _
   ·
    refine ⟨rfl,rfl,rfl,?_,fun j hj=>Lib.bytesWorld_at_old w _ _ j hj⟩; have hsz2:(Lib.bytesWorld w (ρ.t 5) t).heap.size=w.heap.size + 1:=Lib.bytesWorld_size ..; omega
  obtain ⟨c1,c2⟩:=yj hD hc hb; exact ⟨_,_,m,h,⟨_,rfl,tup _ _ Option.none _ (by simp only [cu])⟩,c1,c2⟩
 | range=>
  rw [ha] at hF; simp only at hF; rw [hF] at h; obtain ⟨ev,e1,e2⟩:=hv2 w m hc.rH; refine (Any.strconv_Atoi_range L ⟨s.toArray⟩ (by rw [hsz]; exact hs) (by simpa using ha) ev w e1 e2).mono ?_; rintro en w' ⟨N,rfl,_,_,hb⟩; obtain ⟨c1,c2⟩:=yj hD hc hb; exact ⟨_,_,m,h,⟨_,rfl,tup _ _ (some _) _ (by simp only [cu]; exact ⟨_,rfl⟩)⟩,c1,c2⟩
 | _=>
  rw [ha] at hF; simp only at hF; rw [hF] at h; obtain ⟨ev,e1,e2⟩:=hv1 w m hc.rH; refine (Any.strconv_Atoi_syntax L ⟨s.toArray⟩ (by rw [hsz]; exact hs) (by simpa using ha) ev w e1 e2).mono ?_; rintro en w' ⟨N,rfl,_,_,hb⟩; obtain ⟨c1,c2⟩:=yj hD hc hb; exact ⟨_,_,m,h,⟨_,rfl,tup _ _ (some _) _ (by simp only [cu]; exact ⟨_,rfl⟩)⟩,c1,c2⟩
theorem RF {w:World} {m:iY} {b:Nat}:∀ {l:List (List UInt8)} {off:Nat},iB w m b 1 off (l.map fun s=>[PV.str s])→∀ (j:Nat) (x:ByteArray),(l.map fun s=>(⟨s.toArray⟩:ByteArray))[j]?=some x→m b (off + j)∧w.cell? ⟨b,off + j,Option.none⟩=some (.string x)
 | [],_,_,j,x,h=>by simp at h
 | s :: l,off,hr,j,x,h=>by
  simp only [List.map_cons,iB,nW,cu] at hr; obtain ⟨⟨_,⟨v,h1,h2,h3⟩,_⟩,h4⟩:=hr; cases j with
  | zero=>
   simp only [List.map_cons,List.getElem?_cons_zero,Option.some.injEq] at h; subst h; rw [h3] at h2; exact ⟨h1,h2⟩
  | succ j=>
   simp only [List.map_cons,List.getElem?_cons_succ] at h; have:=RF h4 j x h; rw [show off + (j + 1)=off + 1 + j from by omega]; exact this
theorem AC.join (hD:¬ fJ.D) (L:Lays.n156 P ρ) (X:Builder.Extra P ρ) {l:List (List UInt8)} {t:List UInt8} (hl:l.length≤140737488355328) (hj:(Ft.Ku l t).length≤140737488355328)
  (h:R (.ret (.str (Ft.Ku l t))) []):AC P (ρ.f 156) [.list (l.map fun s=>[PV.str s]),.str t] [] R:=by
 intro w m vs hc hv; simp only [aW] at hv; obtain ⟨v0,vs0,rfl,h1,v1,vs1,rfl,h2,rfl⟩:=hv; simp only [cu] at h1 h2; obtain ⟨a,cap,rfl,hcap,hel⟩:=h1; subst h2; have hml:(l.map fun s=>[PV.str s]).length=l.length:=List.length_map _; rw [hml] at hcap ⊢
 have hdata:(l.map fun s=>(⟨s.toArray⟩:ByteArray)).map (·.data.toList)=l:=by
  rw [List.map_map]; exact (List.map_congr_left (fun s _=>by simp)).trans (List.map_id l)
 rcases hel with he | ⟨b,off,sz,rfl,he⟩
 ·
  have hl0:l=[]:=List.map_eq_nil_iff.1 he; subst hl0; refine (Any.strings_Join_none L X a cap ⟨t.toArray⟩ w).mono ?_; rintro en w' ⟨rfl,rfl⟩; exact ⟨_,_,m,h,⟨_,rfl,by simp only [cu]; rfl⟩,hc,Trans.refl _ _ _⟩
 ·
  cases hl0:l with
  | nil=>
   subst hl0; refine (Any.strings_Join_none L X _ cap ⟨t.toArray⟩ w).mono ?_; rintro en w' ⟨rfl,rfl⟩; exact ⟨_,_,m,h,⟨_,rfl,by simp only [cu]; rfl⟩,hc,Trans.refl _ _ _⟩
  | cons x r=>
   have hsz:sz=1:=by
    rw [hl0] at he; simp only [List.map_cons,iB] at he; exact he.1.1.symm
   subst hsz; rw [←hl0]; have hcell:=RF he; have hbk:b < w.heap.size:=hc.wf b (off + 0) (hcell 0 ⟨x.toArray⟩ (by simp [hl0])).1; have hlm:(l.map fun s=>(⟨s.toArray⟩:ByteArray)).length=l.length:=List.length_map _
   have key:=Any.strings_Join L X b off cap (l.map fun s=>(⟨s.toArray⟩:ByteArray)) ⟨t.toArray⟩ w (fun j x hx=>(hcell j x hx).2) hbk (by rw [hlm]; exact hl) (by rw [hlm]; exact hcap)
    (by rw [hdata]; simpa [Ft.Um] using hj)
   rw [hlm,hdata] at key; refine key.mono ?_; rintro en w' ⟨rfl,hb⟩; obtain ⟨c1,c2⟩:=yj hD hc hb; exact ⟨_,_,m,h,⟨_,rfl,by simp only [cu]; rw [Ft.Um]⟩,c1,c2⟩
theorem AC.split (L:Lays.n146 P ρ) (hi9:(P.info? (ρ.t 9)).map (fun i=>(i.zero,i.size,i.bytes))=some (some (.string ByteArray.empty),1,16)) {s t:List UInt8} (hs:s.length < 4294967281) (ht:t≠[])
  (hm:∀ (w:World) (m:iY),fJ.G w m→∃ n:Int,w.cell? ⟨ρ.g 1,0,Option.none⟩=some (.int .i64 n))
  (h:R (.ret (.list ((Ft.Er t (s.length + 1) s).map fun s=>[PV.str s]))) []):AC P (ρ.f 146) [.str s,.str t] [] R:=by
 intro w m vs hc hv; simp only [aW,cu] at hv; obtain ⟨v0,vs0,rfl,rfl,v1,vs1,rfl,rfl,rfl⟩:=hv; obtain ⟨n,hn⟩:=hm w m hc.rH; have htl:1≤t.length:=List.length_pos_iff.2 ht; have hts:1≤(⟨t.toArray⟩:ByteArray).size:=by simpa [ByteArray.size] using htl
 refine (Any.strings_Split L hi9 ⟨s.toArray⟩ ⟨t.toArray⟩ n w (by simpa [ByteArray.size] using hs) hn hts).mono ?_; rintro en w' ⟨rfl,rfl⟩; have hall:=Lib.splitB_all ⟨t.toArray⟩ hts 0 _ ⟨s.toArray⟩ rfl
 have hdata:(Lib.splitB ⟨t.toArray⟩ 0 (Lib.countB ⟨s.toArray⟩ ⟨t.toArray⟩) ⟨s.toArray⟩).map (·.data.toList)=Ft.Er t (s.length + 1) s:=by
  rw [splitB_data]; exact Ft.Vl ht (s.length + 1) s (s.length + 1) (s.length + 1) (Nat.lt_succ_self _) (Nat.le_refl _) (Nat.le_refl _)
 have hlen:Lib.countB ⟨s.toArray⟩ ⟨t.toArray⟩ + 1=(Ft.Er t (s.length + 1) s).length:=by rw [←hdata,List.length_map,hall]
 have ahd:(Lib.splitB ⟨t.toArray⟩ 0 (Lib.countB ⟨s.toArray⟩ ⟨t.toArray⟩) ⟨s.toArray⟩).map Value.string=(Ft.Er t (s.length + 1) s).map fun s=>Value.string ⟨s.toArray⟩:=by
  rw [←hdata,List.map_map]; exact List.map_congr_left fun x _=>by simp
 rw [hlen,ahd]; generalize Ft.Er t (s.length + 1) s=r at h ⊢; have hcl:=pX hc (.cells (r.map fun s=>Value.string ⟨s.toArray⟩).toArray (ρ.t 9)) (fun _=>True); have htr:=iy (σ':=[]) hc (.cells (r.map fun s=>Value.string ⟨s.toArray⟩).toArray (ρ.t 9)) (fun _=>True) (fun b hb=>by simp [kr] at hb); have href:=CX hc (r.map fun s=>Value.string ⟨s.toArray⟩) (r.map PV.str) (LP r) (ρ.t 9); refine ⟨_,_,_,h,⟨_,rfl,?_⟩,hcl,htr⟩; simp only [cu]; have hml:(r.map fun s=>[PV.str s]).length=r.length:=List.length_map _; rw [hml]; refine ⟨_,_,rfl,Nat.le_refl _,.inr ⟨w.heap.size,0,1,rfl,oC.2 ⟨fun e he=>?_,?_⟩⟩⟩
 · obtain ⟨x,_,rfl⟩:=List.mem_map.1 he; rfl
 ·
  have hfl:(r.map fun s=>[PV.str s]).flatten=r.map PV.str:=by
   clear h hcl htr href hml
   induction r with
   | nil=>rfl
   | cons x r ih=>simp [ih]
  rw [hfl]; exact href
end
end Go.Abs
namespace Go.Abs
open Go
@[reducible] def ahr (ints errs:List Nat) (tabs:List (Nat × List Value)):fJ where
 G:=fun w m=>(∀ g∈ints,m g 0∧∃ n:Int,w.cell? ⟨g,0,none⟩=some (.int .i64 n))∧(∀ g∈errs,m g 0∧∃ u v,w.cell? ⟨g,0,none⟩=some (.iface u v))∧∀ p∈tabs,∀ off,m p.1 off∧w.cell? ⟨p.1,off,none⟩=p.2[off]?
 mono:=fun {w w' m m'} hle ⟨h1,h2,h3⟩=>⟨fun g hg=>by
   obtain ⟨a,n,b⟩:=h1 g hg; obtain ⟨c,d⟩:=hle g 0 a
   exact ⟨c,n,by rw [d,b]⟩,fun g hg=>by
   obtain ⟨a,u,v,b⟩:=h2 g hg; obtain ⟨c,d⟩:=hle g 0 a
   exact ⟨c,u,v,by rw [d,b]⟩,fun p hp off=>by
   obtain ⟨a,b⟩:=h3 p hp off; obtain ⟨c,d⟩:=hle p.1 off a
   exact ⟨c,by rw [d,b]⟩⟩
 D:=False
theorem Nf {W:World} {g off:Nat} {v:Value} (h:W.cell? ⟨g,off,none⟩=some v):uG W g 0:=by
 unfold World.cell? at h; show g < W.heap.size; rcases Nat.lt_or_ge g W.heap.size with hl | hl
 · exact hl
 ·
  simp only at h; rw [Array.getElem?_eq_none hl] at h; cases h
theorem MF {P:Program} {n nm:String} {d:DataW Unit} {r:List (String × DataW Unit)} {W:World} {g t:Nat} {ms:Array (String × TypeId)} (h:laidMet P ((n,.iface nm d) :: r) W) (hg:P.globalNamed n=some g)
  (ht:(P.globals[g]?).map (·.type)=some t) (hi:P.underlying t=some (.interface ms)):∃ u v,W.cell? ⟨g,0,none⟩=some (.iface u v):=by
 obtain ⟨ps,⟨g0,t0,cs0,f0,p0,q0,hg0,ht0,hv0,hd0,_,e0⟩,_,_⟩:=h; obtain rfl:=Option.some.inj (hg.symm.trans hg0); obtain rfl:=Option.some.inj (ht.symm.trans ht0); obtain ⟨l0⟩:=cs0; cases f0 with
 | zero=>simp [DataW.trod] at hd0
 | succ f0=>
  unfold DataW.trod at hd0; rw [hi] at hd0; simp only at hd0; split at hd0 <;> first | (cases hd0; done) | skip
  all_goals first
   | (rename_i e; cases e; done)
   | skip
  all_goals simp_all
  all_goals exact ⟨_,_,by simpa using World.var?_cell hg0 hv0 0⟩
theorem WB {P:Program} {w:World} {name:String} {k:IntKind} {zs:List Int} {g:Nat} (hg:P.globalNamed name=some g) (h:Lib.TabIs P w name k zs):∀ off,uG w g off∧w.cell? ⟨g,off,none⟩=(zs.map fun z=>Value.int k z)[off]?:=by
 intro off; unfold Lib.TabIs World.var? at h; rw [hg] at h; simp only [Option.bind_some] at h; split at h
 ·
  rename_i cs t f hc; cases h; refine ⟨?_,?_⟩
  ·
   show g < w.heap.size; rcases Nat.lt_or_ge g w.heap.size with hl | hl
   · exact hl
   · rw [Array.getElem?_eq_none hl] at hc; cases hc
  ·
   unfold World.cell?; simp only [hc]; simp
 · cases h
theorem XK {P:Program} {w:World} {name:String} {k:IntKind} {zs:List Int} {g:Nat} (hg:P.globalNamed name=some g) (hne:zs≠[]) (h:∀ off,w.cell? ⟨g,off,none⟩=(zs.map fun z=>Value.int k z)[off]?):Lib.TabIs P w name k zs:=by
 unfold Lib.TabIs World.var?; rw [hg]; simp only [Option.bind_some]; have h0:=h 0
 obtain ⟨z,r,rfl⟩:∃ z r,zs=z :: r:=by
  cases zs with
  | nil=>exact absurd rfl hne
  | cons z r=>exact ⟨z,r,rfl⟩
 unfold World.cell? at h0; simp only at h0; split at h0
 ·
  rename_i cs t f hc; rw [hc]; simp only [Option.some.injEq]; apply Array.ext_getElem?; intro i; have hi:=h i; unfold World.cell? at hi; simp only [hc] at hi; simpa using hi
 · simp at h0
end Go.Abs
namespace Go.Abs
variable [fJ]
open Go
section
variable {P : Program} {o : Oper} {ρ : Operand → PV} {σ : List aQ} {R S : PV → List aQ → Prop}
theorem YR {α:Type} (C L:List α) (N off:Nat) (h1:off + L.length≤N) (h2:N≤C.length):(C.take N).take off ++ (L ++ (C.take N).drop (off + L.length))=(C.take off ++ (L ++ C.drop (off + L.length))).take N:=by
 have a1:(C.take off).length=off:=by rw [List.length_take]; omega
 rw [List.take_append,List.take_append,a1,List.take_of_length_le (l:=C.take off) (by omega),List.take_of_length_le (l:=L) (by omega),List.take_take,Nat.min_eq_left (by omega),List.drop_take,Nat.sub_sub]
theorem AO.Pd {t:TypeId} {x:Operand} {v:Value} {n sz e i off k:Nat} {ag:Bool} {cs:List PV} {p:PV} (ho:o.op=.load t x) (hx:ρ x=.val (.pointer (some ⟨v.blk,off,none⟩))) (hi:σ[i]?=some (aQ.buf v n sz e cs))
  (ht:iG P t=some (ag,k)) (hlt:off < cs.length) (hp:sN ag k (cs.drop off)=some p) (hR:R p σ):AO P o ρ σ R S:=by
 refine AO.of_same hR fun w m ev hr hc=>?_; have h:=hr x (by simp [ho,Op.operands]); rw [hx] at h; simp only [cu] at h; obtain ⟨xs,hrow,hrep,_⟩:=hc.each _ (List.mem_of_getElem? hi); have hl:=hrep.length_eq; have hn:=hrow.1
 have hb:v.ownBlock=some v.blk:=by
  rcases hrow.2 with ⟨_,rfl⟩ | ⟨g,cap,cur,fz,rfl,_⟩
  · omega
  · rfl
 obtain ⟨u,h5,h6⟩:=uX ht hp (hrep.drop off) (b:=v.blk) (off:=off) fun i u hu=>by
  rw [List.getElem?_drop] at hu; have hlt2:=(List.getElem?_eq_some_iff.1 hu).1; rw [hrow.cell hb (by omega)]; exact hu
 exact ⟨u,by simp [execOp,ho,Instr.loadAt,h,Instr.sureAddr,h5],h6⟩
theorem AO.LB {t:TypeId} {x y:Operand} {v:Value} {n sz e i off k:Nat} {ag:Bool} {cs new cs':List PV} {σ':List aQ} (ho:o.op=.store t x y) (hx:ρ x=.val (.pointer (some ⟨v.blk,off,none⟩))) (hi:σ[i]?=some (aQ.buf v n sz e cs))
  (ht:iG P t=some (ag,k)) (hnew:(ρ y).uE=some new) (hone:new.all PV.one=true) (hk:new.length=k) (h0:0 < new.length) (hfit:off + new.length≤cs.length) (hput:putCells cs off new=cs') (hset:yC σ i (.buf v n sz e cs')=some σ') (hR:R .undef σ'):AO P o ρ σ R S:=by
 obtain ⟨hnew,hok⟩:=zN hnew; have hnew:=hnew.symm; have hset:=Hw hset; subst hset; subst hput; intro w m a K QC hr hc hK _; have h:=hr x (by simp [ho,Op.operands]); have hy:=hr y (by simp [ho,Op.operands]); rw [hx] at h; simp only [cu] at h; obtain ⟨xs,hrow,hrep,hm⟩:=hc.each _ (List.mem_of_getElem? hi); have hyl:=hy.cells hok; rw [hnew] at hyl; have hl:=hyl.length_eq; have hl2:=hrep.length_eq; have hn:=hrow.1; rcases hrow.2 with ⟨_,rfl⟩ | ⟨g,cap,cur,fz,rfl,hg,hfz,hnc,hcm,hcs,htake⟩
 · omega
 have hle:n * sz≤cap * sz:=Nat.mul_le_mul_right _ hnc; have hst:=uW P g off e fz (a.eval y).cells.toList 0 cur w hg (by simp at hl ⊢; omega) (fun j hj=>by rcases hfz with h | h <;> omega) (hyl.oneCell hone); obtain ⟨_,hsz⟩:=zB ht w; have hsize:(a.eval y).cells.size=k:=by rw [←Array.length_toList,hl,hk]
 generalize hL:(a.eval y).cells.toList=L at *
 have hrun:(execOp a.eval o).run P w=.ok .skip (w.setRow g (cur.toList.take off ++ (L ++ cur.toList.drop (off + L.length))).toArray):=by
  simp only [execOp,ho,Instr.storeAt,h,Instr.sureAddr,storeVar,Sem.run_bind,Sem.run_pure,Result.andThen_ok,hsz,hsize,ne_eq,not_true_eq_false,if_false]; rw [show Go.Value.blk (.slice (some ⟨g,0,none⟩) n cap)=g from rfl,hL,hst]; simp
 have hxs:xs.take off ++ (L ++ xs.drop (off + L.length))=(cur.toList.take off ++ (L ++ cur.toList.drop (off + L.length))).take (n * sz):=by
  have hcl:cur.toList.length=cap * sz:=by simpa using hcs
  rw [←htake]; exact YR _ _ _ _ (by omega) (by omega)
 have hl':aW w m (putCells cs off new) (xs.take off ++ (L ++ xs.drop (off + L.length))):=by
  unfold putCells; refine (hrep.take off).append (hyl.append ?_); rw [hl]; exact hrep.drop _
 have hother:∀ k,k≠g→(w.setRow g (cur.toList.take off ++ (L ++ cur.toList.drop (off + L.length))).toArray).heap[k]?=w.heap[k]?:=fun k hk=>setRow_other w g k _ hk; have hmg:∀ off,¬ m g off:=hm g rfl; have hle':Le w m (w.setRow g (cur.toList.take off ++ (L ++ cur.toList.drop (off + L.length))).toArray) m:=fun c off' hco=>⟨hco,World.cell?_of_block (w:=w) (hother c (fun e=>by subst e; exact hmg off' hco))⟩
 have hsz':(cur.toList.take off ++ (L ++ cur.toList.drop (off + L.length))).length=cur.size:=by
  simp only [List.length_append,List.length_take,List.length_drop,Array.length_toList]; omega
 obtain ⟨k1,k2⟩:=Conc.write (b:=g) (r':=.buf (.slice (some ⟨g,0,none⟩) n cap) n sz e (putCells cs off new)) (w':=w.setRow g (cur.toList.take off ++ (L ++ cur.toList.drop (off + L.length))).toArray) hc hi rfl rfl hmg
  ⟨xs.take off ++ (L ++ xs.drop (off + L.length)),⟨by simp only [List.length_append,List.length_take,List.length_drop]; omega,.inr ⟨g,cap,_,fz,rfl,setRow_heap w g cur _ e _ hg,by
   rcases hfz with h | h
   · exact .inl h
   · right; rw [List.size_toArray,hsz']; exact h,hnc,hcm,by rw [List.size_toArray,hsz']; exact hcs,hxs.symm⟩⟩,aW.mono hle' _ _ hl',hm⟩ ⟨rfl,rfl,rfl⟩ (by simp [World.setRow]) hother
 unfold Oper.wp; rw [hrun]; exact hK .undef _ _ _ m hR trivial k1 k2
end
theorem M7 {w:World} {m:iY} {σ:List aQ} {i b:Nat} {cs cs':List PV} (hi:σ[i]?=some (.box b cs)) (hc:Conc w m σ) (h:∀ vs,aW w m cs vs→aW w m cs' vs):Conc w m (σ.set i (.box b cs'))∧Trans w m σ w m (σ.set i (.box b cs')):=by
 have hf:kr (σ.set i (.box b cs'))=kr σ:=by
  clear hc h
  induction σ generalizing i with
  | nil=>rfl
  | cons r σ ih=>
   cases i with
   | zero=>
    simp only [List.getElem?_cons_zero,Option.some.injEq] at hi; subst hi; simp [kr,aQ.fp]
   | succ i=>
    simp only [List.getElem?_cons_succ] at hi; have:=ih hi; simp only [kr,List.set_cons_succ,List.flatMap_cons] at this ⊢; rw [this]
 refine ⟨⟨fun r hr=>?_,by rw [hf]; exact hc.apart,hc.wf,hc.rH⟩,⟨rfl,rfl,rfl,Nat.le_refl _,Le.refl _ _,fun _ _ _=>⟨rfl,fun _ h=>h⟩,fun x hx=>.inl (by rw [←hf]; exact hx),fun _=>Nat.le_refl _⟩⟩; rcases List.mem_or_eq_of_mem_set hr with h' | h'
 · exact hc.each r h'
 ·
  subst h'; obtain ⟨vs,ty,h1,h2,h3⟩:=hc.each _ (List.mem_of_getElem? hi); exact ⟨vs,ty,h1,h vs h2,h3⟩
theorem aW.atV {w:World} {m:iY} {v:Value} {l:List (List PV)} (hv:cu w m (.list l) v):∀ (k:Nat) (cs:List PV) (vs:List Value),cs[k]?=some (.val v)→aW w m cs vs→aW w m (cs.set k (.list l)) vs
 | 0,[],_,h,_=>by simp at h
 | k + 1,[],_,h,_=>by simp at h
 | 0,c :: cs,vs,h,hr=>by
  simp only [List.getElem?_cons_zero,Option.some.injEq] at h; subst h; simp only [aW] at hr; obtain ⟨u,vs',rfl,h1,h2⟩:=hr; simp only [cu] at h1; subst h1; exact aW.cons hv h2
 | k + 1,c :: cs,vs,h,hr=>by
  simp only [aW] at hr; obtain ⟨u,vs',rfl,h1,h2⟩:=hr; exact aW.cons h1 (aW.atV hv k cs vs' (by simpa using h) h2)
theorem AW.acg {P:Program} {k:Nat} {c:Code} {env:Env} {σ:List aQ} {ds:List Deferred} {Q:Post} {v:Value} {n sz e b q:Nat} {cs cells:List PV} (i j:Nat) (l:List (List PV)) (hi:σ[i]?=some (aQ.buf v n sz e cs)) (hj:(σ.set i (.row v n sz e))[j]?=some (.box b cells)) (hq:cells[q]?=some (.val v))
  (hl:l.flatten=cs) (hsz:∀ x∈l,x.length=sz) (hn:l.length=n) (h:AW P k c env ((σ.set i (.row v n sz e)).set j (.box b (cells.set q (.list l)))) ds Q):AW P k c env σ ds Q:=by
 intro w m a QC hs ha; obtain ⟨m',h1,h2,h3⟩:=hs.gX.freeze hi hl hsz hn; obtain ⟨k1,k2⟩:=M7 hj h2 fun vs hvs=>aW.atV h1.weak q cells vs hq hvs; exact h w m' a QC ⟨hs.size,hs.ds,fun u=>cu.mono h3.le _ _ (hs.env u),k1⟩ (ha.step (h3.trans k2))
end Go.Abs
namespace Go.Abs
theorem IJ {α:Type} {f:α→List PV} {k:Nat} (hf:∀ x,(f x).length=k):∀ l:List α,(l.flatMap f).length=l.length * k
 | []=>by simp
 | x :: r=>by rw [List.flatMap_cons,List.length_append,hf,IJ hf r,List.length_cons,Nat.add_mul]; omega
end Go.Abs
namespace Go.Abs
variable [fJ]
theorem AR.V5 {P:Program} {n:Nat} {all:Array Oper} {lo:List Oper} {env:Env} {σ:List aQ} {ds:List Deferred} {Q:Post} {v:Value} {k sz e:Nat} {cs:List PV} (i:Nat) (hi:σ[i]?=some (aQ.buf v k sz e cs)) (h:PV.uE (.val v)=some [.val v]→[PV.val v].all PV.one=true→AR P n all lo env σ ds Q):AR P n all lo env σ ds Q:=by
 intro w m a QC hs ha; obtain ⟨xs,hrow,_,_⟩:=hs.gX.each _ (List.mem_of_getElem? hi)
 have hv:v.oneCell'=true:=by
  rcases hrow.2 with ⟨rfl,_⟩ | ⟨g,cap,cur,fz,rfl,_⟩ <;> rfl
 exact h (by simp [PV.uE,hv]) (by simp [PV.one,hv]) w m a QC hs ha
end Go.Abs
namespace Go.Abs
variable [fJ]
open Go
theorem Less.nil {e:Env}:Less [] e:=fun _=>.inl rfl
theorem Less.add {e e':Env} {t:Nat} {p:PV} (h:e.get t=p) (k:Less e' e):Less ((t,p) :: e') e:=by
 intro u; simp only [Env.get]; cases hb:Nat.beq t u with
 | false=>exact k u
 | true=>
  have:=Nat.eq_of_beq_eq_true hb; subst this; exact .inr h.symm
section
variable {P : Program} {n : Nat} {ds : List Deferred} {L : List Oper}
def AD (P:Program) (n:Nat) (L:List Oper) (env:Env) (σ:List aQ) (ds:List Deferred) (Q:Post):Prop:=
 ∀ w m a QC,oz w m n env σ ds a→Acc n Q w m σ QC→wpAny P .any L.toArray QC L.toArray.size (Array.replicate L.toArray.size false) a {w with drawn:=w.drawn + 1}
theorem AD.VQ {env:Env} {σ:List aQ} {Q:Post} (k k2:Nat) (σ1 σ2:List aQ) (J:(Nat→Bool)→Env→List aQ→Prop) (ho:EC L k k2=true) (hk:Nat.ble k k2=true) (hk2:Nat.ble k2 L.length=true)
  (hperm:σ.Perm (σ1 ++ σ2))
  (h:Ev P n L.toArray σ1 env (L.take k) fun env'=>J (fun i=>Nat.blt i k) env' σ2)
  (hI:∀ S S' e s,(∀ i,k≤i→i < k2→S i=S' i)→J S e s→J S' e s)
  (hT:∀ S e σ2 i o,J S e σ2→k≤i→i < k2→S i=false→(∀ j∈fu o,k≤j→S j=true)→L[i]?=some o→o.guard=none∧(∀ t,o.dst=some t→t < n)∧
   AO P o e.ev σ2 (fun p uh=>J (fun j=>if i=j then true else S j) (BM o.dst p e) uh) (fun p uh=>Q (.panic p) [] (σ1 ++ uh) ds))
  (hend:∀ S e σ2,(∀ i,k≤i→i < k2→S i=true)→J S e σ2→AR P n L.toArray (L.drop k2) e (σ1 ++ σ2) ds Q):
  AD P n L env σ ds Q:=by
 intro w m a QC hs ha; have hk:k≤k2:=Nat.le_of_ble_eq_true hk; have hk2:k2≤L.length:=Nat.le_of_ble_eq_true hk2; have ho:=Jm hk ho; obtain ⟨d,p,h1,h2⟩:=Ev.facts h; rw [List.length_take,Nat.min_eq_left (by omega)] at h2; have vS:Trans w m σ {w with drawn:=w.drawn + 1} m σ:=⟨rfl,rfl,rfl,Nat.le_refl _,fun _ _ h=>⟨h,rfl⟩,fun _ _ _=>⟨rfl,fun _ h=>h⟩,fun _ h=>.inl h,fun _=>Nat.le_succ _⟩; have hc':Conc {w with drawn:=w.drawn + 1} m σ:=⟨fun r hr=>aQ.rG (hs.gX.each r hr) vS.le fun _ _=>⟨rfl,fun _ h=>h⟩,hs.gX.apart,hs.gX.wf,fJ.mono vS.le hs.gX.rH⟩; have MN:Trans w m σ {w with drawn:=w.drawn + 1} m (σ1 ++ σ2):=vS.perm (.refl _) hperm; have h1':∀ i o,i < k→L[i]?=some o→o.dst=some (d i)∧d i < n∧sW P L.toArray (ng (fun _=>true) d p env i) σ1 o (p i):=fun i o hi hoi=>h1 i o (by rw [List.getElem?_take_of_lt hi]; exact hoi); have hd:∀ i o,i < k→L[i]?=some o→o.dst=some (d i)∧d i < n:=fun i o hi hoi=>⟨(h1' i o hi hoi).1,(h1' i o hi hoi).2.1⟩; refine PU 0 (fun _ _ _ _ h=>by omega) (ds:=ds) (d:=d) (σ1:=σ1) (Q:=Q) hk hk2 ho hd J hI hT hend _ _ a _ m (ng (fun _=>true) d p env k) σ2 (by simp) ?_ ?_ ?_ ?_ ?_ ?_ (ha.step MN)
 · simp
 ·
  intro j _ hj; simp [Array.getD,hj]
 ·
  intro i o hoi hl
  have Iy:i < L.length:=by
   rcases Nat.lt_or_ge i L.length with h | h
   · exact h
   · simp [List.getElem?_eq_none h] at hoi
  simp [Array.getD,Iy] at hl
 ·
  intro i o hi hoi _; obtain ⟨f1,f2,f3⟩:=h1' i o hi hoi
  have hother:∀ t,(o.dst=some t∨t∈readsOf L o)→∀ j,(i≤j∧t∈readsOf L o∨i + 1≤j)→j < k→d j≠t:=by
   intro t ht j hj hjk hdj; have hoj:L[j]?=some L[j]:=List.getElem?_eq_getElem (by omega); have e1:=(hd j _ hjk hoj).1; rw [hdj] at e1; by_cases e:i=j
   ·
    subst e; have e9:=Option.some.inj (hoi.symm.trans hoj); rw [←e9] at e1; rcases hj with ⟨_,hj⟩ | hj
    · exact ho.self i o t hi hoi e1 hj
    · omega
   ·
    obtain ⟨e2,e3⟩:=ho.apart i o j _ t hi hoi (by omega) hoj e e1; rcases ht with ht | ht
    · exact e2 ht
    ·
     have:=ho.before i o hoi j (e3 ht).2; omega
  have ZX:(ng (fun _=>true) d p env k).get (d i)=p i:=by
   rw [fM (i:=i + 1) (by omega) fun j h4 h5 _=>hother (d i) (.inl f1) j (.inr h4) h5]; simp [ng,Env.get]
  rw [ZX,if_neg (by omega)]; refine sW.M5 rfl f3 fun t ht=>?_; exact fM (by omega) fun j h4 h5 _=>hother t (.inr ht) j (.inl ⟨h4,ht⟩) h5
 ·
  refine hI _ _ _ _ (fun i hi hi2=>?_) h2; have Iy:i < L.length:=by omega
  have hb:Nat.blt i k=false:=by
   cases e:Nat.blt i k with
   | false=>rfl
   | true=>have:=mX.1 e; omega
  rw [hb]; simp [Array.getD,Iy]
 ·
  refine ⟨hs.size,hs.ds,fun t=>?_,hc'.perm hperm⟩; rw [qj]; split
  · simp [cu]
  ·
   rename_i hh; rw [fM (i:=0) (Nat.zero_le _)]
   · exact hs.env.mono vS.le t
   ·
    intro j _ hj _ hdj; apply hh; rw [List.any_eq_true]; have hjL:j < L.length:=by omega
    exact ⟨j,by simpa using hj,by simp [Array.getD,hjL,hdj]⟩
theorem AW.VQ {env:Env} {σ:List aQ} {Q:Post} {id:Nat} (k k2:Nat) (σ1 σ2:List aQ) (J:(Nat→Bool)→Env→List aQ→Prop) (hm:P.follows .mixedOrders=true) (ho:EC L k k2=true) (hk:Nat.ble k k2=true) (hk2:Nat.ble k2 L.length=true)
  (hperm:σ.Perm (σ1 ++ σ2))
  (h:Ev P n L.toArray σ1 env (L.take k) fun env'=>J (fun i=>Nat.blt i k) env' σ2)
  (hI:∀ S S' e s,(∀ i,k≤i→i < k2→S i=S' i)→J S e s→J S' e s)
  (hT:∀ S e σ2 i o,J S e σ2→k≤i→i < k2→S i=false→(∀ j∈fu o,k≤j→S j=true)→L[i]?=some o→o.guard=none∧(∀ t,o.dst=some t→t < n)∧
   AO P o e.ev σ2 (fun p uh=>J (fun j=>if i=j then true else S j) (BM o.dst p e) uh) (fun p uh=>Q (.panic p) [] (σ1 ++ uh) ds))
  (hend:∀ S e σ2,(∀ i,k≤i→i < k2→S i=true)→J S e σ2→AR P n L.toArray (L.drop k2) e (σ1 ++ σ2) ds Q):
  AW P n (.region id L.toArray true) env σ ds Q:=
 fun w m a QC hs ha=>wp_region_any hm (AD.VQ k k2 σ1 σ2 J ho hk hk2 hperm h hI hT hend w m a QC hs ha)
end
end Go.Abs
namespace Go.Abs
variable [fJ]
open Go Go.Ft
theorem WX {α:Type} (a b c d:α):[a,b,c,d].Perm ([b,c,d] ++ [a]):=by
 show (a :: [b,c,d]).Perm ([b,c,d] ++ [a]); exact (List.perm_append_singleton a [b,c,d]).symm
section
variable {P : Program} {o : Oper} {ρ : Operand → PV} {σ : List aQ} {R S : PV → List aQ → Prop}
theorem AO.TQ {src dst t e:TypeId} {x:Operand} {b i n k:Nat} {cs:List PV} {j:TypeInfo} (ho:o.op=.convert src dst x) (hs:P.underlying src=some (.pointer t)) (hd:P.underlying dst=some .unsafePointer) (ht:P.info? t=some j) (hj:(j.size != 0)=true)
  (hx:ρ x=.val (.pointer (some ⟨b,k,none⟩))) (hi:σ[i]?=some (aQ.ku b e cs)) (hn:cs.length=k + n + 1) (hR:R (.val (.pointer (some ⟨b,k,none⟩))) σ):AO P o ρ σ R S:=by
 refine AO.of_same hR fun w m ev hr hc=>?_; have h1:=hr x (by simp [ho,Op.operands]); rw [hx] at h1; simp only [cu] at h1; obtain ⟨vs,g1,g2,_⟩:=hc.ku hi; have hsh:w.shape? b=some (e,vs.length):=by simp [World.shape?,g1]
 have hl:=g2.length_eq; refine ⟨.pointer (some ⟨b,k,none⟩),?_,by simp only [cu]⟩; have:=Lib.run_to_unsafe w ⟨b,k,none⟩ hs hd ht (by simpa using hj) hsh (by show k < vs.length; omega); simp [execOp,ho,h1,this]
theorem AO.Qy {src dst u e:TypeId} {x:Operand} {b i n k:Nat} {cs:List PV} {j:TypeInfo} (ho:o.op=.convert src dst x) (hs:P.underlying src=some .unsafePointer) (hd:P.underlying dst=some (.pointer u)) (hu:P.info? u=some j)
  (hx:ρ x=.val (.pointer (some ⟨b,k,none⟩))) (hi:σ[i]?=some (aQ.ku b e cs)) (hn:cs.length=n) (hlies:liesAt P P.depth e (n / P.cellsOf e) k u 1=true) (hR:R (.val (.pointer (some ⟨b,k,none⟩))) σ):AO P o ρ σ R S:=by
 refine AO.of_same hR fun w m ev hr hc=>?_; have h1:=hr x (by simp [ho,Op.operands]); rw [hx] at h1; simp only [cu] at h1; obtain ⟨vs,g1,g2,_⟩:=hc.ku hi; have hsh:w.shape? b=some (e,n):=by simp [World.shape?,g1,←hn,g2.length_eq]
 refine ⟨.pointer (some ⟨b,k,none⟩),?_,by simp only [cu]⟩; have:=Lib.run_from_unsafe w ⟨b,k,none⟩ hs hd hu hsh hlies; simp [execOp,ho,h1,this]
theorem AO.NR {c:Call} {x y:Operand} {pt it e eu:TypeId} {b:Nat} {v p:Value} {q:PV} {bs:List UInt8} (ho:o.op=.call c) (gu:c.callee=.builtin .unsafeString) (hargs:c.args=#[x,y]) (hty:c.argTypes=#[pt,it])
  (hp:P.underlying pt=some (.pointer eu)) (hce:P.cellsOf eu=1) (hσ:σ=[.row v bs.length 1 eu,.ku b e [q,.val p,.own v (bs.map fG)]]) (hx:ρ x=.val (.pointer (Ki v))) (hy:ρ y=.int .i64 bs.length)
  (hR:R (.str bs) [.ku b e [q,.val p,.own v (bs.map fG)]]):AO P o ρ σ R S:=by
 subst hσ; refine AO.of_run' fun w m ev hr hc=>?_; have h1:=hr x (by simp [ho,Op.operands,Call.operands,gu,hargs]); have h2:=hr y (by simp [ho,Op.operands,Call.operands,gu,hargs]); rw [hx] at h1; rw [hy] at h2; simp only [cu] at h1 h2; have htb:=hc.each (.ku b e [q,.val p,.own v (bs.map fG)]) (by simp); obtain ⟨vs,g1,g2,g2m⟩:=hc.each (.ku b e [q,.val p,.own v (bs.map fG)]) (by simp); obtain ⟨xs,hrow,N8⟩:=hc.each (.row v bs.length 1 eu) (by simp); have g2':=g2; simp only [aW] at g2; obtain ⟨v0,vs0,rfl,g0,v1,vs1,rfl,g3,v2,vs2,rfl,g4,rfl⟩:=g2; have hvv:v2=v:=by simp only [cu] at g4; exact g4.1
 rw [hvv] at g4; have hxs:=L_ hrow (by simp) (zO bs) g4; rw [AJ] at hxs; have hxs:=(wI bs xs).1 hxs; subst hxs; have hap:=hc.apart; simp only [kr,aQ.fp,List.flatMap_cons,List.flatMap_nil,List.append_nil] at hap; have hbn:v.ownBlock≠some b:=fun h=>(List.nodup_append.1 hap).2.2 b (by simp [h]) b (by simp) rfl
 have ex:∀ r,(Builtin.unsafeString_ #[pt,it] o.type #[.pointer (Ki v),.int .i64 bs.length]).run P w=r→(execOp ev o).run P w=r.andThen fun v w'=>.ok (.value v) w':=by
  intro r hr'; simp [execOp,ho,resolve,gu,hargs,hty,invoke,builtin,h1,h2]; rw [←hr']
 have fin:∀ w',w'.os=w.os→w'.tape=w.tape→w'.output=w.output→w'.heap.size=w.heap.size→w'.drawn=w.drawn→(∀ k a,(w'.cell? ⟨k,a,none⟩)=w.cell? ⟨k,a,none⟩)→(∀ k,v.ownBlock≠some k→w'.heap[k]?=w.heap[k]?)→
   Conc w' m [.ku b e [q,.val p,.own v (bs.map fG)]]∧Trans w m [.row v bs.length 1 eu,.ku b e [q,.val p,.own v (bs.map fG)]] w' m [.ku b e [q,.val p,.own v (bs.map fG)]]:=by
  intro w' e1 e2 e3 e4 ed e5 e6; have hle:Le w m w' m:=fun c off h=>⟨h,e5 c off⟩; refine ⟨⟨fun r hr=>?_,by simp [kr,aQ.fp],fun c off h=>by rw [e4]; exact hc.wf c off h,fJ.mono hle hc.rH⟩,⟨e1,e2,e3,by omega,hle,fun c hcl hn=>⟨e6 c fun h=>hn ?_,fun _ h=>h⟩,fun c hcf=>.inl ?_,fun _=>Nat.le_of_eq ed.symm⟩⟩
  ·
   obtain rfl:=List.mem_singleton.1 hr; exact ⟨_,by rw [e6 b hbn]; exact g1,aW.mono hle _ _ g2',g2m⟩
  · simp [kr,aQ.fp,h]
  ·
   simp only [kr,aQ.fp,List.flatMap_cons,List.flatMap_nil,List.append_nil,List.mem_singleton] at hcf; simp [kr,aQ.fp,hcf]
 by_cases h0:bs=[]
 ·
  subst h0; have hrun:=Lib.run_unsafeString_none (P:=P) w pt it o.type (Ki v); obtain ⟨k1,k2⟩:=fin w rfl rfl rfl rfl rfl (fun _ _=>rfl) (fun _ _=>rfl); exact ⟨.str [],_,.string .empty,w,m,hR,by rw [ex _ (by simpa using hrun)]; rfl,by simp only [cu]; rfl,k1,k2⟩
 ·
  rcases hrow.2 with ⟨_,hn⟩ | ⟨g,cap,cur,fz,rfl,hg,hfz,hnc,hcm,hcs,htake⟩
  · exact absurd (List.eq_nil_of_length_eq_zero hn) h0
  ·
   have hsh:w.shape? g=some (eu,cur.size):=by simp [World.shape?,hg]
   have hrun:=Lib.run_unsafeString_row (P:=P) w pt it o.type eu hp hce g cur.size hsh bs h0 (by omega) (by unfold maxLen at hcm; omega) (fun j x hj=>by
    rw [Addr.add_lit,Nat.zero_add,hrow.cell (b:=g) rfl (by have:=(List.getElem?_eq_some_iff.1 hj).1; omega)]
    simp [hj])
   have hz:bs.length≠0:=by simpa using h0
   have hsame:∀ k,k≠g→(w.freeze ⟨g,0,none⟩ bs.length).heap[k]?=w.heap[k]?:=by
    intro k hk; simp [World.freeze,hz,Array.getElem?_modify,Ne.symm hk]
   have hcell:∀ k a,(w.freeze ⟨g,0,none⟩ bs.length).cell? ⟨k,a,none⟩=w.cell? ⟨k,a,none⟩:=by
    intro k a; by_cases hk:k=g
    ·
     subst hk; simp [World.cell?,World.freeze,hz,Array.getElem?_modify,hg]
    · simp only [World.cell?,hsame k hk]
   obtain ⟨k1,k2⟩:=fin (w.freeze ⟨g,0,none⟩ bs.length) (by simp [World.freeze,hz]) (by simp [World.freeze,hz]) (by simp [World.freeze,hz]) (by simp [World.freeze,hz]) (by simp [World.freeze,hz]) hcell (fun k hk=>hsame k fun e=>hk (by subst e; rfl)); refine ⟨.str bs,_,.string ⟨bs.toArray⟩,_,m,hR,?_,by simp only [cu],k1,k2⟩; rw [ex _ hrun]; rfl
theorem AO.UY {e:TypeId} {cs:List PV} (ho:o.op=.alloc e) (hz:kL P e=some cs) (hR:∀ b,R (.val (.pointer (some ⟨b,0,none⟩))) (.ku b e cs :: σ)):AO P o ρ σ R S:=by
 refine AO.of_run' fun w m ev hr hc=>?_; obtain ⟨z,h1,h2⟩:=Cb hz w; have hc':=pX hc (.cells z.cells e) (fun _=>False); have hle:Le w m (w.alloc (.cells z.cells e)) (fun b off=>m b off∨(b=w.heap.size∧False)):=(iy (σ':=σ) hc (.cells z.cells e) (fun _=>False) fun b hb=>.inl hb).le
 have hnew:Conc (w.alloc (.cells z.cells e)) (fun b off=>m b off∨(b=w.heap.size∧False)) (.ku w.heap.size e cs :: σ):=by
  refine FI ⟨z.cells.toList,?_,aW.mono hle _ _ (h2 m),fun off ho=>?_⟩ (by simp [aQ.fp]) (fun b hb hm=>?_) hc'
  · rw [heap_alloc_new w _,Array.toArray_toList]
  ·
   rcases ho with ho | ⟨_,ho⟩
   · have:=hc.wf _ off ho; omega
   · exact ho
  ·
   simp [aQ.fp] at hb; subst hb; have:=hc.Jz _ hm; omega
 refine ⟨_,_,.pointer (some ⟨w.heap.size,0,none⟩),_,_,hR w.heap.size,?_,by simp [cu],hnew,iy hc _ _ fun b hb=>?_⟩
 · simp [execOp,ho,Instr.alloc,newVar,newRow,h1,go_sem]
 ·
  simp [kr,aQ.fp] at hb ⊢; rcases hb with hb | hb
  · exact .inr hb
  · exact .inl hb
end
end Go.Abs
namespace Go.Abs
variable [fJ]
open Go
section
variable {P : Program} {o : Oper} {ρ : Operand → PV} {σ : List aQ} {R S : PV → List aQ → Prop}
theorem AO.Ns {c:Call} {s x:Operand} {t tx e sz bytes:Nat} {v:Value} {l2:List (List PV)} {i n:Nat} {cs:List PV} (ho:o.op=.call c) (gu:c.callee=.builtin .append) (hargs:c.args=#[s,x]) (hty:c.argTypes=#[t,tx])
  (hs:ρ s=.val v) (hx:(ρ x).els=some l2) (hi:σ[i]?=some (aQ.buf v n sz e cs)) (hf:iq P t e sz bytes) (htx:elemSize P tx=some sz)
  (h2:∀ y∈l2,y.length=sz) (h3:∀ y∈l2,y.all PV.one=true) (hb1:n + l2.length≤maxLen) (hb2:(n + l2.length) * bytes≤140737488355328)
  (hR:∀ v' σ',yC σ i (.buf v' (n + l2.length) sz e (cs ++ l2.flatten))=some σ'→R (.val v') σ'):AO P o ρ σ R S:=by
 refine AO.of_run' fun w m ev hr hc=>?_; have hsv:=hr s (by simp [ho,Op.operands,Call.operands,gu,hargs]); have hxv:=hr x (by simp [ho,Op.operands,Call.operands,gu,hargs]); rw [hs] at hsv; simp only [cu] at hsv; have hev:ev s=v:=hsv; obtain ⟨xs,hrow,hrep,hm0⟩:=hc.each _ (List.mem_of_getElem? hi); obtain ⟨inf,z,g1,g2,g3,g4,g5⟩:=hf.info; obtain ⟨ex,ix,q1,q2,q3⟩:=lK htx
 obtain ⟨news,hsrc,hnews⟩:∃ news,Src P sz tx (ev x) l2.length news w∧aW w m l2.flatten news:=by
  obtain ⟨a,cap,e1,e2,e3⟩:=hxv.els hx; by_cases hnil:l2=[]
  ·
   subst hnil; refine ⟨[],?_,by simpa using aW.nil⟩; rw [e1]; cases a with
   | none=>exact Src.ofNil w q1 _
   | some a=>exact Src.ofSlice w q1 a 0 cap [] (by simp) (by simp) (by simp)
  ·
   rcases e3 with e3 | ⟨b,off,sz',rfl,e4⟩
   · exact absurd e3 hnil
   ·
    have hsz':sz'=sz:=by
     cases l2 with
     | nil=>exact absurd rfl hnil
     | cons y ys=>
      simp only [iB] at e4; rw [←e4.1.1]; exact h2 y (by simp)
    subst hsz'; obtain ⟨vs,k1,k2,k3⟩:=BH e4; refine ⟨vs,?_,k1⟩; rw [e1]; refine Src.ofSlice w q1 ⟨b,off,none⟩ _ cap vs k2 (fun j u hj=>by rw [Addr.add_lit]; exact (k3 j u hj).2) (k1.oneCell ?_); rw [List.all_eq_true]; intro p hp; rw [List.mem_flatten] at hp; obtain ⟨y,hy,hp⟩:=hp; exact List.all_eq_true.1 (h3 y hy) p hp
 subst g2 g3; obtain ⟨v',w',r1,r2,r3,_,r5⟩:=zZ (ty:=o.type) hf.und g1 g4 g5 hrow hsrc (by omega) (by simpa using hb2); obtain ⟨p1,p2⟩:=xO hi (.buf v' (n + l2.length) inf.size e (cs ++ l2.flatten)); have hc1:=hc.perm p1
 have hos:w'.os=w.os∧w'.tape=w.tape∧w'.output=w.output∧w.heap.size≤w'.heap.size:=by
  rcases r3 with ⟨_,hg⟩ | ⟨_,hg⟩ <;> exact ⟨hg.os,hg.tape,hg.output,hg.size⟩
 have hkeep:∀ b,b < w.heap.size→v.ownBlock≠some b→w'.heap[b]?=w.heap[b]?:=by
  intro b hb hne; rcases r3 with ⟨_,hg⟩ | ⟨_,hg⟩
  · exact hg.block b hb (fun h=>hne h.symm)
  · exact hg.block b hb (by simp)
 have hle:Le w m w' m:=fun b off hm=>⟨hm,World.cell?_of_block (w:=w) (hkeep b (hc.wf b off hm) (fun h=>hm0 b h off hm))⟩
 have hm':∀ b,v'.ownBlock=some b→∀ off,¬ m b off:=by
  intro b hb off hm; rcases r3 with ⟨h1,_⟩ | ⟨h1,_⟩
  · exact hm0 b (h1 ▸ hb) off hm
  ·
   rw [h1] at hb; cases hb; have:=hc.wf _ off hm; omega
 have hk:Conc w' m [.buf v' (n + l2.length) inf.size e (cs ++ l2.flatten)]:=
  ⟨fun r hr=>by rw [List.mem_singleton] at hr; subst hr; exact ⟨xs ++ news,r2,(aW.mono hle _ _ hrep).append (aW.mono hle _ _ hnews),hm'⟩,by cases h:v'.ownBlock <;> simp [kr,aQ.fp,h],fun b off hm=>by have:=hc.wf b off hm; omega,fJ.mono hle hc.rH⟩
 have ht:Trans w m [.buf v n inf.size e cs] w' m [.buf v' (n + l2.length) inf.size e (cs ++ l2.flatten)]:=by
  refine ⟨hos.1,hos.2.1,hos.2.2.1,hos.2.2.2,hle,fun b hb hn=>⟨hkeep b hb fun h=>hn (by simp [kr,aQ.fp,h]),fun _ h=>h⟩,fun b hb=>?_,fun _=>r5⟩; simp [kr,aQ.fp] at hb; rcases r3 with ⟨h1,_⟩ | ⟨h1,_⟩
  · left; simp [kr,aQ.fp,←h1,hb]
  · right; rw [h1] at hb; simp at hb; omega
 obtain ⟨f1,f2⟩:=Conc.frame hc1 hk ht
 have hilt:i < σ.length:=by
  rcases Nat.lt_or_ge i σ.length with h | h
  · exact h
  · simp [List.getElem?_eq_none h] at hi
 have hset:∀ (σ:List aQ) (i:Nat) (r:aQ),i < σ.length→yC σ i r=some (σ.set i r):=by
  intro σ
  induction σ with
  | nil=>intro i r h; simp at h
  | cons a σ ih=>
   intro i r h; cases i with
   | zero=>simp [yC]
   | succ i=>simp only [yC,ih i r (by simpa using h),List.set_cons_succ]
 refine ⟨.val v',_,v',w',m,hR v' _ (hset σ i _ hilt),?_,by simp only [cu],f1.perm p2.symm,f2.perm p1.symm p2.symm⟩; simp only [execOp,ho,resolve,gu,hargs,hty,invoke,builtin,Sem.run_bind,Sem.run_pure,Result.andThen_ok]; simp only [List.map_toArray,List.map_cons,List.map_nil,hev,r1,Result.andThen_ok]
theorem AO.V5 {v:Value} {k sz e:Nat} {cs:List PV} (i:Nat) (hi:σ[i]?=some (aQ.buf v k sz e cs)) (h:PV.uE (.val v)=some [.val v]→[PV.val v].all PV.one=true→AO P o ρ σ R S):AO P o ρ σ R S:=by
 intro w m a K QC hr hc hK hP; obtain ⟨xs,hrow,_,_⟩:=hc.each _ (List.mem_of_getElem? hi)
 have hv:v.oneCell'=true:=by
  rcases hrow.2 with ⟨rfl,_⟩ | ⟨g,cap,cur,fz,rfl,_⟩ <;> rfl
 exact h (by simp [PV.uE,hv]) (by simp [PV.one,hv]) w m a K QC hr hc hK hP
end
end Go.Abs
namespace Go.Abs
variable [fJ]
open Go
def WO {β:Type} (T:β→List aQ→Prop) (pend:β→Option AX) (b:Bool) (s':β):Post:=fun x _ σ d=>d=[]∧(∃ τ,τ.Sublist σ∧T s' τ)∧
 match x with
 | .normal=>b=true∧pend s'=none
 | .ret=>b=false∧pend s'=some .ret
 | .exit id=>b=false∧pend s'=some (.exit id)
 | .panic _=>False
section
variable {P : Program} {n : Nat} {r : Option Nat} {env : Env} {σ : List aQ} {ds : List Deferred} {Q : Post} {all : Array Oper} {rest : List Oper} {o : Oper}
theorem Db.aep {t l:Nat} {c:Call} {K0:List aQ→Prop} {p:PV} (hnd:vK o=true) (hg:o.guard=none) (hd:o.dst=some t) (ht:Nat.blt t n=true) (ho:o.op=.call c) (Gf:Operand) (gu:c.callee=.value Gf)
  (hf:env.ev Gf=.val (.func (.yield l) #[] #[])) (h:AY P l ((c.args.toList.map env.ev).map PV.weak) σ (fun out s=>out=.ret p∧K0 s))
  (hk:∀ s,K0 s→Db P r n all rest ((t,p) :: env) s ds Q):Db P r n all (o :: rest) env σ ds Q:=by
 intro w m a QC hs ha; have ht:t < n:=Nat.le_of_ble_eq_true ht; refine wpListIn_plain hg fun K hK=>⟨fun _ _=>trivial,?_⟩; rw [Oper.semAt_eq _ _ _ (Gy hnd)]; have hcv:=hs.env.ev Gf; rw [hf] at hcv; simp only [cu] at hcv; have hargs:aW w m (c.args.toList.map env.ev) (c.args.toList.map a.eval):=aW.map fun x _=>hs.env.ev x; obtain ⟨fn,tmps,assign,body,h1,h2⟩:=h w m _ hs.gX hargs.weak
 have hrun:(execOp a.eval o).run P w=.ok (.round l fn tmps assign body) w:=by
  unfold execOp; simp only [ho,resolve,gu,hcv,Deferred.ofValue,invoke,Sem.run_bind,Sem.run_pure,Result.andThen_ok]; rw [←h1]; congr 2; apply Array.ext'; simp
 rw [hrun]; simp only [Oper.uponIn]; refine ⟨fun hh=>by simp [TD,Fence.wide] at hh,?_⟩; refine RoundIn.mono (show RoundIn (TD r) (0 - 1) P l fn tmps assign body w _ from h2) ?_; rintro e w' ⟨out,s,m',⟨rfl,hK0⟩,⟨v,rfl,hv⟩,hc,htr⟩; exact hK _ _ (hk s hK0 w' m' _ QC (hs.put hd ht hv hc htr.le) (ha.step htr))
theorem Db.run {j u:Nat} {want:Bool} {oj:Oper} (hg:o.guard=some (j,want)) (hj:all[j]?=some oj) (hu:oj.dst=some u) (hb:env.get u=.bool want)
  (h:Db P r n all ({o with guard:=none} :: rest) env σ ds Q):Db P r n all (o :: rest) env σ ds Q:=by
 intro w m a QC hs ha; have h':=h w m a QC hs ha; unfold wpListIn at h' ⊢; rw [if_pos (by simp [Region.wanted])] at h'; rw [if_pos (by simp [Region.wanted,hg,yO hs hj hu hb])]; exact h'
theorem Db.drop1 {l:List Oper} {x:aQ} (h:Db P r n all l env σ ds Q):Db P r n all l env (x :: σ) ds Q:=
 fun w m a QC qg ha=>h w m a QC ⟨qg.size,qg.ds,qg.env,qg.gX.sub (List.sublist_cons_self x σ)⟩ (ha.step (Trans.sub (Trans.refl w m (x :: σ)) (List.sublist_cons_self x σ)))
theorem Db.is {l:List Oper} {b want:Bool} (u:Nat) (h:b=want) (hu:env.get u=.bool b) (hr:Db P r n all l ((u,.bool want) :: env) σ ds Q):Db P r n all l env σ ds Q:=by
 subst h; intro w m a QC hs ha; refine hr w m a QC ⟨hs.size,hs.ds,fun t=>?_,hs.gX⟩ ha; simp only [Env.get]; cases e:Nat.beq u t with
 | false=>exact hs.env t
 | true=>have:=hs.env u; rw [hu,Nat.eq_of_beq_eq_true e] at this; exact this
theorem QU {md:Region.Mode} {ops:Array Oper} {Q:Exit→Act→World→Prop} (hno:¬ LetsOut Q) (hd:∀ o∈ops.toList,vK o=true):∀ (fuel:Nat) (listed:Array Bool) (a:Act) (w:World),wpAny P md ops Q fuel listed a w→wpAnyIn (TD r) 0 P md ops Q fuel listed a w
 | 0,_,_,_,h=>h
 | fuel + 1,listed,a,w,h=>by
  refine ⟨h.1,fun i hi=>?_⟩; have h2:=h.2 i hi; unfold wpOp at h2; unfold wpOpIn; cases ho:ops[i]? with
  | none=>rw [ho] at h2; exact QU hno hd fuel _ a w h2
  | some o=>
   rw [ho] at h2; have hdo:=hd o (by have:=Array.mem_of_getElem? ho; simpa using this); simp only at h2 ⊢; split
   ·
    rename_i hw; rw [if_pos hw] at h2; rcases h2 with h2 | ⟨_,h2⟩
    · exact Oper.wpIn_mono (fun a w h=>QU hno hd fuel _ a w h) (Qn hdo h2)
    · exact (hno h2).elim
   ·
    rename_i hw; rw [if_neg hw] at h2; exact ⟨fun _ _=>trivial,QU hno hd fuel _ _ w h2⟩
theorem qK.drawn {id:Nat} {L:List Oper} (hm:P.follows .mixedOrders=true) (hd:(L.all vK)=true) (h:AD P n L env σ ds Q):qK P r n (.region id L.toArray true) env σ ds Q:=by
 intro w m a QC hs ha; rw [List.all_eq_true] at hd; refine wpIn_mono (wpIn_region_any hm (QU (Cw QC) (by simpa using hd) _ _ _ _ (h w m a _ hs ha.Me))) fun e a w h=>h.2
end
section
variable {P : Program} {n : Nat} {env : Env} {σ : List aQ} {ds : List Deferred} {Q : Post}
theorem AW.LX {β X:Type} {g:Operand} {ps:Array Tmp} {assign body:Code} {gf:Nat} {caps:List PV} (hg:env.ev g=.fn gf caps) (hp:cZ P gf=true)
  (enc:X→List PV) (henc:∀ x,(enc x).length=ps.toList.length) (hps:∀ t∈ps.toList,t < n) (y:β→X→Option (Bool × β)) (T:β→List aQ→Prop) (pend:β→Option AX) {s0 s1:β} (hσ:T s0 σ) (hs0:pend s0=none)
  (hit:∀ (l:Nat) (T':β→List aQ→Prop),(∀ s x b s' τ,y s x=some (b,s')→T' s τ→AY P l (enc x) τ (fun out σ'=>out=.ret (.bool b)∧T' s' σ'))→
   ∀ τ,T' s0 τ→AC P gf (.val (.func (.yield l) #[] #[]) :: caps) τ (fun out σ'=>(∃ p,out=.ret p)∧T' s1 σ'))
  (round:∀ l s x b s' τ,y s x=some (b,s')→T s τ→pend s=none∧
   qK P (some l) n assign (Nq ps.toList (enc x) env) τ [] (fun ax e σ' d=>ax=.normal∧qK P (some l) n body e σ' d (WO T pend b s')))
  (hq:∀ D τ,T s1 τ→(match pend s1 with | none=>Q .normal env | some .ret=>Q .ret env | some (.exit id)=>Q (.exit id) env | some _=>fun _ _=>False) (τ ++ [aQ.obj D (.deferred (some []))]) (sK D :: ds)):
  AW P n (.rangeFunc g ps assign body) env σ ds Q:=by
 intro w m a QC hs ha; refine (wpIn_wide (n:=0)).1 (wpIn_rangeFunc fun fn _=>?_); have hge:=hs.env.ev g; rw [hg] at hge; simp only [cu] at hge; obtain ⟨cs,hcv,hcs⟩:=hge; have c1:=zQ hs.gX (.deferred (some []))
 have t1:=iy (σ':=aQ.obj w.heap.size (.deferred (some [])) :: σ) hs.gX (.deferred (some [])) (fun _=>False) (fun b hb=>by
  simp [kr,aQ.fp] at hb ⊢; rcases hb with hb | hb
  · exact .inr hb
  · exact .inl hb)
 have c2:=zQ c1 (.loop (sG fn a.tmps ps assign body w.heap.size none))
 have t2:=iy (σ':=.obj (w.alloc (.deferred (some []))).heap.size (.loop (sG fn a.tmps ps assign body w.heap.size none)) :: aQ.obj w.heap.size (.deferred (some [])) :: σ) c1 (.loop (sG fn a.tmps ps assign body w.heap.size none)) (fun _=>False) (fun b hb=>by
  simp [kr,aQ.fp] at hb ⊢; rcases hb with hb | hb | hb
  · exact .inr hb
  · exact .inl (.inl hb)
  · exact .inl (.inr hb))
 have hsz:(w.alloc (.deferred (some []))).heap.size=w.heap.size + 1:=by simp
 rw [hsz] at c2 t2; generalize hW:(w.alloc (.deferred (some []))).alloc (.loop (sG fn a.tmps ps assign body w.heap.size none))=W at c2 t2; generalize hM:(fun b off=>(m b off∨b=w.heap.size∧False)∨b=w.heap.size + 1∧False)=M at c2 t2; have tW:=t1.trans t2; let rec' (s:β):Loop:=sG fn a.tmps ps assign body w.heap.size (pend s); let R' (s:β):List aQ:=[aQ.obj (w.heap.size + 1) (.loop (rec' s)),aQ.obj w.heap.size (.deferred (some [])),aQ.since w m]; let T' (s:β) (τ:List aQ):Prop:=∃ τ0,T s τ0∧τ=τ0 ++ R' s
 have hT0:(σ ++ R' s0).Perm (.obj (w.heap.size + 1) (.loop (sG fn a.tmps ps assign body w.heap.size none)) :: aQ.obj w.heap.size (.deferred (some [])) :: σ ++ [aQ.since w m]):=by
  simp only [R',rec',hs0]; refine List.perm_append_comm.trans ?_; simp only [List.cons_append,List.nil_append]; refine List.Perm.cons _ (List.Perm.cons _ ?_); exact (List.perm_append_comm (l₁:=[aQ.since w m]) (l₂:=σ))
 have cT:Conc W M (σ ++ R' s0):=by
  refine Conc.perm hT0.symm ?_; refine ⟨fun r hr=>?_,?_,c2.wf,c2.rH⟩
  ·
   rcases List.mem_append.1 hr with h | h
   · exact c2.each r h
   ·
    rw [List.mem_singleton] at h; subst h; exact tW.le
  ·
   have:=c2.apart; simpa [kr,aQ.fp] using this
 have tT:Trans w m σ W M (σ ++ R' s0):=by
  refine Trans.perm (.refl _) hT0.symm ⟨tW.os,tW.tape,tW.output,tW.size,tW.le,tW.keep,fun b hb=>tW.fresh b ?_,tW.drawn⟩; simpa [kr,aQ.fp] using hb
 refine ⟨w.heap.size + 1,[sK w.heap.size],W,{target:=.fn (.func gf) cs.toArray,args:=#[.func (.yield (w.heap.size + 1)) #[] #[]]},W,gf,
  #[.func (.yield (w.heap.size + 1)) #[] #[]] ++ cs.toArray,W,?_,?_,fun _ _=>trivial,?_,fun hh=>by simp [Fence.wide] at hh,?_⟩
 · rw [←hW]; exact run_enterLoop_outer _ _ _ _ _
 ·
  simp only [resolve,hcv]; simp [go_sem]
 ·
  simp only [invoke]; rw [uY hp]
 ·
  refine callsIn_wide.2 ?_; have hac:=hit (w.heap.size + 1) T' ?_ _ ⟨σ,hσ,rfl⟩
  ·
   have hcs':aW W M (.val (.func (.yield (w.heap.size + 1)) #[] #[]) :: caps) (.func (.yield (w.heap.size + 1)) #[] #[] :: cs):=aW.cons (by simp [cu]) (aW.mono tW.le _ _ hcs); have:=hac W M _ cT hcs'; rw [show (Value.func (.yield (w.heap.size + 1)) #[] #[] :: cs).toArray=#[.func (.yield (w.heap.size + 1)) #[] #[]] ++ cs.toArray from by apply Array.ext'; simp] at this; refine this.mono ?_; rintro e w' ⟨out,σ',m',⟨⟨p,rfl⟩,τ1,aiK,rfl⟩,⟨v,rfl,hv⟩,hc',ht'⟩; have hi:(τ1 ++ R' s1)[τ1.length]?=some (.obj (w.heap.size + 1) (.loop (rec' s1))):=by simp [R']
   obtain ⟨hb,_⟩:=hc'.each _ (List.mem_of_getElem? hi); obtain ⟨k1,k2⟩:=uH (o':=.loop {rec' s1 with state:=.exhausted}) hc' hi
   have hsub:(τ1 ++ [aQ.obj w.heap.size (.deferred (some []))]).Sublist ((τ1 ++ R' s1).set τ1.length (.obj (w.heap.size + 1) (.loop {rec' s1 with state:=.exhausted}))):=by
    simp only [R']; rw [List.set_append_right _ _ (Nat.le_refl _),Nat.sub_self]; refine List.Sublist.append (List.Sublist.refl _) ?_; simp only [List.set_cons_zero]; exact .cons _ (.cons_cons _ (.cons _ .slnil))
   have k3:=k1.sub hsub; have k4:=(tT.trans (ht'.trans k2)).sub hsub
   have hse:∀ todo,oz (w'.putObj (w.heap.size + 1) (.loop {rec' s1 with state:=.exhausted})) m' n env (τ1 ++ [aQ.obj w.heap.size (.deferred (some []))]) (sK w.heap.size :: ds) {a with defers:=todo}∨todo≠[sK w.heap.size] ++ a.defers:=by
    intro todo; by_cases e:todo=[sK w.heap.size] ++ a.defers
    ·
     subst e; exact .inl ⟨hs.size,by simp [hs.ds],hs.env.mono k4.le,k3⟩
    · exact .inr e
   have hse:=(hse ([sK w.heap.size] ++ a.defers)).resolve_right (by simp); refine ⟨codeOf (pend s1),w'.putObj (w.heap.size + 1) (.loop {rec' s1 with state:=.exhausted}),?_,?_⟩
   ·
    have:=run_endLoop (P:=P) (w:=w') (l:=w.heap.size + 1) (r:=rec' s1) hb (by simp only [rec',sG]; split <;> simp); exact this
   ·
    have Uu:=hq w.heap.size τ1 aiK; cases hpe:pend s1 with
    | none=>
     rw [hpe] at Uu; exact ha .normal _ env _ _ _ _ m' Uu rfl hse k4
    | some x=>
     rw [hpe] at Uu; cases x with
     | ret=>exact wpIn_ret (ha .ret _ env _ _ _ _ m' Uu rfl hse k4)
     | exit id=>exact wpIn_exit (ha (.exit id) _ env _ _ _ _ m' Uu rfl hse k4)
     | normal=>exact Uu.elim
     | panic p=>exact Uu.elim
  ·
   
   rintro s x b s' _ hy ⟨τ,hτ,rfl⟩ w1 m1 vs hc1 hv1; obtain ⟨afg,Ut⟩:=round (w.heap.size + 1) s x b s' τ hy hτ; have hi:(τ ++ R' s)[τ.length]?=some (.obj (w.heap.size + 1) (.loop (rec' s))):=by simp [R']
   obtain ⟨hb1,_⟩:=hc1.each _ (List.mem_of_getElem? hi); have Us:Le w m w1 m1:=hc1.each (.since w m) (by simp [R']); have hvl:=hv1.length_eq
   have hsz':vs.toArray.size=(rec' s).params.size:=by
    simp only [rec',sG,List.size_toArray]; rw [hvl,henc x]; simp
   have hyr:=run_yield (P:=P) hb1 hsz'; refine ⟨_,_,_,_,hyr,?_⟩; refine roundIn_of_wpIn trivial ?_
   have ZA:((rec' s).params.zip vs.toArray).foldl (fun tmps (t,a)=>tmps.setIfInBounds t a) (rec' s).tmps=(ps.toList.zip vs).foldl (fun t (p,v)=>t.setIfInBounds p v) a.tmps:=by
    simp only [rec',sG]; rw [←Array.foldl_toList,Array.toList_zip]
   obtain ⟨hb2,hb3⟩:=Jf (n:=n) (ts:=ps.toList) hs.size (fun t ht=>hps t ht) hv1 (hs.env.mono Us); have hA:=qK.frame (τ:=[aQ.obj (w.heap.size + 1) (.loop (rec' s)),aQ.obj w.heap.size (.deferred (some [])),aQ.since w m]) Ut; refine hA w1 m1 _ _ ⟨?_,rfl,?_,hc1⟩ ?_
   · rw [ZA]; exact hb3
   · rw [ZA]; exact hb2
   ·
    rintro ax ex e2 σ2 d2 a2 w2 m2 ⟨K9,rfl,rfl,hbody⟩ hx hs2 ht2; cases hx; have hi2:(K9 ++ [aQ.obj (w.heap.size + 1) (.loop (rec' s)),aQ.obj w.heap.size (.deferred (some [])),aQ.since w m])[K9.length]?=some (.obj (w.heap.size + 1) (.loop (rec' s))):=by simp
    obtain ⟨hb4,_⟩:=hs2.gX.each _ (List.mem_of_getElem? hi2); have MO:(rec' s).state=.ready:=by simp [rec',sG,afg,codeOf]
    refine ⟨_,run_beginRound hb4 MO,?_⟩; obtain ⟨k1,k2⟩:=uH (o':=.loop {rec' s with state:=.busy}) hs2.gX hi2
    have hset:(K9 ++ [aQ.obj (w.heap.size + 1) (.loop (rec' s)),aQ.obj w.heap.size (.deferred (some [])),aQ.since w m]).set K9.length (.obj (w.heap.size + 1) (.loop {rec' s with state:=.busy}))=
      K9 ++ [aQ.obj (w.heap.size + 1) (.loop {rec' s with state:=.busy}),aQ.obj w.heap.size (.deferred (some [])),aQ.since w m]:=by
     rw [List.set_append_right _ _ (Nat.le_refl _),Nat.sub_self]; rfl
    rw [hset] at k1 k2; have hB:=qK.frame (τ:=[aQ.obj (w.heap.size + 1) (.loop {rec' s with state:=.busy}),aQ.obj w.heap.size (.deferred (some [])),aQ.since w m]) hbody; refine hB _ m2 a2 _ ⟨hs2.size,hs2.ds,hs2.env.mono k2.le,k1⟩ ?_; rintro ax3 ex3 e3 σ3 d3 a3 w3 m3 ⟨I7,rfl,hd3,⟨τ2,ZB,aiJ⟩,hend⟩ hx3 hs3 ht3; have hi3:(I7 ++ [aQ.obj (w.heap.size + 1) (.loop {rec' s with state:=.busy}),aQ.obj w.heap.size (.deferred (some [])),aQ.since w m])[I7.length]?=some (.obj (w.heap.size + 1) (.loop {rec' s with state:=.busy})):=by simp
    obtain ⟨hb5,_⟩:=hs3.gX.each _ (List.mem_of_getElem? hi3)
    have fin:∀ jump:Option Code,jump=codeOf (pend s')→b=jump.isNone→∃ v w',(Instr.endRound (w.heap.size + 1) jump).run P w3=.ok v w'∧∃ out σ' m',(out=dL.ret (.bool b)∧T' s' σ')∧BU w' m' out (.returned v)∧Conc w' m' σ'∧Trans w1 m1 (τ ++ R' s) w' m' σ':=by
     intro jump hj hbj; refine ⟨_,_,run_endRound jump hb5,.ret (.bool b),τ2 ++ R' s',m3,⟨rfl,τ2,aiJ,rfl⟩,⟨_,rfl,by simp [cu,hbj]⟩,?_⟩; obtain ⟨q1,q2⟩:=uH (o':=.loop {rec' s with state:=if jump.isNone then .ready else .done,pending:=jump}) hs3.gX hi3
     have hrec:({rec' s with state:=if jump.isNone then .ready else .done,pending:=jump}:Loop)=rec' s':=by
      simp only [rec',sG,hj]
     have ZE:(I7 ++ [aQ.obj (w.heap.size + 1) (.loop {rec' s with state:=.busy}),aQ.obj w.heap.size (.deferred (some [])),aQ.since w m]).set I7.length (.obj (w.heap.size + 1) (.loop {rec' s with state:=if jump.isNone then .ready else .done,pending:=jump}))=
       I7 ++ [aQ.obj (w.heap.size + 1) (.loop (rec' s')),aQ.obj w.heap.size (.deferred (some [])),aQ.since w m]:=by
      rw [List.set_append_right _ _ (Nat.le_refl _),Nat.sub_self,hrec]; rfl
     rw [ZE] at q1 q2; have hsub:(τ2 ++ R' s').Sublist (I7 ++ [aQ.obj (w.heap.size + 1) (.loop (rec' s')),aQ.obj w.heap.size (.deferred (some [])),aQ.since w m]):=List.Sublist.append ZB (List.Sublist.refl _); exact ⟨q1.sub hsub,(ht2.trans (k2.trans (ht3.trans q2))).sub hsub⟩
    cases ax3 with
    | normal=>
     cases hx3; obtain ⟨h5,h6⟩:=hend; exact fin none (by rw [h6]; rfl) (by rw [h5]; rfl)
    | ret=>
     cases hx3; obtain ⟨h5,h6⟩:=hend; exact fin (some .ret) (by rw [h6]; rfl) (by rw [h5]; rfl)
    | exit id=>
     cases hx3; obtain ⟨h5,h6⟩:=hend; exact fin (some (.exit id)) (by rw [h6]; rfl) (by rw [h5]; rfl)
    | panic p=>exact hend.elim
end
def afP (P:Program) (rs:List ResultVar) (R:dL→List aQ→Prop):Post
 | .normal,e,s,d | .ret,e,s,d=>(d=[]∧∃ ps,A8 P e s rs ps∧∃ s',s'.Sublist s∧R (.ret (jW (ps.map PV.weak))) s')∨∃ D s1,d=[sK D]∧s=s1 ++ [.obj D (.deferred (some []))]∧∃ ps,A8 P e s1 rs ps∧∃ s',s'.Sublist s1∧R (.ret (jW (ps.map PV.weak))) s'
 | _,_,_,_=>False
theorem AC.Mc {P:Program} {f:FuncId} {fn:Func} {c:Code} {args:List PV} {σ:List aQ} {R:dL→List aQ→Prop} (n:Nat) (rs:List ResultVar) (ts:List Nat) {env:Env}
  (hf:P.funcs[f]?=some fn) (hb:fn.body=some c) (hn:fn.ntmps=n) (hl:Nat.ble args.length n=true) (hrs:fn.results.toList=rs) (BP:settle ts (sU 0 args)=some env)
  (h:AW P n c env σ [] (afP P rs R)):AC P f args σ R:=by
 intro w m vs hc hv; have hl:args.length≤n:=Nat.le_of_ble_eq_true hl; have hvl:=hv.length_eq; refine callsIn_wide.1 (callsIn_of_wp_marks (n:=0) hf hb trivial (wpIn_wide.2 ?_)); refine h w m _ _ ⟨?_,rfl,?_,hc⟩ ?_
 · simp [hvl,hn]; omega
 ·
  have:=zA (List.replicate (fn.ntmps - vs.toArray.size) Go.undef) [] hv; rw [show vs.toArray ++ Array.replicate (fn.ntmps - vs.toArray.size) Go.undef=([] ++ vs ++ List.replicate (fn.ntmps - vs.toArray.size) Go.undef).toArray from by simp]; exact AZ.settle BP this
 ·
  intro x ex env' σ' ds' a' w' m' hq hx hs ht
  have hend:∀ D s1,ds'=[sK D]→σ'=s1 ++ [.obj D (.deferred (some []))]→∀ ps s',A8 P env' s1 rs ps→s'.Sublist s1→R (.ret (jW (ps.map PV.weak))) s'→
    LeavesInM Fence.wide 0 P fn a'.tmps (fun e w'=>∃ out σ' m',R out σ'∧BU w' m' out e∧Conc w' m' σ'∧Trans w m σ w' m' σ') a'.defers .returning w':=by
   intro D s1 hd hs1 ps s' h1 hsub h2; subst hs1; rw [hs.ds,hd]; have hi:(s1 ++ [aQ.obj D (.deferred (some []))])[s1.length]?=some (.obj D (.deferred (some []))):=by simp
   obtain ⟨hbD,_⟩:=hs.gX.each _ (List.mem_of_getElem? hi); obtain ⟨k1,k2⟩:=uH (o':=.deferred Option.none) hs.gX hi
   have hset:(s1 ++ [aQ.obj D (.deferred (some []))]).set s1.length (.obj D (.deferred Option.none))=s1 ++ [.obj D (.deferred Option.none)]:=by
    rw [List.set_append_right _ _ (Nat.le_refl _),Nat.sub_self]; rfl
   rw [hset] at k1 k2; refine ⟨by simp,.inl ⟨D,_,rfl,run_takeDeferred hbD,?_⟩⟩; have k3:=k1.left; obtain ⟨v,hv1,hv2⟩:=Hy hrs (hs.env.mono k2.le) k3 h1; refine ⟨v,hv1,.ret _,s',m',h2,⟨v,rfl,hv2⟩,k3.sub hsub,?_⟩; exact (ht.trans k2).sub (hsub.trans (List.sublist_append_left _ _))
  have adt:ds'=[]→∀ ps s',A8 P env' σ' rs ps→s'.Sublist σ'→R (.ret (jW (ps.map PV.weak))) s'→
    LeavesInM Fence.wide 0 P fn a'.tmps (fun e w'=>∃ out σ' m',R out σ'∧BU w' m' out e∧Conc w' m' σ'∧Trans w m σ w' m' σ') a'.defers .returning w':=by
   intro hd ps s' h1 hsub h2; rw [hs.ds,hd]; obtain ⟨v,hv1,hv2⟩:=Hy hrs hs.env hs.gX h1; exact ⟨v,hv1,.ret _,s',m',h2,⟨v,rfl,hv2⟩,hs.gX.sub hsub,ht.sub hsub⟩
  cases x with
  | normal=>
   cases hx; rcases hq with ⟨hd,ps,h1,s',hsub,h2⟩ | ⟨D,s1,hd,hs1,ps,h1,s',hsub,h2⟩
   · exact adt hd ps s' h1 hsub h2
   · exact hend D s1 hd hs1 ps s' h1 hsub h2
  | ret=>
   cases hx; rcases hq with ⟨hd,ps,h1,s',hsub,h2⟩ | ⟨D,s1,hd,hs1,ps,h1,s',hsub,h2⟩
   · exact adt hd ps s' h1 hsub h2
   · exact hend D s1 hd hs1 ps s' h1 hsub h2
  | exit id=>exact hq.elim
  | panic p=>exact hq.elim
theorem AW.afp {P:Program} {n:Nat} {c:Code} {env:Env} {σ:List aQ} {ds:List Deferred} {Q:Post} (i:Nat) {b:Nat} {cs:List PV} (cs':List PV) (hi:σ[i]?=some (.box b cs)) (hc:∀ w m vs,aW w m cs vs→aW w m cs' vs)
  (h:AW P n c env (σ.set i (.box b cs')) ds Q):AW P n c env σ ds Q:=by
 intro w m a QC hs ha; obtain ⟨k1,k2⟩:=M7 hi hs.gX fun vs=>hc w m vs; exact h w m a QC ⟨hs.size,hs.ds,hs.env,k1⟩ (ha.step k2)
theorem aW.Ij {w:World} {m:iY} {v:Value} {l:List (List PV)}:∀ (k:Nat) (cs:List PV) (vs:List Value),cs[k]?=some (.own v l)→aW w m cs vs→aW w m (cs.set k (.val v)) vs
 | 0,[],_,h,_=>by simp at h
 | k + 1,[],_,h,_=>by simp at h
 | 0,c :: cs,vs,h,hr=>by
  simp only [List.getElem?_cons_zero,Option.some.injEq] at h; subst h; simp only [aW] at hr; obtain ⟨u,vs',rfl,h1,h2⟩:=hr; simp only [cu] at h1; exact aW.cons (by simp only [cu]; exact h1.1) h2
 | k + 1,c :: cs,vs,h,hr=>by
  simp only [aW] at hr; obtain ⟨u,vs',rfl,h1,h2⟩:=hr; exact aW.cons h1 (aW.Ij k cs vs' (by simpa using h) h2)
end Go.Abs
namespace Go.Abs
variable [fJ]
open Go Go.Proofs Go.Shelf
theorem AC.replaceAll {P:Program} {ρ:Ren} {R:dL→List aQ→Prop} (hD:¬ fJ.D) (L:Lays.n155 P ρ) (X:Builder.Extra P ρ) {s old new:List UInt8} (hs:s.length < 4294967281) (h1:1≤old.length)
  (hm:∀ (w:World) (m:iY),fJ.G w m→∃ n:Int,w.cell? ⟨ρ.g 1,0,Option.none⟩=some (.int .i64 n)) (hlen:s.length + Lib.count s old * new.length≤140737488355328)
  (h:R (.ret (.str (Lib.replaceAll s old new))) []):AC P (ρ.f 155) [.str s,.str old,.str new] [] R:=by
 intro w m vs hc hv; simp only [aW,cu] at hv; obtain ⟨v0,vs0,rfl,rfl,v1,vs1,rfl,rfl,v2,vs2,rfl,rfl,rfl⟩:=hv; obtain ⟨n,hn⟩:=hm w m hc.rH; refine (Any.strings_ReplaceAll L X ⟨s.toArray⟩ ⟨old.toArray⟩ ⟨new.toArray⟩ n w (by simpa [ByteArray.size] using hs) hn (by simpa [ByteArray.size] using h1) (by simpa [ByteArray.size,Lib.countB] using hlen)).mono ?_; rintro en w' ⟨rfl,hb⟩; obtain ⟨c1,c2⟩:=yj hD hc hb; exact ⟨_,_,m,h,⟨_,rfl,by simp only [cu]⟩,c1,c2⟩
theorem afh (c:UInt8) (new:List UInt8):∀ s:List UInt8,Lib.replaceK [c] new (Lib.count s [c]) s=s.flatMap fun x=>if x == c then new else [x]
 | []=>rfl
 | b :: l=>by
  have ih:=afh c new l; by_cases hb:b=c
  ·
   subst hb; have hi:Lib.index (b :: l) [b]=((0:Nat):Int):=by simp [Lib.index,List.isPrefixOf]
   rw [Lib.count_cons_eq,Nat.add_comm,Lib.replaceK_hit _ _ _ _ 0 hi]; simp only [List.take_zero,List.nil_append,List.length_singleton,Nat.zero_add,List.drop_succ_cons,List.drop_zero,ih,List.flatMap_cons,beq_self_eq_true,if_true]
  ·
   rw [Lib.count_cons_ne b c l hb,List.flatMap_cons,←ih,if_neg (by simpa using hb)]; cases hk:Lib.count l [c] with
   | zero=>rfl
   | succ k=>
    obtain ⟨i,hi⟩:=Lib.index_of_count (s:=l) (old:=[c]) (by omega); have hp:([c]:List UInt8).isPrefixOf (b :: l)=false:=by simp [List.isPrefixOf,Ne.symm hb]
    have hi2:Lib.index (b :: l) [c]=((i + 1:Nat):Int):=by
     have hne:(Lib.index l [c] == -1)=false:=by rw [hi]; simp
     rw [Lib.index,if_neg (by rw [hp]; simp),if_neg (by rw [hne]; simp),hi]; omega
    rw [Lib.replaceK_hit _ _ _ _ _ hi2,Lib.replaceK_hit _ _ _ _ _ hi]; simp [Nat.add_right_comm]
theorem afo {c:UInt8} {new s:List UInt8} (hn:([c] == new)=false):Lib.replaceAll s [c] new=s.flatMap fun x=>if x == c then new else [x]:=by
 unfold Lib.replaceAll Lib.replace; rw [hn,if_neg (by simp),←afh c new s]; simp [Lib.replaceNum]
end Go.Abs
namespace Go.Abs
variable [fJ]
open Go Go.Ft
def isBytes (P:Program) (t e:Nat):Bool:=match P.underlying t,P.underlying e with
 | some (.slice e'),some (.int .u8)=>Nat.beq e' e
 | _,_=>false
theorem Un {P:Program} {t e:Nat} (h:isBytes P t e=true):P.underlying t=some (.slice e)∧P.underlying e=some (.int .u8):=by
 unfold isBytes at h; split at h
 ·
  rename_i e' h1 h2; rw [h1,h2,Nat.eq_of_beq_eq_true h]; exact ⟨rfl,rfl⟩
 · cases h
class FA (P:Program) extends FK P where
 mix:P.follows .mixedOrders=true
 es:List (Nat × Nat)
 eok:es.map (fun x=>elemSize P x.1)=es.map (fun x=>some x.2)
 sf:List (Nat × Nat × Nat × Nat)
 sok:sf.all (fun x=>Gt P x.1 x.2.1 x.2.2.1 x.2.2.2)=true
 un:List (Nat × IntKind)
 uok:un.map (fun x=>P.underlying x.1)=un.map (fun x=>some (.int x.2))
 ic:List Nat
 iok:ic.all (concrete P)=true
 bs:List (Nat × Nat)
 ahJ:bs.all (fun x=>isBytes P x.1 x.2)=true
 bo:List Nat
 bok:bo.map (fun t=>P.underlying t)=bo.map (fun _=>some .bool)
abbrev Nm :=List (Nat × Nat)
structure Cf where
 n:Nat
 d:List (Nat × Nat)
 g:List (Nat × Nat × Nat × Nat × Nat)
inductive KT where
 | ar (k:List Fr) (rest:List Oper)
 | wF
 | g1 (k:List Fr) (l2 l3 rest:List Oper) (i:Nat)
 | g2 (k:List Fr) (l3 rest:List Oper) (s0:List aQ) (i:Nat) (r:aQ)
inductive S2 where
 | w (c:Code) (k:List Fr) (e:Env) (s:List aQ)
 | r (all:Array Oper) (l:List Oper) (k:List Fr) (e:Env) (s:List aQ)
 | x (ax:AX) (k:List Fr) (e:Env) (s:List aQ)
 | v (all:Array Oper) (l:List Oper) (kt:KT) (e:Env) (s:List aQ)
 | t (all:Array Oper) (l:List Oper) (k:List Fr) (rest:List Oper) (s0:List aQ) (i:Nat) (e:Env) (s:List aQ)
def tfK (P:Program) (n:Nat) (all:Array Oper) (Q:Post) (k:List Fr) (rest:List Oper) (s0:List aQ) (i:Nat) (e:Env) (s:List aQ):Prop:=∃ r,s=[r]∧AR P n all rest e (s0.set i r) [] (den P n k Q)
def KT.ok (P:Program) (n:Nat) (Q:Post) (all:Array Oper) (s:List aQ):KT→Env→Prop
 | .ar k rest,e=>AR P n all rest e s [] (den P n k Q)
 | .wF,e=>∃ e',Less e' e∧Q .normal e' s []
 | .g1 k l2 l3 rest i,e=>∃ r,s[i]?=some r∧Ev P n all (s.eraseIdx i) e l2 fun e=>TF P n [] (den P n k Q) (s.eraseIdx i) l3 e [r] (tfK P n all Q k rest s i)
 | .g2 k l3 rest s0 i r,e=>TF P n [] (den P n k Q) (s0.eraseIdx i) l3 e [r] (tfK P n all Q k rest s0 i)
def S2.ok (P:Program) (n:Nat) (Q:Post):S2→Prop
 | .w c k e s=>AW P n c e s [] (den P n k Q)
 | .r all l k e s=>AR P n all l e s [] (den P n k Q)
 | .x ax k e s=>den P n k Q ax e s []
 | .v all l kt e s=>Ev P n all s e l (kt.ok P n Q all s)
 | .t all l k rest s0 i e s=>TF P n [] (den P n k Q) (s0.eraseIdx i) l e s (tfK P n all Q k rest s0 i)
theorem RA {P:Program} {n:Nat} {all:Array Oper} {Q:Post} {k:List Fr} {rest:List Oper} {s0:List aQ} {i:Nat} (e e':Env) (s:List aQ) (h:Less e' e):tfK P n all Q k rest s0 i e' s→tfK P n all Q k rest s0 i e s
 | ⟨r,h1,h2⟩=>⟨r,h1,AR.less h h2⟩
theorem KT.less {P:Program} {n:Nat} {Q:Post} {all:Array Oper} {s:List aQ}:∀ {kt:KT} (e e':Env),Less e' e→kt.ok P n Q all s e'→kt.ok P n Q all s e
 | .ar k rest,e,e',h,h1=>AR.less h h1
 | .wF,e,e',h,⟨e2,h2,h3⟩=>⟨e2,h2.trans h,h3⟩
 | .g1 k l2 l3 rest i,e,e',h,⟨r,h1,h2⟩=>⟨r,h1,Ev.less (fun _ _ h' k'=>TF.less RA h' k') h h2⟩
 | .g2 k l3 rest s0 i r,e,e',h,h1=>TF.less RA h h1
structure Ms where
 st:S2
 nm:Nm
inductive Nd where
 | st (s:Ms)
 | go (s:Ms)
 | UF (cs:List ((Env × List aQ) × (Env × List aQ))) (d:Nd)
 | cond (b:Bool) (t e:Ms)
 | same (b b':Nat) (s:Ms)
 | alloc (k:Nat→Ms)
 | opt (β:Type) (x:Option β) (k:β→Ms)
 | chb (b:Bool) (s:Ms)
 | len (L:List (List PV)) (k:Nat→Ms)
 | byt (L:List (List PV)) (k:List UInt8→Ms)
 | Ur (sz:Nat) (L:List (List PV)) (i:Int) (k:List PV→Ms)
 | slL (sz:Nat) (L:List (List PV)) (a:Int) (b:Option Int) (k:List (List PV)→Ms)
 | app (v v':Value) (m sz:Nat) (L M:List (List PV)) (k:Value→List (List PV)→Ms)
 | u8 (f:UInt8→UInt8→UInt8) (p q:Int) (k:Int→Ms)
 | u8c (f:UInt8→UInt8→UInt8) (p:Int) (c:UInt8) (k:Int→Ms)
 | byte (p:Int) (s:Ms)
 | call (f:FuncId) (args:List PV) (k:dL→Ms)
 | Nh (f:FuncId) (args:List PV) (b:Nat) (cs:List PV) (k:dL→List PV→Ms)
 | join (b w:Bool) (t:Nat) (E:Env) (S:List aQ) (ks kn:List Nat) (s1 s2:Ms) (k:Bool→Ms)
 | loop (c:Code) (k:List Fr) (e:Env) (s:List aQ) (nm:Nm)
 | again (R:Env→List aQ→List Deferred→Prop) (e:Env) (s:List aQ)
 | ord (L:List Oper) (k:Nat) (d:Nd)
 | Zg (b:Bool) (d:Nd)
 | ret (A B:List Nat) (p:PV) (s:List aQ)
 | pan (p:PV) (s:List aQ)
 | Jy (v:Bool) (e:Env) (s:List aQ) (cs:List ((Env × List aQ) × (Env × List aQ)))
inductive Fm where
 | body (rs:List ResultVar)
 | wF (t:Nat) (ks:List Nat) (E:Env) (S:List aQ) (kn:List Nat)
def Fm.kn :Fm→List Nat
 | .body _=>[]
 | .wF _ _ _ _ kn=>kn
def acB (ρ:Operand→PV) (o:Option Operand) (d:Int):Option Int:=
 match o with
 | none=>some d
 | some y=>match ρ y with
  | .int _ a=>some a
  | _=>none
def Bt :Env→List Nat→List Nat
 | [],_=>[]
 | (t,_) :: r,acc=>bif qz acc t then Bt r acc else t :: Bt r (t :: acc)
def Qu (u:Nat):List Oper→Option (Nat × Nat)
 | []=>none
 | o :: r=>match o.op,o.dst with
  | .pick (.tmp v) _ _,some t=>bif Nat.beq v u then some (1,t) else (match Qu u r with | some (k,t)=>some (k + 1,t) | none=>none)
  | _,_=>match Qu u r with | some (k,t)=>some (k + 1,t) | none=>none
def knows (kn:List Nat) (all:Array Oper):Option (Nat × Bool)→Bool
 | none=>true
 | some (j,_)=>match all[j]? with
  | some oj=>match oj.dst with
   | some u=>qz kn u
   | none=>false
  | none=>false
def ai_ (o:Oper):Bool:=
 match o.dst,o.op with
 | none,_=>true
 | some _,.alloc _ | some _,.store _ _ _ | some _,.panic _ | some _,.mapUpdate _ _ _ _ | some _,.next _ _ | some _,.range _ _ | some _,.makeMap _ _ | some _,.makeFunc _ _ _=>true
 | some _,.call c=>match c.callee with
  | .builtin .len=>false
  | .builtin .min=>false
  | .builtin .max=>false
  | .builtin _=>true
  | _=>false
 | _,_=>false
def KW :List Oper→Nat
 | []=>0
 | o :: r=>bif ai_ o then 0 else KW r + 1
def Zk (nm:Nm):Operand→Option Nat
 | .tmp t=>qF nm t
 | _=>none
def ae3 (nm:Nm):Op→Option Nat
 | .move x | .assign x | .nilCheck x | .fieldAddr _ x _=>Zk nm x
 | _=>none
def JB :List (Nat × Nat × Nat × Nat)→Nat→Option (Nat × Nat × Nat)
 | [],_=>none
 | (t,x) :: r,u=>bif Nat.beq t u then some x else JB r u
theorem GK :∀ {l:List (Nat × Nat × Nat × Nat)} {t:Nat} {x:Nat × Nat × Nat},JB l t=some x→(t,x)∈l
 | [],t,x,h=>by cases h
 | (u,y) :: l,t,x,h=>by
  unfold JB at h; cases e:Nat.beq u t with
  | true=>rw [e] at h; simp only [cond_true,Option.some.injEq] at h; rw [←Nat.eq_of_beq_eq_true e,h]; exact List.mem_cons_self
  | false=>rw [e] at h; exact List.mem_cons_of_mem _ (GK h)
def Zt (F:FB) (sf:List (Nat × Nat × Nat × Nat)) (ic bo:List Nat) (ρ:Operand→PV):Op→Option PV
 | .buildSlice t len parts=>match JB sf t with
  | some (_,sz,_)=>bif Nat.ble (len * sz) 16777216 then (match yM (fun i=>some (i * sz,sz)) (List.replicate (len * sz) .undef) (parts.toList.map fun x=>(x.1,(ρ x.2).weak)) with
   | some cells=>match BS sz len cells with
    | some L=>some (.list L)
    | none=>none
   | none=>none) else none
  | none=>none
 | .binOp .eql t x y _=>match ρ x,ρ y with
  | .bool a,.bool b=>bif qz bo t then some (.bool (a == b)) else none
  | _,_=>none
 | .binOp .neq t x y _=>match ρ x,ρ y with
  | .bool a,.bool b=>bif qz bo t then some (.bool (!(a == b))) else none
  | _,_=>none
 | .makeInterface t x=>bif qz ic t then (match (ρ x).force with
  | some p=>some (.iface t p)
  | none=>none) else none
 | .call c=>match c.callee with
  | .builtin .min=>match c.args.toList with
   | [x,y]=>match ρ x,ρ y with
    | .int k a,.int _ b=>some (.int k (if b < a then b else a))
    | _,_=>none
   | _=>none
  | .builtin .max=>match c.args.toList with
   | [x,y]=>match ρ x,ρ y with
    | .int k a,.int _ b=>some (.int k (if a < b then b else a))
    | _,_=>none
   | _=>none
  | .builtin .len=>match c.args.toList,c.argTypes.toList with
   | [x],[t]=>match ρ x with
    | .str s=>bif qz F.f.str t then some (.int .i64 (s.length:Int)) else none
    | _=>none
   | _,_=>none
  | _=>none
 | _=>none
def u8N (ρ:Operand→PV):Op→Bool
 | .binOp .add _ x y _ | .binOp .sub _ x y _=>match ρ x,ρ y with
  | .int .u8 _,.int .u8 _=>true
  | _,_=>false
 | _=>false
def opN (F:FB) (es bs:List (Nat × Nat)) (un:List (Nat × IntKind)) (ρ:Operand→PV) (k:PV→Ms) (kp:PV→Ms) (st:Ms):Op→Nd
 | .index t x i=>match ρ x,ρ i with
  | .str s,.int _ n=>bif qz F.f.str t then .opt UInt8 (idx s n) (fun c=>k (.int .u8 (c.toNat:Int))) else .st st
  | _,_=>.st st
 | .indexAddr t x i=>match (ρ x).els,ρ i,qF es t with
  | some L,.int _ n,some sz=>.Ur sz L n (fun cs=>k (.ref cs))
  | _,_,_=>.st st
 | .slice t x lo hi none=>match acB ρ lo 0 with
  | some a=>match ρ x with
   | .str s=>match acB ρ hi s.length with
    | some b=>bif qz F.f.str t then .opt Str (sl s a b) (fun r=>k (.str r)) else .st st
    | none=>.st st
   | p=>match p.els,qF es t,hi with
    | some L,some sz,none=>.slL sz L a none (fun r=>k (.list r))
    | some L,some sz,some y=>match ρ y with
     | .int _ b=>.slL sz L a (some b) (fun r=>k (.list r))
     | _=>.st st
    | _,_,_=>.st st
  | none=>.st st
 | .binOp .add _ x y _=>match ρ x,ρ y with
  | .str a,.str b=>.opt Str (app a b) (fun r=>k (.str r))
  | .int .u8 p,.int .u8 q=>match y with
   | .const _=>bif decide (q=((Ft.byteOf q).toNat:Int)) then .u8c (· + ·) p (Ft.byteOf q) (fun i=>k (.int .u8 i)) else .st st
   | _=>.u8 (· + ·) p q (fun i=>k (.int .u8 i))
  | _,_=>.st st
 | .binOp .sub _ x y _=>match ρ x,ρ y with
  | .int .u8 p,.int .u8 q=>match y with
   | .const _=>bif decide (q=((Ft.byteOf q).toNat:Int)) then .u8c (· - ·) p (Ft.byteOf q) (fun i=>k (.int .u8 i)) else .st st
   | _=>.u8 (· - ·) p q (fun i=>k (.int .u8 i))
  | _,_=>.st st
 | .binOp .quo _ x y _=>match ρ x,ρ y with
  | .int .i64 p,.int .i64 q=>.chb (!(q == 0)) (k (.int .i64 (IntKind.i64.wrap (p.tdiv q))))
  | _,_=>.st st
 | .binOp .rem _ x y _=>match ρ x,ρ y with
  | .int .i64 p,.int .i64 q=>.chb (!(q == 0)) (k (.int .i64 (p.tmod q)))
  | _,_=>.st st
 | .convert src dst x=>match ρ x,qF un src,qF un dst with
  | .int .u8 p,some _,some .i64=>.byte p (k (.int .i64 p))
  | .int .u8 p,some _,some .u64=>.byte p (k (.int .u64 p))
  | .int .i64 n,some _,some .u8=>.go (k (.int .u8 ((Ft.byteOf n).toNat:Int)))
  | .int .i64 n,some _,some .i64=>.go (k (.int .i64 (IntKind.i64.wrap n)))
  | .int .i64 n,some _,some .i32=>.go (k (.int .i32 (IntKind.i32.wrap n)))
  | .int .i32 n,some _,some .i64=>.go (k (.int .i64 (IntKind.i64.wrap n)))
  | p,_,_=>match p.els,qF bs src with
   | some L,some _=>bif qz F.f.str dst then .byt L (fun l=>k (.str l)) else .st st
   | _,_=>.st st
 | .call c=>match c.callee with
  | .value Gf=>match ρ Gf with
   | .fn f caps=>match F7 c.args.toList.length ((c.args.toList.map ρ).map PV.weak) with
    | some a=>.call f (a ++ caps) (fun o=>match o with | .ret p=>k p | .panic p=>kp p)
    | none=>.st st
   | _=>.st st
  | .builtin .len=>match c.args.toList,c.argTypes.toList with
   | [x],[t]=>match ρ x with
    | .str s=>bif qz F.f.str t then .go (k (.int .i64 (s.length:Int))) else .st st
    | p=>match p.els,qF es t with
     | some L,some _=>.len L (fun m=>k (.int .i64 (m:Int)))
     | _,_=>.st st
   | _,_=>.st st
  | _=>.st st
 | _=>.st st
def ldN (F:FB) (s:List aQ) (nm:Nm) (ρ:Operand→PV):Op→Option (Nat × Nat × PV)
 | .load t x=>match BQ F.f.ti t with
  | some (ag,k)=>match Zk nm x with
   | some i=>match ρ x with
    | .val (.pointer (some ⟨b,off,none⟩))=>match s[s.length - 1 - i]? with
     | some (.box b' cs)=>match Az off cs with
      | some cs'=>match sN ag k cs' with
       | some p=>some (b,b',p)
       | none=>none
      | none=>none
     | _=>none
    | _=>none
   | none=>none
  | none=>none
 | _=>none
def stN (F:FB) (s:List aQ) (nm:Nm) (ρ:Operand→PV):Op→Option (Nat × Nat × List aQ)
 | .store t x y=>match BQ F.f.ti t with
  | some (_,k)=>match Zk nm x with
   | some i=>match ρ x with
    | .val (.pointer (some ⟨b,off,none⟩))=>match s[s.length - 1 - i]? with
     | some (.box b' cs)=>match (ρ y).uE with
      | some new=>bif (new.all PV.one && Nat.beq new.length k) then (match NV cs off new with
       | some cs'=>match yC s (s.length - 1 - i) (.box b cs') with
        | some s'=>some (b,b',s')
        | none=>none
       | none=>none) else none
      | none=>none
     | _=>none
    | _=>none
   | none=>none
  | none=>none
 | _=>none
def Nn (s:List aQ) (nm:Nm):List Operand→Option (Nat × Nat × List PV)
 | []=>none
 | x :: xs=>match Zk nm x with
  | some i=>match s[s.length - 1 - i]? with
   | some (.box b cs)=>some (s.length - 1 - i,b,cs)
   | _=>Nn s nm xs
  | none=>Nn s nm xs
def MQ (sz e:Nat):List aQ→Nat→Option Nat
 | [],_=>none
 | .row _ _ sz' e' :: r,i=>bif Nat.beq sz' sz && Nat.beq e' e then some i else MQ sz e r (i + 1)
 | _ :: r,i=>MQ sz e r (i + 1)
def efN (F:FB) (es:List (Nat × Nat)) (sf:List (Nat × Nat × Nat × Nat)) (s:List aQ) (nm:Nm) (ρ:Operand→PV) (dst:Option Nat) (k:PV→List aQ→Nm→Ms) (kp:PV→List aQ→Ms):Op→Option Nd
 | .store t x y=>match stN F s nm ρ (.store t x y) with
  | some (b,b',s')=>some (.same b b' (k .undef s' nm))
  | none=>none
 | .alloc e=>match qF F.zp e with
  | some cs=>some (.alloc fun b=>k (.val (.pointer (some ⟨b,0,none⟩))) (.box b cs :: s) (match dst with | some t=>(t,s.length) :: nm | none=>nm))
  | none=>none
 | .panic x=>match ρ x with
  | .iface t p=>some (.go (kp (.iface t p) s))
  | _=>none
 | .call c=>match c.callee with
  | .builtin .append=>match c.args.toList,c.argTypes.toList with
   | [x,y],[t,tx]=>match ρ x,(ρ y).els,JB sf t,qF es tx with
    | .own v L,some M,some (e,sz,bytes),some sz2=>match (match Zk nm x with | some j=>some (s.length - 1 - j) | none=>MQ sz e s 0) with
     | some i=>match s[i]? with
      | some (.row v' m sz' e')=>bif Nat.beq sz' sz && Nat.beq e' e && Nat.beq sz2 sz && Nat.ble bytes 32768 then some (.app v v' m sz L M (fun v2 L2=>k (.own v2 L2) (s.set i (.row v2 L2.length sz e)) (match dst with | some t=>(t,s.length - 1 - i) :: nm | none=>nm))) else none
      | _=>none
     | none=>bif Nat.beq sz2 sz && Nat.ble bytes 32768 then some (.app v (.slice none 0 0) 0 sz L M (fun v2 L2=>k (.own v2 L2) (.row v2 L2.length sz e :: s) (match dst with | some t=>(t,s.length) :: nm | none=>nm))) else none
    | _,_,_,_=>none
   | _,_=>none
  | .value Gf=>match ρ Gf with
   | .fn f caps=>match Nn s nm c.args.toList with
    | some (i,b,cs)=>match F7 c.args.toList.length ((c.args.toList.map ρ).map PV.weak) with
     | some a=>some (.Nh f (a ++ caps) b cs (fun o cs'=>match o with
      | .ret p=>k p (s.set i (.box b cs')) nm
      | .panic p=>kp p (s.set i (.box b cs'))))
     | none=>none
    | none=>none
   | _=>none
  | _=>none
 | _=>none
def Qe (F:FB) (e:Env) (s:List aQ) (nm:Nm):List ResultVar→Option (List Nat × List Nat × List PV)
 | []=>some ([],[],[])
 | .tmp t :: rs=>match (e.get t).force with
  | some p=>match Qe F e s nm rs with
   | some (A,B,ps)=>some (A,B,p :: ps)
   | none=>none
  | none=>none
 | .cell a t :: rs=>match qF nm a with
  | some i=>match e.get a with
   | .val (.pointer (some ⟨b,0,none⟩))=>match s[s.length - 1 - i]? with
    | some (.box b' cs)=>match BQ F.f.ti t with
     | some (ag,k)=>match sN ag k cs with
      | some p=>match Qe F e s nm rs with
       | some (A,B,ps)=>some (b :: A,b' :: B,p :: ps)
       | none=>none
      | none=>none
     | none=>none
    | _=>none
   | _=>none
  | none=>none
def Nd.Vf (cs:List ((Env × List aQ) × (Env × List aQ))):Nd→Nd
 | .Jy v e s ds=>.Jy v e s (cs ++ ds)
 | .UF ds d=>.UF (cs ++ ds) d
 | d=>.UF cs d
section
variable {P : Program} {n : Nat}
def Gd (t:Nat) (E:Env) (S:List aQ) (x:Bool):Post:=fun ax e s d=>ax=.normal∧e=(t,.bool x) :: E∧s=S∧d=[]
def Nd.ok (P:Program) (n:Nat) (Q:Post) (Fin:dL→List aQ→Prop) (Gn:Bool→Env→List aQ→Prop):Nd→Prop
 | .st s=>s.st.ok P n Q
 | .go s=>s.st.ok P n Q
 | .UF cs d=>(∀ c∈cs,c.1=c.2)∧d.ok P n Q Fin Gn
 | .cond b t e=>(b=true→t.st.ok P n Q)∧(b=false→e.st.ok P n Q)
 | .same b b' s=>b=b'∧s.st.ok P n Q
 | .alloc k=>∀ b,(k b).st.ok P n Q
 | .opt _ x k=>∃ y,x=some y∧(k y).st.ok P n Q
 | .chb b s=>Ft.UF b=some ()∧s.st.ok P n Q
 | .len L k=>(k L.length).st.ok P n Q
 | .byt L k=>∃ l:List UInt8,L=l.map fG∧(k l).st.ok P n Q
 | .Ur sz L i k=>∃ cs,idx L i=some cs∧cs.length=sz∧(k cs).st.ok P n Q
 | .slL sz L a b k=>∃ (α:Type) (f:α→List PV) (l r:List α),L=l.map f∧(∀ x,(f x).length=sz)∧sl l a (b.getD (l.length:Nat))=some r∧(k (r.map f)).st.ok P n Q
 | .app v v' m sz L M k=>v=v'∧m=L.length∧∃ (α:Type) (f:α→List PV) (l2 m2 r:List α),Ft.app l2 m2=some r∧L=l2.map f∧M=m2.map f∧(∀ x,(f x).length=sz)∧(∀ x,(f x).all PV.one=true)∧∀ v2,(k v2 (r.map f)).st.ok P n Q
 | .u8 f p q k=>∃ a b:UInt8,p=(a.toNat:Int)∧q=(b.toNat:Int)∧(k ((f a b).toNat:Int)).st.ok P n Q
 | .u8c f p c k=>∃ a:UInt8,p=(a.toNat:Int)∧(k ((f a c).toNat:Int)).st.ok P n Q
 | .byte p s=>(∃ a:UInt8,p=(a.toNat:Int))∧s.st.ok P n Q
 | .call f args k=>cZ P f=true∧∃ o,(∀ {τ:List aQ} {R:dL→List aQ→Prop},R o τ→AC P f args τ R)∧(k o).st.ok P n Q
 | .Nh f args b cs k=>cZ P f=true∧∃ o cs',(∀ {R:dL→List aQ→Prop},R o [.box b cs']→AC P f args [.box b cs] R)∧(k o cs').st.ok P n Q
 | .join b w t E S _ _ s1 s2 k=>∃ x,(b=w→s1.st.ok P n (Gd t E S x))∧(b=!w→s2.st.ok P n (Gd t E S x))∧(k x).st.ok P n Q
 | .loop c k e s _=>AW P n (.loop c) e s [] (den P n k Q)
 | .again R e s=>R e s []
 | .ord L k d=>(Ik L k && Nat.ble k L.length)=true∧d.ok P n Q Fin Gn
 | .Zg b d=>b=true∧d.ok P n Q Fin Gn
 | .ret A B p s=>A=B∧Fin (.ret p) s
 | .pan p s=>Fin (.panic p) s
 | .Jy v e s cs=>(∀ c∈cs,c.1=c.2)∧Gn v e s
def Fm.fits (F:FB) (Q:Post) (Fin:dL→List aQ→Prop) (Gn:Bool→Env→List aQ→Prop):Fm→Prop
 | .body rs=>(∀ e s nm A ps,Qe F e s nm rs=some (A,A,ps)→Fin (.ret (jW (ps.map PV.weak))) s→Q .ret e s []∧Q .normal e s [])∧∀ e s p,Fin (.panic p) s→Q (.panic p) e s []
 | .wF t _ _ _ _=>∀ v e s,Gn v e s→Q .normal ((t,.bool v) :: e) s []
theorem Nd.Rm {Q:Post} {Fin:dL→List aQ→Prop} {Gn:Bool→Env→List aQ→Prop} {cs:List ((Env × List aQ) × (Env × List aQ))} {d:Nd} (h:(d.Vf cs).ok P n Q Fin Gn):(∀ c∈cs,c.1=c.2)∧d.ok P n Q Fin Gn:=by
 unfold Nd.Vf at h; split at h
 · exact ⟨fun c hc=>h.1 c (List.mem_append_left _ hc),fun c hc=>h.1 c (List.mem_append_right _ hc),h.2⟩
 · exact ⟨fun c hc=>h.1 c (List.mem_append_left _ hc),fun c hc=>h.1 c (List.mem_append_right _ hc),h.2⟩
 · exact h
theorem stepG {all:Array Oper} {rest:List Oper} {o:Oper} {t:Nat} {e:Env} {σ:List aQ} {Q:Post} (hd:o.dst=some t) (ht:Nat.blt t n=true) (hg:oF all e o.guard=some true)
  (h:∀ o':Oper,o'.op=o.op→AO P o' e.ev σ (fun p σ'=>AR P n all rest ((t,p) :: e) σ' [] Q) (fun p σ'=>Q (.panic p) e σ' [])):AR P n all (o :: rest) e σ [] Q:=by
 cases hgo:o.guard with
 | none=>exact AR.step hgo hd ht (h o rfl)
 | some jw=>
  obtain ⟨j,want⟩:=jw; rw [hgo] at hg; obtain ⟨oj,u,h1,h2,h3⟩:=jY hg; rcases h3 with ⟨_,h3⟩ | ⟨h3,_⟩
  ·
   refine AR.run (b:=want) hgo h1 h2 h3 hd ht rfl ?_; exact AR.step rfl hd ht (h {o with guard:=none} rfl)
  · cases h3
theorem agu {all:Array Oper} {rest:List Oper} {o:Oper} {t:Nat} {p:PV} {e:Env} {σ:List aQ} {K:Env→Prop} (hd:o.dst=some t) (ht:Nat.blt t n=true) (hg:oF all e o.guard=some true)
  (h:∀ o':Oper,o'.op=o.op→AO P o' e.ev σ (fun p' σ'=>p'=p∧σ'=σ) (fun _ _=>False)) (hk:Ev P n all σ ((t,p) :: e) rest K):Ev P n all σ e (o :: rest) K:=by
 cases hgo:o.guard with
 | none=>exact Ev.cons hgo hd ht (h o rfl) hk
 | some jw=>
  obtain ⟨j,want⟩:=jw; rw [hgo] at hg; obtain ⟨oj,u,h1,h2,h3⟩:=jY hg; rcases h3 with ⟨_,h3⟩ | ⟨h3,_⟩
  · exact Ev.run (b:=want) hgo h1 h2 h3 hd ht rfl (h {o with guard:=none} rfl) hk
  · cases h3
theorem Qo {F:FB} {s:List aQ} {ρ:Operand→PV} {op:Op} {p:PV} {ix A B:List Nat} (h:opX F s ρ [] [] [] op=some (p,ix,A,B)):A=B:=by
 unfold opX at h; split at h
 all_goals repeat' split at h
 all_goals first
  | contradiction
  | (simp only [Option.some.injEq,Prod.mk.injEq] at h; obtain ⟨_,_,rfl,rfl⟩:=h; rfl)
  | cases h
theorem FP {ρ:Operand→PV} {o:Option Operand} {d a:Int} (h:acB ρ o d=some a):DR ρ o a d:=by
 unfold acB at h; unfold DR; cases o with
 | none=>simp only [Option.some.injEq] at h; exact h.symm
 | some y=>
  simp only at h; split at h
  ·
   rename_i k b hy; simp only [Option.some.injEq] at h; subst h; exact ⟨k,hy⟩
  · cases h
theorem RH {F:Facts} (hF:F.okB P=true) {t:Nat} (h:qz F.str t=true):P.underlying t=some .string:=by
 simp only [Facts.okB,Bool.and_eq_true] at hF; have:=vM hF.2 h; unfold agt at this; split at this
 · assumption
 · cases this
theorem FA.DY [K:FA P] {t:Nat} {k:IntKind} (h:qF K.un t=some k):P.underlying t=some (.int k):=by
 have h0:(K.un.map fun y=>(y.1,TypeDesc.int y.2)).map (fun y=>P.underlying y.1)=(K.un.map fun y=>(y.1,TypeDesc.int y.2)).map (fun y=>some y.2):=by
  rw [List.map_map,List.map_map]; exact K.uok
 refine CK (g:=P.underlying) h0 ?_; revert h; generalize K.un=l
 induction l with
 | nil=>intro h; cases h
 | cons y l ih=>
  obtain ⟨u,z⟩:=y; intro h; simp only [List.map_cons]; unfold qF at h ⊢; cases e:Nat.beq u t with
  | true=>rw [e] at h; simp only [cond_true,Option.some.injEq] at h ⊢; rw [h]
  | false=>rw [e] at h; exact ih h
theorem FA.SE [K:FA P] {t sz:Nat} (h:qF K.es t=some sz):elemSize P t=some sz:=CK (g:=elemSize P) K.eok h
end
end Go.Abs
namespace Go.Abs
variable [fJ]
open Go Go.Ft
section
variable {P : Program} {n : Nat}
theorem AO.row0 {o:Oper} {ρ:Operand→PV} {σ:List aQ} {R S:PV→List aQ→Prop} (sz e:Nat) (h:AO P o ρ (.row (.slice none 0 0) 0 sz e :: σ) R S):AO P o ρ σ R S:=by
 intro w m a K QC hr hc hK hS; obtain ⟨h1,h2⟩:=M6 hc sz e; exact h w m a K QC hr h1 (fun p σ' v w' m' k1 k2 k3 k4=>hK p σ' v w' m' k1 k2 k3 (h2.trans k4)) (fun p σ' v w' m' k1 k2 k3 k4=>hS p σ' v w' m' k1 k2 k3 (h2.trans k4))
theorem FA.adI [K:FA P] {t:Nat} (h:qz K.bo t=true):P.underlying t=some .bool:=by
 have h0:=K.bok; revert h h0; generalize K.bo=l
 induction l with
 | nil=>intro h; cases h
 | cons u l ih=>
  intro h h0; simp only [List.map_cons,List.cons.injEq] at h0; unfold qz at h; cases e:Nat.beq u t with
  | true=>rw [←Nat.eq_of_beq_eq_true e]; exact h0.1
  | false=>rw [e] at h; exact ih h h0.2
theorem Pn {α:Type}:∀ {l:List (Nat × α)} {t:Nat} {x:α},qF l t=some x→(t,x)∈l
 | [],t,x,h=>by cases h
 | (u,y) :: l,t,x,h=>by
  unfold qF at h; cases e:Nat.beq u t with
  | true=>rw [e] at h; simp only [cond_true,Option.some.injEq] at h; rw [←Nat.eq_of_beq_eq_true e,h]; exact List.mem_cons_self
  | false=>rw [e] at h; exact List.mem_cons_of_mem _ (Pn h)
theorem OV {c:Call} {ρ:Operand→PV} {a:List PV} (h:F7 c.args.toList.length ((c.args.toList.map ρ).map PV.weak)=some a):a=(c.args.toList.map ρ).map PV.weak:=by
 have:=(Eo h).1; rw [this]; exact List.take_of_length_le (by simp)
theorem Jo [K:FA P] {op:Op} {ρ:Operand→PV} {k kp:PV→Ms} {st:Ms} {Q:Post} {Fin:dL→List aQ→Prop} {Gn:Bool→Env→List aQ→Prop} {σ:List aQ}
  (h:(opN K.F K.es K.bs K.un ρ k kp st op).ok P n Q Fin Gn):st.st.ok P n Q∨(∃ p,(k p).st.ok P n Q∧∀ o':Oper,o'.op=op→∀ {R S:PV→List aQ→Prop},R p σ→AO P o' ρ σ R S)∨
   ∃ p,(kp p).st.ok P n Q∧∀ o':Oper,o'.op=op→∀ {R S:PV→List aQ→Prop},S p σ→AO P o' ρ σ R S:=by
 have hF:=K.ok
 have out:∀ {p:PV},(k p).st.ok P n Q→(∀ o':Oper,o'.op=op→∀ {R S:PV→List aQ→Prop},R p σ→AO P o' ρ σ R S)→st.st.ok P n Q∨(∃ p,(k p).st.ok P n Q∧∀ o':Oper,o'.op=op→∀ {R S:PV→List aQ→Prop},R p σ→AO P o' ρ σ R S)∨
   ∃ p,(kp p).st.ok P n Q∧∀ o':Oper,o'.op=op→∀ {R S:PV→List aQ→Prop},S p σ→AO P o' ρ σ R S:=fun h1 h2=>.inr (.inl ⟨_,h1,h2⟩)
 unfold opN at h; split at h
 ·
  rename_i t x i; split at h
  ·
   rename_i s kk m hx hi; cases hs:qz K.F.f.str t with
   | false=>rw [hs] at h; exact .inl h
   | true=>
    rw [hs] at h; obtain ⟨c,hc,hk⟩:=h; exact out hk fun o' ho {R S} hR=>AO.w_ hc ho (RH hF.f hs) hx hi hR
  · exact .inl h
 ·
  rename_i t x i; split at h
  ·
   rename_i L kk m sz hx hi hsz; obtain ⟨cs,hc,hl,hk⟩:=h; exact out hk fun o' ho {R S} hR=>AO.dP (f:=id) hc ho hx (by simp) hi (FA.SE hsz) rfl hl hR
  · exact .inl h
 ·
  rename_i t x lo hi; split at h
  ·
   rename_i a hlo; split at h
   ·
    rename_i s hx; split at h
    ·
     rename_i b hhi; cases hs:qz K.F.f.str t with
     | false=>rw [hs] at h; exact .inl h
     | true=>
      rw [hs] at h; obtain ⟨r,hr,hk⟩:=h; exact out hk fun o' ho {R S} hR=>AO.Qb hr ho (RH hF.f hs) hx (FP hlo) (FP hhi) hR
    · exact .inl h
   ·
    split at h
    ·
     rename_i L sz hL hsz; obtain ⟨α,f,l,r,h1,h2,h3,hk⟩:=h; exact out hk fun o' ho {R S} hR=>AO.KU h3 ho (FA.SE hsz) hL h1 rfl h2 (FP hlo) (by simp [DR]) hR
    ·
     rename_i L sz y hL hsz; split at h
     ·
      rename_i kk b hy; obtain ⟨α,f,l,r,h1,h2,h3,hk⟩:=h; exact out hk fun o' ho {R S} hR=>AO.KU h3 ho (FA.SE hsz) hL h1 rfl h2 (FP hlo) ⟨kk,by simpa using hy⟩ hR
     · exact .inl h
    · exact .inl h
  · exact .inl h
 ·
  rename_i x y _; split at h
  ·
   rename_i a b hx hy; obtain ⟨r,hr,hk⟩:=h; exact out hk fun o' ho {R S} hR=>AO.JL hr ho hx hy hR
  ·
   rename_i p q hx hy; split at h
   ·
    rename_i v; cases hq:decide (q=((Ft.byteOf q).toNat:Int)) with
    | false=>rw [hq] at h; exact .inl h
    | true=>
     rw [hq] at h; obtain ⟨a,ha,hk⟩:=h; exact out hk fun o' ho {R S} hR=>AO.YK a (Ft.byteOf q) ho hx hy ha (of_decide_eq_true hq) hR
   ·
    obtain ⟨a,b,ha,hb,hk⟩:=h; exact out hk fun o' ho {R S} hR=>AO.YK a b ho hx hy ha hb hR
  · exact .inl h
 ·
  rename_i x y _; split at h
  ·
   rename_i p q hx hy; split at h
   ·
    rename_i v; cases hq:decide (q=((Ft.byteOf q).toNat:Int)) with
    | false=>rw [hq] at h; exact .inl h
    | true=>
     rw [hq] at h; obtain ⟨a,ha,hk⟩:=h; exact out hk fun o' ho {R S} hR=>AO.YJ a (Ft.byteOf q) ho hx hy ha (of_decide_eq_true hq) hR
   ·
    obtain ⟨a,b,ha,hb,hk⟩:=h; exact out hk fun o' ho {R S} hR=>AO.YJ a b ho hx hy ha hb hR
  · exact .inl h
 ·
  rename_i x y _; split at h
  ·
   rename_i p q hx hy; exact out h.2 fun o' ho {R S} hR=>AO.aiu h.1 ho hx hy hR
  · exact .inl h
 ·
  rename_i x y _; split at h
  ·
   rename_i p q hx hy; exact out h.2 fun o' ho {R S} hR=>AO.ait h.1 ho hx hy hR
  · exact .inl h
 ·
  rename_i src dst x; split at h
  ·
   rename_i p k1 hx hs hd; obtain ⟨⟨a,rfl⟩,hk⟩:=h; exact out hk fun o' ho {R S} hR=>AO.Pw ho (FA.DY hs) (FA.DY hd) hx rfl hR
  ·
   rename_i p k1 hx hs hd; obtain ⟨⟨a,rfl⟩,hk⟩:=h; exact out hk fun o' ho {R S} hR=>AO.Pw ho (FA.DY hs) (FA.DY hd) hx rfl hR
  ·
   rename_i m k1 hx hs hd; exact out h fun o' ho {R S} hR=>AO.Z8 ho (FA.DY hs) (FA.DY hd) hx hR
  ·
   rename_i m k1 hx hs hd; exact out h fun o' ho {R S} hR=>AO.EX ho (FA.DY hs) (FA.DY hd) hx hR
  ·
   rename_i m k1 hx hs hd; exact out h fun o' ho {R S} hR=>AO.EX ho (FA.DY hs) (FA.DY hd) hx hR
  ·
   rename_i m k1 hx hs hd; exact out h fun o' ho {R S} hR=>AO.EX ho (FA.DY hs) (FA.DY hd) hx hR
  ·
   split at h
   ·
    rename_i L e hL hb; cases hs:qz K.F.f.str dst with
    | false=>rw [hs] at h; exact .inl h
    | true=>
     rw [hs] at h; obtain ⟨l,hl,hk⟩:=h; have hb:=Un (List.all_eq_true.1 K.ahJ _ (Pn hb)); exact out hk fun o' ho {R S} hR=>AO.FM ho hb.1 hb.2 (RH hF.f hs) hL hl hR
   · exact .inl h
 ·
  rename_i c; split at h
  ·
   rename_i Gf gu; split at h
   ·
    rename_i f caps hf; split at h
    rotate_left
    · exact .inl h
    rename_i a ha; obtain rfl:=OV ha; obtain ⟨hp,o,hc,hk⟩:=h; cases o with
    | ret p=>exact out hk fun o' ho {R S} hR=>AO.call ho Gf gu hf hp (hc hR)
    | panic p=>exact .inr (.inr ⟨p,hk,fun o' ho {R S} hR=>AO.call ho Gf gu hf hp (hc hR)⟩)
   · exact .inl h
  ·
   rename_i gu; split at h
   ·
    rename_i x t ha ht; have ha':c.args=#[x]:=by rw [←Array.toArray_toList (xs:=c.args),ha]
    have ht':c.argTypes=#[t]:=by rw [←Array.toArray_toList (xs:=c.argTypes),ht]
    split at h
    ·
     rename_i s hx; cases hs:qz K.F.f.str t with
     | false=>rw [hs] at h; exact .inl h
     | true=>
      rw [hs] at h; exact out h fun o' ho {R S} hR=>AO.tZ ho gu ha' ht' (RH hF.f hs) hx hR
    ·
     split at h
     ·
      rename_i L sz hL hsz; exact out h fun o' ho {R S} hR=>AO.fI (f:=id) (l:=L) ho gu ha' ht' (FA.SE hsz) hL (by simp) hR
     · exact .inl h
   · exact .inl h
  · exact .inl h
 · exact .inl h
theorem GI [K:FA P] {F:FB} (hF:F.Ok P) {s:List aQ} {ρ:Operand→PV} {op:Op} {p:PV} (h:Zt F K.sf K.ic K.bo ρ op=some p) {o:Oper} (ho:o.op=op) {R S:PV→List aQ→Prop} (hR:R p s):AO P o ρ s R S:=by
 unfold Zt at h; split at h
 ·
  rename_i t len parts; split at h
  ·
   rename_i e sz bytes hsf; have hs:=oK (List.all_eq_true.1 K.sok _ (GK hsf)); cases hle:Nat.ble (len * sz) 16777216 with
   | false=>rw [hle] at h; cases h
   | true=>
    rw [hle] at h; simp only [cond_true] at h; split at h
    ·
     rename_i cells hf; split at h
     ·
      rename_i L hl; simp only [Option.some.injEq] at h; subst h; exact AO.bF L ho hs hle hf hl rfl hR
     · cases h
    · cases h
  · cases h
 ·
  rename_i t x y _; split at h
  ·
   rename_i a b hx hy; cases hm:qz K.bo t with
   | false=>rw [hm] at h; cases h
   | true=>
    rw [hm] at h; simp only [cond_true,Option.some.injEq] at h; subst h; exact AO.aao ho (FA.adI hm) hx hy hR
  · cases h
 ·
  rename_i t x y _; split at h
  ·
   rename_i a b hx hy; cases hm:qz K.bo t with
   | false=>rw [hm] at h; cases h
   | true=>
    rw [hm] at h; simp only [cond_true,Option.some.injEq] at h; subst h; exact AO.aan ho (FA.adI hm) hx hy hR
  · cases h
 ·
  rename_i t x; cases hm:qz K.ic t with
  | false=>rw [hm] at h; cases h
  | true=>
   rw [hm] at h; simp only [cond_true] at h; split at h
   ·
    rename_i q hq; simp only [Option.some.injEq] at h; subst h; exact AO.ab5 ho (vM K.iok hm) hq hR
   · cases h
 ·
  rename_i c; split at h
  ·
   rename_i gu; split at h
   ·
    rename_i x y ha; have ha':c.args=#[x,y]:=by rw [←Array.toArray_toList (xs:=c.args),ha]
    split at h
    ·
     rename_i k a k' b hx hy; simp only [Option.some.injEq] at h; subst h; exact AO.min2 ho gu ha' hx hy hR
    · cases h
   · cases h
  ·
   rename_i gu; split at h
   ·
    rename_i x y ha; have ha':c.args=#[x,y]:=by rw [←Array.toArray_toList (xs:=c.args),ha]
    split at h
    ·
     rename_i k a k' b hx hy; simp only [Option.some.injEq] at h; subst h; exact AO.max2 ho gu ha' hx hy hR
    · cases h
   · cases h
  ·
   rename_i gu; split at h
   ·
    rename_i x t ha ht; have ha':c.args=#[x]:=by rw [←Array.toArray_toList (xs:=c.args),ha]
    have ht':c.argTypes=#[t]:=by rw [←Array.toArray_toList (xs:=c.argTypes),ht]
    split at h
    ·
     rename_i s hx; cases hs:qz F.f.str t with
     | false=>rw [hs] at h; cases h
     | true=>
      rw [hs] at h; simp only [cond_true,Option.some.injEq] at h; subst h; exact AO.tZ ho gu ha' ht' (RH hF.f hs) hx hR
    · cases h
   · cases h
  · cases h
 · cases h
theorem Jr {F:FB} (hF:F.Ok P) {s:List aQ} {nm:Nm} {ρ:Operand→PV} {op:Op} {b:Nat} {p:PV} (h:ldN F s nm ρ op=some (b,b,p)) {o:Oper} (ho:o.op=op) {R S:PV→List aQ→Prop} (hR:R p s):AO P o ρ s R S:=by
 unfold ldN at h; split at h
 ·
  split at h
  ·
   rename_i ag k hti; split at h
   ·
    split at h
    ·
     rename_i b0 off hx; split at h
     ·
      rename_i b' cs hi; split at h
      ·
       rename_i cs' hd; split at h
       ·
        rename_i q hq; simp only [Option.some.injEq,Prod.mk.injEq] at h; obtain ⟨rfl,rfl,rfl⟩:=h; exact AO.bJ ho hx hi (Facts.TR hF.f hti) hd hq hR
       · cases h
      · cases h
     · cases h
    · cases h
   · cases h
  · cases h
 · cases h
theorem WE {F:FB} (hF:F.Ok P) {s s':List aQ} {nm:Nm} {ρ:Operand→PV} {op:Op} {b:Nat} (h:stN F s nm ρ op=some (b,b,s')) {o:Oper} (ho:o.op=op) {R S:PV→List aQ→Prop} (hR:R .undef s'):AO P o ρ s R S:=by
 unfold stN at h; split at h
 ·
  split at h
  ·
   rename_i ag k hti; split at h
   ·
    split at h
    ·
     rename_i b0 off hx; split at h
     ·
      rename_i b' cs hi; split at h
      ·
       rename_i new hnew; cases hb:(new.all PV.one && Nat.beq new.length k) with
       | false=>rw [hb] at h; cases h
       | true=>
        rw [hb] at h; simp only [cond_true] at h; simp only [Bool.and_eq_true] at hb; split at h
        ·
         rename_i cs' hput; split at h
         ·
          rename_i s1 hset; simp only [Option.some.injEq,Prod.mk.injEq] at h; obtain ⟨rfl,rfl,rfl⟩:=h; exact AO.dD ho hx hi (Facts.TR hF.f hti) hnew hb.1 hb.2 hput hset hR
         · cases h
        · cases h
      · cases h
     · cases h
    · cases h
   · cases h
  · cases h
 · cases h
theorem JN {s:List aQ} {nm:Nm}:∀ {l:List Operand} {i b:Nat} {cs:List PV},Nn s nm l=some (i,b,cs)→s[i]?=some (.box b cs)
 | [],_,_,_,h=>by cases h
 | x :: xs,i,b,cs,h=>by
  unfold Nn at h; split at h
  ·
   split at h
   ·
    rename_i j _ b' cs' hi; simp only [Option.some.injEq,Prod.mk.injEq] at h; obtain ⟨rfl,rfl,rfl⟩:=h; exact hi
   · exact JN h
  · exact JN h
theorem PG [K:FA P] {c:Call} {x y:Operand} {t tx e sz bytes:Nat} {v:Value} {L M:List (List PV)} {s:List aQ} {i:Nat} {ρ:Operand→PV} {o:Oper} (ho:o.op=.call c) (gu:c.callee=.builtin .append) (ha:c.args.toList=[x,y]) (ht:c.argTypes.toList=[t,tx])
  (hx:ρ x=.own v L) (hy:(ρ y).els=some M) (hs:JB K.sf t=some (e,sz,bytes)) (htx:qF K.es tx=some sz) (hb:Nat.ble bytes 32768=true) (hi:s[i]?=some (.row v L.length sz e))
  {α:Type} {f:α→List PV} {l2 m2 r:List α} (h1:Ft.app l2 m2=some r) (h2:L=l2.map f) (h3:M=m2.map f) (h4:∀ x,(f x).length=sz) (h5:∀ x,(f x).all PV.one=true) {R S:PV→List aQ→Prop} (hR:∀ v2,R (.own v2 (r.map f)) (s.set i (.row v2 (r.map f).length sz e))):AO P o ρ s R S:=by
 have ha':c.args=#[x,y]:=by rw [←Array.toArray_toList (xs:=c.args),ha]
 have ht':c.argTypes=#[t,tx]:=by rw [←Array.toArray_toList (xs:=c.argTypes),ht]
 refine AO.wC h1 ho gu ha' ht' hx hy hi (oK (List.all_eq_true.1 K.sok _ (GK hs))) (FA.SE htx) h2 h3 rfl h4 h5 hb fun v2 s' hs'=>?_; have:s'=s.set i (.row v2 (r.map f).length sz e):=Hw hs'; rw [this]; exact hR v2
theorem JG [K:FA P] {op:Op} {s:List aQ} {nm:Nm} {ρ:Operand→PV} {dst:Option Nat} {k:PV→List aQ→Nm→Ms} {kp:PV→List aQ→Ms} {nd:Nd} {Q:Post} {Fin:dL→List aQ→Prop} {Gn:Bool→Env→List aQ→Prop}
  (hn:efN K.F K.es K.sf s nm ρ dst k kp op=some nd) (h:nd.ok P n Q Fin Gn):∀ o':Oper,o'.op=op→AO P o' ρ s (fun p s'=>∃ nm',(k p s' nm').st.ok P n Q) (fun p s'=>(kp p s').st.ok P n Q):=by
 intro o' ho; unfold efN at hn; split at hn
 ·
  rename_i t x y; split at hn
  ·
   rename_i b b' s' hst; simp only [Option.some.injEq] at hn; subst hn; obtain ⟨rfl,h⟩:=h; exact WE K.ok hst ho ⟨nm,h⟩
  · cases hn
 ·
  rename_i e; split at hn
  ·
   rename_i cs hz; simp only [Option.some.injEq] at hn; subst hn; exact AO.bW ho (CK K.ok.zp hz) fun b=>⟨_,h b⟩
  · cases hn
 ·
  rename_i x; split at hn
  ·
   rename_i t p hx; simp only [Option.some.injEq] at hn; subst hn; exact AO.aeZ ho hx h
  · cases hn
 ·
  rename_i c; split at hn
  ·
   rename_i gu; split at hn
   ·
    rename_i x y t tx ha ht; split at hn
    ·
     rename_i v L M e sz bytes sz2 hx hy hs htx; split at hn
     ·
      rename_i i _; split at hn
      ·
       rename_i v' m sz' e' hi; cases hb:(Nat.beq sz' sz && Nat.beq e' e && Nat.beq sz2 sz && Nat.ble bytes 32768) with
       | false=>rw [hb] at hn; cases hn
       | true=>
        rw [hb] at hn; simp only [cond_true,Option.some.injEq] at hn; subst hn; simp only [Bool.and_eq_true] at hb; obtain ⟨⟨⟨b1,b2⟩,b3⟩,b4⟩:=hb; have b1:=Nat.eq_of_beq_eq_true b1; have b2:=Nat.eq_of_beq_eq_true b2; have b3:=Nat.eq_of_beq_eq_true b3; subst b1 b2 b3; obtain ⟨rfl,rfl,α,f,l2,m2,r,h1,h2,h3,h4,h5,hk⟩:=h; exact PG ho gu ha ht hx hy hs htx b4 hi h1 h2 h3 h4 h5 fun v2=>⟨_,hk v2⟩
      · cases hn
     ·
      cases hb:(Nat.beq sz2 sz && Nat.ble bytes 32768) with
      | false=>rw [hb] at hn; cases hn
      | true=>
       rw [hb] at hn; simp only [cond_true,Option.some.injEq] at hn; subst hn; simp only [Bool.and_eq_true] at hb; have b1:=Nat.eq_of_beq_eq_true hb.1; subst b1; obtain ⟨rfl,hL,α,f,l2,m2,r,h1,h2,h3,h4,h5,hk⟩:=h; refine AO.row0 sz2 e (PG (i:=0) ho gu ha ht hx hy hs htx hb.2 (by rw [←hL]; rfl) h1 h2 h3 h4 h5 fun v2=>⟨_,hk v2⟩)
    · cases hn
   · cases hn
  ·
   rename_i Gf gu; split at hn
   ·
    rename_i f caps hf; split at hn
    ·
     rename_i i b cs hba; split at hn
     rotate_left
     · cases hn
     rename_i a ha; obtain rfl:=OV ha; simp only [Option.some.injEq] at hn; subst hn; obtain ⟨hp,o,cs',hc,hk⟩:=h; refine AO.call ho Gf gu hf hp (AC.one i (JN hba) (hc ⟨_,rfl,?_⟩)); cases o with
     | ret p=>exact ⟨_,hk⟩
     | panic p=>exact hk
    · cases hn
   · cases hn
  · cases hn
 · cases hn
theorem KV {F:FB} (hF:F.Ok P) {e:Env} {s:List aQ} {nm:Nm}:∀ {rs:List ResultVar} {A B:List Nat} {ps:List PV},Qe F e s nm rs=some (A,B,ps)→A=B→A8 P e s rs ps
 | [],A,B,ps,h,_=>by simp only [Qe,Option.some.injEq,Prod.mk.injEq] at h; exact h.2.2.symm
 | .tmp t :: rs,A,B,ps,h,hab=>by
  unfold Qe at h; split at h
  ·
   rename_i p hp; split at h
   ·
    rename_i A1 B1 qs hq; simp only [Option.some.injEq,Prod.mk.injEq] at h; obtain ⟨rfl,rfl,rfl⟩:=h; exact ⟨p,qs,rfl,hp,KV hF hq hab⟩
   · cases h
  · cases h
 | .cell a t :: rs,A,B,ps,h,hab=>by
  unfold Qe at h; split at h
  ·
   rename_i i hn; split at h
   ·
    rename_i b hb; split at h
    ·
     rename_i b' cs hi; split at h
     ·
      rename_i ag k ht; split at h
      ·
       rename_i p hp; split at h
       ·
        rename_i A1 B1 qs hq; simp only [Option.some.injEq,Prod.mk.injEq] at h; obtain ⟨rfl,rfl,rfl⟩:=h; simp only [List.cons.injEq] at hab; obtain ⟨rfl,hab⟩:=hab; exact ⟨p,qs,rfl,⟨b,cs,_,ag,k,hb,hi,Facts.TR hF.f ht,hp⟩,KV hF hq hab⟩
       · cases h
      · cases h
     · cases h
    · cases h
   · cases h
  · cases h
end
end Go.Abs
namespace Go.Abs
variable [fJ]
open Go Go.Ft
def toE (i:Nat) (nm:Nm):Nm:=nm.map fun x=>(x.1,bif Nat.beq x.2 i then 999 else bif Nat.blt i x.2 then x.2 - 1 else x.2)
def toT (nm:Nm):Nm:=nm.map fun x=>(x.1,bif Nat.beq x.2 999 then 0 else x.2 + 1000)
def frT (i:Nat) (nm:Nm):Nm:=nm.map fun x=>(x.1,bif Nat.beq x.2 0 then i else bif Nat.ble i (x.2 - 1000) then x.2 - 999 else x.2 - 1000)
def gOk (L:List Oper) (k0 k k2:Nat):Bool:=EC L k k2 && Nb L k k2 && MW L k0 k k2 && Nat.ble k0 k && Nat.ble k k2 && Nat.ble k2 L.length
def nx (F:FB) (es bs:List (Nat × Nat)) (sf:List (Nat × Nat × Nat × Nat)) (un:List (Nat × IntKind)) (ic bo:List Nat) (cf:Cf):Fm→Nat→S2→Nm→Nd
 | _,0,s,nm=>.st ⟨s,nm⟩
 | fm,f + 1,.w c k e s,nm=>match c with
  | .seq c d=>nx F es bs sf un ic bo cf fm f (.w c (.sq d :: k) e s) nm
  | .block id c=>nx F es bs sf un ic bo cf fm f (.w c (.bl id :: k) e s) nm
  | .region _ all false=>nx F es bs sf un ic bo cf fm f (.r all all.toList k e s) nm
  | .region id all true=>match qF cf.g id with
   | some (k0,k1,k2,j)=>.Zg (gOk all.toList k0 k1 k2 && (s[s.length - 1 - j]?).isSome) (nx F es bs sf un ic bo cf fm f (.v all (all.toList.take k0) (.g1 k ((all.toList.drop k0).take (k1 - k0)) ((all.toList.drop k1).take (k2 - k1)) (all.toList.drop k2) (s.length - 1 - j)) e s) nm)
   | none=>match qF cf.d id with
    | some k1=>.ord all.toList k1 (nx F es bs sf un ic bo cf fm f (.v all (all.toList.take k1) (.ar k (all.toList.drop k1)) e s) nm)
    | none=>.ord all.toList (KW all.toList) (nx F es bs sf un ic bo cf fm f (.v all (all.toList.take (KW all.toList)) (.ar k (all.toList.drop (KW all.toList))) e s) nm)
  | .skip=>nx F es bs sf un ic bo cf fm f (.x .normal k e s) nm
  | .label _=>nx F es bs sf un ic bo cf fm f (.x .normal k e s) nm
  | .exit id=>nx F es bs sf un ic bo cf fm f (.x (.exit id) k e s) nm
  | .ret=>nx F es bs sf un ic bo cf fm f (.x .ret k e s) nm
  | .cond c a b=>match e.ev c with
   | .bool v=>.cond v ⟨.w a k e s,nm⟩ ⟨.w b k e s,nm⟩
   | _=>.st ⟨.w (.cond c a b) k e s,nm⟩
  | .loop c=>.loop c k e s nm
  | c=>.st ⟨.w c k e s,nm⟩
 | fm,f + 1,.r all l k e s,nm=>match l with
  | []=>match fm,k with
   | .wF t ks _ _ _,[]=>match settle (t :: ks) e with
    | some ((t',.bool v) :: e')=>bif Nat.beq t' t then .Jy v e' s [] else .st ⟨.r all [] [] e s,nm⟩
    | _=>.st ⟨.r all [] [] e s,nm⟩
   | fm,k=>nx F es bs sf un ic bo cf fm f (.x .normal k e s) nm
  | o :: rest=>match o.dst with
   | none=>match o.guard with
    | none=>match efN F es sf s nm e.ev none (fun _ s' nm'=>⟨.r all rest k e s',nm'⟩) (fun p s'=>⟨.x (.panic p) k e s',nm⟩) o.op with
     | some nd=>nd
     | none=>.st ⟨.r all (o :: rest) k e s,nm⟩
    | some _=>.st ⟨.r all (o :: rest) k e s,nm⟩
   | some t=>bif Nat.blt t cf.n then (bif knows fm.kn all o.guard then (match oF all e o.guard with
     | some true=>match ldN F s nm e.ev o.op with
      | some (b,b',p)=>.same b b' ⟨.r all rest k ((t,p) :: e) s,nm⟩
      | none=>match efN F es sf s nm e.ev (some t) (fun p s' nm'=>⟨.r all rest k ((t,p) :: e) s',nm'⟩) (fun p s'=>⟨.x (.panic p) k e s',nm⟩) o.op with
       | some nd=>nd
       | none=>bif u8N e.ev o.op then opN F es bs un e.ev (fun p=>⟨.r all rest k ((t,p) :: e) s,nm⟩) (fun p=>⟨.x (.panic p) k e s,nm⟩) ⟨.r all (o :: rest) k e s,nm⟩ o.op
        else match opX F s e.ev [] [] [] o.op with
        | some (p,_,_,_)=>(match ae3 nm o.op with
         | some i=>nx F es bs sf un ic bo cf fm f (.r all rest k ((t,p) :: e) s) ((t,i) :: nm)
         | none=>nx F es bs sf un ic bo cf fm f (.r all rest k ((t,p) :: e) s) nm)
        | none=>match Zt F sf ic bo e.ev o.op with
         | some p=>nx F es bs sf un ic bo cf fm f (.r all rest k ((t,p) :: e) s) nm
         | none=>opN F es bs un e.ev (fun p=>⟨.r all rest k ((t,p) :: e) s,nm⟩) (fun p=>⟨.x (.panic p) k e s,nm⟩) ⟨.r all (o :: rest) k e s,nm⟩ o.op
     | some false=>nx F es bs sf un ic bo cf fm f (.r all rest k ((t,.val Go.undef) :: e) s) nm
     | none=>.st ⟨.r all (o :: rest) k e s,nm⟩)
    else match o.guard with
     | none=>.st ⟨.r all (o :: rest) k e s,nm⟩
     | some (j,w)=>match all[j]? with
      | none=>.st ⟨.r all (o :: rest) k e s,nm⟩
      | some oj=>match oj.dst with
       | none=>.st ⟨.r all (o :: rest) k e s,nm⟩
       | some g=>match e.get g,Qu g (o :: rest) with
        | .bool b,some (len,t')=>match settle (Bt e [g]) e with
         | some E=>match nx F es bs sf un ic bo cf (.wF t' (Bt e [g]) E s (g :: fm.kn)) f (.r all ((o :: rest).take len) [] ((g,.bool w) :: e) s) nm,nx F es bs sf un ic bo cf (.wF t' (Bt e [g]) E s (g :: fm.kn)) f (.r all ((o :: rest).take len) [] ((g,.bool (!w)) :: e) s) nm,w with
          | .Jy x e1 r1 c1,.Jy false e2 r2 c2,true=>(nx F es bs sf un ic bo cf fm f (.r all ((o :: rest).drop len) k ((t',.bool (b && x)) :: E) s) nm).Vf (((e1,r1),(E,s)) :: ((e2,r2),(E,s)) :: (c1 ++ c2))
          | .Jy x e1 r1 c1,.Jy true e2 r2 c2,false=>(nx F es bs sf un ic bo cf fm f (.r all ((o :: rest).drop len) k ((t',.bool (b || x)) :: E) s) nm).Vf (((e1,r1),(E,s)) :: ((e2,r2),(E,s)) :: (c1 ++ c2))
          | _,_,_=>.join b w t' E s (Bt e [g]) (g :: fm.kn) ⟨.r all ((o :: rest).take len) [] ((g,.bool w) :: e) s,nm⟩ ⟨.r all ((o :: rest).take len) [] ((g,.bool (!w)) :: e) s,nm⟩ (fun x=>⟨.r all ((o :: rest).drop len) k ((t',.bool x) :: E) s,nm⟩)
         | none=>.st ⟨.r all (o :: rest) k e s,nm⟩
        | _,_=>match oF all e o.guard with
         | some false=>nx F es bs sf un ic bo cf fm f (.r all rest k ((t,.val Go.undef) :: e) s) nm
         | _=>.st ⟨.r all (o :: rest) k e s,nm⟩) else .st ⟨.r all (o :: rest) k e s,nm⟩
 | fm,f + 1,.x ax k e s,nm=>match k with
  | []=>match fm,ax with
   | .body rs,.ret=>match Qe F e s nm rs with
    | some (A,B,ps)=>.ret A B (jW (ps.map PV.weak)) s
    | none=>.st ⟨.x .ret [] e s,nm⟩
   | .body rs,.normal=>match Qe F e s nm rs with
    | some (A,B,ps)=>.ret A B (jW (ps.map PV.weak)) s
    | none=>.st ⟨.x .normal [] e s,nm⟩
   | .body _,.panic p=>.pan p s
   | _,ax=>.st ⟨.x ax [] e s,nm⟩
  | .sq d :: k=>match ax with
   | .normal=>nx F es bs sf un ic bo cf fm f (.w d k e s) nm
   | ax=>nx F es bs sf un ic bo cf fm f (.x ax k e s) nm
  | .bl id :: k=>match ax with
   | .exit i=>bif Nat.beq i id then nx F es bs sf un ic bo cf fm f (.x .normal k e s) nm else nx F es bs sf un ic bo cf fm f (.x (.exit i) k e s) nm
   | ax=>nx F es bs sf un ic bo cf fm f (.x ax k e s) nm
  | .lp R :: k=>match ax with
   | .normal=>.again R e s
   | ax=>nx F es bs sf un ic bo cf fm f (.x ax k e s) nm
 | fm,f + 1,.v all l kt e s,nm=>match l with
  | []=>match kt with
   | .ar k rest=>nx F es bs sf un ic bo cf fm f (.r all rest k e s) nm
   | .g1 k l2 l3 rest i=>match s[i]? with
    | some r=>nx F es bs sf un ic bo cf fm f (.v all l2 (.g2 k l3 rest s i r) e (s.eraseIdx i)) (toE (s.length - 1 - i) nm)
    | none=>.st ⟨.v all [] (.g1 k l2 l3 rest i) e s,nm⟩
   | .g2 k l3 rest s0 i r=>nx F es bs sf un ic bo cf fm f (.t all l3 k rest s0 i e [r]) (toT nm)
   | .wF=>match fm with
    | .wF t ks _ _ _=>match settle (t :: ks) e with
     | some ((t',.bool v) :: e')=>bif Nat.beq t' t then .Jy v e' s [] else .st ⟨.v all [] .wF e s,nm⟩
     | _=>.st ⟨.v all [] .wF e s,nm⟩
    | _=>.st ⟨.v all [] .wF e s,nm⟩
  | o :: rest=>match o.dst with
   | none=>.st ⟨.v all (o :: rest) kt e s,nm⟩
   | some t=>bif Nat.blt t cf.n then (bif knows fm.kn all o.guard then (match oF all e o.guard with
     | some true=>match ldN F s nm e.ev o.op with
      | some (b,b',p)=>.same b b' ⟨.v all rest kt ((t,p) :: e) s,nm⟩
      | none=>bif u8N e.ev o.op then opN F es bs un e.ev (fun p=>⟨.v all rest kt ((t,p) :: e) s,nm⟩) (fun _=>⟨.v all (o :: rest) kt e s,nm⟩) ⟨.v all (o :: rest) kt e s,nm⟩ o.op
        else match opX F s e.ev [] [] [] o.op with
        | some (p,_,_,_)=>(match ae3 nm o.op with
         | some i=>nx F es bs sf un ic bo cf fm f (.v all rest kt ((t,p) :: e) s) ((t,i) :: nm)
         | none=>nx F es bs sf un ic bo cf fm f (.v all rest kt ((t,p) :: e) s) nm)
        | none=>match Zt F sf ic bo e.ev o.op with
         | some p=>nx F es bs sf un ic bo cf fm f (.v all rest kt ((t,p) :: e) s) nm
         | none=>opN F es bs un e.ev (fun p=>⟨.v all rest kt ((t,p) :: e) s,nm⟩) (fun _=>⟨.v all (o :: rest) kt e s,nm⟩) ⟨.v all (o :: rest) kt e s,nm⟩ o.op
     | some false=>nx F es bs sf un ic bo cf fm f (.v all rest kt ((t,.val Go.undef) :: e) s) nm
     | none=>.st ⟨.v all (o :: rest) kt e s,nm⟩)
    else match o.guard with
     | none=>.st ⟨.v all (o :: rest) kt e s,nm⟩
     | some (j,w)=>match all[j]? with
      | none=>.st ⟨.v all (o :: rest) kt e s,nm⟩
      | some oj=>match oj.dst with
       | none=>.st ⟨.v all (o :: rest) kt e s,nm⟩
       | some g=>match e.get g,Qu g (o :: rest) with
        | .bool b,some (len,t')=>match settle (Bt e [g]) e with
         | some E=>.join b w t' E s (Bt e [g]) (g :: fm.kn) ⟨.v all ((o :: rest).take len) .wF ((g,.bool w) :: e) s,nm⟩ ⟨.v all ((o :: rest).take len) .wF ((g,.bool (!w)) :: e) s,nm⟩ (fun x=>⟨.v all ((o :: rest).drop len) kt ((t',.bool x) :: E) s,nm⟩)
         | none=>.st ⟨.v all (o :: rest) kt e s,nm⟩
        | _,_=>match oF all e o.guard with
         | some false=>nx F es bs sf un ic bo cf fm f (.v all rest kt ((t,.val Go.undef) :: e) s) nm
         | _=>.st ⟨.v all (o :: rest) kt e s,nm⟩) else .st ⟨.v all (o :: rest) kt e s,nm⟩
 | fm,f + 1,.t all l k rest s0 i e s,nm=>match l with
  | []=>match s with
   | [r]=>nx F es bs sf un ic bo cf fm f (.r all rest k e (s0.set i r)) (frT (s0.length - 1 - i) nm)
   | _=>.st ⟨.t all [] k rest s0 i e s,nm⟩
  | o :: l'=>match o.guard with
   | some _=>.st ⟨.t all (o :: l') k rest s0 i e s,nm⟩
   | none=>bif (match o.dst with | some t=>Nat.blt t cf.n | none=>true) then (match ldN F s nm e.ev o.op with
    | some (b,b',p)=>.same b b' ⟨.t all l' k rest s0 i (BM o.dst p e) s,nm⟩
    | none=>match efN F es sf s nm e.ev o.dst (fun p s' nm'=>⟨.t all l' k rest s0 i (BM o.dst p e) s',nm'⟩) (fun p s'=>⟨.x (.panic p) k [] (s0.eraseIdx i ++ s'),nm⟩) o.op with
     | some nd=>nd
     | none=>match opX F s e.ev [] [] [] o.op with
      | some (p,_,_,_)=>(match ae3 nm o.op,o.dst with
       | some j,some t=>nx F es bs sf un ic bo cf fm f (.t all l' k rest s0 i (BM o.dst p e) s) ((t,j) :: nm)
       | _,_=>nx F es bs sf un ic bo cf fm f (.t all l' k rest s0 i (BM o.dst p e) s) nm)
      | none=>match Zt F sf ic bo e.ev o.op with
       | some p=>nx F es bs sf un ic bo cf fm f (.t all l' k rest s0 i (BM o.dst p e) s) nm
       | none=>opN F es bs un e.ev (fun p=>⟨.t all l' k rest s0 i (BM o.dst p e) s,nm⟩) (fun p=>⟨.x (.panic p) k [] (s0.eraseIdx i ++ s),nm⟩) ⟨.t all (o :: l') k rest s0 i e s,nm⟩ o.op) else .st ⟨.t all (o :: l') k rest s0 i e s,nm⟩
section
variable {P : Program} {cf : Cf}
theorem AR.agU {n:Nat} {all:Array Oper} {l:List Oper} {e:Env} {σ τ:List aQ} {ds:List Deferred} {Q:Post} (hp:τ.Perm σ) (h:AR P n all l e σ ds Q):AR P n all l e τ ds Q:=
 fun w m a QC hs ha=>h w m a QC ⟨hs.size,hs.ds,hs.env,hs.gX.perm hp⟩ (ha.step ((Trans.refl w m τ).perm (.refl _) hp))
theorem P7 {n:Nat} {Q:Post} {σ1:List aQ} {K:Env→List aQ→Prop} {o:Oper} {r:List Oper} {e:Env} {σ2:List aQ} (hg:o.guard=none) (ht:(match o.dst with | some t=>Nat.blt t n | none=>true)=true)
  (h:AO P o e.ev σ2 (fun p s=>TF P n [] Q σ1 r (BM o.dst p e) s K) (fun p s=>Q (.panic p) [] (σ1 ++ s) [])):TF P n [] Q σ1 (o :: r) e σ2 K:=by
 refine ⟨hg,fun t hd=>?_,e,Less.refl e,h⟩; rw [hd] at ht; exact Nat.le_of_ble_eq_true ht
theorem Tj {n:Nat} {all:Array Oper} {rest:List Oper} {o:Oper} {t:Nat} {e:Env} {σ:List aQ} {Q:Post} (hd:o.dst=some t) (ht:Nat.blt t n=true) (hg:oF all e o.guard=some false) (h:AR P n all rest ((t,.val Go.undef) :: e) σ [] Q):AR P n all (o :: rest) e σ [] Q:=by
 cases hgo:o.guard with
 | none=>rw [hgo] at hg; cases hg
 | some jw=>
  obtain ⟨j,want⟩:=jw; rw [hgo] at hg; obtain ⟨oj,u,h1,h2,h3⟩:=jY hg; rcases h3 with ⟨h3,_⟩ | ⟨_,h3 | h3⟩
  · cases h3
  · exact AR.skip hgo h1 h2 h3 hd ht rfl h
  · exact AR.OZ hgo h1 h2 h3 hd ht h
theorem SC {n:Nat} {all:Array Oper} {rest:List Oper} {o:Oper} {t:Nat} {e:Env} {σ:List aQ} {K:Env→Prop} (hd:o.dst=some t) (ht:Nat.blt t n=true) (hg:oF all e o.guard=some false) (h:Ev P n all σ ((t,.val Go.undef) :: e) rest K):Ev P n all σ e (o :: rest) K:=by
 cases hgo:o.guard with
 | none=>rw [hgo] at hg; cases hg
 | some jw=>
  obtain ⟨j,want⟩:=jw; rw [hgo] at hg; obtain ⟨oj,u,h1,h2,h3⟩:=jY hg; rcases h3 with ⟨h3,_⟩ | ⟨_,h3 | h3⟩
  · cases h3
  · exact Ev.skip hgo h1 h2 h3 hd ht rfl h
  · exact Ev.OZ hgo h1 h2 h3 hd ht h
theorem TF.Kr {n:Nat} {ds:List Deferred} {Q:Post} {σ1:List aQ} {K K':Env→List aQ→Prop} (hK:∀ e s,K e s→K' e s):∀ {l:List Oper} {e:Env} {σ2:List aQ},TF P n ds Q σ1 l e σ2 K→TF P n ds Q σ1 l e σ2 K'
 | [],_,_,h=>hK _ _ h
 | _ :: _,_,_,⟨h1,h2,e2,h3,h4⟩=>⟨h1,h2,e2,h3,AO.Jq h4 (fun _ _ h=>TF.Kr hK h) fun _ _ h=>h⟩
theorem dW [K:FA P]:∀ (f:Nat) (fm:Fm) (st:S2) (nm:Nm) (Q:Post) (Fin:dL→List aQ→Prop) (Gn:Bool→Env→List aQ→Prop),fm.fits K.F Q Fin Gn→(nx K.F K.es K.bs K.sf K.un K.ic K.bo cf fm f st nm).ok P cf.n Q Fin Gn→st.ok P cf.n Q
 | 0,fm,st,nm,Q,Fin,Gn,_,h=>h
 | f + 1,fm,.w c k e s,nm,Q,Fin,Gn,hm,h=>by
  cases c with
  | seq c d=>exact AW.seq (dW f _ _ _ Q Fin Gn hm h)
  | block id c=>exact AW.block (dW f _ _ _ Q Fin Gn hm h)
  | region id all g=>
   cases g with
   | false=>
    have ih:=dW f _ _ _ Q Fin Gn hm h; have:AW P cf.n (.region id all.toList.toArray false) e s [] (den P cf.n k Q):=AW.region (by simpa only [S2.ok,Array.toArray_toList] using ih); simpa only [S2.ok,Array.toArray_toList] using this
   | true=>
    have dr:∀ kk,(Nd.ord all.toList kk (nx K.F K.es K.bs K.sf K.un K.ic K.bo cf fm f (.v all (all.toList.take kk) (.ar k (all.toList.drop kk)) e s) nm)).ok P cf.n Q Fin Gn→AW P cf.n (.region id all true) e s [] (den P cf.n k Q):=fun kk h=>by
     obtain ⟨ho,h⟩:=h; simp only [Bool.and_eq_true] at ho; have ih:=dW f _ _ _ Q Fin Gn hm h; have:AW P cf.n (.region id all.toList.toArray true) e s [] (den P cf.n k Q):=AW.draw kk K.mix ho.1 ho.2 (by rw [Array.toArray_toList]; exact ih); simpa only [Array.toArray_toList] using this
    simp only [nx] at h; split at h
    ·
     rename_i k0 k1 k2 j _; obtain ⟨ho,h⟩:=h; simp only [gOk,Bool.and_eq_true] at ho; obtain ⟨⟨⟨⟨⟨⟨b1,b2⟩,b3⟩,b4⟩,b5⟩,b6⟩,b7⟩:=ho; have ih:=dW f _ _ _ Q Fin Gn hm h; generalize s.length - 1 - j=i at ih b7; obtain ⟨r,hr⟩:=Option.isSome_iff_exists.1 b7
     ·
      have:AW P cf.n (.region id all.toList.toArray true) e s [] (den P cf.n k Q):=by
       refine AW.adB k0 k1 k2 i K.mix b1 b2 b3 b4 b5 b6 hr ?_; rw [Array.toArray_toList]; refine Ev.Kr (fun e1 he1=>?_) ih; obtain ⟨r',hr',he1⟩:=he1; obtain rfl:r=r':=Option.some.inj (hr.symm.trans hr'); refine Ev.Kr (fun e2 he2=>?_) he1; refine TF.Kr (fun e3 s3 he3=>?_) he2; obtain ⟨r3,rfl,he3⟩:=he3; refine AR.agU ?_ he3
       have hi':i < s.length:=by
        rcases Nat.lt_or_ge i s.length with h' | h'
        · exact h'
        · rw [List.getElem?_eq_none h'] at hr; cases hr
       have:=Kj (σ:=s.set i r3) (i:=i) (r:=r3) (by simp [hi']); rw [List.eraseIdx_set_eq] at this; exact this.symm
      simpa only [S2.ok,Array.toArray_toList] using this
    ·
     split at h
     · exact dr _ h
     · exact dr _ h
  | skip=>exact AW.skip (dW f _ _ _ Q Fin Gn hm h)
  | label l=>exact AW.label (dW f _ _ _ Q Fin Gn hm h)
  | exit id=>exact AW.exit (dW f _ _ _ Q Fin Gn hm h)
  | ret=>exact AW.ret (dW f _ _ _ Q Fin Gn hm h)
  | loop c=>exact h
  | cond c a b=>
   simp only [nx] at h; split at h
   ·
    rename_i v hc; exact AW.cond hc (fun hv=>h.1 hv) (fun hv=>h.2 hv)
   · exact h
  | _=>exact h
 | f + 1,fm,.r all l k e s,nm,Q,Fin,Gn,hm,h=>by
  cases l with
  | nil=>
   simp only [nx] at h; split at h
   ·
    rename_i t ks E S kn; split at h
    ·
     rename_i t' v e' hs; cases ht:Nat.beq t' t with
     | false=>rw [ht] at h; exact h
     | true=>
      rw [ht] at h; have:=Nat.eq_of_beq_eq_true ht; subst this; exact AR.nil (t' :: ks) hs (hm _ _ _ h.2)
    · exact h
   · exact AR.nil' (dW f _ _ _ Q Fin Gn hm h)
  | cons o rest=>
   simp only [nx] at h; cases hd:o.dst with
   | none=>
    rw [hd] at h; simp only at h; cases hgo:o.guard with
    | some x=>rw [hgo] at h; exact h
    | none=>
     rw [hgo] at h; simp only at h; split at h
     ·
      rename_i nd hnd; exact AR.bR hgo hd (AO.Jq (JG hnd h o rfl) (fun p s' ⟨_,hk⟩=>hk) (fun p s' hk=>hk))
     · exact h
   | some t=>
    rw [hd] at h; simp only at h; cases ht:Nat.blt t cf.n with
    | false=>rw [ht] at h; exact h
    | true=>
     rw [ht] at h; simp only [cond_true] at h; cases hkn:knows fm.kn all o.guard with
     | true=>
      rw [hkn] at h; simp only [cond_true] at h; split at h
      ·
       rename_i hg; have R7:∀ {p:PV},(AR P cf.n all rest ((t,p) :: e) s [] (den P cf.n k Q))→(∀ o':Oper,o'.op=o.op→∀ {R S:PV→List aQ→Prop},R p s→AO P o' e.ev s R S)→AR P cf.n all (o :: rest) e s [] (den P cf.n k Q):=fun h1 h2=>stepG hd ht hg fun o' ho=>h2 o' ho h1
       have opn:(opN K.F K.es K.bs K.un e.ev (fun p=>⟨.r all rest k ((t,p) :: e) s,nm⟩) (fun p=>⟨.x (.panic p) k e s,nm⟩) ⟨.r all (o :: rest) k e s,nm⟩ o.op).ok P cf.n Q Fin Gn→AR P cf.n all (o :: rest) e s [] (den P cf.n k Q):=fun h=>by
        rcases Jo (σ:=s) h with h1 | ⟨p,hp,h1⟩ | ⟨p,hp,h1⟩
        · exact h1
        · exact R7 hp h1
        · exact stepG hd ht hg fun o' ho=>h1 o' ho hp
       split at h
       ·
        rename_i b b' p hld; obtain ⟨rfl,h⟩:=h; exact R7 h fun o' ho {R S} hR=>Jr K.ok hld ho hR
       ·
        split at h
        ·
         rename_i nd hnd; exact stepG hd ht hg fun o' ho=>AO.Jq (JG hnd h o' ho) (fun p s' ⟨_,hk⟩=>hk) (fun p s' hk=>hk)
        ·
         cases hu:u8N e.ev o.op with
         | true=>
          rw [hu] at h; exact opn h
         | false=>
          rw [hu] at h; simp only [cond_false] at h; split at h
          ·
           rename_i p ix A B hp; have hab:=Qo hp; split at h
           · exact R7 (dW f _ _ _ Q Fin Gn hm h) fun o' ho {R S} hR=>(uQ (o:=o') K.ok (by rw [ho]; exact hp)).2 hab hR
           · exact R7 (dW f _ _ _ Q Fin Gn hm h) fun o' ho {R S} hR=>(uQ (o:=o') K.ok (by rw [ho]; exact hp)).2 hab hR
          ·
           split at h
           ·
            rename_i p hp; exact R7 (dW f _ _ _ Q Fin Gn hm h) fun o' ho {R S} hR=>GI K.ok hp ho hR
           · exact opn h
      ·
       rename_i hg; exact Tj hd ht hg (dW f _ _ _ Q Fin Gn hm h)
      · exact h
     | false=>
      rw [hkn] at h; simp only [cond_false] at h; split at h
      · exact h
      ·
       rename_i j w hgo; split at h
       · exact h
       ·
        split at h
        · exact h
        ·
         rename_i g hgd; split at h
         ·
          rename_i b len t' hb hlen; split at h
          ·
           rename_i E hE
           have key:∀ (v:Bool) (x:Bool) (e1:Env) (r1:List aQ) (cs:List ((Env × List aQ) × (Env × List aQ))),nx K.F K.es K.bs K.sf K.un K.ic K.bo cf (.wF t' (Bt e [g]) E s (g :: fm.kn)) f (.r all ((o :: rest).take len) [] ((g,.bool v) :: e) s) nm=.Jy x e1 r1 cs→(∀ c∈cs,c.1=c.2)→(e1,r1)=(E,s)→S2.ok P cf.n (Gd t' E s x) (.r all ((o :: rest).take len) [] ((g,.bool v) :: e) s):=by
            intro v x e1 r1 cs hn hc he; exact dW f (.wF t' (Bt e [g]) E s (g :: fm.kn)) _ nm _ (fun _ _=>False) (fun v e' s'=>v=x∧e'=E∧s'=s) (by intro v e' s' hv; obtain ⟨rfl,rfl,rfl⟩:=hv; exact ⟨rfl,rfl,rfl,rfl⟩) (by rw [hn]; exact ⟨hc,rfl,(Prod.mk.inj he).1,(Prod.mk.inj he).2⟩)
           split at h
           ·
            rename_i x e1 r1 c1 e2 r2 c2 hn1 hn2; obtain ⟨hc,h⟩:=Nd.Rm h; have ih:=dW f _ _ _ Q Fin Gn hm h; refine AR.join len g t' true (Bt e [g]) (x:=x) (y:=false) hb hE (fun hbw=>AR.is g hbw hb (key _ _ _ _ _ hn1 (fun c hm=>hc c (by simp [hm])) (hc ((e1,r1),(E,s)) (by simp)))) (fun hbw=>AR.is g hbw hb (key _ _ _ _ _ hn2 (fun c hm=>hc c (by simp [hm])) (hc ((e2,r2),(E,s)) (by simp)))) ?_; have:(bif b == true then x else false)=(b && x):=by cases b <;> rfl
            rw [this]; exact ih
           ·
            rename_i x e1 r1 c1 e2 r2 c2 hn1 hn2; obtain ⟨hc,h⟩:=Nd.Rm h; have ih:=dW f _ _ _ Q Fin Gn hm h; refine AR.join len g t' false (Bt e [g]) (x:=x) (y:=true) hb hE (fun hbw=>AR.is g hbw hb (key _ _ _ _ _ hn1 (fun c hm=>hc c (by simp [hm])) (hc ((e1,r1),(E,s)) (by simp)))) (fun hbw=>AR.is g hbw hb (key _ _ _ _ _ hn2 (fun c hm=>hc c (by simp [hm])) (hc ((e2,r2),(E,s)) (by simp)))) ?_; have:(bif b == false then x else true)=(b || x):=by cases b <;> rfl
            rw [this]; exact ih
           ·
            obtain ⟨x,h1,h2,h3⟩:=h; exact AR.rF len g t' _ (Bt e [g]) x hb hE (fun hbw=>AR.is g hbw hb (h1 hbw)) (fun hbw=>AR.is g hbw hb (h2 hbw)) h3
          · exact h
         ·
          split at h
          ·
           rename_i hg; rw [hgo] at hg; exact Tj hd ht (by rw [hgo]; exact hg) (dW f _ _ _ Q Fin Gn hm h)
          · exact h
 | f + 1,fm,.x ax k e s,nm,Q,Fin,Gn,hm,h=>by
  cases k with
  | nil=>
   simp only [nx] at h; split at h
   ·
    split at h
    ·
     rename_i A B ps hps; obtain ⟨rfl,h⟩:=h; exact (hm.1 _ _ _ _ _ hps h).1
    · exact h
   ·
    split at h
    ·
     rename_i A B ps hps; obtain ⟨rfl,h⟩:=h; exact (hm.1 _ _ _ _ _ hps h).2
    · exact h
   · exact hm.2 _ _ _ h
   · exact h
  | cons fr k=>
   cases fr with
   | sq d=>cases ax <;> (simp only [nx] at h; have ih:=dW f _ _ _ Q Fin Gn hm h; exact ih)
   | bl id=>
    cases ax with
    | exit i=>
     simp only [nx] at h; simp only [S2.ok,den,AX.inBlock]; cases eb:Nat.beq i id with
     | false=>rw [eb] at h; have ih:=dW f _ _ _ Q Fin Gn hm h; exact ih
     | true=>rw [eb] at h; have ih:=dW f _ _ _ Q Fin Gn hm h; exact ih
    | _=>simp only [nx] at h; have ih:=dW f _ _ _ Q Fin Gn hm h; exact ih
   | lp R=>
    cases ax with
    | normal=>exact h
    | _=>simp only [nx] at h; have ih:=dW f _ _ _ Q Fin Gn hm h; exact ih
 | f + 1,fm,.v all l kt e s,nm,Q,Fin,Gn,hm,h=>by
  cases l with
  | nil=>
   simp only [nx] at h; split at h
   ·
    have ih:=dW f _ _ _ Q Fin Gn hm h; exact ih
   ·
    split at h
    ·
     rename_i r hr; have ih:=dW f _ _ _ Q Fin Gn hm h; exact ⟨r,hr,ih⟩
    · exact h
   ·
    have ih:=dW f _ _ _ Q Fin Gn hm h; exact ih
   ·
    split at h
    ·
     rename_i t ks E S kn; split at h
     ·
      rename_i t' v e' hs; cases ht:Nat.beq t' t with
      | false=>rw [ht] at h; exact h
      | true=>
       rw [ht] at h; have:=Nat.eq_of_beq_eq_true ht; subst this; have:∃ e',Less e' e∧Q .normal e' s []:=⟨_,Less.settle hs,hm _ _ _ h.2⟩; exact this
     · exact h
    · exact h
  | cons o rest=>
   simp only [nx] at h; cases hd:o.dst with
   | none=>rw [hd] at h; exact h
   | some t=>
    rw [hd] at h; simp only at h; cases ht:Nat.blt t cf.n with
    | false=>rw [ht] at h; exact h
    | true=>
     rw [ht] at h; simp only [cond_true] at h; cases hkn:knows fm.kn all o.guard with
     | true=>
      rw [hkn] at h; simp only [cond_true] at h; split at h
      ·
       rename_i hg; have R7:∀ {p:PV},(S2.v all rest kt ((t,p) :: e) s).ok P cf.n Q→(∀ o':Oper,o'.op=o.op→∀ {R S:PV→List aQ→Prop},R p s→AO P o' e.ev s R S)→(S2.v all (o :: rest) kt e s).ok P cf.n Q:=fun h1 h2=>agu hd ht hg (fun o' ho=>h2 o' ho ⟨rfl,rfl⟩) h1
       have opn:(opN K.F K.es K.bs K.un e.ev (fun p=>⟨.v all rest kt ((t,p) :: e) s,nm⟩) (fun _=>⟨.v all (o :: rest) kt e s,nm⟩) ⟨.v all (o :: rest) kt e s,nm⟩ o.op).ok P cf.n Q Fin Gn→(S2.v all (o :: rest) kt e s).ok P cf.n Q:=fun h=>by
        rcases Jo (σ:=s) h with h1 | ⟨p,hp,h1⟩ | ⟨p,hp,h1⟩
        · exact h1
        · exact R7 hp h1
        · exact hp
       split at h
       ·
        rename_i b b' p hld; obtain ⟨rfl,h⟩:=h; exact R7 h fun o' ho {R S} hR=>Jr K.ok hld ho hR
       ·
        cases hu:u8N e.ev o.op with
        | true=>
         rw [hu] at h; exact opn h
        | false=>
         rw [hu] at h; simp only [cond_false] at h; split at h
         ·
          rename_i p ix A B hp; have hab:=Qo hp; split at h
          · exact R7 (dW f _ _ _ Q Fin Gn hm h) fun o' ho {R S} hR=>(uQ (o:=o') K.ok (by rw [ho]; exact hp)).2 hab hR
          · exact R7 (dW f _ _ _ Q Fin Gn hm h) fun o' ho {R S} hR=>(uQ (o:=o') K.ok (by rw [ho]; exact hp)).2 hab hR
         ·
          split at h
          ·
           rename_i p hp; exact R7 (dW f _ _ _ Q Fin Gn hm h) fun o' ho {R S} hR=>GI K.ok hp ho hR
          · exact opn h
      ·
       rename_i hg; exact SC hd ht hg (dW f _ (.v all rest kt _ s) _ Q Fin Gn hm h)
      · exact h
     | false=>
      rw [hkn] at h; simp only [cond_false] at h; split at h
      · exact h
      ·
       rename_i j w hgo; split at h
       · exact h
       ·
        split at h
        · exact h
        ·
         rename_i g hgd; split at h
         ·
          rename_i b len t' hb hlen; split at h
          ·
           rename_i E hE; obtain ⟨x,h1,h2,h3⟩:=h
           have cv:∀ {u:Bool},(S2.v all ((o :: rest).take len) .wF ((g,.bool u) :: e) s).ok P cf.n (Gd t' E s x)→Ev P cf.n all s ((g,.bool u) :: e) ((o :: rest).take len) (fun e=>Less ((t',.bool x) :: E) e):=by
            intro u hh; refine Ev.Kr (fun e' he=>?_) hh; obtain ⟨e2,hl,_,he2,_⟩:=he; rw [he2] at hl; exact hl
           exact Ev.rF KT.less len g t' _ (Bt e [g]) (.bool x) hb hE (fun hbw=>Ev.is hKL g hbw hb (cv (h1 hbw))) (fun hbw=>Ev.is hKL g hbw hb (cv (h2 hbw))) h3
          · exact h
         ·
          split at h
          ·
           rename_i hg; rw [hgo] at hg; exact SC hd ht (by rw [hgo]; exact hg) (dW f _ (.v all rest kt _ s) _ Q Fin Gn hm h)
          · exact h
 | f + 1,fm,.t all l k rest s0 i e s,nm,Q,Fin,Gn,hm,h=>by
  cases l with
  | nil=>
   simp only [nx] at h; split at h
   ·
    rename_i r; exact ⟨r,rfl,dW f _ _ _ Q Fin Gn hm h⟩
   · exact h
  | cons o l'=>
   simp only [nx] at h; cases hgo:o.guard with
   | some x=>rw [hgo] at h; exact h
   | none=>
    rw [hgo] at h; simp only at h; cases ht:(match o.dst with | some t=>Nat.blt t cf.n | none=>true) with
    | false=>rw [ht] at h; exact h
    | true=>
     rw [ht] at h; simp only [cond_true] at h; have R7:∀ {p:PV},(S2.t all l' k rest s0 i (BM o.dst p e) s).ok P cf.n Q→(∀ o':Oper,o'.op=o.op→∀ {R S:PV→List aQ→Prop},R p s→AO P o' e.ev s R S)→(S2.t all (o :: l') k rest s0 i e s).ok P cf.n Q:=fun h1 h2=>P7 hgo ht (h2 o rfl h1); split at h
     ·
      rename_i b b' p hld; obtain ⟨rfl,h⟩:=h; exact R7 h fun o' ho {R S} hR=>Jr K.ok hld ho hR
     ·
      split at h
      ·
       rename_i nd hnd; exact P7 hgo ht (AO.Jq (JG hnd h o rfl) (fun p s' ⟨_,hk⟩=>hk) (fun p s' hk=>hk))
      ·
       split at h
       ·
        rename_i p ix A B hp; have hab:=Qo hp; split at h
        · exact R7 (dW f _ (.t all l' k rest s0 i _ s) _ Q Fin Gn hm h) fun o' ho {R S} hR=>(uQ (o:=o') K.ok (by rw [ho]; exact hp)).2 hab hR
        · exact R7 (dW f _ (.t all l' k rest s0 i _ s) _ Q Fin Gn hm h) fun o' ho {R S} hR=>(uQ (o:=o') K.ok (by rw [ho]; exact hp)).2 hab hR
       ·
        split at h
        ·
         rename_i p hp; exact R7 (dW f _ (.t all l' k rest s0 i _ s) _ Q Fin Gn hm h) fun o' ho {R S} hR=>GI K.ok hp ho hR
        ·
         rcases Jo (σ:=s) h with h1 | ⟨p,hp,h1⟩ | ⟨p,hp,h1⟩
         · exact h1
         · exact R7 hp h1
         · exact P7 hgo ht (h1 o rfl hp)
end
end Go.Abs
namespace Go.Abs
variable [fJ]
open Go Go.Ft
def wkE (ap:List Nat) (e:Env):Env:=e.map fun x=>(x.1,bif qz ap x.1 then x.2 else x.2.weak)
def wkC (ks:List Nat):Nat→List PV→List PV
 | _,[]=>[]
 | i,c :: cs=>(bif qz ks i then c else c.xq) :: wkC ks (i + 1) cs
def wkR (ks:List Nat):aQ→aQ
 | .box b cs=>.box b (wkC ks 0 cs)
 | r=>r
def Lh (kb:List (Nat × List Nat)):List aQ→List aQ
 | []=>[]
 | r :: s=>wkR ((qF kb s.length).getD []) r :: Lh kb s
def GN (k:Nat) (s:List aQ):List aQ:=s.drop (s.length - k)
def Oh :List (Nat × Nat × Nat)→List aQ→List aQ
 | [],s=>s
 | (_,sz,e) :: r,s=>Oh r (.row (.slice none 0 0) 0 sz e :: s)
def nmR :List (Nat × Nat × Nat)→Nat→Nm→Nm
 | [],_,nm=>nm
 | (t,_,_) :: r,k,nm=>nmR r (k + 1) ((t,k) :: nm)
section
variable {P : Program} {n : Nat} {env : Env} {σ : List aQ} {ds : List Deferred} {Q : Post}
theorem VN (ap:List Nat):∀ (e:Env) (t:Nat),(wkE ap e).get t=e.get t∨(wkE ap e).get t=(e.get t).weak
 | [],t=>.inl rfl
 | (u,p) :: e,t=>by
  simp only [wkE,List.map_cons,Env.get]; cases Nat.beq u t with
  | true=>cases qz ap u <;> simp
  | false=>exact VN ap e t
theorem aW.wkC {w:World} {m:iY} (ks:List Nat):∀ {cs:List PV} {vs:List Value} (i:Nat),aW w m cs vs→aW w m (wkC ks i cs) vs
 | [],_,_,h=>h
 | c :: cs,_,i,h=>by
  simp only [aW] at h; obtain ⟨v,vs',rfl,h1,h2⟩:=h; refine aW.cons ?_ (aW.wkC ks (i + 1) h2); cases qz ks i
  · exact h1.xq
  · exact h1
theorem Vz {kb:List (Nat × List Nat)} {r:aQ}:∀ {s:List aQ},r∈Lh kb s→∃ r0∈s,∃ ks,r=wkR ks r0
 | [],h=>by cases h
 | r1 :: s,h=>by
  rcases List.mem_cons.1 h with rfl | h
  · exact ⟨r1,List.mem_cons_self,_,rfl⟩
  ·
   obtain ⟨r0,h1,h2⟩:=Vz h; exact ⟨r0,List.mem_cons_of_mem _ h1,h2⟩
theorem afl (ks:List Nat) (r:aQ):(wkR ks r).fp=r.fp:=by cases r <;> rfl
theorem Qz (kb:List (Nat × List Nat)):∀ s:List aQ,kr (Lh kb s)=kr s
 | []=>rfl
 | r :: s=>by
  have:=Qz kb s; simp only [kr,Lh,List.flatMap_cons] at this ⊢; rw [this,afl]
theorem Conc.Lh {w:World} {m:iY} {s:List aQ} (kb:List (Nat × List Nat)) (h:Conc w m s):Conc w m (Lh kb s)∧Trans w m s w m (Lh kb s):=by
 refine ⟨⟨fun r hr=>?_,by rw [Qz]; exact h.apart,h.wf,h.rH⟩,⟨rfl,rfl,rfl,Nat.le_refl _,Le.refl _ _,fun _ _ _=>⟨rfl,fun _ h=>h⟩,fun b hb=>.inl (by rw [Qz] at hb; exact hb),fun _=>Nat.le_refl _⟩⟩; obtain ⟨r0,h0,ks,rfl⟩:=Vz hr; have:=h.each r0 h0; cases r0 with
 | box b cs=>obtain ⟨vs,ty,h1,h2,h3⟩:=this; exact ⟨vs,ty,h1,h2.wkC ks 0,h3⟩
 | _=>exact this
def Wk (e:Env) (s:List aQ) (e':Env) (s':List aQ):Prop:=∀ w m n ds a,oz w m n e s ds a→oz w m n e' s' ds a∧Trans w m s w m s'
theorem Wk.less {e e' e2:Env} {s s':List aQ} (h:Wk e s e' s') (hl:Less e2 e'):Wk e s e2 s':=fun w m n ds a hs=>⟨oz.less hl (h w m n ds a hs).1,(h w m n ds a hs).2⟩
theorem Wk.sub {e e':Env} {s s' s2:List aQ} (h:Wk e s e' s') (hl:s2.Sublist s'):Wk e s e' s2:=fun w m n ds a hs=>let ⟨g,t⟩:=h w m n ds a hs; ⟨⟨g.size,g.ds,g.env,g.gX.sub hl⟩,t.sub hl⟩
theorem Wk.wk (ap:List Nat) (kb:List (Nat × List Nat)) (e:Env) (s:List aQ):Wk e s (wkE ap e) (Lh kb s):=fun w m n ds a hs=>
 ⟨⟨hs.size,hs.ds,fun t=>by
  rcases VN ap e t with h | h
  · rw [h]; exact hs.env t
  · rw [h]; exact (hs.env t).weak,(hs.gX.Lh kb).1⟩,(hs.gX.Lh kb).2⟩
theorem Wk.refl (e:Env) (s:List aQ):Wk e s e s:=fun _ _ _ _ _ hs=>⟨hs,Trans.refl ..⟩
theorem Ve (kb:List (Nat × List Nat)):∀ (s:List aQ) (k:Nat),Lh kb (s.drop k)=(Lh kb s).drop k
 | [],k=>by simp [Lh]
 | r :: s,0=>rfl
 | r :: s,k + 1=>by simp only [List.drop_succ_cons,Lh]; exact Ve kb s k
theorem AW.wk {c:Code} {e:Env} {s:List aQ} (hw:Wk env σ e s) (h:AW P n c e s ds Q):AW P n c env σ ds Q:=
 fun w m a QC hs ha=>let ⟨g,t⟩:=hw w m n ds a hs; h w m a QC g (ha.step t)
theorem AW.agD {c:Code} {Q':Post} (h:AW P n c env σ ds Q') (hq:∀ x e s d,Q' x e s d→∃ e' s',Wk e s e' s'∧Q x e' s' d):AW P n c env σ ds Q:=
 fun w m a QC hs ha=>h w m a QC hs fun x ex e1 s1 d1 a1 w1 m1 h1 hx hs1 ht=>let ⟨e',s',hl,hq'⟩:=hq _ _ _ _ h1; let ⟨g,t⟩:=hl _ _ _ _ _ hs1; ha x ex e' s' d1 a1 w1 m1 hq' hx g (ht.trans t)
theorem AW.Oh {c:Code}:∀ (l:List (Nat × Nat × Nat)) {σ:List aQ},AW P n c env (Oh l σ) ds Q→AW P n c env σ ds Q
 | [],_,h=>h
 | (_,sz,e) :: r,_,h=>AW.row sz e (AW.Oh r h)
theorem ag4 {α:Type} {c:Code} {k:List Fr} (E:Value→Value→α→Env) (T:Value→Value→α→List aQ) (ap:List Nat) (kb:List (Nat × List Nat)) (I:Nat→α→Prop) (k0:Nat) (x0:α) (v w:Value) (h0:settle (keysOf (E v w x0)) (wkE ap env)=some (E v w x0)) (h1:Lh kb σ=T v w x0) (h2:I k0 x0) (z:∀ x,I 0 x→False)
  (round:∀ j v w x,I (j + 1) x→AW P n c (E v w x) (T v w x) ds (den P n (.lp (fun e s d=>∃ v w y,settle (keysOf (E v w y)) (wkE ap e)=some (E v w y)∧Lh kb (GN (T v w y).length s)=T v w y∧d=ds∧I j y) :: k) Q)):AW P n (.loop c) env σ ds (den P n k Q):=by
 refine AW.wk (Wk.less (Wk.wk ap kb env σ) (Less.settle h0)) ?_; rw [h1]; refine AW.loop (α:=Nat × Value × Value × α) (fun q=>E q.2.1 q.2.2.1 q.2.2.2) (fun q=>T q.2.1 q.2.2.1 q.2.2.2) (fun q=>I q.1 q.2.2.2) (fun q=>q.1) (k0,v,w,x0) rfl rfl h2 ?_; rintro ⟨j,v,w,q⟩ hI; cases j with
 | zero=>exact (z _ hI).elim
 | succ j=>
  refine AW.agD (Iq (round j v w q hI) fun e s d h=>h) ?_; intro ax e s d h; cases ax with
  | normal=>
   obtain ⟨v',w',y,h3,h4,h5,h6⟩:=h; exact ⟨_,_,Wk.less ((Wk.wk ap kb e s).sub (by unfold GN; rw [Ve]; exact List.drop_sublist _ _)) (Less.settle h3),(j,v',w',y),rfl,h4,h5,h6,Nat.lt_succ_self j⟩
  | exit id=>exact ⟨e,s,Wk.refl e s,h⟩
  | ret=>exact ⟨e,s,Wk.refl e s,h⟩
  | panic p=>exact ⟨e,s,Wk.refl e s,h⟩
end
class CT (P:Program) {R:Type} (x:Option R) (e:outParam (R→dL)) (m:outParam Nat) (a:outParam (List PV)):Prop where
 pf:cZ P m=true
 h:∀ {r:R},x=some r→∀ {τ:List aQ} {Q:dL→List aQ→Prop},Q (e r) τ→AC P m a τ Q
class CB (P:Program) {R:Type} (x:Option R) (e:outParam (R→dL)) (m:outParam Nat) (a:outParam (Nat→List PV)) (c0:outParam (List PV)) (c1:outParam (R→List PV)):Prop where
 pf:cZ P m=true
 h:∀ {r:R},x=some r→∀ (b:Nat) {Q:dL→List aQ→Prop},Q (e r) [.box b (c1 r)]→AC P m (a b) [.box b c0] Q
class CF1 (P:Program) {A B:Type} (f:A→Option B) (ea:outParam (A→PV)) (eb:outParam (B→dL)) (F:outParam FuncId) (C:outParam (List PV)):Prop where
 ct:∀ a,CT P (f a) eb F (ea a :: C)
class CF2 (P:Program) {A B D:Type} (f:A→B→Option D) (ea:outParam (A→PV)) (eb:outParam (B→PV)) (ed:outParam (D→dL)) (F:outParam FuncId) (C:outParam (List PV)):Prop where
 ct:∀ a b,CT P (f a b) ed F (ea a :: eb b :: C)
instance {P :Program} {A B:Type} {f:A→Option B} {ea:A→PV} {eb:B→dL} {F:FuncId} {C:List PV} [I:CF1 P f ea eb F C] (a:A):CT P (f a) eb F (ea a :: C):=I.ct a
instance {P :Program} {A B D:Type} {f:A→B→Option D} {ea:A→PV} {eb:B→PV} {ed:D→dL} {F:FuncId} {C:List PV} [I:CF2 P f ea eb ed F C] (a:A) (b:B):CT P (f a b) ed F (ea a :: eb b :: C):=I.ct a b
class ML {α:outParam Type} (L:List (List PV)) (l:outParam (List α)) (f:outParam (α→List PV)):Prop where
 h:L=l.map f
class CE {α:Type} (f:α→List PV) (g:outParam (α→List PV)):Prop where
 h:∀ y,f y=g y
class Ri {α:Type} (f:α→List PV) (sz:outParam Nat):Prop where
 len:∀ y,(f y).length=sz
 one:∀ y,(f y).all PV.one=true
class TC (α:Type) (f:outParam (α→List PV)):Prop where
 ok:True
def NX (P:Program) [K:FA P] (cf:Cf) (fm:Fm) (s:Ms):Nd:=nx K.F K.es K.bs K.sf K.un K.ic K.bo cf fm 999 s.st s.nm
def uz (i:Nat) (cs:List PV) (s:List aQ):List aQ:=match s[i]? with
 | some (.box b _)=>s.set i (.box b cs)
 | _=>s
def putRow (i:Nat) (v:Value) (m:Nat) (s:List aQ):List aQ:=match s[i]? with
 | some (.row _ _ sz e)=>s.set i (.row v m sz e)
 | _=>s
class LE {R:Type} (x:Option R) {α:outParam Type} (F:outParam (Nat→α→Option R)) (N:outParam Nat) (x0:outParam α) (ap:outParam (List Nat)) (kb:outParam (List (Nat × List Nat))) (rw:outParam (List (Nat × Nat × Nat))) (ks:outParam (List Nat)) (U:outParam (Value→Value→α→Env)) (V:outParam (Value→Value→α→List aQ→List aQ)):Prop where
 h:x=F N x0
def LR {R α:Type} (F:Nat→α→Option R) (E:Value→Value→α→Env) (T:Value→Value→α→List aQ) (ap:List Nat) (kb:List (Nat × List Nat)) (j:Nat) (r:R):Env→List aQ→List Deferred→Prop:=fun e s d=>∃ v w y,settle (keysOf (E v w y)) (wkE ap e)=some (E v w y)∧Lh kb (GN (T v w y).length s)=T v w y∧d=[]∧F j y=some r
structure KR (b:Bool):Prop where
 h:b=true
structure KB (b v:Bool):Prop where
 h:b=v
def bE (v:Bool):dL:=.ret (.bool v)
def bS (_:Bool):List aQ:=[]
section
variable {P : Program} {cf : Cf}
inductive WN (P:Program) [K:FA P] (cf:Cf):Fm→(R:Type)→(R→dL)→(R→List aQ)→R→Nd→Option R→Prop
 | non {fm R e S r d}:WN P cf fm R e S r d none
 | go {fm R e S r s x}:WN P cf fm R e S r (NX P cf fm s) x→WN P cf fm R e S r (.go s) x
 | UF {fm R e S r cs d x}:cs.map Prod.fst=cs.map Prod.snd→WN P cf fm R e S r d x→WN P cf fm R e S r (.UF cs d) x
 | ord {fm R e S r L k d x}:KR (Ik L k && Nat.ble k L.length)→WN P cf fm R e S r d x→WN P cf fm R e S r (.ord L k d) x
 | Zg {fm R e S r b d x}:KR b→WN P cf fm R e S r d x→WN P cf fm R e S r (.Zg b d) x
 | same {fm R e S r b s x}:WN P cf fm R e S r (NX P cf fm s) x→WN P cf fm R e S r (.same b b s) x
 | alloc {fm R e S r k x}:(∀ b,WN P cf fm R e S r (NX P cf fm (k b)) x)→WN P cf fm R e S r (.alloc k) x
 | cond {fm R e S r b t f x y}:(b=true→WN P cf fm R e S r (NX P cf fm t) x)→(b=false→WN P cf fm R e S r (NX P cf fm f) y)→WN P cf fm R e S r (.cond b t f) (if b=true then x else y)
 | cK {fm R e S r b t f x} {v:Bool}:KB b v→WN P cf fm R e S r (NX P cf fm (bif v then t else f)) x→WN P cf fm R e S r (.cond b t f) x
 | opt {fm R e S r β x k g}:(∀ y,WN P cf fm R e S r (NX P cf fm (k y)) (g y))→WN P cf fm R e S r (.opt β x k) (ay x g)
 | aix {fm R e S r x k}:WN P cf fm R e S r (NX P cf fm (k r)) (some r)→WN P cf fm R e S r (.opt R x k) x
 | chb {fm R e S r b s g}:WN P cf fm R e S r (NX P cf fm s) (g ())→WN P cf fm R e S r (.chb b s) (ay (Ft.UF b) g)
 | chK {fm R e S r b s x}:b=true→WN P cf fm R e S r (NX P cf fm s) x→WN P cf fm R e S r (.chb b s) x
 | len {fm R e S r α L k x} {l:List α} {f} [I:ML L l f]:WN P cf fm R e S r (NX P cf fm (k l.length)) x→WN P cf fm R e S r (.len L k) x
 | aiB {fm R e S r L k x}:WN P cf fm R e S r (NX P cf fm (k L.length)) x→WN P cf fm R e S r (.len L k) x
 | ajd {fm R e S r L k x} {l:List UInt8} [I:ML L l fG]:WN P cf fm R e S r (NX P cf fm (k l)) x→WN P cf fm R e S r (.byt L k) x
 | aje {fm R e S r L k x} {l:List UInt8}:WN P cf fm R e S r (NX P cf fm (k l)) x→L=l.map fG→WN P cf fm R e S r (.byt L k) x
 | Ur {fm R e S r sz α L i k h} {l:List α} {f g} [I:ML L l f] [J:CE f g]:(∀ y,(g y).length=sz)→(∀ y,WN P cf fm R e S r (NX P cf fm (k (g y))) (h y))→WN P cf fm R e S r (.Ur sz L i k) (ay (idx l i) h)
 | ahb {fm R e S r sz L i k} {l:List R} {f g} [I:ML L l f] [J:CE f g]:(∀ y,(g y).length=sz)→WN P cf fm R e S r (NX P cf fm (k (g r))) (some r)→WN P cf fm R e S r (.Ur sz L i k) (idx l i)
 | aiI {fm R e S r sz α L i k h} {l:List α} {f g} [I:TC α f] [J:CE f g]:L=l.map g→(∀ y,(g y).length=sz)→(∀ y,WN P cf fm R e S r (NX P cf fm (k (g y))) (h y))→WN P cf fm R e S r (.Ur sz L i k) (ay (idx l i) h)
 | slL {fm R e S r sz α L a b k h} {l:List α} {f} [I:ML L l f] [J:Ri f sz]:(∀ y,WN P cf fm R e S r (NX P cf fm (k (y.map f))) (h y))→WN P cf fm R e S r (.slL sz L a (some b) k) (ay (sl l a b) h)
 | slN {fm R e S r sz α L a k h} {l:List α} {f} [I:ML L l f] [J:Ri f sz]:(∀ y,WN P cf fm R e S r (NX P cf fm (k (y.map f))) (h y))→WN P cf fm R e S r (.slL sz L a none k) (ay (sl l a (l.length:Nat)) h)
 | ajg {fm R e S r v m sz α L M k h} {l l2:List α} {f} [T:TC α f] [C:Ri f sz] [I:ML M l2 f]:L=l.map f→m=L.length→(∀ v2 y,WN P cf fm R e S r (NX P cf fm (k v2 (y.map f))) (h y))→WN P cf fm R e S r (.app v v m sz L M k) (ay (Ft.app l l2) h)
 | app {fm R e S r v m sz α L M k h} {l l2:List α} {f g} [T:TC α f] [C:Ri f sz] [J:CE f g]:L=l.map f→m=L.length→M=l2.map g→(∀ v2 y,WN P cf fm R e S r (NX P cf fm (k v2 (y.map f))) (h y))→WN P cf fm R e S r (.app v v m sz L M k) (ay (Ft.app l l2) h)
 | u8 {fm R e S r f p q k x} {a b:UInt8}:p=(a.toNat:Int)→q=(b.toNat:Int)→WN P cf fm R e S r (NX P cf fm (k ((f a b).toNat:Int))) x→WN P cf fm R e S r (.u8 f p q k) x
 | u8c {fm R e S r f p c k x} {a:UInt8}:p=(a.toNat:Int)→WN P cf fm R e S r (NX P cf fm (k ((f a c).toNat:Int))) x→WN P cf fm R e S r (.u8c f p c k) x
 | byte {fm R e S r s x} {a:UInt8}:WN P cf fm R e S r (NX P cf fm s) x→WN P cf fm R e S r (.byte (a.toNat:Int) s) x
 | ahE {fm R e S r m a a' k x} {e':R→dL} [I:CT P x e' m a]:a'=a→WN P cf fm R e S r (NX P cf fm (k (e' r))) (some r)→WN P cf fm R e S r (.call m a' k) x
 | Px {fm R e S r A0 m a a' k g} {x:Option (A0)} {e':A0→dL} [I:CT P x e' m a]:a'=a→(∀ y0,WN P cf fm R e S r (NX P cf fm (k (e' (y0)))) (g y0))→WN P cf fm R e S r (.call m a' k) (ay x g)
 | Tc {fm R e S r A0 A1 m a a' k g} {x:Option (A0 × A1)} {e':A0 × A1→dL} [I:CT P x e' m a]:a'=a→(∀ y0 y1,WN P cf fm R e S r (NX P cf fm (k (e' (y0,y1)))) (g y0 y1))→WN P cf fm R e S r (.call m a' k) (dX x g)
 | ahH {fm R e S r A0 A1 A2 m a a' k g} {x:Option (A0 × A1 × A2)} {e':A0 × A1 × A2→dL} [I:CT P x e' m a]:a'=a→(∀ y0 y1 y2,WN P cf fm R e S r (NX P cf fm (k (e' (y0,y1,y2)))) (g y0 y1 y2))→WN P cf fm R e S r (.call m a' k) (j_ x g)
 | ahG {fm R e S r A0 A1 A2 A3 m a a' k g} {x:Option (A0 × A1 × A2 × A3)} {e':A0 × A1 × A2 × A3→dL} [I:CT P x e' m a]:a'=a→(∀ y0 y1 y2 y3,WN P cf fm R e S r (NX P cf fm (k (e' (y0,y1,y2,y3)))) (g y0 y1 y2 y3))→WN P cf fm R e S r (.call m a' k) (Gg x g)
 | ahF {fm R e S r A0 A1 A2 A3 A4 m a a' k g} {x:Option (A0 × A1 × A2 × A3 × A4)} {e':A0 × A1 × A2 × A3 × A4→dL} [I:CT P x e' m a]:a'=a→(∀ y0 y1 y2 y3 y4,WN P cf fm R e S r (NX P cf fm (k (e' (y0,y1,y2,y3,y4)))) (g y0 y1 y2 y3 y4))→WN P cf fm R e S r (.call m a' k) (Nr x g)
 | ahD {fm R e S r ε A m a a' k gb g} {x:Option (gT ε A)} {e':gT ε A→dL} [I:CT P x e' m a]:a'=a→(∀ y,WN P cf fm R e S r (NX P cf fm (k (e' (.ok y)))) (g y))→(∀ y,WN P cf fm R e S r (NX P cf fm (k (e' (.bad y)))) (gb y))→WN P cf fm R e S r (.call m a' k) (yh x gb g)
 | cbT {fm R e S r m a a' b cs c0 c1 k x} {e':R→dL} [I:CB P x e' m a c0 c1]:a'=a b→cs=c0→WN P cf fm R e S r (NX P cf fm (k (e' r) (c1 r))) (some r)→WN P cf fm R e S r (.Nh m a' b cs k) x
 | cb1 {fm R e S r A0 m a a' b cs c0 c1 k g} {x:Option A0} {e':A0→dL} [I:CB P x e' m a c0 c1]:a'=a b→cs=c0→(∀ y0,WN P cf fm R e S r (NX P cf fm (k (e' y0) (c1 y0))) (g y0))→WN P cf fm R e S r (.Nh m a' b cs k) (ay x g)
 | cb2 {fm R e S r A0 A1 m a a' b cs c0 c1 k g} {x:Option (A0 × A1)} {e':A0 × A1→dL} [I:CB P x e' m a c0 c1]:a'=a b→cs=c0→(∀ y0 y1,WN P cf fm R e S r (NX P cf fm (k (e' (y0,y1)) (c1 (y0,y1)))) (g y0 y1))→WN P cf fm R e S r (.Nh m a' b cs k) (dX x g)
 | cb3 {fm R e S r A0 A1 A2 m a a' b cs c0 c1 k g} {x:Option (A0 × A1 × A2)} {e':A0 × A1 × A2→dL} [I:CB P x e' m a c0 c1]:a'=a b→cs=c0→(∀ y0 y1 y2,WN P cf fm R e S r (NX P cf fm (k (e' (y0,y1,y2)) (c1 (y0,y1,y2)))) (g y0 y1 y2))→WN P cf fm R e S r (.Nh m a' b cs k) (j_ x g)
 | cbX {fm R e S r ε A B m a a' b cs c0 c1 k gb g} {x:Option (gT ε A × B)} {e':gT ε A × B→dL} [I:CB P x e' m a c0 c1]:a'=a b→cs=c0→(∀ y s,WN P cf fm R e S r (NX P cf fm (k (e' (.ok y,s)) (c1 (.ok y,s)))) (g y s))→(∀ y s,WN P cf fm R e S r (NX P cf fm (k (e' (.bad y,s)) (c1 (.bad y,s)))) (gb y s))→WN P cf fm R e S r (.Nh m a' b cs k) (dZ x gb g)
 | kZ {fm R e S r b t E T ks kn s1 s2 k x y g}:(∀ v,WN P cf (.wF t ks E T kn) Bool bE bS v (NX P cf (.wF t ks E T kn) s1) x)→(∀ v,WN P cf (.wF t ks E T kn) Bool bE bS v (NX P cf (.wF t ks E T kn) s2) y)→(∀ v,WN P cf fm R e S r (NX P cf fm (k v)) (g v))→WN P cf fm R e S r (.join b true t E T ks kn s1 s2 k) (ay (if b=true then x else y) g)
 | ae_ {fm e S r b t E T ks kn s1 s2 k x y}:(∀ v,WN P cf (.wF t ks E T kn) Bool bE bS v (NX P cf (.wF t ks E T kn) s1) x)→(∀ v,WN P cf (.wF t ks E T kn) Bool bE bS v (NX P cf (.wF t ks E T kn) s2) y)→WN P cf fm Bool e S r (NX P cf fm (k r)) (some r)→WN P cf fm Bool e S r (.join b true t E T ks kn s1 s2 k) (if b=true then x else y)
 | Ku {fm R e S r b t E T ks kn s1 s2 k x y g}:(∀ v,WN P cf (.wF t ks E T kn) Bool bE bS v (NX P cf (.wF t ks E T kn) s1) y)→(∀ v,WN P cf (.wF t ks E T kn) Bool bE bS v (NX P cf (.wF t ks E T kn) s2) x)→(∀ v,WN P cf fm R e S r (NX P cf fm (k v)) (g v))→WN P cf fm R e S r (.join b false t E T ks kn s1 s2 k) (ay (if b=true then x else y) g)
 | afa {fm e S r b t E T ks kn s1 s2 k x y}:(∀ v,WN P cf (.wF t ks E T kn) Bool bE bS v (NX P cf (.wF t ks E T kn) s1) y)→(∀ v,WN P cf (.wF t ks E T kn) Bool bE bS v (NX P cf (.wF t ks E T kn) s2) x)→WN P cf fm Bool e S r (NX P cf fm (k r)) (some r)→WN P cf fm Bool e S r (.join b false t E T ks kn s1 s2 k) (if b=true then x else y)
 | afb {fm R e S r b t E T ks kn s1 s2 k X} {x:Bool}:(∀ v,WN P cf (.wF t ks E T kn) Bool bE bS v (NX P cf (.wF t ks E T kn) s1) (some x))→(∀ v,WN P cf (.wF t ks E T kn) Bool bE bS v (NX P cf (.wF t ks E T kn) s2) (some false))→WN P cf fm R e S r (NX P cf fm (k (b && x))) X→WN P cf fm R e S r (.join b true t E T ks kn s1 s2 k) X
 | afc {fm R e S r b t E T ks kn s1 s2 k X} {x:Bool}:(∀ v,WN P cf (.wF t ks E T kn) Bool bE bS v (NX P cf (.wF t ks E T kn) s1) (some x))→(∀ v,WN P cf (.wF t ks E T kn) Bool bE bS v (NX P cf (.wF t ks E T kn) s2) (some true))→WN P cf fm R e S r (NX P cf fm (k (b || x))) X→WN P cf fm R e S r (.join b false t E T ks kn s1 s2 k) X
 | ret {rs R e S r p A s x}:dL.ret p=e x→GN (S x).length s=S x→WN P cf (.body rs) R e S r (.ret A A p s) (some x)
 | pan {rs R e S r p s x}:dL.panic p=e x→GN (S x).length s=S x→WN P cf (.body rs) R e S r (.pan p s) (some x)
 | Jy {t ks E T kn r cs} {v:Bool}:cs.map Prod.fst=cs.map Prod.snd→WN P cf (.wF t ks E T kn) Bool bE bS r (.Jy v E T cs) (some v)
 | loop {fm R e S r c k e0 s nm E0 α ap kb rw ks U V v w} {x:Option R} {F:Nat→α→Option R} {N:Nat} {x0:α} [I:LE x F N x0 ap kb rw ks U V]:settle ks (wkE ap e0)=some E0→settle (keysOf (U v w x0 ++ E0)) (wkE ap e0)=some (U v w x0 ++ E0)→Lh kb (Oh rw s)=Lh kb (V v w x0 (Oh rw s))→(∀ p,F 0 p=none)→
   (∀ j v w p,WN P cf fm R e S r (NX P cf fm ⟨.w c (.lp (LR F (fun v w p=>U v w p ++ E0) (fun v w p=>Lh kb (V v w p (Oh rw s))) ap kb j r) :: k) (U v w p ++ E0) (Lh kb (V v w p (Oh rw s))),nmR rw s.length nm⟩) (F (j + 1) p))→WN P cf fm R e S r (.loop c k e0 s nm) x
 | again {fm R e S r e0 s j α ap ap' kb kb' rw ks U V v w} {x:Option R} {F:Nat→α→Option R} {E T} {y:α} [I:LE x F j y ap' kb' rw ks U V]:settle (keysOf (E v w y)) (wkE ap e0)=some (E v w y)→Lh kb (GN (T v w y).length s)=T v w y→WN P cf fm R e S r (.again (LR F E T ap kb j r) e0 s) x
def Fm.fin (G:dL→List aQ→Prop) (Gn:Bool→Env→List aQ→Prop):Fm→Prop
 | .wF _ _ E T _=>∀ v,G (bE v) []→Gn v E T
 | .body _=>True
def IK (G:dL→List aQ→Prop) (o:dL) (s:List aQ):Prop:=∃ s',s'.Sublist s∧G o s'
theorem fQ [K:FA P] {fm:Fm} {s:Ms} {Q:Post} {Fin:dL→List aQ→Prop} {Gn:Bool→Env→List aQ→Prop} (hm:fm.fits K.F Q Fin Gn) (h:(NX P cf fm s).ok P cf.n Q Fin Gn):s.st.ok P cf.n Q:=dW 999 fm s.st s.nm Q Fin Gn hm h
theorem Qs {α β:Type} (f:α→β) (l:List α) (i:Int):idx (l.map f) i=(idx l i).map f:=by
 unfold idx; split
 · simp
 · rfl
theorem all_eq {α:Type}:∀ {cs:List (α × α)},cs.map Prod.fst=cs.map Prod.snd→∀ c∈cs,c.1=c.2
 | [],_,c,hc=>by cases hc
 | d :: cs,h,c,hc=>by
  simp only [List.map_cons,List.cons.injEq] at h; rcases List.mem_cons.1 hc with rfl | hc
  · exact h.1
  · exact all_eq h.2 c hc
theorem MZ {k:Nat} {s t:List aQ} (h:GN k s=t):t.Sublist s:=by rw [←h]; exact List.drop_sublist _ _
theorem WN.sound [K:FA P] {fm:Fm} {R:Type} {e:R→dL} {S:R→List aQ} {r:R} {nd:Nd} {x:Option R} (h:WN P cf fm R e S r nd x):∀ (Q:Post) (G:dL→List aQ→Prop) (Gn:Bool→Env→List aQ→Prop),fm.fits K.F Q (IK G) Gn→
  fm.fin G Gn→x=some r→G (e r) (S r)→nd.ok P cf.n Q (IK G) Gn:=by
 induction h with
 | non=>intro Q G Gn hm hg hr hf; cases hr
 | go _ ih=>intro Q G Gn hm hg hr hf; exact fQ hm (ih Q G Gn hm hg hr hf)
 | UF hc _ ih=>intro Q G Gn hm hg hr hf; exact ⟨all_eq hc,ih Q G Gn hm hg hr hf⟩
 | ord ho _ ih=>intro Q G Gn hm hg hr hf; exact ⟨ho.h,ih Q G Gn hm hg hr hf⟩
 | Zg ho _ ih=>intro Q G Gn hm hg hr hf; exact ⟨ho.h,ih Q G Gn hm hg hr hf⟩
 | same _ ih=>intro Q G Gn hm hg hr hf; exact ⟨rfl,fQ hm (ih Q G Gn hm hg hr hf)⟩
 | alloc _ ih=>intro Q G Gn hm hg hr hf; exact fun b=>fQ hm (ih b Q G Gn hm hg hr hf)
 | cond _ _ i1 i2=>
  intro Q G Gn hm hg hr hf; exact ⟨fun hb=>fQ hm (i1 hb Q G Gn hm hg (jP hb hr) hf),fun hb=>fQ hm (i2 hb Q G Gn hm hg (ji hb hr) hf)⟩
 | cK hv _ ih=>
  rename_i b t f x v _; intro Q G Gn hm hg hr hf; have h:=fQ hm (ih Q G Gn hm hg hr hf); obtain rfl:=hv.h; exact ⟨fun hb=>by rw [hb] at h; exact h,fun hb=>by rw [hb] at h; exact h⟩
 | opt _ ih=>
  intro Q G Gn hm hg hr hf; obtain ⟨y,h1,h2⟩:=lG hr; exact ⟨y,h1,fQ hm (ih y Q G Gn hm hg h2 hf)⟩
 | aix _ ih=>intro Q G Gn hm hg hr hf; exact ⟨_,hr,fQ hm (ih Q G Gn hm hg rfl hf)⟩
 | chb _ ih=>
  intro Q G Gn hm hg hr hf; obtain ⟨y,h1,h2⟩:=lG hr; exact ⟨h1,fQ hm (ih Q G Gn hm hg h2 hf)⟩
 | chK hb _ ih=>intro Q G Gn hm hg hr hf; exact ⟨by rw [hb]; rfl,fQ hm (ih Q G Gn hm hg hr hf)⟩
 | aiB _ ih=>intro Q G Gn hm hg hr hf; exact fQ hm (ih Q G Gn hm hg hr hf)
 | aiI hL hl _ ih=>
  intro Q G Gn hm hg hr hf; obtain ⟨y,h1,h2⟩:=lG hr; refine ⟨_,?_,hl y,fQ hm (ih y Q G Gn hm hg h2 hf)⟩; rw [hL,Qs,h1]; rfl
 | len _ ih=>
  rename_i I _; intro Q G Gn hm hg hr hf; have:=fQ hm (ih Q G Gn hm hg hr hf); simp only [Nd.ok]; rw [I.h,List.length_map]; exact this
 | Ur hl _ ih=>
  rename_i I J _; intro Q G Gn hm hg hr hf; obtain ⟨y,h1,h2⟩:=lG hr; refine ⟨_,?_,hl y,fQ hm (ih y Q G Gn hm hg h2 hf)⟩; rw [I.h,Qs,h1,←J.h]; rfl
 | ahb hl _ ih=>
  rename_i I J _; intro Q G Gn hm hg hr hf; refine ⟨_,?_,hl _,fQ hm (ih Q G Gn hm hg rfl hf)⟩; rw [I.h,Qs,hr,←J.h]; rfl
 | slL _ ih=>
  rename_i I J _; intro Q G Gn hm hg hr hf; obtain ⟨y,h1,h2⟩:=lG hr; exact ⟨_,_,_,y,I.h,J.len,h1,fQ hm (ih y Q G Gn hm hg h2 hf)⟩
 | slN _ ih=>
  rename_i I J _; intro Q G Gn hm hg hr hf; obtain ⟨y,h1,h2⟩:=lG hr; exact ⟨_,_,_,y,I.h,J.len,h1,fQ hm (ih y Q G Gn hm hg h2 hf)⟩
 | app hL hn hM _ ih=>
  rename_i f g T C J _; intro Q G Gn hm hg hr hf; obtain ⟨y,h1,h2⟩:=lG hr; exact ⟨rfl,hn,_,_,_,_,y,h1,hL,by rw [hM,show g=f from funext fun z=>(J.h z).symm],C.len,C.one,fun v2=>fQ hm (ih v2 y Q G Gn hm hg h2 hf)⟩
 | ajg hL hn _ ih=>
  rename_i f T C I _; intro Q G Gn hm hg hr hf; obtain ⟨y,h1,h2⟩:=lG hr; exact ⟨rfl,hn,_,_,_,_,y,h1,hL,I.h,C.len,C.one,fun v2=>fQ hm (ih v2 y Q G Gn hm hg h2 hf)⟩
 | ajd _ ih=>
  rename_i I _; intro Q G Gn hm hg hr hf; exact ⟨_,I.h,fQ hm (ih Q G Gn hm hg hr hf)⟩
 | aje _ hl ih=>intro Q G Gn hm hg hr hf; exact ⟨_,hl,fQ hm (ih Q G Gn hm hg hr hf)⟩
 | u8 ha hb _ ih=>intro Q G Gn hm hg hr hf; exact ⟨_,_,ha,hb,fQ hm (ih Q G Gn hm hg hr hf)⟩
 | u8c ha _ ih=>intro Q G Gn hm hg hr hf; exact ⟨_,ha,fQ hm (ih Q G Gn hm hg hr hf)⟩
 | byte _ ih=>intro Q G Gn hm hg hr hf; exact ⟨⟨_,rfl⟩,fQ hm (ih Q G Gn hm hg hr hf)⟩
 | ahE ha _ ih=>
  rename_i I _; intro Q G Gn hm hg hr hf; exact ⟨I.pf,_,fun {τ R} hq=>by rw [ha]; exact I.h hr hq,fQ hm (ih Q G Gn hm hg rfl hf)⟩
 | Px ha _ ih=>
  rename_i I _; intro Q G Gn hm hg hr hf; obtain ⟨y0,h1,h2⟩:=lG hr; exact ⟨I.pf,_,fun {τ R} hq=>by rw [ha]; exact I.h h1 hq,fQ hm (ih y0 Q G Gn hm hg h2 hf)⟩
 | Tc ha _ ih=>
  rename_i I _; intro Q G Gn hm hg hr hf; obtain ⟨y0,y1,h1,h2⟩:=f_ hr; exact ⟨I.pf,_,fun {τ R} hq=>by rw [ha]; exact I.h h1 hq,fQ hm (ih y0 y1 Q G Gn hm hg h2 hf)⟩
 | ahH ha _ ih=>
  rename_i I _; intro Q G Gn hm hg hr hf; obtain ⟨y0,y1,y2,h1,h2⟩:=qy hr; exact ⟨I.pf,_,fun {τ R} hq=>by rw [ha]; exact I.h h1 hq,fQ hm (ih y0 y1 y2 Q G Gn hm hg h2 hf)⟩
 | ahG ha _ ih=>
  rename_i I _; intro Q G Gn hm hg hr hf; obtain ⟨y0,y1,y2,y3,h1,h2⟩:=XU hr; exact ⟨I.pf,_,fun {τ R} hq=>by rw [ha]; exact I.h h1 hq,fQ hm (ih y0 y1 y2 y3 Q G Gn hm hg h2 hf)⟩
 | ahF ha _ ih=>
  rename_i I _; intro Q G Gn hm hg hr hf; obtain ⟨y0,y1,y2,y3,y4,h1,h2⟩:=XT hr; exact ⟨I.pf,_,fun {τ R} hq=>by rw [ha]; exact I.h h1 hq,fQ hm (ih y0 y1 y2 y3 y4 Q G Gn hm hg h2 hf)⟩
 | ahD ha _ _ i1 i2=>
  rename_i I _ _; intro Q G Gn hm hg hr hf; rcases uS hr with ⟨y,h1,h2⟩ | ⟨y,h1,h2⟩
  · exact ⟨I.pf,_,fun {τ R} hq=>by rw [ha]; exact I.h h1 hq,fQ hm (i2 y Q G Gn hm hg h2 hf)⟩
  · exact ⟨I.pf,_,fun {τ R} hq=>by rw [ha]; exact I.h h1 hq,fQ hm (i1 y Q G Gn hm hg h2 hf)⟩
 | cbT ha hc _ ih=>
  rename_i I _; intro Q G Gn hm hg hr hf; exact ⟨I.pf,_,_,fun {R} hq=>by rw [ha,hc]; exact I.h hr _ hq,fQ hm (ih Q G Gn hm hg rfl hf)⟩
 | cb1 ha hc _ ih=>
  rename_i I _; intro Q G Gn hm hg hr hf; obtain ⟨y0,h1,h2⟩:=lG hr; exact ⟨I.pf,_,_,fun {R} hq=>by rw [ha,hc]; exact I.h h1 _ hq,fQ hm (ih y0 Q G Gn hm hg h2 hf)⟩
 | cb2 ha hc _ ih=>
  rename_i I _; intro Q G Gn hm hg hr hf; obtain ⟨y0,y1,h1,h2⟩:=f_ hr; exact ⟨I.pf,_,_,fun {R} hq=>by rw [ha,hc]; exact I.h h1 _ hq,fQ hm (ih y0 y1 Q G Gn hm hg h2 hf)⟩
 | cb3 ha hc _ ih=>
  rename_i I _; intro Q G Gn hm hg hr hf; obtain ⟨y0,y1,y2,h1,h2⟩:=qy hr; exact ⟨I.pf,_,_,fun {R} hq=>by rw [ha,hc]; exact I.h h1 _ hq,fQ hm (ih y0 y1 y2 Q G Gn hm hg h2 hf)⟩
 | cbX ha hc _ _ i1 i2=>
  rename_i I _ _; intro Q G Gn hm hg hr hf; rcases Np hr with ⟨y,s,h1,h2⟩ | ⟨y,s,h1,h2⟩
  · exact ⟨I.pf,_,_,fun {R} hq=>by rw [ha,hc]; exact I.h h1 _ hq,fQ hm (i2 y s Q G Gn hm hg h2 hf)⟩
  · exact ⟨I.pf,_,_,fun {R} hq=>by rw [ha,hc]; exact I.h h1 _ hq,fQ hm (i1 y s Q G Gn hm hg h2 hf)⟩
 | kZ _ _ _ i1 i2 ih=>
  rename_i t E T ks kn s1 s2 k x y g _ _ _; intro Q G Gn hm hg hr hf; obtain ⟨v,h1,h2⟩:=lG hr
  have hm':Fm.fits K.F (Gd t E T v) (IK fun p _=>p=bE v) (fun v' e s=>v'=v∧e=E∧s=T) (.wF t ks E T kn):=by
   intro v' e s hv; obtain ⟨rfl,rfl,rfl⟩:=hv; exact ⟨rfl,rfl,rfl,rfl⟩
  have hg':∀ v',bE v'=bE v→v'=v∧E=E∧T=T:=fun v' hv=>⟨by cases hv; rfl,rfl,rfl⟩; exact ⟨v,(fun hb=>fQ hm' (i1 v _ _ _ hm' hg' (jP hb h1) rfl)),(fun hb=>fQ hm' (i2 v _ _ _ hm' hg' (ji (by simpa using hb) h1) rfl)),fQ hm (ih v Q G Gn hm hg h2 hf)⟩
 | ae_ _ _ _ i1 i2 ih=>
  rename_i v b t E T ks kn s1 s2 k x y _ _ _; intro Q G Gn hm hg hr hf; have h1:=hr
  have hm':Fm.fits K.F (Gd t E T v) (IK fun p _=>p=bE v) (fun v' e s=>v'=v∧e=E∧s=T) (.wF t ks E T kn):=by
   intro v' e s hv; obtain ⟨rfl,rfl,rfl⟩:=hv; exact ⟨rfl,rfl,rfl,rfl⟩
  have hg':∀ v',bE v'=bE v→v'=v∧E=E∧T=T:=fun v' hv=>⟨by cases hv; rfl,rfl,rfl⟩; exact ⟨v,(fun hb=>fQ hm' (i1 v _ _ _ hm' hg' (jP hb h1) rfl)),(fun hb=>fQ hm' (i2 v _ _ _ hm' hg' (ji (by simpa using hb) h1) rfl)),fQ hm (ih Q G Gn hm hg rfl hf)⟩
 | Ku _ _ _ i1 i2 ih=>
  rename_i t E T ks kn s1 s2 k x y g _ _ _; intro Q G Gn hm hg hr hf; obtain ⟨v,h1,h2⟩:=lG hr
  have hm':Fm.fits K.F (Gd t E T v) (IK fun p _=>p=bE v) (fun v' e s=>v'=v∧e=E∧s=T) (.wF t ks E T kn):=by
   intro v' e s hv; obtain ⟨rfl,rfl,rfl⟩:=hv; exact ⟨rfl,rfl,rfl,rfl⟩
  have hg':∀ v',bE v'=bE v→v'=v∧E=E∧T=T:=fun v' hv=>⟨by cases hv; rfl,rfl,rfl⟩; exact ⟨v,(fun hb=>fQ hm' (i1 v _ _ _ hm' hg' (ji hb h1) rfl)),(fun hb=>fQ hm' (i2 v _ _ _ hm' hg' (jP (by simpa using hb) h1) rfl)),fQ hm (ih v Q G Gn hm hg h2 hf)⟩
 | afa _ _ _ i1 i2 ih=>
  rename_i v b t E T ks kn s1 s2 k x y _ _ _; intro Q G Gn hm hg hr hf; have h1:=hr
  have hm':Fm.fits K.F (Gd t E T v) (IK fun p _=>p=bE v) (fun v' e s=>v'=v∧e=E∧s=T) (.wF t ks E T kn):=by
   intro v' e s hv; obtain ⟨rfl,rfl,rfl⟩:=hv; exact ⟨rfl,rfl,rfl,rfl⟩
  have hg':∀ v',bE v'=bE v→v'=v∧E=E∧T=T:=fun v' hv=>⟨by cases hv; rfl,rfl,rfl⟩; exact ⟨v,(fun hb=>fQ hm' (i1 v _ _ _ hm' hg' (ji hb h1) rfl)),(fun hb=>fQ hm' (i2 v _ _ _ hm' hg' (jP (by simpa using hb) h1) rfl)),fQ hm (ih Q G Gn hm hg rfl hf)⟩
 | afb _ _ _ i1 i2 ih=>
  rename_i b t E T ks kn s1 s2 k X x _ _ _; intro Q G Gn hm hg hr hf
  have hm':∀ v,Fm.fits K.F (Gd t E T v) (IK fun p _=>p=bE v) (fun v' e s=>v'=v∧e=E∧s=T) (.wF t ks E T kn):=by
   intro v v' e s hv; obtain ⟨rfl,rfl,rfl⟩:=hv; exact ⟨rfl,rfl,rfl,rfl⟩
  have hg':∀ v v',bE v'=bE v→v'=v∧E=E∧T=T:=fun v v' hv=>⟨by cases hv; rfl,rfl,rfl⟩; refine ⟨_,fun hb=>?_,fun hb=>?_,fQ hm (ih Q G Gn hm hg hr hf)⟩
  · have:=fQ (hm' x) (i1 x _ _ _ (hm' x) (hg' x) rfl rfl); rw [hb]; simpa using this
  · have:=fQ (hm' false) (i2 false _ _ _ (hm' _) (hg' _) rfl rfl); rw [hb]; simpa using this
 | afc _ _ _ i1 i2 ih=>
  rename_i b t E T ks kn s1 s2 k X x _ _ _; intro Q G Gn hm hg hr hf
  have hm':∀ v,Fm.fits K.F (Gd t E T v) (IK fun p _=>p=bE v) (fun v' e s=>v'=v∧e=E∧s=T) (.wF t ks E T kn):=by
   intro v v' e s hv; obtain ⟨rfl,rfl,rfl⟩:=hv; exact ⟨rfl,rfl,rfl,rfl⟩
  have hg':∀ v v',bE v'=bE v→v'=v∧E=E∧T=T:=fun v v' hv=>⟨by cases hv; rfl,rfl,rfl⟩; refine ⟨_,fun hb=>?_,fun hb=>?_,fQ hm (ih Q G Gn hm hg hr hf)⟩
  · have:=fQ (hm' x) (i1 x _ _ _ (hm' x) (hg' x) rfl rfl); rw [hb]; simpa using this
  · have:=fQ (hm' true) (i2 true _ _ _ (hm' _) (hg' _) rfl rfl); rw [hb]; simpa using this
 | ret hp hs=>intro Q G Gn hm hg hr hf; cases hr; exact ⟨rfl,_,MZ hs,by rw [hp]; exact hf⟩
 | pan hp hs=>intro Q G Gn hm hg hr hf; cases hr; exact ⟨_,MZ hs,by rw [hp]; exact hf⟩
 | Jy hc=>intro Q G Gn hm hg hr hf; cases hr; exact ⟨all_eq hc,hg _ hf⟩
 | loop h0 h1 h2 hz _ ih=>
  rename_i s _ E0 α ap kb rw _ U V v w x F N x0 I _; intro Q G Gn hm hg hr hf; rw [I.h] at hr; exact AW.Oh rw (ag4 (fun v w p=>U v w p ++ E0) (fun v w p=>Lh kb (V v w p (Oh rw s))) ap kb (fun j p=>F j p=some _) N x0 v w h1 h2 hr (fun p hz0=>by rw [hz] at hz0; cases hz0) fun j v w p hj=>fQ (s:=⟨.w _ _ _ _,_⟩) hm (ih j v w p Q G Gn hm hg hj hf))
 | again h1 h2=>
  rename_i I; intro Q G Gn hm hg hr hf; exact ⟨_,_,_,h1,h2,rfl,I.h ▸ hr⟩
theorem FE [K:FA P] {rs:List ResultVar} {R':dL→List aQ→Prop} {Gn:Bool→Env→List aQ→Prop}:(Fm.body rs).fits K.F (KA P rs R') (IK R') Gn:=
 ⟨fun e s nm A ps h1 ⟨s',h2,h3⟩=>⟨⟨rfl,ps,KV K.ok h1 rfl,s',h2,h3⟩,⟨rfl,ps,KV K.ok h1 rfl,s',h2,h3⟩⟩,fun e s p ⟨s',h2,h3⟩=>⟨rfl,s',h2,h3⟩⟩
theorem CT.of [K:FA P] {R:Type} {x:Option R} {e:R→dL} {m:Nat} {a:List PV} {fn:Func} {c:Code} {env:Env} (cf:Cf) (hp:qz K.pf m=true) (hf:P.funcs[m]?=some fn) (hb:fn.body=some c) (hn:fn.ntmps=cf.n) (hl:Nat.ble a.length cf.n=true)
  (BP:settle (List.range a.length) (sU 0 a)=some env) (h:∀ r,WN P cf (.body fn.results.toList) R e (fun _=>[]) r (NX P cf (.body fn.results.toList) ⟨.w c [] env [],[]⟩) x):CT P x e m a:=
 ⟨vM K.pk hp,fun {r} hx {τ Q} hq=>AC.none (AC.jC cf.n fn.results.toList (List.range a.length) hf hb hn hl rfl BP
  (fQ (s:=⟨.w c [] env [],[]⟩) (Q:=KA P fn.results.toList fun o s=>Q o (s ++ τ)) FE ((h r).sound _ (fun o s=>Q o (s ++ τ)) (fun _ _ _=>False) FE trivial hx hq)))⟩
theorem CB.of [K:FA P] {R:Type} {x:Option R} {e:R→dL} {m:Nat} {a:Nat→List PV} {c0:List PV} {c1:R→List PV} {fn:Func} {c:Code} {env:Nat→Env} (cf:Cf) (i:Nat) (hp:qz K.pf m=true) (hf:P.funcs[m]?=some fn) (hb:fn.body=some c) (hn:fn.ntmps=cf.n) (hl:∀ b,Nat.ble (a b).length cf.n=true)
  (BP:∀ b,settle (List.range (a b).length) (sU 0 (a b))=some (env b)) (h:∀ b r,WN P cf (.body fn.results.toList) R e (fun r=>[.box b (c1 r)]) r (NX P cf (.body fn.results.toList) ⟨.w c [] (env b) [.box b c0],[(i,0)]⟩) x):CB P x e m a c0 c1:=
 ⟨vM K.pk hp,fun {r} hx b {Q} hq=>AC.jC cf.n fn.results.toList (List.range (a b).length) hf hb hn (hl b) rfl (BP b)
  (fQ (s:=⟨.w c [] (env b) [.box b c0],[(i,0)]⟩) (Q:=KA P fn.results.toList Q) FE ((h b r).sound _ Q (fun _ _ _=>False) FE trivial hx hq))⟩
theorem CT.none [K:FA P] {R:Type} {e:R→dL} {m:Nat} {a:List PV} (hp:qz K.pf m=true):CT P (Option.none:Option R) e m a:=⟨vM K.pk hp,fun h=>by cases h⟩
theorem CB.none [K:FA P] {R:Type} {e:R→dL} {m:Nat} {a:Nat→List PV} {c0:List PV} {c1:R→List PV} (hp:qz K.pf m=true):CB P (Option.none:Option R) e m a c0 c1:=⟨vM K.pk hp,fun h=>by cases h⟩
end
end Go.Abs
