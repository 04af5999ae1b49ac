/- Proved here: how a functional text stands for a walk of the given code: ranges, maps, sorted lists, library functions. -/
import Derived.Test.YtcohpegjnpcgcaaGreatDoorTvA2
import Derived.RangeFuncRecord
import Derived.RangeFuncIn
import Derived.OrdersIn
import Derived.TacticsIn
import Derived.Test.YtcohpegjnpcgcaaGreatDoorTvA1
import Derived.Test.YtcohpegjnpcgcaaGreatDoorTvWords
import Derived.Shelf.SlSortCmp.NoneTotal
import Derived.Shelf.Slices.CompactS
import Derived.Shelf.Strings.Search3
import Derived.Shelf.Strings.Split
import Derived.Shelf.Strings.OnBuilder
import Derived.Shelf.Strconv.Itoa3
import Derived.Shelf.Strconv.AtoiAll
import Derived.Lib.LaidTab
import Derived.Stop.LaidErr
import Derived.Lib.ItoaNum
import Derived.Shelf.Vars
import Derived.Shelf.Strings.Replace
import Derived.Laws.MakeOwn
set_option linter.unusedVariables false
set_option linter.unusedSimpArgs false
set_option linter.unusedSectionVars false
namespace Go.Abs
variable [iJ]
open Go
def Yy (r:Option Nat):Fence:={Fence.wide with round:=r}
def Bj (o:Oper):Bool:=match o.op with | .defer _=>false | _=>true
theorem Q0 {o:Oper} (h:Bj o=true):∀ c,o.op≠.defer c:=by
 intro c hc; unfold Bj at h; rw [hc] at h; cases h
section
variable {P : Program} {n : Nat} {r : Option Nat} {env : Env} {σ : List bf} {ds : List Deferred} {Q : Post} {all : Array Oper} {rest : List Oper} {o : Oper}
theorem acj {f:FuncId} {args:Array Value} {w:World} {R:Ending→World→Prop} {n:Nat} (h:Calls P f args w R):CallsIn (Yy r) n P f args w R:=by
 have:=(callsIn_wide (n:=n)).2 h; exact this
theorem adb {row:String} {args:Array Value} {w:World} {R:Value→World→Prop} {n:Nat} (h:Rows P row args w R):RowsIn (Yy r) n P row args w R:=
 fun c cs _=>let ⟨v,w',r,s⟩:=h c cs; ⟨v,w',r,stepsIn_wide.2 s⟩
theorem Vi {a:Act} {w:World} {K:Act→World→Prop} {Q:Exit→Act→World→Prop} (hd:Bj o=true) (h:o.wp P a w K Q):o.wpIn (Yy r) 0 P a w K Q:=by
 refine ⟨fun _ _=>trivial,?_⟩; rw [Oper.semAt_eq _ _ _ (Q0 hd)]; unfold Oper.wp at h; generalize (execOp a.eval o).run P w=x at h ⊢; cases x with
 | ok v w'=>
  cases v <;> simp only [Oper.upon,Oper.uponIn] at h ⊢ <;> first
   | exact h
   | exact ⟨fun hh=>by simp [Yy,Fence.wide] at hh,acj h⟩
   | exact ⟨fun hh=>by simp [Yy,Fence.wide] at hh,adb h⟩
 | halt v w'=>cases v <;> simp only [Oper.upon,Oper.uponIn] at h ⊢ <;> exact h
theorem P9 {Q:Exit→Act→World→Prop} (hno:¬ LetsOut Q):∀ (l:List Oper) (a:Act) (w:World),(∀ o∈l,Bj o=true)→wpList P all Q l a w→wpListIn (Yy r) 0 P all Q l a w
 | [],a,w,_,h=>h
 | o :: rest,a,w,hd,h=>by
  unfold wpList at h; unfold wpListIn; split
  ·
   rename_i hw; rw [if_pos hw] at h; rcases h with h | ⟨_,h⟩
   · exact Oper.wpIn_mono (fun a w h=>P9 hno rest a w (fun o ho=>hd o (by simp [ho])) h) (Vi (hd o (by simp)) h)
   · exact (hno h).elim
  ·
   rename_i hw; rw [if_neg hw] at h; exact ⟨fun _ _=>trivial,P9 hno rest _ _ (fun o ho=>hd o (by simp [ho])) h⟩
def Ak (P:Program) (r:Option Nat) (n:Nat) (c:Code) (env:Env) (σ:List bf) (ds:List Deferred) (Q:Post):Prop:=
 ∀ w m a QC,uZ w m n env σ ds a→Acc n Q w m σ QC→c.wpIn (Yy r) 0 P QC a w
def QZ (Q:Exit→Act→World→Prop):Exit→Act→World→Prop:=fun e a w=>e≠.outgrown∧Q e a w
theorem FL (Q:Exit→Act→World→Prop):¬ LetsOut (QZ Q):=fun ⟨_,_,h,_⟩=>h rfl
theorem Acc.QZ {w:World} {m:ko} {QC:Exit→Act→World→Prop} (h:Acc n Q w m σ QC):Acc n Q w m σ (Abs.QZ QC):=by
 intro x ex env' σ' ds' a' w' m' hq hx hs ht; refine ⟨?_,h x ex env' σ' ds' a' w' m' hq hx hs ht⟩; rintro rfl; cases x <;> simp [ahO] at hx
theorem Ak.region {id:Nat} {l:List Oper} (hd:(l.all Bj)=true) (h:AR P n l.toArray l env σ ds Q):Ak P r n (.region id l.toArray false) env σ ds Q:=by
 intro w m a QC hs ha; rw [List.all_eq_true] at hd; refine wpIn_mono (wpIn_region_lit (P9 (FL QC) l a w hd (h w m a _ hs ha.QZ))) fun e a w h=>h.2
theorem Ak.skip (h:Q .normal env σ ds):Ak P r n .skip env σ ds Q:=
 fun w m a _ hs ha=>wpIn_skip (ha .normal .normal env σ ds a w m h rfl hs (Trans.refl ..))
theorem Ak.exit {id:Nat} (h:Q (.exit id) env σ ds):Ak P r n (.exit id) env σ ds Q:=
 fun w m a _ hs ha=>wpIn_exit (ha (.exit id) (.exit id) env σ ds a w m h rfl hs (Trans.refl ..))
theorem Ak.ret (h:Q .ret env σ ds):Ak P r n .ret env σ ds Q:=
 fun w m a _ hs ha=>wpIn_ret (ha .ret .ret env σ ds a w m h rfl hs (Trans.refl ..))
theorem Ak.seq {c d:Code} (h:Ak P r n c env σ ds (AX.then (fun e s ds=>Ak P r n d e s ds Q) Q)):Ak P r n (.seq c d) env σ ds Q:=by
 intro w m a QC hs ha; refine wpIn_seq (h w m a _ hs ?_); intro x ex e1 σ1 d1 a1 w1 m1 hq hx hs1 ht; cases x with
 | normal=>cases hx; exact hq w1 m1 a1 QC hs1 (ha.step ht)
 | exit id=>cases hx; exact ha (.exit id) _ e1 σ1 d1 a1 w1 m1 hq rfl hs1 ht
 | ret=>cases hx; exact ha .ret _ e1 σ1 d1 a1 w1 m1 hq rfl hs1 ht
 | panic p=>obtain ⟨v,rfl,hv⟩:=hx; exact ha (.panic p) _ e1 σ1 d1 a1 w1 m1 hq ⟨v,rfl,hv⟩ hs1 ht
theorem Ak.cond {c:Operand} {x y:Code} {b:Bool} (hc:env.ev c=.bool b) (ht:b=true→Ak P r n x env σ ds Q) (hf:b=false→Ak P r n y env σ ds Q):
  Ak P r n (.cond c x y) env σ ds Q:=by
 intro w m a QC hs ha; have he:=hs.env.ev c; rw [hc] at he; simp only [dK] at he; exact wpIn_cond_split he (fun h=>ht h w m a QC hs ha) (fun h=>hf h w m a QC hs ha)
theorem Ak.block {id:Nat} {c:Code} (h:Ak P r n c env σ ds (AX.inBlock id Q)):Ak P r n (.block id c) env σ ds Q:=by
 intro w m a QC hs ha; refine wpIn_block (h w m a _ hs ?_); intro x ex e1 σ1 d1 a1 w1 m1 hq hx hs1 ht; cases x with
 | normal=>cases hx; exact ha .normal _ e1 σ1 d1 a1 w1 m1 hq rfl hs1 ht
 | exit id'=>
  cases hx; simp only [Exit.inBlock]; simp only [AX.inBlock] at hq; by_cases e:id'=id
  ·
   subst e; simp only [Nat.beq_refl,cond_true] at hq; rw [if_pos rfl]; exact ha .normal _ e1 σ1 d1 a1 w1 m1 hq rfl hs1 ht
  ·
   have:Nat.beq id' id=false:=uo e; simp only [this,cond_false] at hq; rw [if_neg e]; exact ha (.exit id') _ e1 σ1 d1 a1 w1 m1 hq rfl hs1 ht
 | ret=>cases hx; exact ha .ret _ e1 σ1 d1 a1 w1 m1 hq rfl hs1 ht
 | panic p=>obtain ⟨v,rfl,hv⟩:=hx; exact ha (.panic p) _ e1 σ1 d1 a1 w1 m1 hq ⟨v,rfl,hv⟩ hs1 ht
theorem Ak.mono {c:Code} {Q':Post} (h:Ak P r n c env σ ds Q) (hq:∀ x e s d,Q x e s d→Q' x e s d):Ak P r n c env σ ds Q':=
 fun w m a QC hs ha=>h w m a QC hs fun x ex env' σ' ds' a' w' m' h1 h2 h3 h4=>ha x ex env' σ' ds' a' w' m' (hq _ _ _ _ h1) h2 h3 h4
theorem Ak.settle {c:Code} {env':Env} (ps:List Nat) (hs:Abs.settle ps env=some env') (h:Ak P r n c env' σ ds Q):Ak P r n c env σ ds Q:=
 fun w m a QC uI ha=>h w m a QC ⟨uI.size,uI.ds,uI.env.settle hs,uI.lK⟩ ha
theorem Ak.frame {c:Code} {τ:List bf} (h:Ak P r n c env σ ds Q):Ak P r n c env (σ ++ τ) ds (fun x e s d=>∃ s0,s=s0 ++ τ∧Q x e s0 d):=by
 intro w m a QC hs ha; refine h w m a QC ⟨hs.size,hs.ds,hs.env,hs.lK.left⟩ fun x ex e' σ' ds' a' w' m' hq hx hs' ht=>?_; obtain ⟨k1,k2⟩:=Conc.frame hs.lK hs'.lK ht; exact ha x ex e' (σ' ++ τ) ds' a' w' m' ⟨σ',rfl,hq⟩ hx ⟨hs'.size,hs'.ds,hs'.env,k1⟩ k2
def SA (P:Program) (r:Option Nat) (n:Nat) (all:Array Oper) (l:List Oper) (env:Env) (σ:List bf) (ds:List Deferred) (Q:Post):Prop:=
 ∀ w m a QC,uZ w m n env σ ds a→Acc n Q w m σ QC→wpListIn (Yy r) 0 P all QC l a w
theorem SA.of {l:List Oper} (hd:(l.all Bj)=true) (h:AR P n all l env σ ds Q):SA P r n all l env σ ds Q:=by
 intro w m a QC hs ha; rw [List.all_eq_true] at hd; have:=P9 (r:=r) (FL QC) l a w hd (h w m a _ hs ha.QZ)
 have key:∀ (l:List Oper) (a:Act) (w:World),wpListIn (Yy r) 0 P all (QZ QC) l a w→wpListIn (Yy r) 0 P all QC l a w:=by
  intro l
  induction l with
  | nil=>intro a w h; exact h.2
  | cons o l ih=>
   intro a w h; unfold wpListIn at h ⊢; split
   ·
    rename_i hw; rw [if_pos hw] at h; refine ⟨h.1,?_⟩; have h2:=h.2; generalize (o.semAt (Yy r).round a.eval).run P w=x at h2 ⊢; cases x with
    | ok v w'=>
     cases v <;> simp only [Oper.uponIn] at h2 ⊢ <;> first
      | exact ih _ _ h2
      | exact ⟨h2.1,CallsIn.mono h2.2 fun e w'' he=>by
        cases e with
        | returned v=>exact ih _ _ he
        | panicked c=>exact he.2
        | outgrown=>exact (FL QC he).elim⟩
      | exact ⟨h2.1,RowsIn.mono h2.2 fun v w'' he=>ih _ _ he⟩
      | exact ⟨h2.1,RoundIn.mono h2.2 fun e w'' he=>by
        cases e with
        | returned v=>exact ih _ _ he
        | panicked c=>exact he.2
        | outgrown=>exact (FL QC he).elim⟩
    | halt v w'=>
     cases v <;> simp only [Oper.uponIn] at h2 ⊢ <;> exact h2.2
   ·
    rename_i hw; rw [if_neg hw] at h; exact ⟨h.1,ih _ _ h.2⟩
 exact key l a w this
theorem AW.ade {id:Nat} {l:List Oper} (h:SA P none n l.toArray l env σ ds Q):AW P n (.region id l.toArray false) env σ ds Q:=
 fun w m a QC hs ha=>wpIn_wide.1 (wpIn_region_lit (F:=Yy none) (n:=0) (h w m a QC hs ha))
theorem SA.step {t:Nat} (hnd:Bj o=true) (hg:o.guard=none) (hd:o.dst=some t) (ht:Nat.blt t n=true)
  (h:AO P o env.ev σ (fun p σ'=>SA P r n all rest ((t,p) :: env) σ' ds Q) (fun p σ'=>Q (.panic p) env σ' ds)):
  SA P r n all (o :: rest) env σ ds Q:=by
 intro w m a QC hs ha; have ht:t < n:=Nat.le_of_ble_eq_true ht; refine wpListIn_plain hg fun K hK=>Vi hnd ?_; refine h w m a K QC (fun x _=>hs.env.ev x) hs.lK ?_ ?_
 ·
  intro p σ' v w' m' hr hv hc htr; exact hK _ _ (hr w' m' _ QC (hs.put hd ht hv hc htr.le) (ha.step htr))
 ·
  intro p σ' v w' m' hr hv hc htr; exact ha (.panic p) _ _ _ _ a w' m' hr ⟨v,rfl,hv⟩ ⟨hs.size,hs.ds,hs.env.mono htr.le,hc⟩ htr
def AY (P:Program) (l:Nat) (args:List PV) (σ:List bf) (R:dx→List bf→Prop):Prop:=
 ∀ w m vs,Conc w m σ→bD w m args vs→∃ fn tmps assign body,(Instr.yield l vs.toArray).run P w=.ok (.round l fn tmps assign body) w∧
  RoundIn Fence.wide 0 P l fn tmps assign body w fun e w'=>∃ out σ' m',R out σ'∧G_ w' m' out e∧Conc w' m' σ'∧Trans w m σ w' m' σ'
theorem SA.yield {t l:Nat} {c:Call} {σ':List bf} {p:PV} (hnd:Bj o=true) (hg:o.guard=none) (hd:o.dst=some t) (ht:Nat.blt t n=true) (ho:o.op=.call c) (RS:Operand) (kZ:c.callee=.value RS)
  (hf:env.ev RS=.val (.func (.yield l) #[] #[])) (h:AY P l ((c.args.toList.map env.ev).map PV.weak) σ (fun out s=>out=.ret p∧s=σ'))
  (hk:SA P r n all rest ((t,p) :: env) σ' ds Q):SA P r n all (o :: rest) env σ ds Q:=by
 intro w m a QC hs ha; have ht:t < n:=Nat.le_of_ble_eq_true ht; refine wpListIn_plain hg fun K hK=>⟨fun _ _=>trivial,?_⟩; rw [Oper.semAt_eq _ _ _ (Q0 hnd)]; have hcv:=hs.env.ev RS; rw [hf] at hcv; simp only [dK] at hcv; have hargs:bD w m (c.args.toList.map env.ev) (c.args.toList.map a.eval):=bD.map fun x _=>hs.env.ev x; obtain ⟨fn,tmps,assign,body,h1,h2⟩:=h w m _ hs.lK hargs.weak
 have hrun:(execOp a.eval o).run P w=.ok (.round l fn tmps assign body) w:=by
  unfold execOp; simp only [ho,resolve,kZ,hcv,Deferred.ofValue,invoke,Sem.run_bind,Sem.run_pure,Result.andThen_ok]; rw [←h1]; congr 2; apply Array.ext'; simp
 rw [hrun]; simp only [Oper.uponIn]; refine ⟨fun hh=>by simp [Yy,Fence.wide] at hh,?_⟩; refine RoundIn.mono (show RoundIn (Yy r) (0 - 1) P l fn tmps assign body w _ from h2) ?_; rintro e w' ⟨out,s,m',⟨rfl,rfl⟩,⟨v,rfl,hv⟩,hc,htr⟩; exact hK _ _ (hk w' m' _ QC (hs.put hd ht hv hc htr.le) (ha.step htr))
end
def UL :List Nat→List PV→Env→Env
 | t :: ts,p :: ps,e=>UL ts ps ((t,p) :: e)
 | _,_,e=>e
theorem Ue {w:World} {m:ko} {n:Nat}:∀ {ts:List Nat} {ps:List PV} {vs:List Value} {env:Env} {tmps:Array Value},tmps.size=n→(∀ t∈ts,t < n)→bD w m ps vs→Eu w m env tmps→
  Eu w m (UL ts ps env) ((ts.zip vs).foldl (fun t (p,v)=>t.setIfInBounds p v) tmps)∧((ts.zip vs).foldl (fun t (p,v)=>t.setIfInBounds p v) tmps).size=n
 | [],_,_,_,_,hn,_,_,h=>by simpa [UL] using ⟨h,hn⟩
 | t :: ts,[],vs,env,tmps,hn,_,hr,h=>by
  simp only [bD] at hr; subst hr; simpa [UL] using ⟨h,hn⟩
 | t :: ts,p :: ps,vs,env,tmps,hn,hlt,hr,h=>by
  simp only [bD] at hr; obtain ⟨v,vs',rfl,h1,h2⟩:=hr; simp only [UL,List.zip_cons_cons,List.foldl_cons]; refine Ue (by simpa using hn) (fun u hu=>hlt u (by simp [hu])) h2 ?_; exact h.put h1 (by rw [hn]; exact hlt t (by simp))
def codeOf :Option AX→Option Code
 | some .ret=>some .ret
 | some (.exit id)=>some (.exit id)
 | _=>none
def Je (D:Nat):Deferred:={target:=.collected D,args:=#[]}
def IU (fn:FuncId) (tmps:Array Value) (ps:Array Tmp) (assign body:Code) (D:Nat) (x:Option AX):Loop:=
 {state:=if (codeOf x).isNone then .ready else .done,pending:=codeOf x,fn,tmps,params:=ps,assign,body,defers:=D}
def roundEnd {β:Type} (T:β→List bf) (pend:β→Option AX) (b:Bool) (s':β):Post:=fun x _ σ d=>d=[]∧(T s').Sublist σ∧
 match x with
 | .normal=>b=true∧pend s'=none
 | .ret=>b=false∧pend s'=some .ret
 | .exit id=>b=false∧pend s'=some (.exit id)
 | .panic _=>False
theorem J7 {w:World} {m:ko} {σ:List bf} (hc:Conc w m σ) {i b:Nat} {o o':Obj} (hi:σ[i]?=some (.obj b o)):
  Conc (w.putObj b o') m (σ.set i (.obj b o'))∧Trans w m σ (w.putObj b o') m (σ.set i (.obj b o')):=by
 obtain ⟨hb,hm⟩:=hc.each _ (List.mem_of_getElem? hi)
 have hblt:b < w.heap.size:=by
  rcases Nat.lt_or_ge b w.heap.size with h | h
  · exact h
  · simp [Array.getElem?_eq_none h] at hb
 exact Conc.write (w':=w.putObj b o') (r':=.obj b o') hc hi rfl rfl hm ⟨World.putObj_heap_same hblt,hm⟩ ⟨rfl,rfl,rfl⟩ (by simp) (fun k hk=>World.putObj_heap_other hk)
section
variable {P : Program} {n : Nat} {env : Env} {σ : List bf} {ds : List Deferred} {Q : Post}
theorem AW.rangeFunc {β X:Type} {g:Operand} {ps:Array Tmp} {assign body:Code} {gf:Nat} {caps:List PV} (hg:env.ev g=.fn gf caps) (hp:aU P gf=true)
  (enc:X→List PV) (henc:∀ x,(enc x).length=ps.toList.length) (hps:∀ t∈ps.toList,t < n) (y:β→X→Option (Bool × β)) (T:β→List bf) (pend:β→Option AX) {s0 s1:β} (hσ:σ=T s0) (hs0:pend s0=none)
  (hit:∀ (l:Nat) (T':β→List bf),(∀ s x b s',y s x=some (b,s')→AY P l (enc x) (T' s) (fun out σ'=>out=.ret (.bool b)∧σ'=T' s'))→
   AC P gf (.val (.func (.yield l) #[] #[]) :: caps) (T' s0) (fun out σ'=>(∃ p,out=.ret p)∧σ'=T' s1))
  (round:∀ l s x b s',y s x=some (b,s')→pend s=none∧
   Ak P (some l) n assign (UL ps.toList (enc x) env) (T s) [] (fun ax e σ' d=>ax=.normal∧Ak P (some l) n body e σ' d (roundEnd T pend b s')))
  (hq:∀ D,(match pend s1 with | none=>Q .normal env | some .ret=>Q .ret env | some (.exit id)=>Q (.exit id) env | some _=>fun _ _=>False) (T s1 ++ [bf.obj D (.deferred (some []))]) (Je D :: ds)):
  AW P n (.rangeFunc g ps assign body) env σ ds Q:=by
 subst hσ; intro w m a QC hs ha; refine (wpIn_wide (n:=0)).1 (wpIn_rangeFunc fun fn _=>?_); have hge:=hs.env.ev g; rw [hg] at hge; simp only [dK] at hge; obtain ⟨cs,hcv,hcs⟩:=hge; have c1:=Kv hs.lK (.deferred (some []))
 have t1:=kX (σ':=bf.obj w.heap.size (.deferred (some [])) :: T s0) hs.lK (.deferred (some [])) (fun _=>False) (fun b hb=>by
  simp [lU,bf.fp] at hb ⊢; rcases hb with hb | hb
  · exact .inr hb
  · exact .inl hb)
 have c2:=Kv c1 (.loop (IU fn a.tmps ps assign body w.heap.size none))
 have t2:=kX (σ':=.obj (w.alloc (.deferred (some []))).heap.size (.loop (IU fn a.tmps ps assign body w.heap.size none)) :: bf.obj w.heap.size (.deferred (some [])) :: T s0) c1 (.loop (IU fn a.tmps ps assign body w.heap.size none)) (fun _=>False) (fun b hb=>by
  simp [lU,bf.fp] at hb ⊢; rcases hb with hb | hb | hb
  · exact .inr hb
  · exact .inl (.inl hb)
  · exact .inl (.inr hb))
 have hsz:(w.alloc (.deferred (some []))).heap.size=w.heap.size + 1:=by simp
 rw [hsz] at c2 t2; generalize hW:(w.alloc (.deferred (some []))).alloc (.loop (IU fn a.tmps ps assign body w.heap.size none))=W at c2 t2; generalize hM:(fun b off=>(m b off∨b=w.heap.size∧False)∨b=w.heap.size + 1∧False)=M at c2 t2; have tW:=t1.trans t2; let rec' (s:β):Loop:=IU fn a.tmps ps assign body w.heap.size (pend s); let T' (s:β):List bf:=T s ++ [bf.obj (w.heap.size + 1) (.loop (rec' s)),bf.obj w.heap.size (.deferred (some [])),bf.since w m]
 have hT0:(T' s0).Perm (.obj (w.heap.size + 1) (.loop (IU fn a.tmps ps assign body w.heap.size none)) :: bf.obj w.heap.size (.deferred (some [])) :: T s0 ++ [bf.since w m]):=by
  simp only [T',rec',hs0]; refine List.perm_append_comm.trans ?_; simp only [List.cons_append,List.nil_append]; refine List.Perm.cons _ (List.Perm.cons _ ?_); exact (List.perm_append_comm (l₁:=[bf.since w m]) (l₂:=T s0))
 have cT:Conc W M (T' s0):=by
  refine Conc.perm hT0.symm ?_; refine ⟨fun r hr=>?_,?_,c2.wf,c2.uK⟩
  ·
   rcases List.mem_append.1 hr with h | h
   · exact c2.each r h
   ·
    rw [List.mem_singleton] at h; subst h; exact tW.le
  ·
   have:=c2.apart; simpa [lU,bf.fp] using this
 have tT:Trans w m (T s0) W M (T' s0):=by
  refine Trans.perm (.refl _) hT0.symm ⟨tW.os,tW.tape,tW.output,tW.size,tW.le,tW.keep,fun b hb=>tW.fresh b ?_,tW.drawn⟩; simpa [lU,bf.fp] using hb
 refine ⟨w.heap.size + 1,[Je w.heap.size],W,{target:=.fn (.func gf) cs.toArray,args:=#[.func (.yield (w.heap.size + 1)) #[] #[]]},W,gf,
  #[.func (.yield (w.heap.size + 1)) #[] #[]] ++ cs.toArray,W,?_,?_,fun _ _=>trivial,?_,fun hh=>by simp [Fence.wide] at hh,?_⟩
 · rw [←hW]; exact run_enterLoop_outer _ _ _ _ _
 ·
  simp only [resolve,hcv]; simp [go_sem]
 ·
  simp only [invoke]; rw [zB hp]
 ·
  refine callsIn_wide.2 ?_; have hac:=hit (w.heap.size + 1) T' ?_
  ·
   have hcs':bD W M (.val (.func (.yield (w.heap.size + 1)) #[] #[]) :: caps) (.func (.yield (w.heap.size + 1)) #[] #[] :: cs):=bD.cons (by simp [dK]) (bD.mono tW.le _ _ hcs); have:=hac W M _ cT hcs'; rw [show (Value.func (.yield (w.heap.size + 1)) #[] #[] :: cs).toArray=#[.func (.yield (w.heap.size + 1)) #[] #[]] ++ cs.toArray from by apply Array.ext'; simp] at this; refine this.mono ?_; rintro e w' ⟨out,σ',m',⟨⟨p,rfl⟩,rfl⟩,⟨v,rfl,hv⟩,hc',ht'⟩; have hi:(T' s1)[(T s1).length]?=some (.obj (w.heap.size + 1) (.loop (rec' s1))):=by simp [T']
   obtain ⟨hb,_⟩:=hc'.each _ (List.mem_of_getElem? hi); obtain ⟨k1,k2⟩:=J7 (o':=.loop {rec' s1 with state:=.exhausted}) hc' hi
   have hsub:(T s1 ++ [bf.obj w.heap.size (.deferred (some []))]).Sublist ((T' s1).set (T s1).length (.obj (w.heap.size + 1) (.loop {rec' s1 with state:=.exhausted}))):=by
    simp only [T']; rw [List.set_append_right _ _ (Nat.le_refl _),Nat.sub_self]; refine List.Sublist.append (List.Sublist.refl _) ?_; simp only [List.set_cons_zero]; exact .cons _ (.cons_cons _ (.cons _ .slnil))
   have k3:=k1.sub hsub; have k4:=(tT.trans (ht'.trans k2)).sub hsub
   have hse:∀ todo,uZ (w'.putObj (w.heap.size + 1) (.loop {rec' s1 with state:=.exhausted})) m' n env (T s1 ++ [bf.obj w.heap.size (.deferred (some []))]) (Je w.heap.size :: ds) {a with defers:=todo}∨todo≠[Je w.heap.size] ++ a.defers:=by
    intro todo; by_cases e:todo=[Je w.heap.size] ++ a.defers
    ·
     subst e; exact .inl ⟨hs.size,by simp [hs.ds],hs.env.mono k4.le,k3⟩
    · exact .inr e
   have hse:=(hse ([Je w.heap.size] ++ a.defers)).resolve_right (by simp); refine ⟨codeOf (pend s1),w'.putObj (w.heap.size + 1) (.loop {rec' s1 with state:=.exhausted}),?_,?_⟩
   ·
    have:=run_endLoop (P:=P) (w:=w') (l:=w.heap.size + 1) (r:=rec' s1) hb (by simp only [rec',IU]; split <;> simp); exact this
   ·
    have hqD:=hq w.heap.size; cases hpe:pend s1 with
    | none=>
     rw [hpe] at hqD; exact ha .normal _ env _ _ _ _ m' hqD rfl hse k4
    | some x=>
     rw [hpe] at hqD; cases x with
     | ret=>exact wpIn_ret (ha .ret _ env _ _ _ _ m' hqD rfl hse k4)
     | exit id=>exact wpIn_exit (ha (.exit id) _ env _ _ _ _ m' hqD rfl hse k4)
     | normal=>exact hqD.elim
     | panic p=>exact hqD.elim
  ·
   
   intro s x b s' hy w1 m1 vs hc1 hv1; obtain ⟨ail,afw⟩:=round (w.heap.size + 1) s x b s' hy; have hi:(T' s)[(T s).length]?=some (.obj (w.heap.size + 1) (.loop (rec' s))):=by simp [T']
   obtain ⟨hb1,_⟩:=hc1.each _ (List.mem_of_getElem? hi); have afv:Le w m w1 m1:=hc1.each (.since w m) (by simp [T']); have hvl:=hv1.length_eq
   have hsz':vs.toArray.size=(rec' s).params.size:=by
    simp only [rec',IU,List.size_toArray]; rw [hvl,henc x]; simp
   have hyr:=run_yield (P:=P) hb1 hsz'; refine ⟨_,_,_,_,hyr,?_⟩; refine roundIn_of_wpIn trivial ?_
   have ahe:((rec' s).params.zip vs.toArray).foldl (fun tmps (t,a)=>tmps.setIfInBounds t a) (rec' s).tmps=(ps.toList.zip vs).foldl (fun t (p,v)=>t.setIfInBounds p v) a.tmps:=by
    simp only [rec',IU]; rw [←Array.foldl_toList,Array.toList_zip]
   obtain ⟨hb2,hb3⟩:=Ue (n:=n) (ts:=ps.toList) hs.size (fun t ht=>hps t ht) hv1 (hs.env.mono afv); have hA:=Ak.frame (τ:=[bf.obj (w.heap.size + 1) (.loop (rec' s)),bf.obj w.heap.size (.deferred (some [])),bf.since w m]) afw; refine hA w1 m1 _ _ ⟨?_,rfl,?_,hc1⟩ ?_
   · rw [ahe]; exact hb3
   · rw [ahe]; exact hb2
   ·
    rintro ax ex e2 σ2 d2 a2 w2 m2 ⟨aaC,rfl,rfl,hbody⟩ hx hs2 ht2; cases hx; have hi2:(aaC ++ [bf.obj (w.heap.size + 1) (.loop (rec' s)),bf.obj w.heap.size (.deferred (some [])),bf.since w m])[aaC.length]?=some (.obj (w.heap.size + 1) (.loop (rec' s))):=by simp
    obtain ⟨hb4,_⟩:=hs2.lK.each _ (List.mem_of_getElem? hi2); have Yj:(rec' s).state=.ready:=by simp [rec',IU,ail,codeOf]
    refine ⟨_,run_beginRound hb4 Yj,?_⟩; obtain ⟨k1,k2⟩:=J7 (o':=.loop {rec' s with state:=.busy}) hs2.lK hi2
    have hset:(aaC ++ [bf.obj (w.heap.size + 1) (.loop (rec' s)),bf.obj w.heap.size (.deferred (some [])),bf.since w m]).set aaC.length (.obj (w.heap.size + 1) (.loop {rec' s with state:=.busy}))=
      aaC ++ [bf.obj (w.heap.size + 1) (.loop {rec' s with state:=.busy}),bf.obj w.heap.size (.deferred (some [])),bf.since w m]:=by
     rw [List.set_append_right _ _ (Nat.le_refl _),Nat.sub_self]; rfl
    rw [hset] at k1 k2; have hB:=Ak.frame (τ:=[bf.obj (w.heap.size + 1) (.loop {rec' s with state:=.busy}),bf.obj w.heap.size (.deferred (some [])),bf.since w m]) hbody; refine hB _ m2 a2 _ ⟨hs2.size,hs2.ds,hs2.env.mono k2.le,k1⟩ ?_; rintro ax3 ex3 e3 σ3 d3 a3 w3 m3 ⟨Zr,rfl,hd3,ahh,hend⟩ hx3 hs3 ht3; have hi3:(Zr ++ [bf.obj (w.heap.size + 1) (.loop {rec' s with state:=.busy}),bf.obj w.heap.size (.deferred (some [])),bf.since w m])[Zr.length]?=some (.obj (w.heap.size + 1) (.loop {rec' s with state:=.busy})):=by simp
    obtain ⟨hb5,_⟩:=hs3.lK.each _ (List.mem_of_getElem? hi3)
    have fin:∀ jump:Option Code,jump=codeOf (pend s')→b=jump.isNone→∃ v w',(Instr.endRound (w.heap.size + 1) jump).run P w3=.ok v w'∧∃ out σ' m',(out=dx.ret (.bool b)∧σ'=T' s')∧G_ w' m' out (.returned v)∧Conc w' m' σ'∧Trans w1 m1 (T' s) w' m' σ':=by
     intro jump hj hbj; refine ⟨_,_,run_endRound jump hb5,.ret (.bool b),T' s',m3,⟨rfl,rfl⟩,⟨_,rfl,by simp [dK,hbj]⟩,?_⟩; obtain ⟨q1,q2⟩:=J7 (o':=.loop {rec' s with state:=if jump.isNone then .ready else .done,pending:=jump}) hs3.lK hi3
     have hrec:({rec' s with state:=if jump.isNone then .ready else .done,pending:=jump}:Loop)=rec' s':=by
      simp only [rec',IU,hj]
     have ahi:(Zr ++ [bf.obj (w.heap.size + 1) (.loop {rec' s with state:=.busy}),bf.obj w.heap.size (.deferred (some [])),bf.since w m]).set Zr.length (.obj (w.heap.size + 1) (.loop {rec' s with state:=if jump.isNone then .ready else .done,pending:=jump}))=
       Zr ++ [bf.obj (w.heap.size + 1) (.loop (rec' s')),bf.obj w.heap.size (.deferred (some [])),bf.since w m]:=by
      rw [List.set_append_right _ _ (Nat.le_refl _),Nat.sub_self,hrec]; rfl
     rw [ahi] at q1 q2; have hsub:(T' s').Sublist (Zr ++ [bf.obj (w.heap.size + 1) (.loop (rec' s')),bf.obj w.heap.size (.deferred (some [])),bf.since w m]):=List.Sublist.append ahh (List.Sublist.refl _); exact ⟨q1.sub hsub,(ht2.trans (k2.trans (ht3.trans q2))).sub hsub⟩
    cases ax3 with
    | normal=>
     cases hx3; obtain ⟨h5,h6⟩:=hend; exact fin none (by rw [h6]; rfl) (by rw [h5]; rfl)
    | ret=>
     cases hx3; obtain ⟨h5,h6⟩:=hend; exact fin (some .ret) (by rw [h6]; rfl) (by rw [h5]; rfl)
    | exit id=>
     cases hx3; obtain ⟨h5,h6⟩:=hend; exact fin (some (.exit id)) (by rw [h6]; rfl) (by rw [h5]; rfl)
    | panic p=>exact hend.elim
end
end Go.Abs
namespace Go.Abs
variable [iJ]
open Go
theorem Wu {P:Program} {fn:Func} {rs:List ResultVar} {env:Env} {σ:List bf} {w:World} {m:ko} {tmps:Array Value} {ps:List PV} (hrs:fn.results.toList=rs) (he:Eu w m env tmps) (hc:Conc w m σ) (h1:G9 P env σ rs ps):
  ∃ v,(results fn tmps).run P w=.ok v w∧dK w m (nK (ps.map PV.weak)) v:=by
 obtain ⟨us,k1,k2⟩:=EB he hc h1; have hl2:=k2.length_eq
 have hrun:(results fn tmps).run P w=.ok (if h:us.toArray.size=1 then us.toArray[0] else .tuple us.toArray) w:=by
  unfold results; rw [Array.mapM_eq_mapM_toList,hrs]; have k1':=k1; simp only [Sem.run_bind,Sem.run_map]
  erw [k1']
  rfl
 have k2:=k2.weak; have hl2:us.length=(ps.map PV.weak).length:=by simpa using hl2
 refine ⟨_,hrun,?_⟩; clear h1 hrun; generalize ps.map PV.weak=ps at k2 hl2 ⊢
 match ps,us,k2,hl2 with
 | [],us,k2,hl2=>
  simp only [bD] at k2; subst k2; simp only [nK,dK]; exact ⟨[],by simp,bD.nil⟩
 | [p],us,k2,hl2=>
  simp only [bD] at k2; obtain ⟨v,vs',rfl,h3,rfl⟩:=k2; simpa [nK] using h3
 | p :: q :: ps,us,k2,hl2=>
  rw [dif_neg (by simp [hl2])]; simp only [nK,dK]; exact ⟨us,rfl,k2⟩
def afW (P:Program) (rs:List ResultVar) (R:dx→List bf→Prop):Post
 | .normal,e,s,d | .ret,e,s,d=>∃ D s1,d=[Je D]∧s=s1 ++ [.obj D (.deferred (some []))]∧∃ ps,G9 P e s1 rs ps∧∃ s',s'.Sublist s1∧R (.ret (nK (ps.map PV.weak))) s'
 | _,_,_,_=>False
theorem AC.KW {P:Program} {f:FuncId} {fn:Func} {c:Code} {args:List PV} {σ:List bf} {R:dx→List bf→Prop} (n:Nat) (rs:List ResultVar) (ts:List Nat) {env:Env}
  (hf:P.funcs[f]?=some fn) (hb:fn.body=some c) (hn:fn.ntmps=n) (hl:Nat.ble args.length n=true) (hrs:fn.results.toList=rs) (NY:settle ts (Cr 0 args)=some env)
  (h:AW P n c env σ [] (afW P rs R)):AC P f args σ R:=by
 intro w m vs hc hv; have hl:args.length≤n:=Nat.le_of_ble_eq_true hl; have hvl:=hv.length_eq; refine callsIn_wide.1 (callsIn_of_wp_marks (n:=0) hf hb trivial (wpIn_wide.2 ?_)); refine h w m _ _ ⟨?_,rfl,?_,hc⟩ ?_
 · simp [hvl,hn]; omega
 ·
  have:=Dh (List.replicate (fn.ntmps - vs.toArray.size) Go.undef) [] hv; rw [show vs.toArray ++ Array.replicate (fn.ntmps - vs.toArray.size) Go.undef=([] ++ vs ++ List.replicate (fn.ntmps - vs.toArray.size) Go.undef).toArray from by simp]; exact Eu.settle NY this
 ·
  intro x ex env' σ' ds' a' w' m' hq hx hs ht
  have hend:∀ D s1,ds'=[Je D]→σ'=s1 ++ [.obj D (.deferred (some []))]→∀ ps s',G9 P env' s1 rs ps→s'.Sublist s1→R (.ret (nK (ps.map PV.weak))) s'→
    LeavesInM Fence.wide 0 P fn a'.tmps (fun e w'=>∃ out σ' m',R out σ'∧G_ w' m' out e∧Conc w' m' σ'∧Trans w m σ w' m' σ') a'.defers .returning w':=by
   intro D s1 hd hs1 ps s' h1 hsub h2; subst hs1; rw [hs.ds,hd]; have hi:(s1 ++ [bf.obj D (.deferred (some []))])[s1.length]?=some (.obj D (.deferred (some []))):=by simp
   obtain ⟨hbD,_⟩:=hs.lK.each _ (List.mem_of_getElem? hi); obtain ⟨k1,k2⟩:=J7 (o':=.deferred Option.none) hs.lK hi
   have hset:(s1 ++ [bf.obj D (.deferred (some []))]).set s1.length (.obj D (.deferred Option.none))=s1 ++ [.obj D (.deferred Option.none)]:=by
    rw [List.set_append_right _ _ (Nat.le_refl _),Nat.sub_self]; rfl
   rw [hset] at k1 k2; refine ⟨by simp,.inl ⟨D,_,rfl,run_takeDeferred hbD,?_⟩⟩; have k3:=k1.left; obtain ⟨v,hv1,hv2⟩:=Wu hrs (hs.env.mono k2.le) k3 h1; refine ⟨v,hv1,.ret _,s',m',h2,⟨v,rfl,hv2⟩,k3.sub hsub,?_⟩; exact (ht.trans k2).sub (hsub.trans (List.sublist_append_left _ _))
  cases x with
  | normal=>cases hx; obtain ⟨D,s1,hd,hs1,ps,h1,s',hsub,h2⟩:=hq; exact hend D s1 hd hs1 ps s' h1 hsub h2
  | ret=>cases hx; obtain ⟨D,s1,hd,hs1,ps,h1,s',hsub,h2⟩:=hq; exact hend D s1 hd hs1 ps s' h1 hsub h2
  | exit id=>exact hq.elim
  | panic p=>exact hq.elim
theorem YE {w:World} {m:ko}:∀ {vs cs:List Value},bD w m (vs.map PV.val) cs→cs=vs
 | [],cs,h=>by simpa [bD] using h
 | v :: vs,cs,h=>by
  simp only [List.map_cons,bD,dK] at h; obtain ⟨u,us,rfl,h1,h2⟩:=h; rw [YE h2,h1]
theorem AR.defer {P:Program} {n:Nat} {env:Env} {σ:List bf} {ds:List Deferred} {Q:Post} {all:Array Oper} {rest:List Oper} {o:Oper} {c:Call} {RS:Operand} {g:FuncId} {vs:List Value}
  (hg:o.guard=Option.none) (hd:o.dst=Option.none) (ho:o.op=.defer c) (kZ:c.callee=.value RS) (hargs:c.args=#[]) (hf:env.ev RS=.fn g (vs.map PV.val))
  (h:AR P n all rest env σ ({target:=.fn (.func g) vs.toArray,args:=#[]} :: ds) Q):AR P n all (o :: rest) env σ ds Q:=by
 intro w m a QC hs ha; refine wpList_plain hg fun K hK=>?_; have hcv:=hs.env.ev RS; rw [hf] at hcv; simp only [dK] at hcv; obtain ⟨cs,hcv,hcs⟩:=hcv; have hcs':=YE hcs; subst hcs'
 have hrun:(execOp a.eval o).run P w=.ok (.defer {target:=.fn (.func g) cs.toArray,args:=#[]}) w:=by
  unfold execOp; simp [ho,resolve,kZ,hcv,hargs,Deferred.ofValue]
 unfold Oper.wp; rw [hrun]; refine hK _ _ (h w m _ QC ⟨?_,?_,?_,hs.lK⟩ ha)
 · rw [hd]; exact hs.size
 · rw [hd]; simp [Act.put,hs.ds]
 · rw [hd]; exact hs.env
def afV (P:Program) (rs:List ResultVar) (R:dx→List bf→Prop) (g:FuncId) (nt t:Nat) (ops:List Oper) (o:Oper) (X:Code) (vs:List Value) (Yl:Env):Post
 | .normal,e,s,d | .ret,e,s,d=>d=[{target:=.fn (.func g) vs.toArray,args:=#[]}]∧
   AR P nt (o :: ops).toArray ops ((t,.val .nilIface) :: Yl) s [] (AX.then (fun e' s d=>AW P nt X e' s d (QD fun s'=>∃ ps,G9 P e s' rs ps∧∃ s'',s''.Sublist s'∧R (.ret (nK (ps.map PV.weak))) s'')) (QD fun s'=>∃ ps,G9 P e s' rs ps∧∃ s'',s''.Sublist s'∧R (.ret (nK (ps.map PV.weak))) s''))
 | .panic p,e,s,d=>d=[{target:=.fn (.func g) vs.toArray,args:=#[]}]∧
   AR P nt (o :: ops).toArray ops ((t,p) :: Yl) s [] (AX.then (fun e' s d=>AW P nt X e' s d (QD fun s'=>∃ ps,G9 P e s' rs ps∧∃ s'',s''.Sublist s'∧R (.ret (nK (ps.map PV.weak))) s'')) (QD fun s'=>∃ ps,G9 P e s' rs ps∧∃ s'',s''.Sublist s'∧R (.ret (nK (ps.map PV.weak))) s''))
 | _,_,_,_=>False
theorem WA (w:World) (m:ko):∀ vs:List Value,bD w m (vs.map PV.val) vs
 | []=>bD.nil
 | v :: vs=>bD.cons (by simp [dK]) (WA w m vs)
theorem AC.OV {P:Program} {f g:FuncId} {fn fd:Func} {c X:Code} {args:List PV} {σ:List bf} {R:dx→List bf→Prop} {id nt t:Nat} {ops:List Oper} {o:Oper} (n:Nat) (rs:List ResultVar) (ts td:List Nat) {env:Env}
  (hf:P.funcs[f]?=some fn) (hb:fn.body=some c) (hn:fn.ntmps=n) (hl:Nat.ble args.length n=true) (hrs:fn.results.toList=rs) (NY:settle ts (Cr 0 args)=some env)
  (hfd:P.funcs[g]?=some fd) (hbd:fd.body=some (.seq (.region id (o :: ops).toArray false) X)) (hnd:fd.ntmps=nt) (hrsd:fd.results.toList=[])
  (hg:o.guard=Option.none) (ho:isRecover o=true) (hd:o.dst=some t) (ht:Nat.blt t nt=true) (hp:aU P g=true)
  (h:AW P n c env σ [] (fun x e s d=>∃ vs Yl,Nat.ble vs.length nt=true∧settle td (Cr 0 (vs.map PV.val))=some Yl∧afV P rs R g nt t ops o X vs Yl x e s d)):AC P f args σ R:=by
 intro w m us hc hv; have hl:args.length≤n:=Nat.le_of_ble_eq_true hl; have hvl:=hv.length_eq; refine calls_of_wp_defers hf hb ?_; refine h w m _ _ ⟨?_,rfl,?_,hc⟩ ?_
 · simp [hvl,hn]; omega
 ·
  have:=Dh (List.replicate (fn.ntmps - us.toArray.size) Go.undef) [] hv; rw [show us.toArray ++ Array.replicate (fn.ntmps - us.toArray.size) Go.undef=([] ++ us ++ List.replicate (fn.ntmps - us.toArray.size) Go.undef).toArray from by simp]; exact Eu.settle NY this
 ·
  intro x ex env' σ' ds' a' w' m' hq hx hs htr; obtain ⟨vs,Yl,hvn,ahn,hq⟩:=hq
  have key:∀ (q:Option Value) (p:PV),(match q with | Option.none=>p=.val .nilIface | some v=>dK w' m' p v)→ds'=[{target:=.fn (.func g) vs.toArray,args:=#[]}]→
    AR P nt (o :: ops).toArray ops ((t,p) :: Yl) σ' [] (AX.then (fun e' s d=>AW P nt X e' s d (QD fun s'=>∃ ps,G9 P env' s' rs ps∧∃ s'',s''.Sublist s'∧R (.ret (nK (ps.map PV.weak))) s'')) (QD fun s'=>∃ ps,G9 P env' s' rs ps∧∃ s'',s''.Sublist s'∧R (.ret (nK (ps.map PV.weak))) s''))→
    Leaves P fn a'.tmps (fun e w'=>∃ out σ' m',R out σ'∧G_ w' m' out e∧Conc w' m' σ'∧Trans w m σ w' m' σ') a'.defers (MI q) w':=by
   intro q p hqp hds har; rw [hs.ds,hds]; refine leaves_cons (f:=g) (args:=vs.toArray) (by cases q <;> simp [MI]) ?_ ?_
   ·
    simp only [invoke]; rw [zB hp]; simp
   ·
    refine CallsD.mono (CD.rec (args:=vs.map PV.val) td hfd hbd hnd (by simpa using hvn) hrsd ahn hg ho hd ht har w' m' vs q hqp hs.lK (WA w' m' vs)) ?_; rintro e u' w2 ⟨rfl,rfl,σ2,m2,⟨ps,h1,s'',hsub,h2⟩,hc2,ht2⟩; obtain ⟨v,hv1,hv2⟩:=Wu hrs (hs.env.mono ht2.le) hc2 h1; have hset:Go.settle (DI q)=.returning:=by cases q <;> simp [DI,Go.settle]
    simp only [hset]; exact ⟨v,hv1,.ret _,s'',m2,h2,⟨v,rfl,hv2⟩,hc2.sub hsub,(htr.trans ht2).sub hsub⟩
  cases x with
  | normal=>cases hx; exact key Option.none _ rfl hq.1 hq.2
  | ret=>cases hx; exact key Option.none _ rfl hq.1 hq.2
  | exit id=>exact hq.elim
  | panic p=>
   obtain ⟨v,rfl,hv'⟩:=hx; exact key (some v) p hv' hq.1 hq.2
theorem Qk {w:World} {m:ko} {σ:List bf} {i b:Nat} {cs:List PV} (hi:σ[i]?=some (.box b cs)) (hc:Conc w m σ):Conc w m (σ.set i (.box b (cs.map PV.xg)))∧Trans w m σ w m (σ.set i (.box b (cs.map PV.xg))):=by
 have hf:lU (σ.set i (.box b (cs.map PV.xg)))=lU σ:=by
  clear hc
  induction σ generalizing i with
  | nil=>rfl
  | cons r σ ih=>
   cases i with
   | zero=>
    simp only [List.getElem?_cons_zero,Option.some.injEq] at hi; subst hi; simp [lU,bf.fp]
   | succ i=>
    simp only [List.getElem?_cons_succ] at hi; have:=ih hi; simp only [lU,List.set_cons_succ,List.flatMap_cons] at this ⊢; rw [this]
 refine ⟨⟨fun r hr=>?_,by rw [hf]; exact hc.apart,hc.wf,hc.uK⟩,⟨rfl,rfl,rfl,Nat.le_refl _,Le.refl _ _,fun _ _ _=>⟨rfl,fun _ h=>h⟩,fun x hx=>.inl (by rw [←hf]; exact hx),fun _=>Nat.le_refl _⟩⟩; rcases List.mem_or_eq_of_mem_set hr with h | h
 · exact hc.each r h
 ·
  subst h; obtain ⟨vs,ty,h1,h2,h3⟩:=hc.each _ (List.mem_of_getElem? hi); exact ⟨vs,ty,h1,h2.xg,h3⟩
section
variable {P : Program} {n : Nat} {env : Env} {σ : List bf} {ds : List Deferred} {Q : Post} {all : Array Oper} {l : List Oper}
theorem AR.V8 (i:Nat) {b:Nat} {cs:List PV} (hi:σ[i]?=some (.box b cs)) (h:AR P n all l env (σ.set i (.box b (cs.map PV.xg))) ds Q):AR P n all l env σ ds Q:=by
 intro w m a QC hs ha; obtain ⟨k1,k2⟩:=Qk hi hs.lK; exact h w m a QC ⟨hs.size,hs.ds,hs.env,k1⟩ (ha.step k2)
theorem AW.V8 {c:Code} (i:Nat) {b:Nat} {cs:List PV} (hi:σ[i]?=some (.box b cs)) (h:AW P n c env (σ.set i (.box b (cs.map PV.xg))) ds Q):AW P n c env σ ds Q:=by
 intro w m a QC hs ha; obtain ⟨k1,k2⟩:=Qk hi hs.lK; exact h w m a QC ⟨hs.size,hs.ds,hs.env,k1⟩ (ha.step k2)
end
section
variable {P : Program} {o : Oper} {ρ : Operand → PV} {σ : List bf} {R S : PV → List bf → Prop}
theorem AO.YM {x:Operand} {xt t:TypeId} {p:PV} (ho:o.op=.typeAssert x xt t true) (hx:ρ x=.iface t p) (hrun:∀ v w,(Instr.typeAssert (.iface t v) xt t true).run P w=.ok (.tuple #[v,.bool true]) w)
  (hR:R (.tuple [p,.bool true]) σ):AO P o ρ σ R S:=by
 refine AO.of_same hR fun w m ev hr hc=>?_; have h1:=hr x (by simp [ho,Op.operands]); rw [hx] at h1; simp only [dK] at h1; obtain ⟨v,h1,h2⟩:=h1; refine ⟨.tuple #[v,.bool true],?_,?_⟩
 · simp only [execOp,ho,h1,Sem.run_bind,hrun,Result.andThen_ok,Sem.run_pure]
 ·
  simp only [dK]; exact ⟨[v,.bool true],rfl,bD.cons h2 (bD.cons (by simp [dK]) bD.nil)⟩
theorem AO.Wm {x:Operand} {xt t:TypeId} {p:PV} {z:Value} (ho:o.op=.typeAssert x xt t true) (hx:ρ x=.val .nilIface) (hrun:∀ w,(Instr.typeAssert .nilIface xt t true).run P w=.ok (.tuple #[z,.bool false]) w)
  (hz:∀ w m,dK w m p z) (hR:R (.tuple [p,.bool false]) σ):AO P o ρ σ R S:=by
 refine AO.of_same hR fun w m ev hr hc=>?_; have h1:=hr x (by simp [ho,Op.operands]); rw [hx] at h1; simp only [dK] at h1; refine ⟨.tuple #[z,.bool false],?_,?_⟩
 · simp only [execOp,ho,h1,Sem.run_bind,hrun,Result.andThen_ok,Sem.run_pure]
 ·
  simp only [dK]; exact ⟨[z,.bool false],rfl,bD.cons (hz w m) (bD.cons (by simp [dK]) bD.nil)⟩
end
end Go.Abs
namespace Go.Abs
variable [iJ]
open Go
section
variable {P : Program} {n : Nat} {all : Array Oper} {l : List Oper} {env : Env} {σ : List bf} {ds : List Deferred} {Q : Post} {c : Code}
def AZ :List bf→Nat→Option (List bf)
 | [],_=>none
 | _ :: σ,0=>some σ
 | r :: σ,i + 1=>match AZ σ i with
  | some σ'=>some (r :: σ')
  | none=>none
theorem GL :∀ {σ σ':List bf} {i:Nat},AZ σ i=some σ'→σ'.Sublist σ
 | [],_,_,h=>by cases h
 | r :: σ,_,0,h=>by simp only [AZ,Option.some.injEq] at h; subst h; exact List.sublist_cons_self _ _
 | r :: σ,σ',i + 1,h=>by
  simp only [AZ] at h; split at h
  ·
   rename_i t ht; simp only [Option.some.injEq] at h; subst h; exact (GL ht).cons_cons r
  · cases h
theorem AR.GR (i:Nat) {σ':List bf} (he:AZ σ i=some σ') (h:AR P n all l env σ' ds Q):AR P n all l env σ ds Q:=
 fun w m a QC uI ha=>h w m a QC ⟨uI.size,uI.ds,uI.env,uI.lK.sub (GL he)⟩ (ha.step (Trans.sub (Trans.refl w m σ) (GL he)))
theorem AW.GR (i:Nat) {σ':List bf} (he:AZ σ i=some σ') (h:AW P n c env σ' ds Q):AW P n c env σ ds Q:=AW.drop _ (GL he) h
end
end Go.Abs
namespace Go.Abs
variable [iJ]
open Go Go.Proofs Go.Sort Go.Lib Go.Shelf
theorem Wy {w:World} {m:ko}:∀ l:List (List UInt8),bD w m (l.map PV.str) (l.map fun s=>Value.string ⟨s.toArray⟩)
 | []=>bD.nil
 | s :: l=>bD.cons (by simp [dK]) (Wy l)
@[reducible] def Xb :iJ:={G:=fun _ _=>True,mono:=fun _ h=>h,D:=True}
theorem Trans.grown (hD:iJ.D) {w w':World} {m m':ko} {σ':List bf} (h:Trans w m [] w' m' σ'):∃ q os,w'=Sort.grow (w.drewN q) os:=by
 refine ⟨w'.drawn - w.drawn,w'.heap.extract w.heap.size w'.heap.size,?_⟩; have h1:=h.os; have h2:=h.tape; have h3:=h.output; have h4:=h.drawn hD; have h5:=h.size; have h6:=h.keep; cases w'; cases w; simp only [World.drewN,Sort.grow] at *; subst h1 h2 h3; congr 1
 ·
  apply Array.ext_getElem?; intro k; rw [Array.getElem?_append]; split
  ·
   rename_i hk; exact (h6 k hk (by simp [lU])).1
  ·
   rename_i hk; rw [Array.getElem?_extract]; split
   · congr 1; omega
   · rw [Array.getElem?_eq_none (by omega)]
 · omega
abbrev aen :Type:={s:List UInt8 // s.length < 4611686018427387904}
instance : Inhabited aen:=⟨⟨[],by decide⟩⟩
theorem ME {w:World} {m:ko} {g:Nat} {α:Type} [Inhabited α] (enc:α→Value) (dk:Array α) (q:Nat) (os:Array Obj) (hm:∀ off,¬ m g off) (hwf:∀ b off,m b off→b < w.heap.size):
  Le w m (Sort.grow (putRow enc (Sort.ahead w q) g 0 dk) os) m∧w.heap.size≤(Sort.grow (putRow enc (Sort.ahead w q) g 0 dk) os).heap.size:=by
 refine ⟨fun b off hb=>⟨hb,?_⟩,by simp⟩; have hlt:=hwf b off hb; have hne:b≠g:=fun h=>hm off (h ▸ hb)
 have:(Sort.grow (putRow enc (Sort.ahead w q) g 0 dk) os).heap[b]?=w.heap[b]?:=by
  rw [heap_grow_old _ _ (by simpa using hlt)]; show (w.heap.modify g _)[b]?=_; rw [Array.getElem?_modify,if_neg (Ne.symm hne)]
 simp only [World.cell?,this]
end Go.Abs
namespace Go.Ft
open Go.Lib
end Go.Ft
namespace Go.Abs
variable [iJ]
open Go Go.Proofs Go.Sort Go.Lib Go.Shelf
end Go.Abs
namespace Go.Abs
variable [iJ]
open Go
section
variable {P : Program} {o : Oper} {ρ : Operand → PV} {σ : List bf} {R S : PV → List bf → Prop}
theorem QE (w:World) (t e:TypeId) (a:Option Addr) (l c:Nat) (h:P.underlying t=some (.slice e)):(binOp .eql t (.slice a l c) (.slice none 0 0)).run P w=.ok (.bool a.isNone) w:=by
 have h:∀ d:Nat,(Op.equalIn (d + 1) t (.slice a l c) (.slice none 0 0)).run P w=.ok a.isNone w:=fun d=>by
  cases a <;> simp [Op.equalIn,run_underlying h]
 simp only [binOp]; simp [Op.equal,Op.maxDepth,h 9999]
theorem AO.iG {t e yt:TypeId} {x:Operand} {l:List (List PV)} (ho:o.op=.binOp .eql t x (.const (.slice none 0 0)) yt) (hx:(ρ x).els=some l) (hu:P.underlying t=some (.slice e))
  (hR:∀ b:Bool,(b=true→l=[])→R (.bool b) σ):AO P o ρ σ R S:=by
 intro w m a K QC hr hc hK _; have hv:=hr x (by simp [ho,Op.operands]); obtain ⟨ad,cap,e1,e2,e3⟩:=hv.els hx; have hev:a.eval (.const (.slice none 0 0))=.slice none 0 0:=rfl
 have hrun:(execOp a.eval o).run P w=.ok (.value (.bool ad.isNone)) w:=by
  simp only [execOp,ho,hev,e1,Sem.run_bind]; rw [show eqGuard .eql t x (.const (.slice none 0 0)) (.slice ad l.length cap) (.slice none 0 0)=pure () from rfl]; simp only [Sem.run_pure,Result.andThen_ok,QE w t e ad l.length cap hu]
 unfold Oper.wp; rw [hrun]; refine hK (.bool ad.isNone) σ _ w m (hR _ fun h=>?_) (by simp only [dK]) hc (Trans.refl _ _ _); rcases e3 with rfl | ⟨bk,off,sz,rfl,_⟩
 · rfl
 · cases h
theorem AO.zM {x:Operand} {v:Value} {l:List (List PV)} (ho:o.op=.assign x) (hx:ρ x=.own v l) (hR:R (.val v) σ):AO P o ρ σ R S:=by
 refine AO.of_same hR fun w m ev hr _=>?_; have h1:=hr x (by simp [ho,Op.operands]); rw [hx] at h1; simp only [dK] at h1; exact ⟨ev x,by simp [execOp,ho],by simp only [dK]; exact h1.1⟩
end
theorem AW.TS {P:Program} {n:Nat} {c:Code} {env:Env} {σ:List bf} {ds:List Deferred} {Q:Post} (sz e:Nat) (h:AW P n c env (.buf (.slice none 0 0) 0 sz e [] :: σ) ds Q):AW P n c env σ ds Q:=by
 intro w m a QC hs ha
 have hc:Conc w m (.buf (.slice none 0 0) 0 sz e [] :: σ):=by
  refine ⟨fun r hr=>?_,by simpa [lU,bf.fp,Value.ownBlock] using hs.lK.apart,hs.lK.wf,hs.lK.uK⟩; rcases List.mem_cons.1 hr with rfl | hr
  · exact ⟨[],⟨by simp,.inl ⟨rfl,rfl⟩⟩,bD.nil,fun b hb=>by cases hb⟩
  · exact hs.lK.each r hr
 exact h w m a QC ⟨hs.size,hs.ds,hs.env,hc⟩ (ha.step ⟨rfl,rfl,rfl,Nat.le_refl _,Le.refl _ _,fun b _ _=>⟨rfl,fun _ h=>h⟩,fun b hb=>.inl (by simpa [lU,bf.fp,Value.ownBlock] using hb),fun _=>Nat.le_refl _⟩)
theorem AR.freeze {P:Program} {k:Nat} {all:Array Oper} {lo:List Oper} {env:Env} {σ:List bf} {ds:List Deferred} {Q:Post} {v:Value} {n sz e:Nat} {cs:List PV} (t i:Nat) (l:List (List PV)) (ht:env.get t=.val v) (hi:σ[i]?=some (bf.buf v n sz e cs))
  (hl:l.flatten=cs) (hsz:∀ x∈l,x.length=sz) (hn:l.length=n) (h:AR P k all lo ((t,.own v l) :: env) (σ.set i (.row v n sz e)) ds Q):AR P k all lo env σ ds Q:=by
 intro w m a QC hs ha; obtain ⟨m',h1,h2,h3⟩:=hs.lK.freeze hi hl hsz hn; refine h w m' a QC ⟨hs.size,hs.ds,fun u=>?_,h2⟩ (ha.step h3); have hu:=hs.env u; simp only [Env.get]; cases hb:Nat.beq t u with
 | false=>exact dK.mono h3.le _ _ hu
 | true=>
  have:=Nat.eq_of_beq_eq_true hb; subst this; rw [ht] at hu; simp only [dK] at hu; rw [hu]; exact h1
end Go.Abs
namespace Go.Abs
variable [iJ]
open Go
def Ct :List Bool→List PV→List PV
 | true :: ms,c :: cs=>c.xg :: Ct ms cs
 | false :: ms,c :: cs=>c :: Ct ms cs
 | [],cs=>cs
 | _ :: _,[]=>[]
theorem bD.Ct {w:World} {m:ko}:∀ {ms:List Bool} {ps:List PV} {vs:List Value},bD w m ps vs→bD w m (Abs.Ct ms ps) vs
 | [],_,_,h=>h
 | true :: ms,[],_,h=>h
 | false :: ms,[],_,h=>h
 | true :: ms,p :: ps,_,h=>by
  simp only [bD] at h; obtain ⟨v,vs',rfl,h1,h2⟩:=h; exact bD.cons h1.xg (bD.Ct h2)
 | false :: ms,p :: ps,_,h=>by
  simp only [bD] at h; obtain ⟨v,vs',rfl,h1,h2⟩:=h; exact bD.cons h1 (bD.Ct h2)
theorem Qj {w:World} {m:ko} {σ:List bf} {i b:Nat} {ms:List Bool} {cs:List PV} (hi:σ[i]?=some (.box b cs)) (hc:Conc w m σ):Conc w m (σ.set i (.box b (Abs.Ct ms cs)))∧Trans w m σ w m (σ.set i (.box b (Abs.Ct ms cs))):=by
 have hf:lU (σ.set i (.box b (Abs.Ct ms cs)))=lU σ:=by
  clear hc
  induction σ generalizing i with
  | nil=>rfl
  | cons r σ ih=>
   cases i with
   | zero=>
    simp only [List.getElem?_cons_zero,Option.some.injEq] at hi; subst hi; simp [lU,bf.fp]
   | succ i=>
    simp only [List.getElem?_cons_succ] at hi; have:=ih hi; simp only [lU,List.set_cons_succ,List.flatMap_cons] at this ⊢; rw [this]
 refine ⟨⟨fun r hr=>?_,by rw [hf]; exact hc.apart,hc.wf,hc.uK⟩,⟨rfl,rfl,rfl,Nat.le_refl _,Le.refl _ _,fun _ _ _=>⟨rfl,fun _ h=>h⟩,fun x hx=>.inl (by rw [←hf]; exact hx),fun _=>Nat.le_refl _⟩⟩; rcases List.mem_or_eq_of_mem_set hr with h | h
 · exact hc.each r h
 ·
  subst h; obtain ⟨vs,ty,h1,h2,h3⟩:=hc.each _ (List.mem_of_getElem? hi); exact ⟨vs,ty,h1,h2.Ct,h3⟩
section
variable {P : Program} {n : Nat} {env : Env} {σ : List bf} {ds : List Deferred} {Q : Post} {all : Array Oper} {l : List Oper}
theorem AR.Ct (i:Nat) (ms:List Bool) {b:Nat} {cs:List PV} (hi:σ[i]?=some (.box b cs)) (h:AR P n all l env (σ.set i (.box b (Abs.Ct ms cs))) ds Q):AR P n all l env σ ds Q:=by
 intro w m a QC hs ha; obtain ⟨k1,k2⟩:=Qj hi hs.lK; exact h w m a QC ⟨hs.size,hs.ds,hs.env,k1⟩ (ha.step k2)
theorem AW.Ct {c:Code} (i:Nat) (ms:List Bool) {b:Nat} {cs:List PV} (hi:σ[i]?=some (.box b cs)) (h:AW P n c env (σ.set i (.box b (Abs.Ct ms cs))) ds Q):AW P n c env σ ds Q:=by
 intro w m a QC hs ha; obtain ⟨k1,k2⟩:=Qj hi hs.lK; exact h w m a QC ⟨hs.size,hs.ds,hs.env,k1⟩ (ha.step k2)
end
end Go.Abs
namespace Go.Abs
variable [iJ]
open Go
section
variable {P : Program} {n : Nat} {ds : List Deferred} {L : List Oper}
theorem UC :∀ (m:Nat) (S:List Nat) {j:Nat},j∈S→j∈UD L m S
 | 0,_,_,h=>h
 | x + 1,S,_,h=>by
  unfold UD; refine UC x _ ?_; split
  · exact List.mem_append_right _ h
  · exact h
theorem AW.Zd {env:Env} {σ:List bf} {Q:Post} {id:Nat} (c k:Nat) (hm:P.follows .mixedOrders=true) (ho:E_ L k k=true) (hck:Nat.blt c k=true) (hk:Nat.ble k L.length=true) (hg:((L.drop (c + 1)).take (k - (c + 1))).all (fun o=>o.guard.isNone)=true)
  (h:Ev P n L.toArray σ env (L.take c) fun e1=>∃ o t,L[c]?=some o∧o.guard=none∧o.dst=some t∧Nat.blt t n=true∧AO P o e1.ev [] (fun _ _=>False) (fun p σ'=>Q (.panic p) [] (σ ++ σ') ds)∧Ev P n L.toArray [] ((t,.undef) :: e1) ((L.drop (c + 1)).take (k - (c + 1))) fun _=>True):
  AW P n (.region id L.toArray true) env σ ds Q:=by
 have hck:c < k:=pK.1 hck; have hk:k≤L.length:=Nat.le_of_ble_eq_true hk; have ho:=Ay (Nat.le_refl k) ho
 have rd:∀ {i j o oj t},i < k→L[i]?=some o→j < k→L[j]?=some oj→oj.dst=some t→t∈readsOf L o→j∈jO o∧j < i:=fun {i j o oj t} hi hoi hj hoj hd ht=>by
  by_cases e:i=j
  ·
   subst e; have:=Option.some.inj (hoi.symm.trans hoj); subst this; exact absurd ht (ho.self i o t hi hoi hd)
  ·
   have h1:=((ho.apart i o j oj t hi hoi hj hoj e hd).2 ht).2; exact ⟨h1,ho.before i o hoi j h1⟩
 have ho':VX L c k:=⟨ho.before,fun i o j oj t hi hoi hj hoj hij hd=>⟨(ho.apart i o j oj t (by omega) hoi hj hoj hij hd).1,fun ht=>by
   obtain ⟨h1,h2⟩:=rd (by omega) hoi hj hoj hd ht
   exact ⟨by omega,h1⟩⟩,fun i o t hi=>ho.self i o t (by omega),fun i o j oj t _ hi hoi hj hoj hd ht=>by
   unfold Aa; rw [hoi]
   exact UC _ _ (rd hi hoi (by omega) hoj hd ht).1,ho.adP,ho.tails⟩
 refine AW.ofD hm (AD.Xj 0 c k σ [] (fun S e s=>s=[]∧S c=false∧∃ (e1:Env) (t:Nat) (oc:Oper) (d:Nat→Nat) (p:Nat→PV),L[c]?=some oc∧oc.guard=none∧oc.dst=some t∧t < n∧AO P oc e1.ev [] (fun _ _=>False) (fun p σ'=>Q (.panic p) [] (σ ++ σ') ds)∧
  (∀ x o,c + 1 + x < k→L[c + 1 + x]?=some o→o.guard=none∧o.dst=some (d x)∧d x < n∧AF P o (uL (fun _=>true) d p ((t,.undef) :: e1) x).ev [] (p x))∧
  (∀ u,(∀ x,c + 1 + x < k→S (c + 1 + x)=true→d x≠u)→e.get u=e1.get u)∧(∀ x,c + 1 + x < k→S (c + 1 + x)=true→e.get (d x)=p x))
  ho' (fun _ _ _ _ _=>by omega) (Nat.zero_le _) (by omega) hk (by simp) (Ev.nil (Ev.Uo (fun e1 h1=>?_) h)) ?_ ?_ ?_)
 ·
  obtain ⟨oc,t,g1,g2,g3,g4,g5,g6⟩:=h1; obtain ⟨d,p,f,_⟩:=Ev.facts g6; have nb:∀ x,Nat.blt (c + 1 + x) c=true→False:=fun x h=>by have:=pK.1 h; omega
  have nc:Nat.blt c c=false:=by
   cases e:Nat.blt c c with
   | false=>rfl
   | true=>have:=pK.1 e; omega
  refine ⟨rfl,nc,e1,t,oc,d,p,g1,g2,g3,pK.1 g4,g5,fun x o hx hox=>?_,fun u _=>rfl,fun x _ h=>(nb x h).elim⟩; have hm:((L.drop (c + 1)).take (k - (c + 1)))[x]?=some o:=by rw [List.getElem?_take_of_lt (by omega),List.getElem?_drop]; exact hox
  have hgn:o.guard=none:=by simpa using List.all_eq_true.1 hg o (List.mem_of_getElem? hm)
  obtain ⟨q1,q2,q3⟩:=f x o hm; rcases q3 with ⟨_,q3⟩ | ⟨j,w,oj,u,q4,_⟩
  · exact ⟨hgn,q1,q2,q3⟩
  · rw [hgn] at q4; cases q4
 ·
  rintro S S' e s hS ⟨h1,h2,e1,t,oc,d,p,g1,g2,g3,g4,g5,g6,g7,g8⟩; have z:∀ x,c + 1 + x < k→S' (c + 1 + x)=true→S (c + 1 + x)=true:=fun x hx h=>(hS _ (by omega) hx).trans h; exact ⟨h1,(hS c (Nat.le_refl _) hck).symm.trans h2,e1,t,oc,d,p,g1,g2,g3,g4,g5,g6,fun u hu=>g7 u fun x hx h=>hu x hx ((hS _ (by omega) hx).symm.trans h),fun x hx h=>g8 x hx (z x hx h)⟩
 ·
  rintro S e s i o ⟨rfl,h2,e1,t,oc,d,p,g1,g2,g3,g4,g5,g6,g7,g8⟩ hci hik Yk hpr hoi
  have rop:∀ {y:Operand} {u},y∈o.op.operands→y=.tmp u→u∈readsOf L o:=fun {y u} hy hu=>by
   subst hu; unfold readsOf; exact List.mem_append.2 (.inl (List.mem_filterMap.2 ⟨.tmp u,by simpa using hy,rfl⟩))
  rcases Nat.lt_or_ge c i with hlt | hge
  ·
   obtain ⟨x,rfl⟩:∃ x,i=c + 1 + x:=⟨i - (c + 1),by omega⟩; obtain ⟨q1,q2,q3,q4⟩:=g6 x o hik hoi; refine ⟨q1,fun u hu=>by rw [q2] at hu; cases hu; exact q3,AO.Rb (AO.congr q4 fun y hy=>Jo fun u hu=>?_) ?_ fun p s h=>h.elim⟩
   ·
    have hr:=rop hy hu
    have dj:∀ z,c + 1 + z < k→d z=u→c + 1 + z∈jO o∧z < x:=fun z hz hd=>by
     have hoz:L[c + 1 + z]?=some (L[c + 1 + z]'(by omega)):=List.getElem?_eq_getElem (by omega); obtain ⟨r1,r2⟩:=rd hik hoi hz hoz (hd ▸ (g6 z _ hz hoz).2.1) hr; exact ⟨r1,by omega⟩
    by_cases hex:∃ z,z < x∧d z=u
    ·
     obtain ⟨z,hz,rfl⟩:=hex; obtain ⟨r1,_⟩:=dj z (by omega) rfl; rw [g8 z (by omega) (hpr _ r1 (by omega)),jD (i:=z + 1) (by omega) fun j h4 h5 _ hd=>?_]
     · simp [uL,Env.get]
     ·
      have hoz:L[c + 1 + z]?=some (L[c + 1 + z]'(by omega)):=List.getElem?_eq_getElem (by omega); have hoj:L[c + 1 + j]?=some (L[c + 1 + j]'(by omega)):=List.getElem?_eq_getElem (by omega); exact (ho.apart (c + 1 + z) _ (c + 1 + j) _ (d z) (by omega) hoz (by omega) hoj (by omega) (hd ▸ (g6 j _ (by omega) hoj).2.1)).1 (g6 z _ (by omega) hoz).2.1
    ·
     rw [jD (i:=0) (Nat.zero_le _) fun j _ h5 _ hd=>hex ⟨j,h5,hd⟩]
     have hut:t≠u:=fun e=>by
      subst e; have:=hpr _ (rd hik hoi hck g1 g3 hr).1 (Nat.le_refl _); rw [h2] at this; cases this
     simp only [uL,Env.get,uo hut,cond_false]; exact g7 u fun z hz _ hd=>hex ⟨z,(dj z hz hd).2,hd⟩
   ·
    rintro p' s' ⟨rfl,rfl⟩
    have ne:∀ z,c + 1 + z < k→z≠x→d x≠d z:=fun z hz hzx hd=>by
     have hoz:L[c + 1 + z]?=some (L[c + 1 + z]'(by omega)):=List.getElem?_eq_getElem (by omega); exact (ho.apart (c + 1 + x) o (c + 1 + z) _ (d z) hik hoi hz hoz (by omega) (g6 z _ hz hoz).2.1).1 (hd ▸ q2)
    refine ⟨rfl,by simp only [show ¬ c + 1 + x=c by omega,if_false]; exact h2,e1,t,oc,d,p,g1,g2,g3,g4,g5,g6,fun u hu=>?_,fun z hz hSz=>?_⟩
    ·
     have hx:=hu x hik (by simp); rw [q2]; simp only [I6,Env.get,uo hx,cond_false]; exact g7 u fun z hz hSz=>hu z hz (by simp only [hSz]; split <;> rfl)
    ·
     rw [q2]; by_cases e:z=x
     · subst e; simp [I6,Env.get]
     ·
      simp only [I6,Env.get,uo (ne z hz e),cond_false]; refine g8 z hz ?_; simp only [show ¬ c + 1 + x=c + 1 + z by omega,if_false] at hSz; exact hSz
  ·
   have:i=c:=by omega
   subst this; have:=Option.some.inj (g1.symm.trans hoi); subst this; refine ⟨g2,fun u hu=>by rw [g3] at hu; cases hu; exact g4,AO.Rb (AO.congr g5 fun y hy=>Jo fun u hu=>?_) (fun p s h=>h.elim) fun p s h=>h⟩; refine g7 u fun z hz _ hd=>?_; have hoz:L[i + 1 + z]?=some (L[i + 1 + z]'(by omega)):=List.getElem?_eq_getElem (by omega); have:=(rd hik hoi hz hoz (hd ▸ (g6 z _ hz hoz).2.1) (rop hy hu)).2; omega
 ·
  rintro S e s hS ⟨_,h2,_⟩; rw [hS c (Nat.le_refl _) hck] at h2; cases h2
end
end Go.Abs
namespace Go.Abs
variable [iJ]
open Go
theorem Ye {n:Nat} (a b:Int):BitVec.ofInt n (a - b)=BitVec.ofInt n a - BitVec.ofInt n b:=by
 rw [Int.sub_eq_add_neg,QX,BitVec.ofInt_neg,BitVec.sub_eq_add_neg]
theorem aaN {n:Nat} (a:BitVec n) (s:Nat):a >>> (min s n)=a >>> s:=by
 rcases Nat.le_total s n with h | h
 · rw [Nat.min_eq_left h]
 ·
  rw [Nat.min_eq_right h]; apply BitVec.eq_of_toNat_eq; rw [BitVec.toNat_ushiftRight,BitVec.toNat_ushiftRight,Nat.shiftRight_eq_div_pow,Nat.shiftRight_eq_div_pow]; have h1:a.toNat < 2 ^ n:=a.isLt; have h2:a.toNat < 2 ^ s:=Nat.lt_of_lt_of_le h1 (Nat.pow_le_pow_right (by omega) h); rw [Nat.div_eq_of_lt h1,Nat.div_eq_of_lt h2]
theorem aaO {n:Nat} (a:BitVec n) (s:Nat):a <<< (min s n)=a <<< s:=by
 rcases Nat.le_total s n with h | h
 · rw [Nat.min_eq_left h]
 ·
  rw [Nat.min_eq_right h]; rw [BitVec.shiftLeft_eq_zero (Nat.le_refl n),BitVec.shiftLeft_eq_zero h]
section
variable {P : Program} {o : Oper} {ρ : Operand → PV} {σ : List bf} {R S : PV → List bf → Prop}
theorem AO.afH {src dst:TypeId} {x:Operand} {d:TypeDesc} {k k':IntKind} {n r:Int} (ho:o.op=.convert src dst x) (hs:P.underlying src=some d) (hd:P.underlying dst=some (.int k')) (hx:ρ x=.int k n) (hr:k'.wrap n=r)
  (hR:R (.int k' r) σ):AO P o ρ σ R S:=AO.Jr ho hs hd hx (by rw [hr]; exact hR)
theorem AO.P6 {t u:TypeId} {x y:Operand} {p q:Int} (a b:BitVec 64) (ho:o.op=.binOp .add t x y u) (hx:ρ x=.int .u64 p) (hy:ρ y=.int .u64 q) (ha:p=(a.toNat:Int)) (hb:q=(b.toNat:Int))
  (hR:R (.int .u64 ((a + b).toNat:Int)) σ):AO P o ρ σ R S:=by
 refine AO.RQ (p:=.int .u64 (IntKind.u64.wrap (p + q))) (by simp only [pev,ho,hx,hy]; rfl) ?_ hR; rw [XY,ha,hb,QX,ni,ni]
theorem AO.YG {t u:TypeId} {x y:Operand} {p q:Int} (a b:BitVec 64) (ho:o.op=.binOp .mul t x y u) (hx:ρ x=.int .u64 p) (hy:ρ y=.int .u64 q) (ha:p=(a.toNat:Int)) (hb:q=(b.toNat:Int))
  (hR:R (.int .u64 ((a * b).toNat:Int)) σ):AO P o ρ σ R S:=by
 refine AO.RQ (p:=.int .u64 (IntKind.u64.wrap (p * q))) (by simp only [pev,ho,hx,hy]; rfl) ?_ hR; rw [XY,ha,hb,QW,ni,ni]
theorem AO.u64_and {t u:TypeId} {x y:Operand} {p q:Int} (a b:BitVec 64) (ho:o.op=.binOp .and t x y u) (hx:ρ x=.int .u64 p) (hy:ρ y=.int .u64 q) (ha:p=(a.toNat:Int)) (hb:q=(b.toNat:Int))
  (hR:R (.int .u64 ((a &&& b).toNat:Int)) σ):AO P o ρ σ R S:=by
 refine AO.RQ (p:=.int .u64 (IntKind.u64.wrap (BitVec.ofInt IntKind.u64.bits p &&& BitVec.ofInt IntKind.u64.bits q).toNat)) (by simp only [pev,ho,hx,hy]; rfl) ?_ hR; rw [adG,ha,hb,ni,ni]
theorem AO.u64_or {t u:TypeId} {x y:Operand} {p q:Int} (a b:BitVec 64) (ho:o.op=.binOp .or t x y u) (hx:ρ x=.int .u64 p) (hy:ρ y=.int .u64 q) (ha:p=(a.toNat:Int)) (hb:q=(b.toNat:Int))
  (hR:R (.int .u64 ((a ||| b).toNat:Int)) σ):AO P o ρ σ R S:=by
 refine AO.RQ (p:=.int .u64 (IntKind.u64.wrap (BitVec.ofInt IntKind.u64.bits p ||| BitVec.ofInt IntKind.u64.bits q).toNat)) (by simp only [pev,ho,hx,hy]; rfl) ?_ hR; rw [afj,ha,hb,ni,ni]
theorem AO.Mx {t u:TypeId} {x y:Operand} {yk:IntKind} {p q:Int} (a:BitVec 64) (s:Nat) (ho:o.op=.binOp .shr t x y u) (hx:ρ x=.int .u64 p) (hy:ρ y=.int yk q) (ha:p=(a.toNat:Int)) (hq:q=(s:Int)) (hR:R (.int .u64 ((a >>> s).toNat:Int)) σ):AO P o ρ σ R S:=by
 subst ha hq; refine AO.shr ho hx hy (by omega) ?_; rw [ab5,Int.toNat_natCast,show IntKind.u64.bits=64 from rfl,aaN]; exact hR
theorem AO.ac2 {t u:TypeId} {x y:Operand} {yk:IntKind} {p q:Int} (a:BitVec 64) (s:Nat) (ho:o.op=.binOp .shl t x y u) (hx:ρ x=.int .u64 p) (hy:ρ y=.int yk q) (ha:p=(a.toNat:Int)) (hq:q=(s:Int)) (hR:R (.int .u64 ((a <<< s).toNat:Int)) σ):AO P o ρ σ R S:=by
 subst ha hq; refine AO.shl ho hx hy (by omega) ?_; rw [XY,Int.toNat_natCast,show IntKind.u64.bits=64 from rfl,ZY,ni,aaO]; exact hR
theorem AO.u64_neg {t:TypeId} {x:Operand} {p:Int} (a:BitVec 64) (ho:o.op=.unOp .neg t x) (hx:ρ x=.int .u64 p) (ha:p=(a.toNat:Int)) (hR:R (.int .u64 ((-a).toNat:Int)) σ):AO P o ρ σ R S:=by
 refine AO.RQ (p:=.int .u64 (IntKind.u64.wrap (0 - p))) (by simp only [pev,ho,hx]; rfl) ?_ hR; rw [XY,ha,Ye,ni]
 try simp
theorem AO.aa0 {src dst:TypeId} {x:Operand} {d:TypeDesc} {k:IntKind} {n:Int} (ho:o.op=.convert src dst x) (hs:P.underlying src=some d) (hd:P.underlying dst=some (.int .u64)) (hx:ρ x=.int k n)
  (hR:R (.int .u64 ((BitVec.ofInt 64 n).toNat:Int)) σ):AO P o ρ σ R S:=AO.afH ho hs hd hx (XY n) hR
theorem AO.aaX {t u:TypeId} {x y:Operand} {p q:Int} (a b:BitVec 64) {v:BitVec 64} (hv:some (a + b)=some v) (ho:o.op=.binOp .add t x y u) (hx:ρ x=.int .u64 p) (hy:ρ y=.int .u64 q) (ha:p=(a.toNat:Int)) (hb:q=(b.toNat:Int)) (hR:R (.int .u64 (v.toNat:Int)) σ):AO P o ρ σ R S:=AO.P6 a b ho hx hy ha hb (by cases hv; exact hR)
theorem AO.Qu {t u:TypeId} {x y:Operand} {p q:Int} (a b:BitVec 64) {v:BitVec 64} (hv:some (a * b)=some v) (ho:o.op=.binOp .mul t x y u) (hx:ρ x=.int .u64 p) (hy:ρ y=.int .u64 q) (ha:p=(a.toNat:Int)) (hb:q=(b.toNat:Int)) (hR:R (.int .u64 (v.toNat:Int)) σ):AO P o ρ σ R S:=AO.YG a b ho hx hy ha hb (by cases hv; exact hR)
theorem AO.aaW {t u:TypeId} {x y:Operand} {p q:Int} (a b:BitVec 64) {v:BitVec 64} (hv:some (a &&& b)=some v) (ho:o.op=.binOp .and t x y u) (hx:ρ x=.int .u64 p) (hy:ρ y=.int .u64 q) (ha:p=(a.toNat:Int)) (hb:q=(b.toNat:Int)) (hR:R (.int .u64 (v.toNat:Int)) σ):AO P o ρ σ R S:=AO.u64_and a b ho hx hy ha hb (by cases hv; exact hR)
theorem AO.ac3 {t u:TypeId} {x y:Operand} {p q:Int} (a b:BitVec 64) {v:BitVec 64} (hv:some (a ||| b)=some v) (ho:o.op=.binOp .or t x y u) (hx:ρ x=.int .u64 p) (hy:ρ y=.int .u64 q) (ha:p=(a.toNat:Int)) (hb:q=(b.toNat:Int)) (hR:R (.int .u64 (v.toNat:Int)) σ):AO P o ρ σ R S:=AO.u64_or a b ho hx hy ha hb (by cases hv; exact hR)
theorem AO.abP {t u:TypeId} {x y:Operand} {e n:Nat} {k:IntKind} {cs ds:List PV} (ET bs:List Int) (ho:o.op=.binOp .neq t x y u) (hu:P.underlying t=some (.array n e)) (he:P.underlying e=some (.int k)) (hce:P.cellsOf e=1) (hct:P.cellsOf t=n) (hg:P.eqGuardType P.depth t=false)
  (hx:ρ x=.agg cs) (hy:ρ y=.agg ds) (hcs:cs=ET.map (PV.int k)) (hds:ds=bs.map (PV.int k)) (hn:ET.length=n) (hn':bs.length=n) (hw:∀ a∈ET,(Lit.int k a).wf=true) (hw':∀ a∈bs,(Lit.int k a).wf=true)
  (hR:R (.bool (!decide (ET=bs))) σ):AO P o ρ σ R S:=by
 subst hcs hds; refine AO.of_same hR fun w m ev hr _=>?_; have h1:=hr x (by simp [ho,Op.operands]); have h2:=hr y (by simp [ho,Op.operands]); rw [hx] at h1; rw [hy] at h2; simp only [dK] at h1 h2; obtain ⟨vs,e1,r1⟩:=h1; obtain ⟨us,e2,r2⟩:=h2
 have hval:∀ (ET:List Int) (vs:List Value),bD w m (ET.map (PV.int k)) vs→vs=ET.map (Value.int k):=by
  intro ET
  induction ET with
  | nil=>intro vs h; simpa [bD] using h
  | cons a ET ih=>
   intro vs h; simp only [List.map_cons,bD,dK] at h; obtain ⟨v,vs',rfl,rfl,h⟩:=h; rw [ih vs' h]; rfl
 obtain rfl:=hval ET vs r1; obtain rfl:=hval bs us r2; have hk:P.keyTypeAt 2 t=true:=by simp [Program.keyTypeAt,hu,he]
 have form:∀ ET:List Int,ET.length=n→(Value.agg (ET.map (Value.int k)).toArray).formed P t=true:=by
  intro ET h; simp [Value.formed,hu,h,hct]
 obtain ⟨r,hr',hiff⟩:=run_equalIn_deep 9998 2 t hk w 2 2 (.agg (ET.map (Value.int k)).toArray) (.agg (bs.map (Value.int k)).toArray) _ _ (form ET hn) (form bs hn')
  (by simpa [Value.cells] using MW hu he hce hct hn hw) (by simpa [Value.cells] using MW hu he hce hct hn' hw')
 have hb:r=decide (ET=bs):=by
  have hinj:(ET.map (Lit.int k)=bs.map (Lit.int k))↔ET=bs:=by
   constructor
   ·
    intro h; have:=congrArg (List.map fun x:Lit=>match x with | .int _ a=>a | _=>0) h
    simpa [Function.comp_def] using this
   · intro h; rw [h]
  rw [hinj] at hiff; cases r with
  | true=>simp [hiff.1 rfl]
  | false=>symm; simp only [decide_eq_false_iff_not]; intro h; exact absurd (hiff.2 h) (by simp)
 refine ⟨.bool (!decide (ET=bs)),?_,by simp only [dK]⟩; have e3:binOp .neq t (.agg (ET.map (Value.int k)).toArray) (.agg (bs.map (Value.int k)).toArray)=(do pure (.bool (!(←Op.equal t (.agg (ET.map (Value.int k)).toArray) (.agg (bs.map (Value.int k)).toArray))))):=rfl; have e4:(Op.equal t (.agg (ET.map (Value.int k)).toArray) (.agg (bs.map (Value.int k)).toArray)).run P w=.ok r w:=hr'; simp only [execOp,ho,e1,e2,e3,Sem.run_bind,Sem.run_pure]; simp [eqGuard,hg,e4,hb]
theorem AO.vW {t n sz:Nat} {x i:Operand} {k:IntKind} {cs cs':List PV} (j:Nat) (ho:o.op=.indexAddr t x i) (ha:Bq P t=some (n,sz)) (hx:ρ x=.ref cs) (hi:ρ i=.int k (j:Int)) (h1:j < n) (hd:D7 (j * sz) cs=some cs')
  (hR:R (.ref cs') σ):AO P o ρ σ R S:=by
 obtain ⟨e1,e2⟩:=D6 hd; exact AO.Te ho ha hx hi (by omega) (by simpa using h1) (by simpa using e2) (by simpa [←e1] using hR)
theorem YD (l:List (BitVec 64)):∀ a∈l.map fun c:BitVec 64=>(c.toNat:Int),(Lit.int .u64 a).wf=true:=by
 intro a ha; obtain ⟨c,_,rfl⟩:=List.mem_map.1 ha; have:=c.isLt; simp [Lit.wf,IntKind.min,IntKind.max,IntKind.signed,IntKind.bits]; omega
end
section
variable {P : Program} {o : Oper} {ρ : Operand → PV} {σ : List bf} {R S : PV → List bf → Prop}
end
end Go.Abs
namespace Go.Abs
variable [iJ]
open Go
theorem AO.aeb {P:Program} {o:Oper} {ρ:Operand→PV} {σ:List bf} {R S:PV→List bf→Prop} {c:Call} {f:FuncId} {caps:List PV}
  (ho:o.op=.call c) (RS:Operand) (kZ:c.callee=.value RS) (hf:ρ RS=.fn f caps) (hp:aU P f=true)
  (h:AC P f (c.args.toList.map ρ ++ caps) σ fun out σ'=>match out with | .ret p=>R p σ' | .panic p=>S p σ'):AO P o ρ σ R S:=by
 intro w m a K QC hr hc hK hS; have hcr:=hr RS (by simp [ho,Op.operands,Call.operands,kZ]); rw [hf] at hcr; simp only [dK] at hcr; obtain ⟨cs,hcv,hcs⟩:=hcr; have hargs:bD w m (c.args.toList.map ρ) (c.args.toList.map a.eval):=bD.map fun x hx=>hr x (by simp [ho,Op.operands,Call.operands,kZ]; exact .inr (by simpa using hx))
 have hrun:(execOp a.eval o).run P w=.ok (.enter f (c.args.toList.map a.eval ++ cs).toArray) w:=by
  unfold execOp; simp only [ho,resolve,kZ,hcv,Deferred.ofValue,invoke,Sem.run_bind,Sem.run_pure,Result.andThen_ok]; rw [zB hp]; congr 2; apply Array.ext'; simp
 unfold Oper.wp; rw [hrun,Oper.upon_enter]; refine (h w m _ hc (hargs.append hcs)).mono ?_; rintro e w' ⟨out,σ',m',h1,h2,h3,h4⟩; cases out with
 | ret p=>
  obtain ⟨v,rfl,hv⟩:=h2; exact hK p σ' v w' m' h1 hv h3 h4
 | panic p=>
  obtain ⟨v,rfl,hv⟩:=h2; exact hS p σ' v w' m' h1 hv h3 h4
def afU (P:Program) (rs:List ResultVar) (R:dx→List bf→Prop):Post
 | .normal,e,s,d | .ret,e,s,d=>d=[]∧∃ ps,G9 P e s rs ps∧∃ s',s'.Sublist s∧R (.ret (nK ps)) s'
 | .panic p,_,s,d=>d=[]∧∃ s',s'.Sublist s∧R (.panic p) s'
 | _,_,_,_=>False
theorem AC.Bz {P:Program} {f:FuncId} {fn:Func} {c:Code} {args:List PV} {σ:List bf} {R:dx→List bf→Prop} (n:Nat) (rs:List ResultVar) (ts:List Nat) {env:Env}
  (hf:P.funcs[f]?=some fn) (hb:fn.body=some c) (hn:fn.ntmps=n) (hl:Nat.ble args.length n=true) (hrs:fn.results.toList=rs) (NY:settle ts (Cr 0 args)=some env)
  (h:AW P n c env σ [] (afU P rs R)):AC P f args σ R:=by
 intro w m vs hc hv; have hl:args.length≤n:=Nat.le_of_ble_eq_true hl; have hvl:=hv.length_eq; refine calls_of_wp hf hb ?_; refine h w m _ _ ⟨?_,rfl,?_,hc⟩ ?_
 · simp [hvl,hn]; omega
 ·
  have:=Dh (List.replicate (fn.ntmps - vs.toArray.size) Go.undef) [] hv; rw [show vs.toArray ++ Array.replicate (fn.ntmps - vs.toArray.size) Go.undef=([] ++ vs ++ List.replicate (fn.ntmps - vs.toArray.size) Go.undef).toArray from by simp]; exact Eu.settle NY this
 ·
  intro x ex env' σ' ds' a' w' m' hq hx hs ht
  have hend:∀ ps s',ds'=[]→G9 P env' σ' rs ps→s'.Sublist σ'→R (.ret (nK ps)) s'→a'.defers=[]∧∃ v,(results fn a'.tmps).run P w'=.ok v w'∧∃ out σ' m',R out σ'∧G_ w' m' out (.returned v)∧Conc w' m' σ'∧Trans w m σ w' m' σ':=by
   intro ps s' hd h1 hsub h2; obtain ⟨us,k1,k2⟩:=EB hs.env hs.lK h1; have hl2:=k2.length_eq; refine ⟨by rw [hs.ds,hd],?_⟩
   have hrun:(results fn a'.tmps).run P w'=.ok (if h:us.toArray.size=1 then us.toArray[0] else .tuple us.toArray) w':=by
    unfold results; rw [Array.mapM_eq_mapM_toList,hrs]; have k1':=k1; simp only [Sem.run_bind,Sem.run_map]
    erw [k1']
    rfl
   have hl2:us.length=ps.length:=hl2; refine ⟨_,hrun,.ret (nK ps),s',m',h2,⟨_,rfl,?_⟩,hs.lK.sub hsub,ht.sub hsub⟩; clear h1 h2
   match ps,us,k2,hl2 with
   | [],us,k2,hl2=>
    simp only [bD] at k2; subst k2; simp only [nK,dK]; exact ⟨[],by simp,bD.nil⟩
   | [p],us,k2,hl2=>
    simp only [bD] at k2; obtain ⟨v,vs',rfl,h3,rfl⟩:=k2; simpa [nK] using h3
   | p :: q :: ps,us,k2,hl2=>
    rw [dif_neg (by simp [hl2])]; simp only [nK,dK]; exact ⟨us,rfl,k2⟩
  cases x with
  | normal=>cases hx; obtain ⟨hd,ps,h1,s',hsub,h2⟩:=hq; exact hend ps s' hd h1 hsub h2
  | ret=>cases hx; obtain ⟨hd,ps,h1,s',hsub,h2⟩:=hq; exact hend ps s' hd h1 hsub h2
  | exit id=>exact hq.elim
  | panic p=>
   obtain ⟨v,rfl,hv'⟩:=hx; obtain ⟨hd,s',hsub,h2⟩:=hq; exact ⟨by rw [hs.ds,hd],.panic p,s',m',h2,⟨v,rfl,hv'⟩,hs.lK.sub hsub,ht.sub hsub⟩
end Go.Abs
namespace Go.Abs
variable [iJ]
open Go
theorem Oe :∀ {σ σ':List bf} {i:Nat},AZ σ i=some σ'→σ'=σ.eraseIdx i
 | [],_,_,h=>by cases h
 | r :: σ,_,0,h=>by simp only [AZ,Option.some.injEq] at h; subst h; rfl
 | r :: σ,σ',i + 1,h=>by
  simp only [AZ] at h; split at h
  ·
   rename_i t ht; simp only [Option.some.injEq] at h; subst h; rw [Oe ht]; rfl
  · cases h
theorem Conc.OH {w:World} {m:ko} {σ:List bf} {i b:Nat} {cs cs':List PV} (hc:Conc w m σ) (hi:σ[i]?=some (.box b cs)) (hwk:Iq cs=some cs'):
  ∃ m',dK w m' (.ref cs') (.pointer (some ⟨b,0,none⟩))∧Conc w m' (σ.eraseIdx i)∧Trans w m σ w m' (σ.eraseIdx i):=by
 have hcs:=Ms hwk; subst hcs; obtain ⟨p1,_⟩:=xP hi (.box b cs); have hc1:=hc.perm p1; obtain ⟨vs,ty,h1,h2,h3⟩:=hc.each _ (List.mem_of_getElem? hi); have hle:Le w m w (fun c off=>m c off∨(c=b∧off < vs.length)):=fun c off h=>⟨.inl h,rfl⟩
 have hbs:b < w.heap.size:=by
  rcases Nat.lt_or_ge b w.heap.size with h | h
  · exact h
  · rw [Array.getElem?_eq_none h] at h1; cases h1
 have hap:=hc1.apart; rw [yQ,List.nodup_append] at hap; have hb:b∉lU (σ.eraseIdx i):=fun h=>hap.2.2 b (by simp [lU,bf.fp]) b h rfl; refine ⟨fun c off=>m c off∨(c=b∧off < vs.length),?_,⟨fun r hr=>?_,hap.2.1,fun c off h=>?_,iJ.mono hle hc.uK⟩,⟨rfl,rfl,rfl,Nat.le_refl _,hle,fun c hcl hn=>⟨rfl,fun off h=>?_⟩,fun c hcf=>?_,fun _=>Nat.le_refl _⟩⟩
 ·
  simp only [dK]; refine ⟨b,0,rfl,oJ.2 ⟨vs,(bD.mono hle _ _ h2).xg,fun j v hj=>⟨.inr ⟨rfl,?_⟩,?_⟩⟩⟩
  ·
   rw [Nat.zero_add]; rcases Nat.lt_or_ge j vs.length with h | h
   · exact h
   · rw [List.getElem?_eq_none h] at hj; cases hj
  ·
   rw [cell_of_row w b (0 + j) vs.toArray ty (0,0) h1]; simpa using hj
 ·
  refine bf.uf (hc1.right.each r hr) hle fun c hcf=>⟨rfl,fun off h=>?_⟩; rcases h with h | ⟨h,_⟩
  · exact h
  ·
   subst h; exact absurd (by simp only [lU,List.mem_flatMap]; exact ⟨r,hr,hcf⟩) hb
 ·
  rcases h with h | ⟨rfl,_⟩
  · exact hc.wf c off h
  · exact hbs
 ·
  rcases h with h | ⟨rfl,_⟩
  · exact h
  · exact absurd (by simp only [lU,List.mem_flatMap]; exact ⟨_,List.mem_of_getElem? hi,by simp [bf.fp]⟩) hn
 ·
  left; exact Y9 (List.eraseIdx_sublist σ i) c hcf
section
variable {P : Program} {n : Nat} {all : Array Oper} {l : List Oper} {env : Env} {σ : List bf} {ds : List Deferred} {Q : Post} {c : Code}
theorem Ud {w:World} {m:ko} {a:Act} {t i b:Nat} {cs cs':List PV} {σ':List bf} (ht:env.get t=.val (.pointer (some ⟨b,0,none⟩))) (hi:σ[i]?=some (.box b cs)) (hwk:Iq cs=some cs') (he:AZ σ i=some σ')
  (hs:uZ w m n env σ ds a):∃ m',uZ w m' n ((t,.ref cs') :: env) σ' ds a∧Trans w m σ w m' σ':=by
 obtain ⟨m',h1,h2,h3⟩:=hs.lK.OH hi hwk; rw [←Oe he] at h2 h3; refine ⟨m',⟨hs.size,hs.ds,fun u=>?_,h2⟩,h3⟩; have hu:=hs.env u; simp only [Env.get]; cases hb:Nat.beq t u with
 | false=>exact dK.mono h3.le _ _ hu
 | true=>
  have:=Nat.eq_of_beq_eq_true hb; subst this; rw [ht] at hu; simp only [dK] at hu; rw [hu]; exact h1
theorem AR.OH (t i:Nat) {b:Nat} {cs cs':List PV} {σ':List bf} (ht:env.get t=.val (.pointer (some ⟨b,0,none⟩))) (hi:σ[i]?=some (.box b cs)) (hwk:Iq cs=some cs') (he:AZ σ i=some σ')
  (h:AR P n all l ((t,.ref cs') :: env) σ' ds Q):AR P n all l env σ ds Q:=by
 intro w m a QC hs ha; obtain ⟨m',k1,k2⟩:=Ud ht hi hwk he hs; exact h w m' a QC k1 (ha.step k2)
theorem AW.OH (t i:Nat) {b:Nat} {cs cs':List PV} {σ':List bf} (ht:env.get t=.val (.pointer (some ⟨b,0,none⟩))) (hi:σ[i]?=some (.box b cs)) (hwk:Iq cs=some cs') (he:AZ σ i=some σ')
  (h:AW P n c ((t,.ref cs') :: env) σ' ds Q):AW P n c env σ ds Q:=by
 intro w m a QC hs ha; obtain ⟨m',k1,k2⟩:=Ud ht hi hwk he hs; exact h w m' a QC k1 (ha.step k2)
end
end Go.Abs
namespace Go.Abs
variable [iJ]
open Go Go.Proofs Go.Sort Go.Lib Go.Shelf
theorem acp {w:World} {m:ko} {g n cap sz:Nat} {e:TypeId} {cs cs':List PV} {cur:Array Value} {fz:Nat × Nat} (dk:Array Value) (q:Nat) (os:Array Obj) {vs':List Value}
  (hc:Conc w m [.buf (.slice (some ⟨g,0,none⟩) n cap) n sz e cs]) (hg:w.heap[g]?=some (.cells cur e fz)) (hfz:fz.1=fz.2∨cur.size≤fz.1) (hn:n≤cap) (hcap:cap≤maxLen) (hcur:cur.size=cap * sz)
  (hm:∀ off,¬ m g off) (hlen:vs'.length=n * sz) (hput:(Go.Sort.putCells id 0 dk cur).toList.take (n * sz)=vs') (hrep:bD w m cs' vs'):
  let w':=Sort.grow (putRow id (Sort.ahead w q) g 0 dk) os
  Conc w' m [.buf (.slice (some ⟨g,0,none⟩) n cap) n sz e cs']∧Trans w m [.buf (.slice (some ⟨g,0,none⟩) n cap) n sz e cs] w' m [.buf (.slice (some ⟨g,0,none⟩) n cap) n sz e cs']:=by
 intro w'
 have hgs:g < w.heap.size:=by
  rcases Nat.lt_or_ge g w.heap.size with h | h
  · exact h
  · rw [Array.getElem?_eq_none h] at hg; cases hg
 have hold:∀ b,b < w.heap.size→b≠g→w'.heap[b]?=w.heap[b]?:=by
  intro b hb hne; show (Sort.grow _ _).heap[b]?=_; rw [heap_grow_old _ _ (by simpa using hb)]; show (w.heap.modify g _)[b]?=_; rw [Array.getElem?_modify,if_neg (Ne.symm hne)]
 have hnew:w'.heap[g]?=some (.cells (Go.Sort.putCells id 0 dk cur) e fz):=by
  show (Sort.grow _ _).heap[g]?=_; rw [heap_grow_old _ _ (by simpa using hgs)]; show (w.heap.modify g _)[g]?=_; rw [Array.getElem?_modify,if_pos rfl,hg]; rfl
 obtain ⟨hle,hsz⟩:=ME id dk q os hm hc.wf; refine ⟨⟨?_,?_,fun b off hb=>Nat.lt_of_lt_of_le (hc.wf b off hb) hsz,iJ.mono hle hc.uK⟩,⟨rfl,rfl,rfl,hsz,hle,?_,?_,?_⟩⟩
 ·
  intro r hr; simp only [List.mem_singleton] at hr; subst hr; refine ⟨vs',⟨hlen,.inr ⟨g,cap,_,fz,rfl,hnew,?_,hn,hcap,?_,hput⟩⟩,bD.mono hle _ _ hrep,?_⟩
  · simpa [Go.Sort.putCells] using hfz
  · simpa [Go.Sort.putCells] using hcur
  ·
   intro b hb off; simp only [Value.ownBlock,Option.some.injEq] at hb; subst hb; exact hm off
 · simp [lU,bf.fp,Value.ownBlock]
 ·
  intro b hb hf; have hne:b≠g:=fun h=>hf (by subst h; simp [lU,bf.fp,Value.ownBlock]); exact ⟨hold b hb hne,fun _ h=>h⟩
 ·
  intro b hb; left; simpa [lU,bf.fp,Value.ownBlock] using hb
 ·
  intro _; show w.drawn≤w.drawn + q; omega
theorem UF {T:Type} {w:World} {m:ko} {f:T→List PV}:∀ {l:List T} {xs:List Value},bD w m (l.flatMap f) xs→∃ zs:List (T × List Value),zs.map (·.1)=l∧(zs.map (·.2)).flatten=xs∧∀ z∈zs,bD w m (f z.1) z.2
 | [],xs,h=>by
  simp only [List.flatMap_nil,bD] at h; exact ⟨[],rfl,by simp [h],fun z hz=>by cases hz⟩
 | x :: l,xs,h=>by
  rw [List.flatMap_cons] at h
  have h1:bD w m (f x) (xs.take (f x).length):=by
   have:=h.take (f x).length; simpa using this
  have h2:bD w m (l.flatMap f) (xs.drop (f x).length):=by
   have:=h.drop (f x).length; simpa using this
  obtain ⟨zs,e1,e2,e3⟩:=UF h2; refine ⟨(x,xs.take (f x).length) :: zs,by simp [e1],by simp [e2],fun z hz=>?_⟩; rcases List.mem_cons.1 hz with rfl | hz
  · exact h1
  · exact e3 z hz
theorem Y_ :∀ {L:List (List Value)} {k:Nat},0 < k→(∀ x∈L,x.length=k)→∀ j,j < L.length * k→L.flatten[j]?=some ((L[j / k]!)[j % k]!)
 | [],k,_,_,j,hj=>by simp at hj
 | x :: L,k,hk,h,j,hj=>by
  have hx:x.length=k:=h x (by simp); rw [List.flatten_cons]; by_cases hlt:j < k
  · rw [List.getElem?_append_left (by omega),Nat.div_eq_of_lt hlt,Nat.mod_eq_of_lt hlt,List.getElem!_cons_zero,List.getElem?_eq_getElem (by omega),getElem!_pos x j (by omega)]
  ·
   rw [List.getElem?_append_right (by omega),hx,Y_ hk (fun y hy=>h y (by simp [hy])) (j - k) (by simp only [List.length_cons,Nat.add_mul,Nat.one_mul] at hj; omega)]; obtain ⟨d,hd⟩:∃ d,j=d + k:=⟨j - k,by omega⟩; subst hd; rw [Nat.add_sub_cancel,Nat.add_div_right _ hk,Nat.add_mod_right,List.getElem!_cons_succ]
theorem Xe {α:Type} [Inhabited α] (enc:α→List Value) {k:Nat} (hk:0 < k) (henc:∀ x,(enc x).length=k) (d:List α):(flatK enc k d.toArray).toList=(d.map enc).flatten:=by
 apply List.ext_getElem?; intro j
 have hfl:((d.map enc).flatten).length=d.length * k:=by
  rw [List.length_flatten,List.map_map]; clear hk
  induction d with
  | nil=>simp
  | cons x d ih=>simp only [List.map_cons,List.sum_cons,List.length_cons,Function.comp_apply,henc,ih,Nat.add_mul,Nat.one_mul,Nat.add_comm]
 by_cases hj:j < d.length * k
 ·
  rw [Y_ hk (fun x hx=>by obtain ⟨y,_,rfl⟩:=List.mem_map.1 hx; exact henc y) j (by simpa using hj)]; have hs:j < (flatK enc k d.toArray).size:=by simpa using hj
  rw [Array.getElem?_toList,Array.getElem?_eq_getElem hs,←getElem!_pos _ j hs,get_flatK enc k d.toArray j (by simpa using hj)]; have hq:j / k < d.length:=Nat.div_lt_of_lt_mul (by rw [Nat.mul_comm]; exact hj); congr 2; rw [getElem!_pos d.toArray (j / k) (by simpa using hq),getElem!_pos (d.map enc) (j / k) (by simpa using hq)]; simp
 ·
  have h1:((flatK enc k d.toArray).toList)[j]?=none:=List.getElem?_eq_none (by rw [Array.length_toList,size_flatK]; simp only [List.size_toArray]; omega); have h2:((d.map enc).flatten)[j]?=none:=List.getElem?_eq_none (by rw [hfl]; omega); rw [h1,h2]
theorem O9 {α β:Type} (zs:List α) (g:α→β):(zs.attach.map fun a=>g a.1)=zs.map g:=by
 conv=>rhs; rw [←List.attach_map_subtype_val zs]
 rw [List.map_map]; rfl
theorem AC.ZH {P:Program} {ρ:Ren} (L:SlLaysF0.n6 P ρ) {T:Type} (f:T→List PV) {k:Nat} (hk0:0 < k) (hfl:∀ x,(f x).length=k) (hone:∀ x,(f x).all PV.one=true)
  (aE:∀ w,(isAgg (ρ.t 24)).run P w=.ok true w) (zE:∀ w,(Go.sizeOf (ρ.t 24)).run P w=.ok k w) {g:FuncId} (hp:aU P g=true) {cf:T→T→Int} {l:List T}
  (hcmp:∀ a b,a∈l→b∈l→@AC Xb P g [.agg (f a),.agg (f b)] [] fun out _=>out=.ret (.int .i64 (cf a b)))
  (s1:∀ x,¬ cf x x < 0) (s2:∀ x y z,cf x y < 0→cf y z < 0→cf x z < 0) (s3:∀ x y z,¬ cf x y < 0→¬ cf y z < 0→¬ cf x z < 0)
  (hd:l.Pairwise fun x y=>cf x y < 0∨cf y x < 0) (hb:l.length < 4611686018427387904) {v:Value} {e:TypeId} {R:dx→List bf→Prop}
  (h:R (.ret (.tuple [])) [.buf v (l.mergeSort fun x y=>!decide (cf y x < 0)).length k e ((l.mergeSort fun x y=>!decide (cf y x < 0)).flatMap f)]):
  AC P (ρ.f 6) [.val v,.fn g []] [.buf v l.length k e (l.flatMap f)] R:=by
 rw [List.length_mergeSort] at h; intro w m vs hc hv; simp only [bD,dK] at hv; obtain ⟨v0,vs0,rfl,rfl,v1,vs1,rfl,⟨cs,rfl,rfl⟩,rfl⟩:=hv
 have nil:l=[]→Calls P (ρ.f 6) #[v0,.func (.func g) #[] #[]] w fun en w'=>∃ out σ' m',R out σ'∧G_ w' m' out en∧Conc w' m' σ'∧Trans w m [.buf v0 l.length k e (l.flatMap f)] w' m' σ':=by
  intro hl0; subst hl0; obtain ⟨xs,⟨hx1,hx2⟩,hrep,hm⟩:=hc.each _ (List.mem_singleton.2 rfl); have hnil:([]:List T).mergeSort (fun x y=>!decide (cf y x < 0))=[]:=by simp
  rw [hnil] at h; rcases hx2 with ⟨rfl,hn⟩ | ⟨gb,cap,cur,fz,rfl,hg,hfz,hn,hcap,hcur,htake⟩
  ·
   refine (AnyF.slices_SortFunc_none (P:=P) (ρ:=ρ) {L with} Option.none 0 (.func (.func g) #[] #[]) w).mono ?_; rintro en w' ⟨rfl,rfl⟩; exact ⟨_,_,m,h,⟨_,rfl,by simp only [dK]; exact ⟨[],rfl,bD.nil⟩⟩,hc,Trans.refl _ _ _⟩
  ·
   refine (AnyF.slices_SortFunc_none (P:=P) (ρ:=ρ) {L with} (some ⟨gb,0,Option.none⟩) cap (.func (.func g) #[] #[]) w).mono ?_; rintro en w' ⟨rfl,rfl⟩; exact ⟨_,_,m,h,⟨_,rfl,by simp only [dK]; exact ⟨[],rfl,bD.nil⟩⟩,hc,Trans.refl _ _ _⟩
 by_cases hl0:l=[]
 · exact nil hl0
 obtain ⟨xs,⟨hx1,hx2⟩,hrep,hm⟩:=hc.each _ (List.mem_singleton.2 rfl); rcases hx2 with ⟨rfl,hn⟩ | ⟨gb,cap,cur,fz,rfl,hg,hfz,hn,hcap,hcur,htake⟩
 · exact absurd (List.eq_nil_of_length_eq_zero hn) hl0
 obtain ⟨zs,z1,z2,z3⟩:=UF hrep; have hzl:zs.length=l.length:=by rw [←z1]; simp
 have hgs:gb < w.heap.size:=by
  rcases Nat.lt_or_ge gb w.heap.size with h | h
  · exact h
  · rw [Array.getElem?_eq_none h] at hg; cases hg
 have hm':∀ off,¬ m gb off:=hm gb rfl
 obtain ⟨z0,hz0⟩:∃ z,z∈zs:=by
  cases hzz:zs with
  | nil=>rw [hzz] at hzl; exact absurd (List.eq_nil_of_length_eq_zero hzl.symm) hl0
  | cons z r=>exact ⟨z,by simp⟩
 let A:Type:={z:T × List Value // z∈zs}
 letI:Inhabited A:=⟨⟨z0,hz0⟩⟩
 let enc:A→List Value:=fun a=>a.1.2; let cA:A→A→Int:=fun a b=>cf a.1.1 b.1.1
 have henc:∀ a:A,(enc a).length=k:=fun a=>by
  have:=(z3 a.1 a.2).length_eq; rw [hfl] at this; exact this
 have aho:∀ a:A,∀ u∈enc a,u.oneCell'=true:=fun a=>(z3 a.1 a.2).oneCell (hone _)
 have hSA:SWO (ltOf cA):={
  irrefl:=fun x=>by simp only [ltOf,cA,decide_eq_false_iff_not]; exact s1 _
  trans:=fun x y z a b=>by simp only [ltOf,cA,decide_eq_true_eq] at *; exact s2 _ _ _ a b
  ntrans:=fun x y z a b=>by simp only [ltOf,cA,decide_eq_false_iff_not] at *; exact s3 _ _ _ a b}
 have hpz:zs.Pairwise fun x y=>cf x.1 y.1 < 0∨cf y.1 x.1 < 0:=by
  rw [←z1,List.pairwise_map] at hd; exact hd
 have hTA:∀ x y:A,(ltOf cA) x y=false→(ltOf cA) y x=false→x=y:=by
  intro x y a b; simp only [ltOf,cA,decide_eq_false_iff_not] at a b; apply Subtype.ext; obtain ⟨i,hi,ei⟩:=List.mem_iff_getElem.1 x.2; obtain ⟨j,hj,ej⟩:=List.mem_iff_getElem.1 y.2; rw [←ei,←ej] at a b ⊢; rcases Nat.lt_trichotomy i j with hij | hij | hij
  ·
   rcases List.pairwise_iff_getElem.1 hpz i j hi hj hij with h' | h'
   · exact absurd h' a
   · exact absurd h' b
  · subst hij; rfl
  ·
   rcases List.pairwise_iff_getElem.1 hpz j i hj hi hij with h' | h'
   · exact absurd h' b
   · exact absurd h' a
 have aiv:(zs.attach.map enc).flatten=xs:=by
  rw [←z2]; congr 1; exact O9 zs (fun z=>z.2)
 have hat:zs.attach.toArray.size=l.length:=by
  have:zs.attach.length=zs.length:=List.length_attach; simpa only [List.size_toArray,hzl] using this
 have hcell:∀ j (hj:j < l.length * k),cur[j]?=xs[j]?:=by
  intro j hj; have:(cur.toList.take (l.length * k))[j]?=xs[j]?:=by rw [htake]
  rw [List.getElem?_take,if_pos hj] at this; rw [←Array.getElem?_toList,this]
 have hH:HoldsK enc k w gb 0 zs.attach.toArray:=by
  intro j hj; have hj':j < l.length * k:=by rw [←hat,←size_flatK enc]; exact hj
  refine ⟨?_,?_⟩
  ·
   simp only [World.cell?,hg,Nat.zero_add]; rw [if_neg (by simp),hcell j hj',←aiv,←Xe enc hk0 henc,Array.getElem?_toList,Array.getElem?_eq_getElem hj]; congr 1; exact (getElem!_pos _ j hj).symm
  ·
   simp only [World.frozen?,hg]; rcases hfz with h | h
   ·
    rcases fz with ⟨a,b⟩; simp only at h ⊢; subst h; simp only [Bool.and_eq_false_iff,decide_eq_false_iff_not]; omega
   ·
    rcases fz with ⟨a,b⟩; simp only at h ⊢; simp only [Bool.and_eq_false_iff,decide_eq_false_iff_not]; rw [hcur] at h; have hcm:l.length * k≤cap * k:=Nat.mul_le_mul_right k hn; omega
 have ahl:CmpLays P g #[] enc k cA gb 0 zs.attach.toArray.size w:=by
  intro m0 os dk _ x y; obtain ⟨l1,l2⟩:=ME id (flatK enc k dk) m0 os hm' hc.wf; have hx:x.1.1∈l:=by rw [←z1]; exact List.mem_map.2 ⟨x.1,x.2,rfl⟩
  have hy:y.1.1∈l:=by rw [←z1]; exact List.mem_map.2 ⟨y.1,y.2,rfl⟩
  refine (hcmp x.1.1 y.1.1 hx hy (sortWorldK enc k w gb 0 m0 dk os) m [.agg (enc x).toArray,.agg (enc y).toArray] (@Conc.mk Xb _ _ _ (fun r hr=>by simp at hr) (by simp [lU]) (fun b off h=>Nat.lt_of_lt_of_le (hc.wf b off h) l2) trivial)
   (bD.cons (by simp only [dK]; exact ⟨enc x,rfl,bD.mono l1 _ _ (z3 x.1 x.2)⟩) (bD.cons (by simp only [dK]; exact ⟨enc y,rfl,bD.mono l1 _ _ (z3 y.1 y.2)⟩) bD.nil))).mono ?_
  rintro en w' ⟨out,σ',m',rfl,hout,_,ht⟩; obtain ⟨r,rfl,hr⟩:=hout; simp only [dK] at hr; exact ⟨by rw [hr],@Trans.grown Xb trivial _ _ _ _ _ (@Trans.sub Xb _ _ _ _ _ _ _ ht (List.nil_sublist _))⟩
 have key:=AnyQ.slices_SortFunc_total L k aE zE enc henc aho cA hSA g #[] gb 0 cap zs.attach.toArray w (zB hp) ahl hH hgs (by rw [hat]; exact hb) hTA; have e0:=hat; rw [e0] at key; refine key.mono ?_; rintro en w' ⟨rfl,q,os,rfl⟩
 have hms:((zs.attach.mergeSort fun x y=>!(ltOf cA) y x).map fun a=>a.1.1)=l.mergeSort fun x y=>!decide (cf y x < 0):=by
  have e1:(zs.attach.map fun a:A=>a.1.1)=l:=by
   rw [←z1]; exact O9 zs (fun z=>z.1)
  rw [List.map_mergeSort (r:=fun x y:A=>!(ltOf cA) y x) (s:=fun x y:T=>!decide (cf y x < 0)) (f:=fun a:A=>a.1.1),e1]; intro a _ b _; rfl
 have hlen:(zs.attach.mergeSort fun x y=>!(ltOf cA) y x).length=l.length:=by rw [List.length_mergeSort]; simpa using hzl
 have ad5:=Xe enc hk0 henc (zs.attach.mergeSort fun x y=>!(ltOf cA) y x)
 have hfs:((zs.attach.mergeSort fun x y=>!(ltOf cA) y x).map enc).flatten.length=l.length * k:=by
  rw [←ad5,Array.length_toList,size_flatK]; simp [hlen]
 have hcm:l.length * k≤cap * k:=Nat.mul_le_mul_right k hn
 have ahk:bD w m ((l.mergeSort fun x y=>!decide (cf y x < 0)).flatMap f) ((zs.attach.mergeSort fun x y=>!(ltOf cA) y x).map enc).flatten:=by
  rw [←hms]; generalize (zs.attach.mergeSort fun x y=>!(ltOf cA) y x)=ss
  induction ss with
  | nil=>exact bD.nil
  | cons a ss ih=>
   simp only [List.map_cons,List.flatMap_cons,List.flatten_cons]; exact bD.append (z3 a.1 a.2) ih
 obtain ⟨c1,c2⟩:=acp (flatK enc k (zs.attach.mergeSort fun x y=>!(ltOf cA) y x).toArray) q os hc hg hfz hn hcap hcur hm' hfs (by
  rw [←ad5]; apply List.ext_getElem?; intro j; rw [List.getElem?_take]; split
  ·
   rename_i hj; have h1:j < cur.size:=by omega
   have h2:j < (flatK enc k (zs.attach.mergeSort fun x y=>!(ltOf cA) y x).toArray).size:=by simpa [hlen] using hj
   simp only [Go.Sort.putCells,Array.getElem?_toList,Array.getElem?_mapIdx,Array.getElem?_eq_getElem h1,Option.map_some]; rw [if_pos ⟨Nat.zero_le _,by rw [Nat.zero_add]; exact h2⟩,Nat.sub_zero,getElem!_pos _ j h2,Array.getElem?_eq_getElem h2]; rfl
  ·
   rename_i hj
   rw [List.getElem?_eq_none (by rw [Array.length_toList,size_flatK]; simp [hlen]; omega)]) ahk
 exact ⟨_,_,m,h,⟨_,rfl,by simp only [dK]; exact ⟨[],rfl,bD.nil⟩⟩,c1,c2⟩
end Go.Abs
namespace Go.Ft
open Go Go.Lib
theorem Ki :∀ s t:Str,Go.Lib.index s t=match Cm s t with | none=>-1 | some i=>(i:Int)
 | [],t=>by
  unfold Go.Lib.index Cm; cases t.isEmpty <;> rfl
 | b :: l,t=>by
  unfold Go.Lib.index Cm; rw [Ki l t]; cases t.isPrefixOf (b :: l) with
  | true=>rfl
  | false=>
   simp only [Bool.false_eq_true,if_false]; cases Cm l t with
   | none=>rfl
   | some i=>
    have:(((i:Nat):Int) == -1)=false:=by rw [beq_eq_false_iff_ne]; omega
    simp only [this,Bool.false_eq_true,if_false,Option.map_some]; show (i:Int) + 1=((i + 1:Nat):Int); omega
theorem Yn (s t:Str):Go.Lib.contains s t=(Cm s t).isSome:=by
 unfold Go.Lib.contains; rw [Ki]; cases Cm s t with
 | none=>rfl
 | some i=>simp
theorem WZ {s t:Str} {i:Nat} (h:Cm s t=some i):i + t.length≤s.length:=by
 have:=index_room s t (by rw [Ki,h]; exact Int.natCast_nonneg i); rw [Ki,h] at this; simp only at this; omega
theorem YO {t:Str} (ht:t≠[]):∀ (n:Nat) (s:Str) (f k:Nat),s.length < n→n≤f→n≤k→splitK t 0 (countFrom t f s) s=Gg t k s
 | 0,s,f,k,h,_,_=>by omega
 | n + 1,s,f,k,h,hf,hk=>by
  obtain ⟨f,rfl⟩:∃ g,f=g + 1:=⟨f - 1,by omega⟩; obtain ⟨k,rfl⟩:∃ g,k=g + 1:=⟨k - 1,by omega⟩; rw [countFrom,Gg,Ki]; cases hi:Cm s t with
  | none=>simp [splitK]
  | some i=>
   have hr:=WZ hi; have htl:0 < t.length:=List.length_pos_iff.2 ht; have hb:(((i:Nat):Int) == -1)=false:=by rw [beq_eq_false_iff_ne]; omega
   simp only [hb,Bool.false_eq_true,if_false,Int.toNat_natCast]; rw [Nat.add_comm 1,splitK,Ki,hi]; simp only [hb,Bool.false_eq_true,if_false,Int.toNat_natCast,Nat.add_zero]; rw [YO ht n (s.drop (i + t.length)) f k (by simp; omega) (by omega) (by omega)]
theorem Yh :∀ (l:List Str) (t:Str),Go.Lib.join l t=OY l t
 | [],_=>rfl
 | [x],t=>by rw [OY,join_one]
 | x :: y :: r,t=>by
  rw [OY,←Yh (y :: r) t,join_cons,join_cons]; simp [joinTail]
theorem ab_ :∀ (k u:Nat),u < 10 ^ (k + 1)→aag (k + 1) u=decDigits u
 | 0,u,h=>by rw [aag,decDigits,if_pos (by simpa using h),dif_pos (by simpa using h)]
 | k + 1,u,h=>by
  rw [aag,decDigits]; by_cases hu:u < 10
  · rw [if_pos hu,dif_pos hu]
  · rw [if_neg hu,dif_neg hu,ab_ k (u / 10) (by rw [Nat.pow_succ] at h; omega)]
theorem afu {n:Int} (h1:-9223372036854775808≤n) (h2:n≤9223372036854775807):Y6 n=itoa n:=by
 unfold Y6 itoa; rw [ab_ 19 _ (by have:(10:Nat) ^ 20=100000000000000000000:=(by decide); omega),ab_ 19 _ (by have:(10:Nat) ^ 20=100000000000000000000:=(by decide); omega)]
theorem ad4 :∀ (l:Str) (acc:Nat),adl acc l=match parseUint10 acc l with | .ok v=>(0,v) | .range=>(2,0) | _=>(1,0)
 | [],acc=>rfl
 | c :: r,acc=>by
  rw [adl,parseUint10]; split
  ·
   split
   · rfl
   ·
    split
    · rfl
    · exact ad4 r _
  · rfl
theorem afS (l:Str):UM l=match atoiAll l with | .ok v=>(0,v) | .range=>(2,atoiSat l) | _=>(1,0):=by
 cases l with
 | nil=>rfl
 | cons c r=>
  have aik:atoiSat (c :: r)=if c.toNat=45 then -9223372036854775808 else 9223372036854775807:=by
   unfold atoiSat; simp
  rw [aik]; unfold UM atoiAll parseMag; simp only; generalize (if c.toNat=43∨c.toNat=45 then r else c :: r)=body; by_cases hb:body=[]
  · simp [hb]
  ·
   rw [if_neg hb,if_neg hb,ad4]; cases parseUint10 0 body with
   | ok u=>
    simp only; by_cases h1:¬c.toNat=45∧9223372036854775808≤u
    · simp [h1]
    ·
     by_cases h2:c.toNat=45∧9223372036854775808 < u
     · simp [h1,h2]
     · simp [h1,h2]
   | _=>rfl
end Go.Ft
namespace Go.Abs
variable [iJ]
open Go Go.Proofs Go.Lib Go.Shelf Go.RowKit
theorem zn (hD:¬ iJ.D) {w w':World} {m:ko} (hc:Conc w m []) (hb:Below w.heap.size w w'):Conc w' m []∧Trans w m [] w' m []:=by
 have hle:Le w m w' m:=fun b off hm=>⟨hm,World.cell?_of_block (w:=w) (hb.block b (hc.wf b off hm))⟩
 exact ⟨⟨fun r hr=>by simp at hr,by simp [lU],fun b off hm=>Nat.lt_of_lt_of_le (hc.wf b off hm) hb.size,iJ.mono hle hc.uK⟩,
  ⟨hb.os,hb.tape,hb.output,hb.size,hle,fun b hlt _=>⟨hb.block b hlt,fun _ h=>h⟩,fun b hb=>by simp [lU] at hb,fun d=>absurd d hD⟩⟩
section
variable {P : Program} {ρ : Ren} {R : dx → List bf → Prop}
theorem AC.contains (L:Lays.n144 P ρ) {s t:List UInt8} (hs:s.length < 4294967281) (hm:∀ (w:World) (m:ko),iJ.G w m→∃ n:Int,w.cell? ⟨ρ.g 1,0,Option.none⟩=some (.int .i64 n))
  (h:R (.ret (.bool (Ft.Cm s t).isSome)) []):AC P (ρ.f 144) [.str s,.str t] [] R:=by
 intro w m vs hc hv; simp only [bD,dK] at hv; obtain ⟨v0,vs0,rfl,rfl,v1,vs1,rfl,rfl,rfl⟩:=hv; obtain ⟨n,hn⟩:=hm w m hc.uK; refine (Any.strings_Contains L ⟨s.toArray⟩ ⟨t.toArray⟩ n w (by simpa [ByteArray.size] using hs) hn).mono ?_; rintro en w' ⟨rfl,rfl⟩; exact ⟨_,_,m,h,⟨_,rfl,by simp only [dK]; rw [Ft.Yn]⟩,hc,Trans.refl _ _ _⟩
theorem AC.itoa (hD:¬ iJ.D) (L:LaysM.n171 P ρ) {n:Int} (h0:-9223372036854775808≤n) (h1:n≤9223372036854775807) (ht:∀ (w:World) (m:ko),iJ.G w m→Lib.TabIs P w "internal/strconv.uint64pow10" .u64 Lib.pow10Tab)
  (h:R (.ret (.str (Ft.Y6 n))) []):AC P (ρ.f 171) [.int .i64 n] [] R:=by
 intro w m vs hc hv; simp only [bD,dK] at hv; obtain ⟨v0,vs0,rfl,rfl,rfl⟩:=hv; refine (Any.strconv_Itoa L n h0 h1 w (ht w m hc.uK)).mono ?_; rintro en w' ⟨rfl,k,os,rfl⟩; have hb:Below w.heap.size w (Sort.grow (w.drewN k) os):=⟨rfl,rfl,rfl,by rw [Sort.size_grow]; exact Nat.le_add_right _ _,fun j hj=>Sort.heap_grow_old (w.drewN k) os hj⟩; obtain ⟨c1,c2⟩:=zn hD hc hb; exact ⟨_,_,m,h,⟨_,rfl,by simp only [dK]; rw [Ft.afu h0 h1]⟩,c1,c2⟩
theorem AC.atoi (hD:¬ iJ.D) (L:LaysC.n172 P ρ) {s:List UInt8} (hs:s.length≤281474976710656) {E:TypeId} (hE:ρ.t 168=E)
  (hv1:∀ (w:World) (m:ko),iJ.G w m→∃ ev,w.cell? ⟨ρ.g 15,0,Option.none⟩=some ev∧(ev=.nilIface∨∃ te pe,ev=.iface te pe)) (hv2:∀ (w:World) (m:ko),iJ.G w m→∃ ev,w.cell? ⟨ρ.g 16,0,Option.none⟩=some ev∧(ev=.nilIface∨∃ te pe,ev=.iface te pe))
  (h:R (.ret (.tuple [.int .i64 (Ft.UM s).2,.err (if (Ft.UM s).1=0 then Option.none else some E)])) []):AC P (ρ.f 172) [.str s] [] R:=by
 subst hE; intro w m vs hc hv; simp only [bD,dK] at hv; obtain ⟨v0,vs0,rfl,rfl,rfl⟩:=hv; have hF:=Ft.afS s; have hsz:(⟨s.toArray⟩:ByteArray).size=s.length:=by simp [ByteArray.size]
 have tup:∀ (w':World) (a:Int) (e:Option TypeId) (x:Value),dK w' m (.err e) x→dK w' m (.tuple [.int .i64 a,.err e]) (.tuple #[.int .i64 a,x]):=fun w' a e x hx=>by
  simp only [dK]; exact ⟨[.int .i64 a,x],rfl,bD.cons (by simp only [dK]) (bD.cons hx bD.nil)⟩
 cases ha:atoiAll s with
 | ok v=>
  rw [ha] at hF; simp only at hF; rw [hF] at h; refine (Any.strconv_Atoi_ok L ⟨s.toArray⟩ (by rw [hsz]; omega) v (by simpa using ha) w).mono ?_; rintro en w' ⟨rfl,hw⟩
  have hb:Below w.heap.size w w':=by
   rcases hw with rfl | ⟨t,rfl⟩
   · exact Below.refl _ _
   ·
    refine ⟨rfl,rfl,rfl,?_,fun j hj=>Lib.bytesWorld_at_old w _ _ j hj⟩; have hsz2:(Lib.bytesWorld w (ρ.t 5) t).heap.size=w.heap.size + 1:=Lib.bytesWorld_size ..; omega
  obtain ⟨c1,c2⟩:=zn hD hc hb; exact ⟨_,_,m,h,⟨_,rfl,tup _ _ Option.none _ (by simp only [dK])⟩,c1,c2⟩
 | range=>
  rw [ha] at hF; simp only at hF; rw [hF] at h; obtain ⟨ev,e1,e2⟩:=hv2 w m hc.uK; refine (Any.strconv_Atoi_range L ⟨s.toArray⟩ (by rw [hsz]; exact hs) (by simpa using ha) ev w e1 e2).mono ?_; rintro en w' ⟨N,rfl,_,_,hb⟩; obtain ⟨c1,c2⟩:=zn hD hc hb; exact ⟨_,_,m,h,⟨_,rfl,tup _ _ (some _) _ (by simp only [dK]; exact ⟨_,rfl⟩)⟩,c1,c2⟩
 | _=>
  rw [ha] at hF; simp only at hF; rw [hF] at h; obtain ⟨ev,e1,e2⟩:=hv1 w m hc.uK; refine (Any.strconv_Atoi_syntax L ⟨s.toArray⟩ (by rw [hsz]; exact hs) (by simpa using ha) ev w e1 e2).mono ?_; rintro en w' ⟨N,rfl,_,_,hb⟩; obtain ⟨c1,c2⟩:=zn hD hc hb; exact ⟨_,_,m,h,⟨_,rfl,tup _ _ (some _) _ (by simp only [dK]; exact ⟨_,rfl⟩)⟩,c1,c2⟩
theorem Wn {w:World} {m:ko} {b:Nat}:∀ {l:List (List UInt8)} {off:Nat},jZ w m b 1 off (l.map fun s=>[PV.str s])→∀ (j:Nat) (x:ByteArray),(l.map fun s=>(⟨s.toArray⟩:ByteArray))[j]?=some x→m b (off + j)∧w.cell? ⟨b,off + j,Option.none⟩=some (.string x)
 | [],_,_,j,x,h=>by simp at h
 | s :: l,off,hr,j,x,h=>by
  simp only [List.map_cons,jZ,qo,dK] at hr; obtain ⟨⟨_,⟨v,h1,h2,h3⟩,_⟩,h4⟩:=hr; cases j with
  | zero=>
   simp only [List.map_cons,List.getElem?_cons_zero,Option.some.injEq] at h; subst h; rw [h3] at h2; exact ⟨h1,h2⟩
  | succ j=>
   simp only [List.map_cons,List.getElem?_cons_succ] at h; have:=Wn h4 j x h; rw [show off + (j + 1)=off + 1 + j from by omega]; exact this
theorem AC.join (hD:¬ iJ.D) (L:Lays.n156 P ρ) (X:Builder.Extra P ρ) {l:List (List UInt8)} {t:List UInt8} (hl:l.length≤140737488355328) (hj:(Ft.OY l t).length≤140737488355328)
  (h:R (.ret (.str (Ft.OY l t))) []):AC P (ρ.f 156) [.list (l.map fun s=>[PV.str s]),.str t] [] R:=by
 intro w m vs hc hv; simp only [bD] at hv; obtain ⟨v0,vs0,rfl,h1,v1,vs1,rfl,h2,rfl⟩:=hv; simp only [dK] at h1 h2; obtain ⟨a,cap,rfl,hcap,hel⟩:=h1; subst h2; have hml:(l.map fun s=>[PV.str s]).length=l.length:=List.length_map _; rw [hml] at hcap ⊢
 have hdata:(l.map fun s=>(⟨s.toArray⟩:ByteArray)).map (·.data.toList)=l:=by
  rw [List.map_map]; exact (List.map_congr_left (fun s _=>by simp)).trans (List.map_id l)
 rcases hel with he | ⟨b,off,sz,rfl,he⟩
 ·
  have hl0:l=[]:=List.map_eq_nil_iff.1 he; subst hl0; refine (Any.strings_Join_none L X a cap ⟨t.toArray⟩ w).mono ?_; rintro en w' ⟨rfl,rfl⟩; exact ⟨_,_,m,h,⟨_,rfl,by simp only [dK]; rfl⟩,hc,Trans.refl _ _ _⟩
 ·
  cases hl0:l with
  | nil=>
   subst hl0; refine (Any.strings_Join_none L X _ cap ⟨t.toArray⟩ w).mono ?_; rintro en w' ⟨rfl,rfl⟩; exact ⟨_,_,m,h,⟨_,rfl,by simp only [dK]; rfl⟩,hc,Trans.refl _ _ _⟩
  | cons x r=>
   have hsz:sz=1:=by
    rw [hl0] at he; simp only [List.map_cons,jZ] at he; exact he.1.1.symm
   subst hsz; rw [←hl0]; have hcell:=Wn he; have hbk:b < w.heap.size:=hc.wf b (off + 0) (hcell 0 ⟨x.toArray⟩ (by simp [hl0])).1; have hlm:(l.map fun s=>(⟨s.toArray⟩:ByteArray)).length=l.length:=List.length_map _
   have key:=Any.strings_Join L X b off cap (l.map fun s=>(⟨s.toArray⟩:ByteArray)) ⟨t.toArray⟩ w (fun j x hx=>(hcell j x hx).2) hbk (by rw [hlm]; exact hl) (by rw [hlm]; exact hcap)
    (by rw [hdata]; simpa [Ft.Yh] using hj)
   rw [hlm,hdata] at key; refine key.mono ?_; rintro en w' ⟨rfl,hb⟩; obtain ⟨c1,c2⟩:=zn hD hc hb; exact ⟨_,_,m,h,⟨_,rfl,by simp only [dK]; rw [Ft.Yh]⟩,c1,c2⟩
theorem AC.split (L:Lays.n146 P ρ) (hi9:(P.info? (ρ.t 9)).map (fun i=>(i.zero,i.size,i.bytes))=some (some (.string ByteArray.empty),1,16)) {s t:List UInt8} (hs:s.length < 4294967281) (ht:t≠[])
  (hm:∀ (w:World) (m:ko),iJ.G w m→∃ n:Int,w.cell? ⟨ρ.g 1,0,Option.none⟩=some (.int .i64 n))
  (h:R (.ret (.list ((Ft.Gg t (s.length + 1) s).map fun s=>[PV.str s]))) []):AC P (ρ.f 146) [.str s,.str t] [] R:=by
 intro w m vs hc hv; simp only [bD,dK] at hv; obtain ⟨v0,vs0,rfl,rfl,v1,vs1,rfl,rfl,rfl⟩:=hv; obtain ⟨n,hn⟩:=hm w m hc.uK; have htl:1≤t.length:=List.length_pos_iff.2 ht; have hts:1≤(⟨t.toArray⟩:ByteArray).size:=by simpa [ByteArray.size] using htl
 refine (Any.strings_Split L hi9 ⟨s.toArray⟩ ⟨t.toArray⟩ n w (by simpa [ByteArray.size] using hs) hn hts).mono ?_; rintro en w' ⟨rfl,rfl⟩; have hall:=Lib.splitB_all ⟨t.toArray⟩ hts 0 _ ⟨s.toArray⟩ rfl
 have hdata:(Lib.splitB ⟨t.toArray⟩ 0 (Lib.countB ⟨s.toArray⟩ ⟨t.toArray⟩) ⟨s.toArray⟩).map (·.data.toList)=Ft.Gg t (s.length + 1) s:=by
  rw [splitB_data]; exact Ft.YO ht (s.length + 1) s (s.length + 1) (s.length + 1) (Nat.lt_succ_self _) (Nat.le_refl _) (Nat.le_refl _)
 have hlen:Lib.countB ⟨s.toArray⟩ ⟨t.toArray⟩ + 1=(Ft.Gg t (s.length + 1) s).length:=by rw [←hdata,List.length_map,hall]
 have ahf:(Lib.splitB ⟨t.toArray⟩ 0 (Lib.countB ⟨s.toArray⟩ ⟨t.toArray⟩) ⟨s.toArray⟩).map Value.string=(Ft.Gg t (s.length + 1) s).map fun s=>Value.string ⟨s.toArray⟩:=by
  rw [←hdata,List.map_map]; exact List.map_congr_left fun x _=>by simp
 rw [hlen,ahf]; generalize Ft.Gg t (s.length + 1) s=r at h ⊢; have hcl:=uq hc (.cells (r.map fun s=>Value.string ⟨s.toArray⟩).toArray (ρ.t 9)) (fun _=>True); have htr:=kX (σ':=[]) hc (.cells (r.map fun s=>Value.string ⟨s.toArray⟩).toArray (ρ.t 9)) (fun _=>True) (fun b hb=>by simp [lU] at hb); have href:=F3 hc (r.map fun s=>Value.string ⟨s.toArray⟩) (r.map PV.str) (Wy r) (ρ.t 9); refine ⟨_,_,_,h,⟨_,rfl,?_⟩,hcl,htr⟩; simp only [dK]; have hml:(r.map fun s=>[PV.str s]).length=r.length:=List.length_map _; rw [hml]; refine ⟨_,_,rfl,Nat.le_refl _,.inr ⟨w.heap.size,0,1,rfl,ql.2 ⟨fun e he=>?_,?_⟩⟩⟩
 · obtain ⟨x,_,rfl⟩:=List.mem_map.1 he; rfl
 ·
  have hfl:(r.map fun s=>[PV.str s]).flatten=r.map PV.str:=by
   clear h hcl htr href hml
   induction r with
   | nil=>rfl
   | cons x r ih=>simp [ih]
  rw [hfl]; exact href
end
end Go.Abs
namespace Go.Abs
open Go
@[reducible] def ahy (ints errs:List Nat) (tabs:List (Nat × List Value)):iJ where
 G:=fun w m=>(∀ g∈ints,m g 0∧∃ n:Int,w.cell? ⟨g,0,none⟩=some (.int .i64 n))∧(∀ g∈errs,m g 0∧∃ u v,w.cell? ⟨g,0,none⟩=some (.iface u v))∧∀ p∈tabs,∀ off,m p.1 off∧w.cell? ⟨p.1,off,none⟩=p.2[off]?
 mono:=fun {w w' m m'} hle ⟨h1,h2,h3⟩=>⟨fun g hg=>by
   obtain ⟨a,n,b⟩:=h1 g hg; obtain ⟨c,d⟩:=hle g 0 a
   exact ⟨c,n,by rw [d,b]⟩,fun g hg=>by
   obtain ⟨a,u,v,b⟩:=h2 g hg; obtain ⟨c,d⟩:=hle g 0 a
   exact ⟨c,u,v,by rw [d,b]⟩,fun p hp off=>by
   obtain ⟨a,b⟩:=h3 p hp off; obtain ⟨c,d⟩:=hle p.1 off a
   exact ⟨c,by rw [d,b]⟩⟩
 D:=False
theorem RP {W:World} {g off:Nat} {v:Value} (h:W.cell? ⟨g,off,none⟩=some v):yU W g 0:=by
 unfold World.cell? at h; show g < W.heap.size; rcases Nat.lt_or_ge g W.heap.size with hl | hl
 · exact hl
 ·
  simp only at h; rw [Array.getElem?_eq_none hl] at h; cases h
theorem Rm {P:Program} {n nm:String} {d:DataW Unit} {r:List (String × DataW Unit)} {W:World} {g t:Nat} {ms:Array (String × TypeId)} (h:laidMet P ((n,.iface nm d) :: r) W) (hg:P.globalNamed n=some g)
  (ht:(P.globals[g]?).map (·.type)=some t) (hi:P.underlying t=some (.interface ms)):∃ u v,W.cell? ⟨g,0,none⟩=some (.iface u v):=by
 obtain ⟨ps,⟨g0,t0,cs0,f0,p0,q0,hg0,ht0,hv0,hd0,_,e0⟩,_,_⟩:=h; obtain rfl:=Option.some.inj (hg.symm.trans hg0); obtain rfl:=Option.some.inj (ht.symm.trans ht0); obtain ⟨l0⟩:=cs0; cases f0 with
 | zero=>simp [DataW.trod] at hd0
 | succ f0=>
  unfold DataW.trod at hd0; rw [hi] at hd0; simp only at hd0; split at hd0 <;> first | (cases hd0; done) | skip
  all_goals first
   | (rename_i e; cases e; done)
   | skip
  all_goals simp_all
  all_goals exact ⟨_,_,by simpa using World.var?_cell hg0 hv0 0⟩
theorem ZE {P:Program} {w:World} {name:String} {k:IntKind} {zs:List Int} {g:Nat} (hg:P.globalNamed name=some g) (h:Lib.TabIs P w name k zs):∀ off,yU w g off∧w.cell? ⟨g,off,none⟩=(zs.map fun z=>Value.int k z)[off]?:=by
 intro off; unfold Lib.TabIs World.var? at h; rw [hg] at h; simp only [Option.bind_some] at h; split at h
 ·
  rename_i cs t f hc; cases h; refine ⟨?_,?_⟩
  ·
   show g < w.heap.size; rcases Nat.lt_or_ge g w.heap.size with hl | hl
   · exact hl
   · rw [Array.getElem?_eq_none hl] at hc; cases hc
  ·
   unfold World.cell?; simp only [hc]; simp
 · cases h
theorem aal {P:Program} {w:World} {name:String} {k:IntKind} {zs:List Int} {g:Nat} (hg:P.globalNamed name=some g) (hne:zs≠[]) (h:∀ off,w.cell? ⟨g,off,none⟩=(zs.map fun z=>Value.int k z)[off]?):Lib.TabIs P w name k zs:=by
 unfold Lib.TabIs World.var?; rw [hg]; simp only [Option.bind_some]; have h0:=h 0
 obtain ⟨z,r,rfl⟩:∃ z r,zs=z :: r:=by
  cases zs with
  | nil=>exact absurd rfl hne
  | cons z r=>exact ⟨z,r,rfl⟩
 unfold World.cell? at h0; simp only at h0; split at h0
 ·
  rename_i cs t f hc; rw [hc]; simp only [Option.some.injEq]; apply Array.ext_getElem?; intro i; have hi:=h i; unfold World.cell? at hi; simp only [hc] at hi; simpa using hi
 · simp at h0
end Go.Abs
namespace Go.Abs
variable [iJ]
open Go
section
variable {P : Program} {o : Oper} {ρ : Operand → PV} {σ : List bf} {R S : PV → List bf → Prop}
theorem aa6 {α:Type} (C L:List α) (N off:Nat) (h1:off + L.length≤N) (h2:N≤C.length):(C.take N).take off ++ (L ++ (C.take N).drop (off + L.length))=(C.take off ++ (L ++ C.drop (off + L.length))).take N:=by
 have a1:(C.take off).length=off:=by rw [List.length_take]; omega
 rw [List.take_append,List.take_append,a1,List.take_of_length_le (l:=C.take off) (by omega),List.take_of_length_le (l:=L) (by omega),List.take_take,Nat.min_eq_left (by omega),List.drop_take,Nat.sub_sub]
theorem AO.FN {t:TypeId} {x:Operand} {v:Value} {n sz e i off k:Nat} {ag:Bool} {cs:List PV} {p:PV} (ho:o.op=.load t x) (hx:ρ x=.val (.pointer (some ⟨v.blk,off,none⟩))) (hi:σ[i]?=some (bf.buf v n sz e cs))
  (ht:iD P t=some (ag,k)) (hlt:off < cs.length) (hp:zO ag k (cs.drop off)=some p) (hR:R p σ):AO P o ρ σ R S:=by
 refine AO.of_same hR fun w m ev hr hc=>?_; have h:=hr x (by simp [ho,Op.operands]); rw [hx] at h; simp only [dK] at h; obtain ⟨xs,hrow,hrep,_⟩:=hc.each _ (List.mem_of_getElem? hi); have hl:=hrep.length_eq; have hn:=hrow.1
 have hb:v.ownBlock=some v.blk:=by
  rcases hrow.2 with ⟨_,rfl⟩ | ⟨g,cap,cur,fz,rfl,_⟩
  · omega
  · rfl
 obtain ⟨u,h5,h6⟩:=zA ht hp (hrep.drop off) (b:=v.blk) (off:=off) fun i u hu=>by
  rw [List.getElem?_drop] at hu; have hlt2:=(List.getElem?_eq_some_iff.1 hu).1; rw [hrow.cell hb (by omega)]; exact hu
 exact ⟨u,by simp [execOp,ho,Instr.loadAt,h,Instr.sureAddr,h5],h6⟩
theorem AO.Dz {t:TypeId} {x y:Operand} {v:Value} {n sz e i off k:Nat} {ag:Bool} {cs new cs':List PV} {σ':List bf} (ho:o.op=.store t x y) (hx:ρ x=.val (.pointer (some ⟨v.blk,off,none⟩))) (hi:σ[i]?=some (bf.buf v n sz e cs))
  (ht:iD P t=some (ag,k)) (hnew:(ρ y).Ad=some new) (hone:new.all PV.one=true) (hk:new.length=k) (h0:0 < new.length) (hfit:off + new.length≤cs.length) (hput:putCells cs off new=cs') (hset:Ch σ i (.buf v n sz e cs')=some σ') (hR:R .undef σ'):AO P o ρ σ R S:=by
 obtain ⟨hnew,hok⟩:=Dq hnew; have hnew:=hnew.symm; have hset:=P7 hset; subst hset; subst hput; intro w m a K QC hr hc hK _; have h:=hr x (by simp [ho,Op.operands]); have hy:=hr y (by simp [ho,Op.operands]); rw [hx] at h; simp only [dK] at h; obtain ⟨xs,hrow,hrep,hm⟩:=hc.each _ (List.mem_of_getElem? hi); have hyl:=hy.cells hok; rw [hnew] at hyl; have hl:=hyl.length_eq; have hl2:=hrep.length_eq; have hn:=hrow.1; rcases hrow.2 with ⟨_,rfl⟩ | ⟨g,cap,cur,fz,rfl,hg,hfz,hnc,hcm,hcs,htake⟩
 · omega
 have hle:n * sz≤cap * sz:=Nat.mul_le_mul_right _ hnc; have hst:=zy P g off e fz (a.eval y).cells.toList 0 cur w hg (by simp at hl ⊢; omega) (fun j hj=>by rcases hfz with h | h <;> omega) (hyl.oneCell hone); obtain ⟨_,hsz⟩:=Di ht w; have hsize:(a.eval y).cells.size=k:=by rw [←Array.length_toList,hl,hk]
 generalize hL:(a.eval y).cells.toList=L at *
 have hrun:(execOp a.eval o).run P w=.ok .skip (w.setRow g (cur.toList.take off ++ (L ++ cur.toList.drop (off + L.length))).toArray):=by
  simp only [execOp,ho,Instr.storeAt,h,Instr.sureAddr,storeVar,Sem.run_bind,Sem.run_pure,Result.andThen_ok,hsz,hsize,ne_eq,not_true_eq_false,if_false]; rw [show Go.Value.blk (.slice (some ⟨g,0,none⟩) n cap)=g from rfl,hL,hst]; simp
 have hxs:xs.take off ++ (L ++ xs.drop (off + L.length))=(cur.toList.take off ++ (L ++ cur.toList.drop (off + L.length))).take (n * sz):=by
  have hcl:cur.toList.length=cap * sz:=by simpa using hcs
  rw [←htake]; exact aa6 _ _ _ _ (by omega) (by omega)
 have hl':bD w m (putCells cs off new) (xs.take off ++ (L ++ xs.drop (off + L.length))):=by
  unfold putCells; refine (hrep.take off).append (hyl.append ?_); rw [hl]; exact hrep.drop _
 have hother:∀ k,k≠g→(w.setRow g (cur.toList.take off ++ (L ++ cur.toList.drop (off + L.length))).toArray).heap[k]?=w.heap[k]?:=fun k hk=>setRow_other w g k _ hk; have hmg:∀ off,¬ m g off:=hm g rfl; have hle':Le w m (w.setRow g (cur.toList.take off ++ (L ++ cur.toList.drop (off + L.length))).toArray) m:=fun c off' hco=>⟨hco,World.cell?_of_block (w:=w) (hother c (fun e=>by subst e; exact hmg off' hco))⟩
 have hsz':(cur.toList.take off ++ (L ++ cur.toList.drop (off + L.length))).length=cur.size:=by
  simp only [List.length_append,List.length_take,List.length_drop,Array.length_toList]; omega
 obtain ⟨k1,k2⟩:=Conc.write (b:=g) (r':=.buf (.slice (some ⟨g,0,none⟩) n cap) n sz e (putCells cs off new)) (w':=w.setRow g (cur.toList.take off ++ (L ++ cur.toList.drop (off + L.length))).toArray) hc hi rfl rfl hmg
  ⟨xs.take off ++ (L ++ xs.drop (off + L.length)),⟨by simp only [List.length_append,List.length_take,List.length_drop]; omega,.inr ⟨g,cap,_,fz,rfl,setRow_heap w g cur _ e _ hg,by
   rcases hfz with h | h
   · exact .inl h
   · right; rw [List.size_toArray,hsz']; exact h,hnc,hcm,by rw [List.size_toArray,hsz']; exact hcs,hxs.symm⟩⟩,bD.mono hle' _ _ hl',hm⟩ ⟨rfl,rfl,rfl⟩ (by simp [World.setRow]) hother
 unfold Oper.wp; rw [hrun]; exact hK .undef _ _ _ m hR trivial k1 k2
end
theorem Yo {w:World} {m:ko} {σ:List bf} {i b:Nat} {cs cs':List PV} (hi:σ[i]?=some (.box b cs)) (hc:Conc w m σ) (h:∀ vs,bD w m cs vs→bD w m cs' vs):Conc w m (σ.set i (.box b cs'))∧Trans w m σ w m (σ.set i (.box b cs')):=by
 have hf:lU (σ.set i (.box b cs'))=lU σ:=by
  clear hc h
  induction σ generalizing i with
  | nil=>rfl
  | cons r σ ih=>
   cases i with
   | zero=>
    simp only [List.getElem?_cons_zero,Option.some.injEq] at hi; subst hi; simp [lU,bf.fp]
   | succ i=>
    simp only [List.getElem?_cons_succ] at hi; have:=ih hi; simp only [lU,List.set_cons_succ,List.flatMap_cons] at this ⊢; rw [this]
 refine ⟨⟨fun r hr=>?_,by rw [hf]; exact hc.apart,hc.wf,hc.uK⟩,⟨rfl,rfl,rfl,Nat.le_refl _,Le.refl _ _,fun _ _ _=>⟨rfl,fun _ h=>h⟩,fun x hx=>.inl (by rw [←hf]; exact hx),fun _=>Nat.le_refl _⟩⟩; rcases List.mem_or_eq_of_mem_set hr with h' | h'
 · exact hc.each r h'
 ·
  subst h'; obtain ⟨vs,ty,h1,h2,h3⟩:=hc.each _ (List.mem_of_getElem? hi); exact ⟨vs,ty,h1,h vs h2,h3⟩
theorem bD.atV {w:World} {m:ko} {v:Value} {l:List (List PV)} (hv:dK w m (.list l) v):∀ (k:Nat) (cs:List PV) (vs:List Value),cs[k]?=some (.val v)→bD w m cs vs→bD w m (cs.set k (.list l)) vs
 | 0,[],_,h,_=>by simp at h
 | k + 1,[],_,h,_=>by simp at h
 | 0,c :: cs,vs,h,hr=>by
  simp only [List.getElem?_cons_zero,Option.some.injEq] at h; subst h; simp only [bD] at hr; obtain ⟨u,vs',rfl,h1,h2⟩:=hr; simp only [dK] at h1; subst h1; exact bD.cons hv h2
 | k + 1,c :: cs,vs,h,hr=>by
  simp only [bD] at hr; obtain ⟨u,vs',rfl,h1,h2⟩:=hr; exact bD.cons h1 (bD.atV hv k cs vs' (by simpa using h) h2)
theorem AW.Vt {P:Program} {k:Nat} {c:Code} {env:Env} {σ:List bf} {ds:List Deferred} {Q:Post} {v:Value} {n sz e b q:Nat} {cs cells:List PV} (i j:Nat) (l:List (List PV)) (hi:σ[i]?=some (bf.buf v n sz e cs)) (hj:(σ.set i (.row v n sz e))[j]?=some (.box b cells)) (hq:cells[q]?=some (.val v))
  (hl:l.flatten=cs) (hsz:∀ x∈l,x.length=sz) (hn:l.length=n) (h:AW P k c env ((σ.set i (.row v n sz e)).set j (.box b (cells.set q (.list l)))) ds Q):AW P k c env σ ds Q:=by
 intro w m a QC hs ha; obtain ⟨m',h1,h2,h3⟩:=hs.lK.freeze hi hl hsz hn; obtain ⟨k1,k2⟩:=Yo hj h2 fun vs hvs=>bD.atV h1.weak q cells vs hq hvs; exact h w m' a QC ⟨hs.size,hs.ds,fun u=>dK.mono h3.le _ _ (hs.env u),k1⟩ (ha.step (h3.trans k2))
end Go.Abs
namespace Go.Abs
theorem AJ {α:Type} {f:α→List PV} {k:Nat} (hf:∀ x,(f x).length=k):∀ (l:List α) (i:Nat) (h:i < l.length),(l.flatMap f).drop (i * k)=f l[i] ++ (l.drop (i + 1)).flatMap f
 | [],i,h=>by simp at h
 | x :: r,0,_=>by simp
 | x :: r,i + 1,h=>by
  have:=AJ hf r i (by simpa using h); rw [List.flatMap_cons,Nat.add_mul,Nat.one_mul,List.drop_append,hf x,List.drop_of_length_le (by rw [hf]; omega),Nat.add_sub_cancel,this]; simp
theorem sO {α:Type} {f:α→List PV} {k:Nat} (hf:∀ x,(f x).length=k):∀ l:List α,(l.flatMap f).length=l.length * k
 | []=>by simp
 | x :: r=>by rw [List.flatMap_cons,List.length_append,hf,sO hf r,List.length_cons,Nat.add_mul]; omega
end Go.Abs
namespace Go.Abs
variable [iJ]
theorem AR.Kq {P:Program} {n:Nat} {all:Array Oper} {lo:List Oper} {env:Env} {σ:List bf} {ds:List Deferred} {Q:Post} {v:Value} {k sz e:Nat} {cs:List PV} (i:Nat) (hi:σ[i]?=some (bf.buf v k sz e cs)) (h:PV.Ad (.val v)=some [.val v]→[PV.val v].all PV.one=true→AR P n all lo env σ ds Q):AR P n all lo env σ ds Q:=by
 intro w m a QC hs ha; obtain ⟨xs,hrow,_,_⟩:=hs.lK.each _ (List.mem_of_getElem? hi)
 have hv:v.oneCell'=true:=by
  rcases hrow.2 with ⟨rfl,_⟩ | ⟨g,cap,cur,fz,rfl,_⟩ <;> rfl
 exact h (by simp [PV.Ad,hv]) (by simp [PV.one,hv]) w m a QC hs ha
end Go.Abs
namespace Go.Abs
variable [iJ]
open Go
theorem Less.nil {e:Env}:Less [] e:=fun _=>.inl rfl
theorem Less.add {e e':Env} {t:Nat} {p:PV} (h:e.get t=p) (k:Less e' e):Less ((t,p) :: e') e:=by
 intro u; simp only [Env.get]; cases hb:Nat.beq t u with
 | false=>exact k u
 | true=>
  have:=Nat.eq_of_beq_eq_true hb; subst this; exact .inr h.symm
section
variable {P : Program} {n : Nat} {ds : List Deferred} {L : List Oper}
theorem AD.Ze {env:Env} {σ:List bf} {Q:Post} (k k2:Nat) (σ1 σ2:List bf) (J:(Nat→Bool)→Env→List bf→Prop) (ho:E_ L k k2=true) (hk:Nat.ble k k2=true) (hk2:Nat.ble k2 L.length=true)
  (hperm:σ.Perm (σ1 ++ σ2))
  (h:Ev P n L.toArray σ1 env (L.take k) fun env'=>J (fun i=>Nat.blt i k) env' σ2)
  (hI:∀ S S' e s,(∀ i,k≤i→i < k2→S i=S' i)→J S e s→J S' e s)
  (hT:∀ S e σ2 i o,J S e σ2→k≤i→i < k2→S i=false→(∀ j∈jO o,k≤j→S j=true)→L[i]?=some o→o.guard=none∧(∀ t,o.dst=some t→t < n)∧
   AO P o e.ev σ2 (fun p vE=>J (fun j=>if i=j then true else S j) (I6 o.dst p e) vE) (fun p vE=>Q (.panic p) [] (σ1 ++ vE) ds))
  (hend:∀ S e σ2,(∀ i,k≤i→i < k2→S i=true)→J S e σ2→AR P n L.toArray (L.drop k2) e (σ1 ++ σ2) ds Q):
  AD P n L env σ ds Q:=
 AD.Xj 0 k k2 σ1 σ2 J (Ay (Nat.le_of_ble_eq_true hk) ho) (fun _ _ _ _ _=>by omega) (Nat.zero_le _) (Nat.le_of_ble_eq_true hk) (Nat.le_of_ble_eq_true hk2) hperm (Ev.nil h) hI hT hend
theorem AW.Ze {env:Env} {σ:List bf} {Q:Post} {id:Nat} (k k2:Nat) (σ1 σ2:List bf) (J:(Nat→Bool)→Env→List bf→Prop) (hm:P.follows .mixedOrders=true) (ho:E_ L k k2=true) (hk:Nat.ble k k2=true) (hk2:Nat.ble k2 L.length=true)
  (hperm:σ.Perm (σ1 ++ σ2))
  (h:Ev P n L.toArray σ1 env (L.take k) fun env'=>J (fun i=>Nat.blt i k) env' σ2)
  (hI:∀ S S' e s,(∀ i,k≤i→i < k2→S i=S' i)→J S e s→J S' e s)
  (hT:∀ S e σ2 i o,J S e σ2→k≤i→i < k2→S i=false→(∀ j∈jO o,k≤j→S j=true)→L[i]?=some o→o.guard=none∧(∀ t,o.dst=some t→t < n)∧
   AO P o e.ev σ2 (fun p vE=>J (fun j=>if i=j then true else S j) (I6 o.dst p e) vE) (fun p vE=>Q (.panic p) [] (σ1 ++ vE) ds))
  (hend:∀ S e σ2,(∀ i,k≤i→i < k2→S i=true)→J S e σ2→AR P n L.toArray (L.drop k2) e (σ1 ++ σ2) ds Q):
  AW P n (.region id L.toArray true) env σ ds Q:=AW.ofD hm (AD.Ze k k2 σ1 σ2 J ho hk hk2 hperm h hI hT hend)
end
end Go.Abs
namespace Go.Abs
variable [iJ]
open Go Go.Ft
theorem ZU {α:Type} (a b c d:α):[a,b,c,d].Perm ([b,c,d] ++ [a]):=by
 show (a :: [b,c,d]).Perm ([b,c,d] ++ [a]); exact (List.perm_append_singleton a [b,c,d]).symm
section
variable {P : Program} {o : Oper} {ρ : Operand → PV} {σ : List bf} {R S : PV → List bf → Prop}
theorem AO.X0 {src dst t e:TypeId} {x:Operand} {b i n k:Nat} {cs:List PV} {j:TypeInfo} (ho:o.op=.convert src dst x) (hs:P.underlying src=some (.pointer t)) (hd:P.underlying dst=some .unsafePointer) (ht:P.info? t=some j) (hj:(j.size != 0)=true)
  (hx:ρ x=.val (.pointer (some ⟨b,k,none⟩))) (hi:σ[i]?=some (bf.kV b e cs)) (hn:cs.length=k + n + 1) (hR:R (.val (.pointer (some ⟨b,k,none⟩))) σ):AO P o ρ σ R S:=by
 refine AO.of_same hR fun w m ev hr hc=>?_; have h1:=hr x (by simp [ho,Op.operands]); rw [hx] at h1; simp only [dK] at h1; obtain ⟨vs,g1,g2,_⟩:=hc.kV hi; have hsh:w.shape? b=some (e,vs.length):=by simp [World.shape?,g1]
 have hl:=g2.length_eq; refine ⟨.pointer (some ⟨b,k,none⟩),?_,by simp only [dK]⟩; have:=Lib.run_to_unsafe w ⟨b,k,none⟩ hs hd ht (by simpa using hj) hsh (by show k < vs.length; omega); simp [execOp,ho,h1,this]
theorem AO.Vs {src dst u e:TypeId} {x:Operand} {b i n k:Nat} {cs:List PV} {j:TypeInfo} (ho:o.op=.convert src dst x) (hs:P.underlying src=some .unsafePointer) (hd:P.underlying dst=some (.pointer u)) (hu:P.info? u=some j)
  (hx:ρ x=.val (.pointer (some ⟨b,k,none⟩))) (hi:σ[i]?=some (bf.kV b e cs)) (hn:cs.length=n) (hlies:liesAt P P.depth e (n / P.cellsOf e) k u 1=true) (hR:R (.val (.pointer (some ⟨b,k,none⟩))) σ):AO P o ρ σ R S:=by
 refine AO.of_same hR fun w m ev hr hc=>?_; have h1:=hr x (by simp [ho,Op.operands]); rw [hx] at h1; simp only [dK] at h1; obtain ⟨vs,g1,g2,_⟩:=hc.kV hi; have hsh:w.shape? b=some (e,n):=by simp [World.shape?,g1,←hn,g2.length_eq]
 refine ⟨.pointer (some ⟨b,k,none⟩),?_,by simp only [dK]⟩; have:=Lib.run_from_unsafe w ⟨b,k,none⟩ hs hd hu hsh hlies; simp [execOp,ho,h1,this]
theorem AO.SQ {c:Call} {x y:Operand} {pt it e eu:TypeId} {b:Nat} {v p:Value} {q:PV} {bs:List UInt8} (ho:o.op=.call c) (kZ:c.callee=.builtin .unsafeString) (hargs:c.args=#[x,y]) (hty:c.argTypes=#[pt,it])
  (hp:P.underlying pt=some (.pointer eu)) (hce:P.cellsOf eu=1) (hσ:σ=[.row v bs.length 1 eu,.kV b e [q,.val p,.own v (bs.map jK)]]) (hx:ρ x=.val (.pointer (OU v))) (hy:ρ y=.int .i64 bs.length)
  (hR:R (.str bs) [.kV b e [q,.val p,.own v (bs.map jK)]]):AO P o ρ σ R S:=by
 subst hσ; refine AO.of_run' fun w m ev hr hc=>?_; have h1:=hr x (by simp [ho,Op.operands,Call.operands,kZ,hargs]); have h2:=hr y (by simp [ho,Op.operands,Call.operands,kZ,hargs]); rw [hx] at h1; rw [hy] at h2; simp only [dK] at h1 h2; have htb:=hc.each (.kV b e [q,.val p,.own v (bs.map jK)]) (by simp); obtain ⟨vs,g1,g2,g2m⟩:=hc.each (.kV b e [q,.val p,.own v (bs.map jK)]) (by simp); obtain ⟨xs,hrow,Tg⟩:=hc.each (.row v bs.length 1 eu) (by simp); have g2':=g2; simp only [bD] at g2; obtain ⟨v0,vs0,rfl,g0,v1,vs1,rfl,g3,v2,vs2,rfl,g4,rfl⟩:=g2; have hvv:v2=v:=by simp only [dK] at g4; exact g4.1
 rw [hvv] at g4; have hxs:=QU hrow (by simp) (Ba bs) g4; rw [Eh] at hxs; have hxs:=(Av bs xs).1 hxs; subst hxs; have hap:=hc.apart; simp only [lU,bf.fp,List.flatMap_cons,List.flatMap_nil,List.append_nil] at hap; have hbn:v.ownBlock≠some b:=fun h=>(List.nodup_append.1 hap).2.2 b (by simp [h]) b (by simp) rfl
 have ex:∀ r,(Builtin.unsafeString_ #[pt,it] o.type #[.pointer (OU v),.int .i64 bs.length]).run P w=r→(execOp ev o).run P w=r.andThen fun v w'=>.ok (.value v) w':=by
  intro r hr'; simp [execOp,ho,resolve,kZ,hargs,hty,invoke,builtin,h1,h2]; rw [←hr']
 have fin:∀ w',w'.os=w.os→w'.tape=w.tape→w'.output=w.output→w'.heap.size=w.heap.size→w'.drawn=w.drawn→(∀ k a,(w'.cell? ⟨k,a,none⟩)=w.cell? ⟨k,a,none⟩)→(∀ k,v.ownBlock≠some k→w'.heap[k]?=w.heap[k]?)→
   Conc w' m [.kV b e [q,.val p,.own v (bs.map jK)]]∧Trans w m [.row v bs.length 1 eu,.kV b e [q,.val p,.own v (bs.map jK)]] w' m [.kV b e [q,.val p,.own v (bs.map jK)]]:=by
  intro w' e1 e2 e3 e4 ed e5 e6; have hle:Le w m w' m:=fun c off h=>⟨h,e5 c off⟩; refine ⟨⟨fun r hr=>?_,by simp [lU,bf.fp],fun c off h=>by rw [e4]; exact hc.wf c off h,iJ.mono hle hc.uK⟩,⟨e1,e2,e3,by omega,hle,fun c hcl hn=>⟨e6 c fun h=>hn ?_,fun _ h=>h⟩,fun c hcf=>.inl ?_,fun _=>Nat.le_of_eq ed.symm⟩⟩
  ·
   obtain rfl:=List.mem_singleton.1 hr; exact ⟨_,by rw [e6 b hbn]; exact g1,bD.mono hle _ _ g2',g2m⟩
  · simp [lU,bf.fp,h]
  ·
   simp only [lU,bf.fp,List.flatMap_cons,List.flatMap_nil,List.append_nil,List.mem_singleton] at hcf; simp [lU,bf.fp,hcf]
 by_cases h0:bs=[]
 ·
  subst h0; have hrun:=Lib.run_unsafeString_none (P:=P) w pt it o.type (OU v); obtain ⟨k1,k2⟩:=fin w rfl rfl rfl rfl rfl (fun _ _=>rfl) (fun _ _=>rfl); exact ⟨.str [],_,.string .empty,w,m,hR,by rw [ex _ (by simpa using hrun)]; rfl,by simp only [dK]; rfl,k1,k2⟩
 ·
  rcases hrow.2 with ⟨_,hn⟩ | ⟨g,cap,cur,fz,rfl,hg,hfz,hnc,hcm,hcs,htake⟩
  · exact absurd (List.eq_nil_of_length_eq_zero hn) h0
  ·
   have hsh:w.shape? g=some (eu,cur.size):=by simp [World.shape?,hg]
   have hrun:=Lib.run_unsafeString_row (P:=P) w pt it o.type eu hp hce g cur.size hsh bs h0 (by omega) (by unfold maxLen at hcm; omega) (fun j x hj=>by
    rw [Addr.add_lit,Nat.zero_add,hrow.cell (b:=g) rfl (by have:=(List.getElem?_eq_some_iff.1 hj).1; omega)]
    simp [hj])
   have hz:bs.length≠0:=by simpa using h0
   have hsame:∀ k,k≠g→(w.freeze ⟨g,0,none⟩ bs.length).heap[k]?=w.heap[k]?:=by
    intro k hk; simp [World.freeze,hz,Array.getElem?_modify,Ne.symm hk]
   have hcell:∀ k a,(w.freeze ⟨g,0,none⟩ bs.length).cell? ⟨k,a,none⟩=w.cell? ⟨k,a,none⟩:=by
    intro k a; by_cases hk:k=g
    ·
     subst hk; simp [World.cell?,World.freeze,hz,Array.getElem?_modify,hg]
    · simp only [World.cell?,hsame k hk]
   obtain ⟨k1,k2⟩:=fin (w.freeze ⟨g,0,none⟩ bs.length) (by simp [World.freeze,hz]) (by simp [World.freeze,hz]) (by simp [World.freeze,hz]) (by simp [World.freeze,hz]) (by simp [World.freeze,hz]) hcell (fun k hk=>hsame k fun e=>hk (by subst e; rfl)); refine ⟨.str bs,_,.string ⟨bs.toArray⟩,_,m,hR,?_,by simp only [dK],k1,k2⟩; rw [ex _ hrun]; rfl
theorem AO.Yu {e:TypeId} {cs:List PV} (ho:o.op=.alloc e) (hz:lW P e=some cs) (hR:∀ b,R (.val (.pointer (some ⟨b,0,none⟩))) (.kV b e cs :: σ)):AO P o ρ σ R S:=by
 refine AO.of_run' fun w m ev hr hc=>?_; obtain ⟨z,h1,h2⟩:=FC hz w; have hc':=uq hc (.cells z.cells e) (fun _=>False); have hle:Le w m (w.alloc (.cells z.cells e)) (fun b off=>m b off∨(b=w.heap.size∧False)):=(kX (σ':=σ) hc (.cells z.cells e) (fun _=>False) fun b hb=>.inl hb).le
 have hnew:Conc (w.alloc (.cells z.cells e)) (fun b off=>m b off∨(b=w.heap.size∧False)) (.kV w.heap.size e cs :: σ):=by
  refine Kn ⟨z.cells.toList,?_,bD.mono hle _ _ (h2 m),fun off ho=>?_⟩ (by simp [bf.fp]) (fun b hb hm=>?_) hc'
  · rw [heap_alloc_new w _,Array.toArray_toList]
  ·
   rcases ho with ho | ⟨_,ho⟩
   · have:=hc.wf _ off ho; omega
   · exact ho
  ·
   simp [bf.fp] at hb; subst hb; have:=hc.LV _ hm; omega
 refine ⟨_,_,.pointer (some ⟨w.heap.size,0,none⟩),_,_,hR w.heap.size,?_,by simp [dK],hnew,kX hc _ _ fun b hb=>?_⟩
 · simp [execOp,ho,Instr.alloc,newVar,newRow,h1,go_sem]
 ·
  simp [lU,bf.fp] at hb ⊢; rcases hb with hb | hb
  · exact .inr hb
  · exact .inl hb
end
end Go.Abs
namespace Go.Abs
variable [iJ]
open Go
section
variable {P : Program} {o : Oper} {ρ : Operand → PV} {σ : List bf} {R S : PV → List bf → Prop}
theorem AO.acv {c:Call} {s x:Operand} {t tx e sz bytes:Nat} {v:Value} {l2:List (List PV)} {i n:Nat} {cs:List PV} (ho:o.op=.call c) (kZ:c.callee=.builtin .append) (hargs:c.args=#[s,x]) (hty:c.argTypes=#[t,tx])
  (hs:ρ s=.val v) (hx:(ρ x).els=some l2) (hi:σ[i]?=some (bf.buf v n sz e cs)) (hf:iL P t e sz bytes) (htx:elemSize P tx=some sz)
  (h2:∀ y∈l2,y.length=sz) (h3:∀ y∈l2,y.all PV.one=true) (hb1:n + l2.length≤maxLen) (hb2:(n + l2.length) * bytes≤140737488355328)
  (hR:∀ v' σ',Ch σ i (.buf v' (n + l2.length) sz e (cs ++ l2.flatten))=some σ'→R (.val v') σ'):AO P o ρ σ R S:=by
 refine AO.of_run' fun w m ev hr hc=>?_; have hsv:=hr s (by simp [ho,Op.operands,Call.operands,kZ,hargs]); have hxv:=hr x (by simp [ho,Op.operands,Call.operands,kZ,hargs]); rw [hs] at hsv; simp only [dK] at hsv; have hev:ev s=v:=hsv; obtain ⟨xs,hrow,hrep,hm0⟩:=hc.each _ (List.mem_of_getElem? hi); obtain ⟨inf,z,g1,g2,g3,g4,g5⟩:=hf.info; obtain ⟨ex,ix,q1,q2,q3⟩:=qQ htx
 obtain ⟨news,hsrc,hnews⟩:∃ news,Src P sz tx (ev x) l2.length news w∧bD w m l2.flatten news:=by
  obtain ⟨a,cap,e1,e2,e3⟩:=hxv.els hx; by_cases hnil:l2=[]
  ·
   subst hnil; refine ⟨[],?_,by simpa using bD.nil⟩; rw [e1]; cases a with
   | none=>exact Src.ofNil w q1 _
   | some a=>exact Src.ofSlice w q1 a 0 cap [] (by simp) (by simp) (by simp)
  ·
   rcases e3 with e3 | ⟨b,off,sz',rfl,e4⟩
   · exact absurd e3 hnil
   ·
    have hsz':sz'=sz:=by
     cases l2 with
     | nil=>exact absurd rfl hnil
     | cons y ys=>
      simp only [jZ] at e4; rw [←e4.1.1]; exact h2 y (by simp)
    subst hsz'; obtain ⟨vs,k1,k2,k3⟩:=JW e4; refine ⟨vs,?_,k1⟩; rw [e1]; refine Src.ofSlice w q1 ⟨b,off,none⟩ _ cap vs k2 (fun j u hj=>by rw [Addr.add_lit]; exact (k3 j u hj).2) (k1.oneCell ?_); rw [List.all_eq_true]; intro p hp; rw [List.mem_flatten] at hp; obtain ⟨y,hy,hp⟩:=hp; exact List.all_eq_true.1 (h3 y hy) p hp
 subst g2 g3; obtain ⟨v',w',r1,r2,r3,_,r5⟩:=DF (ty:=o.type) hf.und g1 g4 g5 hrow hsrc (by omega) (by simpa using hb2); obtain ⟨p1,p2⟩:=xP hi (.buf v' (n + l2.length) inf.size e (cs ++ l2.flatten)); have hc1:=hc.perm p1
 have hos:w'.os=w.os∧w'.tape=w.tape∧w'.output=w.output∧w.heap.size≤w'.heap.size:=by
  rcases r3 with ⟨_,hg⟩ | ⟨_,hg⟩ <;> exact ⟨hg.os,hg.tape,hg.output,hg.size⟩
 have hkeep:∀ b,b < w.heap.size→v.ownBlock≠some b→w'.heap[b]?=w.heap[b]?:=by
  intro b hb hne; rcases r3 with ⟨_,hg⟩ | ⟨_,hg⟩
  · exact hg.block b hb (fun h=>hne h.symm)
  · exact hg.block b hb (by simp)
 have hle:Le w m w' m:=fun b off hm=>⟨hm,World.cell?_of_block (w:=w) (hkeep b (hc.wf b off hm) (fun h=>hm0 b h off hm))⟩
 have hm':∀ b,v'.ownBlock=some b→∀ off,¬ m b off:=by
  intro b hb off hm; rcases r3 with ⟨h1,_⟩ | ⟨h1,_⟩
  · exact hm0 b (h1 ▸ hb) off hm
  ·
   rw [h1] at hb; cases hb; have:=hc.wf _ off hm; omega
 have hk:Conc w' m [.buf v' (n + l2.length) inf.size e (cs ++ l2.flatten)]:=
  ⟨fun r hr=>by rw [List.mem_singleton] at hr; subst hr; exact ⟨xs ++ news,r2,(bD.mono hle _ _ hrep).append (bD.mono hle _ _ hnews),hm'⟩,by cases h:v'.ownBlock <;> simp [lU,bf.fp,h],fun b off hm=>by have:=hc.wf b off hm; omega,iJ.mono hle hc.uK⟩
 have ht:Trans w m [.buf v n inf.size e cs] w' m [.buf v' (n + l2.length) inf.size e (cs ++ l2.flatten)]:=by
  refine ⟨hos.1,hos.2.1,hos.2.2.1,hos.2.2.2,hle,fun b hb hn=>⟨hkeep b hb fun h=>hn (by simp [lU,bf.fp,h]),fun _ h=>h⟩,fun b hb=>?_,fun _=>r5⟩; simp [lU,bf.fp] at hb; rcases r3 with ⟨h1,_⟩ | ⟨h1,_⟩
  · left; simp [lU,bf.fp,←h1,hb]
  · right; rw [h1] at hb; simp at hb; omega
 obtain ⟨f1,f2⟩:=Conc.frame hc1 hk ht
 have hilt:i < σ.length:=by
  rcases Nat.lt_or_ge i σ.length with h | h
  · exact h
  · simp [List.getElem?_eq_none h] at hi
 have hset:∀ (σ:List bf) (i:Nat) (r:bf),i < σ.length→Ch σ i r=some (σ.set i r):=by
  intro σ
  induction σ with
  | nil=>intro i r h; simp at h
  | cons a σ ih=>
   intro i r h; cases i with
   | zero=>simp [Ch]
   | succ i=>simp only [Ch,ih i r (by simpa using h),List.set_cons_succ]
 refine ⟨.val v',_,v',w',m,hR v' _ (hset σ i _ hilt),?_,by simp only [dK],f1.perm p2.symm,f2.perm p1.symm p2.symm⟩; simp only [execOp,ho,resolve,kZ,hargs,hty,invoke,builtin,Sem.run_bind,Sem.run_pure,Result.andThen_ok]; simp only [List.map_toArray,List.map_cons,List.map_nil,hev,r1,Result.andThen_ok]
theorem AO.Kq {v:Value} {k sz e:Nat} {cs:List PV} (i:Nat) (hi:σ[i]?=some (bf.buf v k sz e cs)) (h:PV.Ad (.val v)=some [.val v]→[PV.val v].all PV.one=true→AO P o ρ σ R S):AO P o ρ σ R S:=by
 intro w m a K QC hr hc hK hP; obtain ⟨xs,hrow,_,_⟩:=hc.each _ (List.mem_of_getElem? hi)
 have hv:v.oneCell'=true:=by
  rcases hrow.2 with ⟨rfl,_⟩ | ⟨g,cap,cur,fz,rfl,_⟩ <;> rfl
 exact h (by simp [PV.Ad,hv]) (by simp [PV.one,hv]) w m a K QC hr hc hK hP
end
end Go.Abs
namespace Go.Abs
variable [iJ]
open Go
section
variable {P : Program} {n : Nat} {r : Option Nat} {env : Env} {σ : List bf} {ds : List Deferred} {Q : Post} {all : Array Oper} {rest : List Oper} {o : Oper}
theorem SA.run {j u:Nat} {want:Bool} {oj:Oper} (hg:o.guard=some (j,want)) (hj:all[j]?=some oj) (hu:oj.dst=some u) (hb:env.get u=.bool want)
  (h:SA P r n all ({o with guard:=none} :: rest) env σ ds Q):SA P r n all (o :: rest) env σ ds Q:=by
 intro w m a QC hs ha; have h':=h w m a QC hs ha; unfold wpListIn at h' ⊢; rw [if_pos (by simp [Region.wanted])] at h'; rw [if_pos (by simp [Region.wanted,hg,Cw hs hj hu hb])]; exact h'
theorem SA.drop1 {l:List Oper} {x:bf} (h:SA P r n all l env σ ds Q):SA P r n all l env (x :: σ) ds Q:=
 fun w m a QC uI ha=>h w m a QC ⟨uI.size,uI.ds,uI.env,uI.lK.sub (List.sublist_cons_self x σ)⟩ (ha.step (Trans.sub (Trans.refl w m (x :: σ)) (List.sublist_cons_self x σ)))
theorem SA.is {l:List Oper} {b want:Bool} (u:Nat) (h:b=want) (hu:env.get u=.bool b) (hr:SA P r n all l ((u,.bool want) :: env) σ ds Q):SA P r n all l env σ ds Q:=by
 subst h; intro w m a QC hs ha; refine hr w m a QC ⟨hs.size,hs.ds,fun t=>?_,hs.lK⟩ ha; simp only [Env.get]; cases e:Nat.beq u t with
 | false=>exact hs.env t
 | true=>have:=hs.env u; rw [hu,Nat.eq_of_beq_eq_true e] at this; exact this
theorem VT {md:Region.Mode} {ops:Array Oper} {Q:Exit→Act→World→Prop} (hno:¬ LetsOut Q) (hd:∀ o∈ops.toList,Bj o=true):∀ (fuel:Nat) (listed:Array Bool) (a:Act) (w:World),wpAny P md ops Q fuel listed a w→wpAnyIn (Yy r) 0 P md ops Q fuel listed a w
 | 0,_,_,_,h=>h
 | fuel + 1,listed,a,w,h=>by
  refine ⟨h.1,fun i hi=>?_⟩; have h2:=h.2 i hi; unfold wpOp at h2; unfold wpOpIn; cases ho:ops[i]? with
  | none=>rw [ho] at h2; exact VT hno hd fuel _ a w h2
  | some o=>
   rw [ho] at h2; have hdo:=hd o (by have:=Array.mem_of_getElem? ho; simpa using this); simp only at h2 ⊢; split
   ·
    rename_i hw; rw [if_pos hw] at h2; rcases h2 with h2 | ⟨_,h2⟩
    · exact Oper.wpIn_mono (fun a w h=>VT hno hd fuel _ a w h) (Vi hdo h2)
    · exact (hno h2).elim
   ·
    rename_i hw; rw [if_neg hw] at h2; exact ⟨fun _ _=>trivial,VT hno hd fuel _ _ w h2⟩
theorem Ak.drawn {id:Nat} {L:List Oper} (hm:P.follows .mixedOrders=true) (hd:(L.all Bj)=true) (h:AD P n L env σ ds Q):Ak P r n (.region id L.toArray true) env σ ds Q:=by
 intro w m a QC hs ha; rw [List.all_eq_true] at hd; refine wpIn_mono (wpIn_region_any hm (VT (FL QC) (by simpa using hd) _ _ _ _ (h w m a _ hs ha.QZ))) fun e a w h=>h.2
end
section
variable {P : Program} {n : Nat} {env : Env} {σ : List bf} {ds : List Deferred} {Q : Post}
end
theorem bD.zM {w:World} {m:ko} {v:Value} {l:List (List PV)}:∀ (k:Nat) (cs:List PV) (vs:List Value),cs[k]?=some (.own v l)→bD w m cs vs→bD w m (cs.set k (.val v)) vs
 | 0,[],_,h,_=>by simp at h
 | k + 1,[],_,h,_=>by simp at h
 | 0,c :: cs,vs,h,hr=>by
  simp only [List.getElem?_cons_zero,Option.some.injEq] at h; subst h; simp only [bD] at hr; obtain ⟨u,vs',rfl,h1,h2⟩:=hr; simp only [dK] at h1; exact bD.cons (by simp only [dK]; exact h1.1) h2
 | k + 1,c :: cs,vs,h,hr=>by
  simp only [bD] at hr; obtain ⟨u,vs',rfl,h1,h2⟩:=hr; exact bD.cons h1 (bD.zM k cs vs' (by simpa using h) h2)
end Go.Abs
namespace Go.Abs
variable [iJ]
open Go Go.Proofs Go.Shelf
theorem AC.replaceAll {P:Program} {ρ:Ren} {R:dx→List bf→Prop} (hD:¬ iJ.D) (L:Lays.n155 P ρ) (X:Builder.Extra P ρ) {s old new:List UInt8} (hs:s.length < 4294967281) (h1:1≤old.length)
  (hm:∀ (w:World) (m:ko),iJ.G w m→∃ n:Int,w.cell? ⟨ρ.g 1,0,Option.none⟩=some (.int .i64 n)) (hlen:s.length + Lib.count s old * new.length≤140737488355328)
  (h:R (.ret (.str (Lib.replaceAll s old new))) []):AC P (ρ.f 155) [.str s,.str old,.str new] [] R:=by
 intro w m vs hc hv; simp only [bD,dK] at hv; obtain ⟨v0,vs0,rfl,rfl,v1,vs1,rfl,rfl,v2,vs2,rfl,rfl,rfl⟩:=hv; obtain ⟨n,hn⟩:=hm w m hc.uK; refine (Any.strings_ReplaceAll L X ⟨s.toArray⟩ ⟨old.toArray⟩ ⟨new.toArray⟩ n w (by simpa [ByteArray.size] using hs) hn (by simpa [ByteArray.size] using h1) (by simpa [ByteArray.size,Lib.countB] using hlen)).mono ?_; rintro en w' ⟨rfl,hb⟩; obtain ⟨c1,c2⟩:=zn hD hc hb; exact ⟨_,_,m,h,⟨_,rfl,by simp only [dK]⟩,c1,c2⟩
theorem OM (c:UInt8) (new:List UInt8):∀ s:List UInt8,Lib.replaceK [c] new (Lib.count s [c]) s=s.flatMap fun x=>if x == c then new else [x]
 | []=>rfl
 | b :: l=>by
  have ih:=OM c new l; by_cases hb:b=c
  ·
   subst hb; have hi:Lib.index (b :: l) [b]=((0:Nat):Int):=by simp [Lib.index,List.isPrefixOf]
   rw [Lib.count_cons_eq,Nat.add_comm,Lib.replaceK_hit _ _ _ _ 0 hi]; simp only [List.take_zero,List.nil_append,List.length_singleton,Nat.zero_add,List.drop_succ_cons,List.drop_zero,ih,List.flatMap_cons,beq_self_eq_true,if_true]
  ·
   rw [Lib.count_cons_ne b c l hb,List.flatMap_cons,←ih,if_neg (by simpa using hb)]; cases hk:Lib.count l [c] with
   | zero=>rfl
   | succ k=>
    obtain ⟨i,hi⟩:=Lib.index_of_count (s:=l) (old:=[c]) (by omega); have hp:([c]:List UInt8).isPrefixOf (b :: l)=false:=by simp [List.isPrefixOf,Ne.symm hb]
    have hi2:Lib.index (b :: l) [c]=((i + 1:Nat):Int):=by
     have hne:(Lib.index l [c] == -1)=false:=by rw [hi]; simp
     rw [Lib.index,if_neg (by rw [hp]; simp),if_neg (by rw [hne]; simp),hi]; omega
    rw [Lib.replaceK_hit _ _ _ _ _ hi2,Lib.replaceK_hit _ _ _ _ _ hi]; simp [Nat.add_right_comm]
theorem QF {c:UInt8} {new s:List UInt8} (hn:([c] == new)=false):Lib.replaceAll s [c] new=s.flatMap fun x=>if x == c then new else [x]:=by
 unfold Lib.replaceAll Lib.replace; rw [hn,if_neg (by simp),←OM c new s]; simp [Lib.replaceNum]
end Go.Abs
namespace Go.Abs
variable [iJ]
open Go Go.Ft
section
variable {P : Program} {o : Oper} {ρ : Operand → PV} {σ : List bf} {R S : PV → List bf → Prop} {α : Type}
end
end Go.Abs
namespace Go.Abs
variable [iJ]
open Go
end Go.Abs
namespace Go.Abs
open Go Go.Ft
theorem Uy {α:Type} {f:α→List PV} {k:Nat} (hf:∀ x,(f x).length=k):∀ (l:List α) (i:Nat),i≤l.length→(l.flatMap f).take (i * k)=(l.take i).flatMap f
 | l,0,_=>by simp
 | [],i + 1,h=>by simp at h
 | x :: r,i + 1,h=>by
  have:=Uy hf r i (by simpa using h); rw [List.flatMap_cons,Nat.add_mul,Nat.one_mul,List.take_append,hf x,List.take_of_length_le (by rw [hf]; omega),Nat.add_sub_cancel,this]; simp
theorem Rs {α:Type} {f:α→List PV} {k:Nat} (hf:∀ x,(f x).length=k) (l:List α) (i o:Nat) (h:i < l.length) (new:List PV) (y:α) (hy:putCells (f l[i]) o new=f y) (ho:o + new.length≤k):putCells (l.flatMap f) (i * k + o) new=(l.set i y).flatMap f:=by
 have h1:=AJ hf l i h; have h2:=Uy hf l i (by omega); have hl:=sO hf l; have hik:i * k + k≤l.length * k:=by have:=Nat.mul_le_mul_right k h; rw [Nat.succ_mul] at this; exact this
 have e:l.flatMap f=(l.take i).flatMap f ++ (f l[i] ++ (l.drop (i + 1)).flatMap f):=by rw [←h1,←h2,List.take_append_drop]
 have hlt:((l.take i).flatMap f).length=i * k:=by rw [sO hf,List.length_take,Nat.min_eq_left (by omega)]
 rw [List.set_eq_take_append_cons_drop,if_pos h,List.flatMap_append,List.flatMap_cons,←hy]; unfold putCells
 rw [e,List.take_append,hlt,List.take_of_length_le (l:=(l.take i).flatMap f) (by omega),Nat.add_sub_cancel_left,List.take_append,hf,Nat.sub_eq_zero_of_le (by omega),List.take_zero,List.append_nil,
  List.drop_append,hlt,List.drop_of_length_le (l:=(l.take i).flatMap f) (by omega),List.nil_append,show i * k + o + new.length - i * k=o + new.length from by omega,List.drop_append,hf,Nat.sub_eq_zero_of_le (by omega:o + new.length≤k),List.drop_zero]
 simp only [List.append_assoc]
theorem Oc {α:Type} {f:α→List PV} {k:Nat} (hf:∀ x,(f x).length=k) (l:List α) (i:Nat) (h:i < l.length) (new:List PV) (y:α) (hy:new=f y):putCells (l.flatMap f) (i * k) new=(l.set i y).flatMap f:=
 Rs hf l i 0 h new y (by subst hy; unfold putCells; rw [List.take_zero,List.nil_append,List.drop_of_length_le (by rw [hf,hf,Nat.zero_add]; exact Nat.le_refl _),List.append_nil]) (by subst hy; rw [hf,Nat.zero_add]; exact Nat.le_refl _)
variable [iJ]
theorem AC.borrow {P:Program} {f:FuncId} {v:Value} {n sz e:Nat} {cs:List PV} {l:List (List PV)} {args:List PV} {b:Bool} {R:dx→List bf→Prop} (hl:l.flatten=cs) (hsz:∀ x∈l,x.length=sz) (hn:l.length=n)
  (h:AC P f (.list l :: args) [] fun out σ=>out=.ret (.bool b)∧σ=[]) (hR:R (.ret (.bool b)) [.buf v n sz e cs]):AC P f (.val v :: args) [.buf v n sz e cs] R:=by
 intro w m vs hc hv; obtain ⟨m1,h1,h2,h3⟩:=hc.freeze (i:=0) rfl hl hsz hn; have h2':Conc w m1 []:=h2.sub (List.nil_sublist _)
 have hv':bD w m1 (.list l :: args) vs:=by
  simp only [bD] at hv ⊢; obtain ⟨u,us,rfl,k1,k2⟩:=hv; simp only [dK] at k1; subst k1; refine ⟨u,us,rfl,?_,bD.mono h3.le _ _ k2⟩; have:=h1; simp only [dK] at this ⊢; exact this.2
 refine (h w m1 vs h2' hv').mono ?_; rintro end' w' ⟨out,σ',m',⟨rfl,rfl⟩,k1,k2,k3⟩; obtain ⟨xs,hrow,hrep,hm⟩:=hc.each _ (List.mem_singleton.2 rfl); have hblk:∀ g,v.ownBlock=some g→g < w.heap.size:=fun g hg=>hrow.block_lt hg; refine ⟨_,_,fun b off=>m' b off∧v.ownBlock≠some b,hR,?_,?_,?_⟩
 ·
  obtain ⟨u,e1,e2⟩:=k1; exact ⟨u,e1,by simpa only [dK] using e2⟩
 ·
  have hle:Le w m w' (fun b off=>m' b off∧v.ownBlock≠some b):=fun b off hb=>by
   have a1:=h3.le b off hb; have a2:=k3.le b off a1.1; exact ⟨⟨a2.1,fun hg=>hm b hg off hb⟩,a2.2⟩
  refine ⟨fun r hr=>?_,by cases hg:v.ownBlock <;> simp [lU,bf.fp,hg],fun b off hb=>k2.wf b off hb.1,iJ.mono hle hc.uK⟩; rw [List.mem_singleton] at hr; subst hr; refine bf.uf (hc.each _ (List.mem_singleton.2 rfl)) hle fun b hb=>?_; have hb':v.ownBlock=some b:=by simpa [bf.fp] using hb
  exact ⟨(k3.keep b (hblk b hb') (by simp [lU])).1,fun off ho=>absurd hb' ho.2⟩
 ·
  refine ⟨k3.os,k3.tape,k3.output,k3.size,fun b off hb=>?_,fun b hb hn=>?_,fun b hb=>.inl hb,k3.drawn⟩
  ·
   have a1:=h3.le b off hb; have a2:=k3.le b off a1.1; exact ⟨⟨a2.1,fun hg=>hm b hg off hb⟩,a2.2⟩
  ·
   have a2:=k3.keep b hb (by simp [lU]); have a3:=h3.keep b hb hn; exact ⟨a2.1,fun off ho=>a3.2 off (a2.2 off ho.1)⟩
theorem AC.frozen {P:Program} {f:FuncId} {args qs:List PV} {l:List (List PV)} {n sz e:Nat} {cs:List PV} {R:dx→List bf→Prop} (hl:l.flatten=cs) (hsz:∀ x∈l,x.length=sz) (hn:l.length=n)
  (h:AC P f args [] fun out σ=>∃ v,out=.ret (.tuple (.val v :: qs))∧σ=[.buf v n sz e cs]) (hR:R (.ret (.tuple (.list l :: qs))) []):AC P f args [] R:=by
 intro w m vs hc hv; refine (h w m vs hc hv).mono ?_; rintro end' w' ⟨out,σ',m',⟨v,rfl,rfl⟩,k1,k2,k3⟩; obtain ⟨m1,h1,h2,h3⟩:=k2.freeze (i:=0) rfl hl hsz hn; refine ⟨_,_,m1,hR,?_,h2.sub (List.nil_sublist _),(k3.trans h3).sub (List.nil_sublist _)⟩; obtain ⟨u,rfl,e2⟩:=k1; refine ⟨u,rfl,?_⟩; simp only [dK,bD] at e2 ⊢; obtain ⟨us,rfl,u1,tQ,rfl,e3,e4⟩:=e2; subst e3; refine ⟨_,rfl,u1,tQ,rfl,?_,bD.mono h3.le _ _ e4⟩; simp only [dK] at h1; exact h1.2
theorem AC.agm {P:Program} {f:FuncId} {args:List PV} {l:List (List PV)} {R:dx→List bf→Prop} (h:AC P f args [] fun out σ=>∃ v n sz e,out=.ret (.own v l)∧σ=[.row v n sz e]) (hR:R (.ret (.list l)) []):AC P f args [] R:=by
 intro w m vs hc hv; refine (h w m vs hc hv).mono ?_; rintro end' w' ⟨out,σ',m',⟨v,n,sz,e,rfl,rfl⟩,k1,k2,k3⟩; refine ⟨_,_,m',hR,?_,k2.sub (List.nil_sublist _),k3.sub (List.nil_sublist _)⟩; obtain ⟨u,rfl,e2⟩:=k1; exact ⟨u,rfl,by simp only [dK] at e2 ⊢; exact e2.2⟩
def SS (f:FuncId) (p:PV) (b:Nat):Nat→PV
 | 0=>.val (.pointer (some ⟨b,0,none⟩))
 | n + 1=>.ref [.fn f [p,SS f p b n]]
theorem ZB (f:FuncId) (p:PV) (b n:Nat):SS f p b (n + 1)=.ref [.fn f [p,SS f p b n]]:=rfl
theorem YW {w:World} {m:ko} {f:FuncId} {p:PV} {b:Nat} {c:Value} (hm:m b 0) (hc:w.cell? ⟨b,0,none⟩=some c) (hr:dK w m (.fn f [p,.val (.pointer (some ⟨b,0,none⟩))]) c):∀ n,dK w m (SS f p b n) (.pointer (some ⟨b,0,none⟩))
 | 0=>by simp only [SS,dK]
 | n + 1=>by
  have ih:=YW hm hc hr n; simp only [SS,dK,qo,and_true]; refine ⟨b,0,rfl,c,hm,hc,?_⟩; simp only [dK,bD] at hr ⊢; obtain ⟨cs,rfl,v1,vs1,rfl,k1,v2,vs2,rfl,rfl,rfl⟩:=hr; exact ⟨_,rfl,v1,_,rfl,k1,_,_,rfl,ih,rfl⟩
section
variable {P : Program} {n : Nat} {env : Env} {σ : List bf} {ds : List Deferred} {Q : Post} {c : Code}
theorem AR.ag3 {all:Array Oper} {l:List Oper} {τ:List bf} (hp:σ.Perm τ) (h:AR P n all l env τ ds Q):AR P n all l env σ ds Q:=
 fun w m a QC hs ha=>h w m a QC ⟨hs.size,hs.ds,hs.env,hs.lK.perm hp⟩ (ha.step ((Trans.refl w m σ).perm (List.Perm.refl _) hp))
theorem AW.tie (t i N:Nat) {b:Nat} {f:FuncId} {p:PV} {σ':List bf} (ht:env.get t=.val (.pointer (some ⟨b,0,none⟩))) (hi:σ[i]?=some (.box b [.fn f [p,.val (.pointer (some ⟨b,0,none⟩))]])) (he:AZ σ i=some σ')
  (h:AW P n c ((t,SS f p b N) :: env) σ' ds Q):AW P n c env σ ds Q:=by
 intro w m a QC hs ha; obtain ⟨m',h1,h2,h3⟩:=hs.lK.OH hi rfl; rw [←Oe he] at h2 h3
 have hb:∃ cv,m' b 0∧w.cell? ⟨b,0,none⟩=some cv∧dK w m' (.fn f [p,.val (.pointer (some ⟨b,0,none⟩))]) cv:=by
  simp only [dK,qo,and_true] at h1 ⊢; obtain ⟨b',off',e1,cv,k1,k2,k3⟩:=h1; cases e1; exact ⟨cv,k1,k2,k3⟩
 obtain ⟨cv,k1,k2,k3⟩:=hb; refine h w m' a QC ⟨hs.size,hs.ds,fun u=>?_,h2⟩ (ha.step h3); have hu:=hs.env u; simp only [Env.get]; cases hb:Nat.beq t u with
 | false=>exact dK.mono h3.le _ _ hu
 | true=>
  have:=Nat.eq_of_beq_eq_true hb; subst this; rw [ht] at hu; simp only [dK] at hu; rw [hu]; exact YW k1 k2 k3 N
end
theorem AO.XE {α:Type} {P:Program} {o:Oper} {ρ:Operand→PV} {σ:List bf} {R S:PV→List bf→Prop} {c:Call} {s x:Operand} {t tx e sz bytes:Nat} {v:Value} {i:Nat} {f:α→List PV} {l m r:List α} (hv:app l m=some r)
  (ho:o.op=.call c) (kZ:c.callee=.builtin .append) (hargs:c.args=#[s,x]) (hty:c.argTypes=#[t,tx]) (hs:ρ s=.val v) (hx:(ρ x).els=some (m.map f)) (hi:σ[i]?=some (bf.buf v l.length sz e (l.flatMap f)))
  (hf:iL P t e sz bytes) (htx:elemSize P tx=some sz) (fl:∀ x,(f x).length=sz) (fo:∀ x,(f x).all PV.one=true) (hb:Nat.ble bytes 32768=true) (hR:∀ v' σ',Ch σ i (.buf v' r.length sz e (r.flatMap f))=some σ'→R (.val v') σ'):AO P o ρ σ R S:=by
 obtain ⟨h1,rfl⟩:=kF hv; have hb:=Nat.le_of_ble_eq_true hb; have hlim:l.length + m.length≤4294967296:=h1; have hmul:(l.length + m.length) * bytes≤4294967296 * 32768:=Nat.mul_le_mul hlim hb; refine AO.acv (i:=i) ho kZ hargs hty hs hx hi hf htx (fun y hy=>?_) (fun y hy=>?_) ?_ ?_ fun v' σ' h'=>hR v' σ' ?_
 · obtain ⟨z,_,rfl⟩:=List.mem_map.1 hy; exact fl z
 · obtain ⟨z,_,rfl⟩:=List.mem_map.1 hy; exact fo z
 · rw [List.length_map]; unfold maxLen; omega
 · rw [List.length_map]; omega
 ·
  rw [List.length_append,List.flatMap_append,List.flatMap_def (f:=f) (l:=m)]; rw [List.length_map] at h'; exact h'
theorem Xm {w:World} {m:ko} {σ:List bf} {i b ty:Nat} {cs cs':List PV} (hi:σ[i]?=some (.kV b ty cs)) (hc:Conc w m σ) (h:∀ vs,bD w m cs vs→bD w m cs' vs):Conc w m (σ.set i (.kV b ty cs'))∧Trans w m σ w m (σ.set i (.kV b ty cs')):=by
 obtain ⟨p1,p2⟩:=xP hi (.kV b ty cs'); have hc1:=hc.perm p1
 have hk:Conc w m [.kV b ty cs']:=by
  refine ⟨fun r hr=>?_,by simp [lU,bf.fp],hc.wf,hc.uK⟩; rw [List.mem_singleton] at hr; subst hr; obtain ⟨vs,h1,h2,h3⟩:=hc.each _ (List.mem_of_getElem? hi); exact ⟨vs,h1,h vs h2,h3⟩
 have ht:Trans w m [.kV b ty cs] w m [.kV b ty cs']:=⟨rfl,rfl,rfl,Nat.le_refl _,Le.refl _ _,fun _ _ _=>⟨rfl,fun _ h=>h⟩,fun x hx=>.inl hx,fun _=>Nat.le_refl _⟩; obtain ⟨f1,f2⟩:=Conc.frame hc1 hk ht; exact ⟨f1.perm p2.symm,f2.perm p1.symm p2.symm⟩
theorem bD.Vh {w:World} {m:ko} {v:Value} {l:List (List PV)}:∀ (k:Nat) (cs vs),cs[k]?=some (.own v l)→bD w m cs vs→bD w m (cs.set k (.val v)) vs
 | 0,[],_,h,_=>by simp at h
 | k + 1,[],_,h,_=>by simp at h
 | 0,c :: cs,vs,h,hr=>by
  simp only [List.getElem?_cons_zero,Option.some.injEq] at h; subst h; simp only [bD] at hr; obtain ⟨u,vs',rfl,h1,h2⟩:=hr; simp only [dK] at h1; exact bD.cons (by simp only [dK]; exact h1.1) h2
 | k + 1,c :: cs,vs,h,hr=>by
  simp only [bD] at hr; obtain ⟨u,vs',rfl,h1,h2⟩:=hr; exact bD.cons h1 (bD.Vh k cs vs' (by simpa using h) h2)
theorem AW.Vh {P:Program} {n:Nat} {env:Env} {σ:List bf} {ds:List Deferred} {Q:Post} {c:Code} (i k:Nat) {b ty:Nat} {cs:List PV} {v:Value} {l:List (List PV)} (hi:σ[i]?=some (.kV b ty cs)) (hk:cs[k]?=some (.own v l)) (h:AW P n c env (σ.set i (.kV b ty (cs.set k (.val v)))) ds Q):AW P n c env σ ds Q:=by
 intro w m a QC hs ha; obtain ⟨k1,k2⟩:=Xm hi hs.lK fun vs hv=>bD.Vh k cs vs hk hv; exact h w m a QC ⟨hs.size,hs.ds,hs.env,k1⟩ (ha.step k2)
end Go.Abs
