/- Proved here: how a functional text stands for a walk of the given code: ranges, maps, sorted lists, library functions. -/
import Derived.Test.YtljfgagpnpolhaaGreatDoorKvA2
import Derived.RangeFuncRecord
import Derived.RangeFuncIn
import Derived.OrdersIn
import Derived.TacticsIn
import Derived.Test.YtljfgagpnpolhaaGreatDoorKvA1
import Derived.Test.YtljfgagpnpolhaaGreatDoorKvWords
import Derived.Shelf.SlSortCmp.NoneTotal
import Derived.Shelf.Slices.CompactS
import Derived.Shelf.Strings.Search3
import Derived.Shelf.Strings.Split
import Derived.Shelf.Strings.OnBuilder
import Derived.Shelf.Strconv.Itoa3
import Derived.Shelf.Strconv.AtoiAll
import Derived.Lib.LaidTab
import Derived.Stop.LaidErr
import Derived.Lib.ItoaNum
import Derived.Shelf.Vars
import Derived.Shelf.Strings.Replace
import Derived.Laws.MakeOwn
set_option linter.unusedVariables false
set_option linter.unusedSimpArgs false
set_option linter.unusedSectionVars false
namespace Go.Abs
variable [iF]
open Go
def R6 (r:Option Nat):Fence:={Fence.wide with round:=r}
def uN (o:Oper):Bool:=match o.op with | .defer _=>false | _=>true
theorem E5 {o:Oper} (h:uN o=true):∀ c,o.op≠.defer c:=by
 intro c hc; unfold uN at h; rw [hc] at h; cases h
section
variable {P : Program} {n : Nat} {r : Option Nat} {env : Env} {σ : List bn} {ds : List Deferred} {Q : Post} {all : Array Oper} {rest : List Oper} {o : Oper}
theorem X9 {f:FuncId} {args:Array Value} {w:World} {R:Ending→World→Prop} {n:Nat} (h:Calls P f args w R):CallsIn (R6 r) n P f args w R:=by
 have:=(callsIn_wide (n:=n)).2 h; exact this
theorem Y2 {row:String} {args:Array Value} {w:World} {R:Value→World→Prop} {n:Nat} (h:Rows P row args w R):RowsIn (R6 r) n P row args w R:=
 fun c cs _=>let ⟨v,w',r,s⟩:=h c cs; ⟨v,w',r,stepsIn_wide.2 s⟩
theorem OH {a:Act} {w:World} {K:Act→World→Prop} {Q:Exit→Act→World→Prop} (hd:uN o=true) (h:o.wp P a w K Q):o.wpIn (R6 r) 0 P a w K Q:=by
 refine ⟨fun _ _=>trivial,?_⟩; rw [Oper.semAt_eq _ _ _ (E5 hd)]; unfold Oper.wp at h; generalize (execOp a.eval o).run P w=x at h ⊢; cases x with
 | ok v w'=>
  cases v <;> simp only [Oper.upon,Oper.uponIn] at h ⊢ <;> first
   | exact h
   | exact ⟨fun hh=>by simp [R6,Fence.wide] at hh,X9 h⟩
   | exact ⟨fun hh=>by simp [R6,Fence.wide] at hh,Y2 h⟩
 | halt v w'=>cases v <;> simp only [Oper.upon,Oper.uponIn] at h ⊢ <;> exact h
theorem JJ {Q:Exit→Act→World→Prop} (hno:¬ LetsOut Q):∀ (l:List Oper) (a:Act) (w:World),(∀ o∈l,uN o=true)→wpList P all Q l a w→wpListIn (R6 r) 0 P all Q l a w
 | [],a,w,_,h=>h
 | o :: rest,a,w,hd,h=>by
  unfold wpList at h; unfold wpListIn; split
  ·
   rename_i hw; rw [if_pos hw] at h; rcases h with h | ⟨_,h⟩
   · exact Oper.wpIn_mono (fun a w h=>JJ hno rest a w (fun o ho=>hd o (by simp [ho])) h) (OH (hd o (by simp)) h)
   · exact (hno h).elim
  ·
   rename_i hw; rw [if_neg hw] at h; exact ⟨fun _ _=>trivial,JJ hno rest _ _ (fun o ho=>hd o (by simp [ho])) h⟩
def wE (P:Program) (r:Option Nat) (n:Nat) (c:Code) (env:Env) (σ:List bn) (ds:List Deferred) (Q:Post):Prop:=
 ∀ w m a QC,oZ w m n env σ ds a→Acc n Q w m σ QC→c.wpIn (R6 r) 0 P QC a w
def KM (Q:Exit→Act→World→Prop):Exit→Act→World→Prop:=fun e a w=>e≠.outgrown∧Q e a w
theorem Bb (Q:Exit→Act→World→Prop):¬ LetsOut (KM Q):=fun ⟨_,_,h,_⟩=>h rfl
theorem Acc.KM {w:World} {m:jE} {QC:Exit→Act→World→Prop} (h:Acc n Q w m σ QC):Acc n Q w m σ (Abs.KM QC):=by
 intro x ex env' σ' ds' a' w' m' hq hx hs ht; refine ⟨?_,h x ex env' σ' ds' a' w' m' hq hx hs ht⟩; rintro rfl; cases x <;> simp [adB] at hx
theorem wE.region {id:Nat} {l:List Oper} (hd:(l.all uN)=true) (h:AR P n l.toArray l env σ ds Q):wE P r n (.region id l.toArray false) env σ ds Q:=by
 intro w m a QC hs ha; rw [List.all_eq_true] at hd; refine wpIn_mono (wpIn_region_lit (JJ (Bb QC) l a w hd (h w m a _ hs ha.KM))) fun e a w h=>h.2
theorem wE.skip (h:Q .normal env σ ds):wE P r n .skip env σ ds Q:=
 fun w m a _ hs ha=>wpIn_skip (ha .normal .normal env σ ds a w m h rfl hs (Trans.refl ..))
theorem wE.exit {id:Nat} (h:Q (.exit id) env σ ds):wE P r n (.exit id) env σ ds Q:=
 fun w m a _ hs ha=>wpIn_exit (ha (.exit id) (.exit id) env σ ds a w m h rfl hs (Trans.refl ..))
theorem wE.ret (h:Q .ret env σ ds):wE P r n .ret env σ ds Q:=
 fun w m a _ hs ha=>wpIn_ret (ha .ret .ret env σ ds a w m h rfl hs (Trans.refl ..))
theorem wE.seq {c d:Code} (h:wE P r n c env σ ds (AX.then (fun e s ds=>wE P r n d e s ds Q) Q)):wE P r n (.seq c d) env σ ds Q:=by
 intro w m a QC hs ha; refine wpIn_seq (h w m a _ hs ?_); intro x ex e1 σ1 d1 a1 w1 m1 hq hx hs1 ht; cases x with
 | normal=>cases hx; exact hq w1 m1 a1 QC hs1 (ha.step ht)
 | exit id=>cases hx; exact ha (.exit id) _ e1 σ1 d1 a1 w1 m1 hq rfl hs1 ht
 | ret=>cases hx; exact ha .ret _ e1 σ1 d1 a1 w1 m1 hq rfl hs1 ht
 | panic p=>obtain ⟨v,rfl,hv⟩:=hx; exact ha (.panic p) _ e1 σ1 d1 a1 w1 m1 hq ⟨v,rfl,hv⟩ hs1 ht
theorem wE.cond {c:Operand} {x y:Code} {b:Bool} (hc:env.ev c=.bool b) (ht:b=true→wE P r n x env σ ds Q) (hf:b=false→wE P r n y env σ ds Q):
  wE P r n (.cond c x y) env σ ds Q:=by
 intro w m a QC hs ha; have he:=hs.env.ev c; rw [hc] at he; simp only [dO] at he; exact wpIn_cond_split he (fun h=>ht h w m a QC hs ha) (fun h=>hf h w m a QC hs ha)
theorem wE.block {id:Nat} {c:Code} (h:wE P r n c env σ ds (AX.inBlock id Q)):wE P r n (.block id c) env σ ds Q:=by
 intro w m a QC hs ha; refine wpIn_block (h w m a _ hs ?_); intro x ex e1 σ1 d1 a1 w1 m1 hq hx hs1 ht; cases x with
 | normal=>cases hx; exact ha .normal _ e1 σ1 d1 a1 w1 m1 hq rfl hs1 ht
 | exit id'=>
  cases hx; simp only [Exit.inBlock]; simp only [AX.inBlock] at hq; by_cases e:id'=id
  ·
   subst e; simp only [Nat.beq_refl,cond_true] at hq; rw [if_pos rfl]; exact ha .normal _ e1 σ1 d1 a1 w1 m1 hq rfl hs1 ht
  ·
   have:Nat.beq id' id=false:=tL e; simp only [this,cond_false] at hq; rw [if_neg e]; exact ha (.exit id') _ e1 σ1 d1 a1 w1 m1 hq rfl hs1 ht
 | ret=>cases hx; exact ha .ret _ e1 σ1 d1 a1 w1 m1 hq rfl hs1 ht
 | panic p=>obtain ⟨v,rfl,hv⟩:=hx; exact ha (.panic p) _ e1 σ1 d1 a1 w1 m1 hq ⟨v,rfl,hv⟩ hs1 ht
theorem wE.mono {c:Code} {Q':Post} (h:wE P r n c env σ ds Q) (hq:∀ x e s d,Q x e s d→Q' x e s d):wE P r n c env σ ds Q':=
 fun w m a QC hs ha=>h w m a QC hs fun x ex env' σ' ds' a' w' m' h1 h2 h3 h4=>ha x ex env' σ' ds' a' w' m' (hq _ _ _ _ h1) h2 h3 h4
theorem wE.settle {c:Code} {env':Env} (ps:List Nat) (hs:Abs.settle ps env=some env') (h:wE P r n c env' σ ds Q):wE P r n c env σ ds Q:=
 fun w m a QC qd ha=>h w m a QC ⟨qd.size,qd.ds,qd.env.settle hs,qd.iX⟩ ha
theorem wE.frame {c:Code} {τ:List bn} (h:wE P r n c env σ ds Q):wE P r n c env (σ ++ τ) ds (fun x e s d=>∃ s0,s=s0 ++ τ∧Q x e s0 d):=by
 intro w m a QC hs ha; refine h w m a QC ⟨hs.size,hs.ds,hs.env,hs.iX.left⟩ fun x ex e' σ' ds' a' w' m' hq hx hs' ht=>?_; obtain ⟨k1,k2⟩:=Conc.frame hs.iX hs'.iX ht; exact ha x ex e' (σ' ++ τ) ds' a' w' m' ⟨σ',rfl,hq⟩ hx ⟨hs'.size,hs'.ds,hs'.env,k1⟩ k2
def Bw (P:Program) (r:Option Nat) (n:Nat) (all:Array Oper) (l:List Oper) (env:Env) (σ:List bn) (ds:List Deferred) (Q:Post):Prop:=
 ∀ w m a QC,oZ w m n env σ ds a→Acc n Q w m σ QC→wpListIn (R6 r) 0 P all QC l a w
theorem Bw.of {l:List Oper} (hd:(l.all uN)=true) (h:AR P n all l env σ ds Q):Bw P r n all l env σ ds Q:=by
 intro w m a QC hs ha; rw [List.all_eq_true] at hd; have:=JJ (r:=r) (Bb QC) l a w hd (h w m a _ hs ha.KM)
 have key:∀ (l:List Oper) (a:Act) (w:World),wpListIn (R6 r) 0 P all (KM QC) l a w→wpListIn (R6 r) 0 P all QC l a w:=by
  intro l
  induction l with
  | nil=>intro a w h; exact h.2
  | cons o l ih=>
   intro a w h; unfold wpListIn at h ⊢; split
   ·
    rename_i hw; rw [if_pos hw] at h; refine ⟨h.1,?_⟩; have h2:=h.2; generalize (o.semAt (R6 r).round a.eval).run P w=x at h2 ⊢; cases x with
    | ok v w'=>
     cases v <;> simp only [Oper.uponIn] at h2 ⊢ <;> first
      | exact ih _ _ h2
      | exact ⟨h2.1,CallsIn.mono h2.2 fun e w'' he=>by
        cases e with
        | returned v=>exact ih _ _ he
        | panicked c=>exact he.2
        | outgrown=>exact (Bb QC he).elim⟩
      | exact ⟨h2.1,RowsIn.mono h2.2 fun v w'' he=>ih _ _ he⟩
      | exact ⟨h2.1,RoundIn.mono h2.2 fun e w'' he=>by
        cases e with
        | returned v=>exact ih _ _ he
        | panicked c=>exact he.2
        | outgrown=>exact (Bb QC he).elim⟩
    | halt v w'=>
     cases v <;> simp only [Oper.uponIn] at h2 ⊢ <;> exact h2.2
   ·
    rename_i hw; rw [if_neg hw] at h; exact ⟨h.1,ih _ _ h.2⟩
 exact key l a w this
theorem AW.Ul {id:Nat} {l:List Oper} (h:Bw P none n l.toArray l env σ ds Q):AW P n (.region id l.toArray false) env σ ds Q:=
 fun w m a QC hs ha=>wpIn_wide.1 (wpIn_region_lit (F:=R6 none) (n:=0) (h w m a QC hs ha))
theorem Bw.step {t:Nat} (hnd:uN o=true) (hg:o.guard=none) (hd:o.dst=some t) (ht:Nat.blt t n=true)
  (h:AO P o env.ev σ (fun p σ'=>Bw P r n all rest ((t,p) :: env) σ' ds Q) (fun p σ'=>Q (.panic p) env σ' ds)):
  Bw P r n all (o :: rest) env σ ds Q:=by
 intro w m a QC hs ha; have ht:t < n:=Nat.le_of_ble_eq_true ht; refine wpListIn_plain hg fun K hK=>OH hnd ?_; refine h w m a K QC (fun x _=>hs.env.ev x) hs.iX ?_ ?_
 ·
  intro p σ' v w' m' hr hv hc htr; exact hK _ _ (hr w' m' _ QC (hs.put hd ht hv hc htr.le) (ha.step htr))
 ·
  intro p σ' v w' m' hr hv hc htr; exact ha (.panic p) _ _ _ _ a w' m' hr ⟨v,rfl,hv⟩ ⟨hs.size,hs.ds,hs.env.mono htr.le,hc⟩ htr
def AY (P:Program) (l:Nat) (args:List PV) (σ:List bn) (R:fq→List bn→Prop):Prop:=
 ∀ w m vs,Conc w m σ→bD w m args vs→∃ fn tmps assign body,(Instr.yield l vs.toArray).run P w=.ok (.round l fn tmps assign body) w∧
  RoundIn Fence.wide 0 P l fn tmps assign body w fun e w'=>∃ out σ' m',R out σ'∧zn w' m' out e∧Conc w' m' σ'∧Trans w m σ w' m' σ'
theorem Bw.yield {t l:Nat} {c:Call} {σ':List bn} {p:PV} (hnd:uN o=true) (hg:o.guard=none) (hd:o.dst=some t) (ht:Nat.blt t n=true) (ho:o.op=.call c) (Ic:Operand) (jy:c.callee=.value Ic)
  (hf:env.ev Ic=.val (.func (.yield l) #[] #[])) (h:AY P l ((c.args.toList.map env.ev).map PV.weak) σ (fun out s=>out=.ret p∧s=σ'))
  (hk:Bw P r n all rest ((t,p) :: env) σ' ds Q):Bw P r n all (o :: rest) env σ ds Q:=by
 intro w m a QC hs ha; have ht:t < n:=Nat.le_of_ble_eq_true ht; refine wpListIn_plain hg fun K hK=>⟨fun _ _=>trivial,?_⟩; rw [Oper.semAt_eq _ _ _ (E5 hnd)]; have hcv:=hs.env.ev Ic; rw [hf] at hcv; simp only [dO] at hcv; have hargs:bD w m (c.args.toList.map env.ev) (c.args.toList.map a.eval):=bD.map fun x _=>hs.env.ev x; obtain ⟨fn,tmps,assign,body,h1,h2⟩:=h w m _ hs.iX hargs.weak
 have hrun:(execOp a.eval o).run P w=.ok (.round l fn tmps assign body) w:=by
  unfold execOp; simp only [ho,resolve,jy,hcv,Deferred.ofValue,invoke,Sem.run_bind,Sem.run_pure,Result.andThen_ok]; rw [←h1]; congr 2; apply Array.ext'; simp
 rw [hrun]; simp only [Oper.uponIn]; refine ⟨fun hh=>by simp [R6,Fence.wide] at hh,?_⟩; refine RoundIn.mono (show RoundIn (R6 r) (0 - 1) P l fn tmps assign body w _ from h2) ?_; rintro e w' ⟨out,s,m',⟨rfl,rfl⟩,⟨v,rfl,hv⟩,hc,htr⟩; exact hK _ _ (hk w' m' _ QC (hs.put hd ht hv hc htr.le) (ha.step htr))
end
def Me :List Nat→List PV→Env→Env
 | t :: ts,p :: ps,e=>Me ts ps ((t,p) :: e)
 | _,_,e=>e
theorem G9 {w:World} {m:jE} {n:Nat}:∀ {ts:List Nat} {ps:List PV} {vs:List Value} {env:Env} {tmps:Array Value},tmps.size=n→(∀ t∈ts,t < n)→bD w m ps vs→zk w m env tmps→
  zk w m (Me ts ps env) ((ts.zip vs).foldl (fun t (p,v)=>t.setIfInBounds p v) tmps)∧((ts.zip vs).foldl (fun t (p,v)=>t.setIfInBounds p v) tmps).size=n
 | [],_,_,_,_,hn,_,_,h=>by simpa [Me] using ⟨h,hn⟩
 | t :: ts,[],vs,env,tmps,hn,_,hr,h=>by
  simp only [bD] at hr; subst hr; simpa [Me] using ⟨h,hn⟩
 | t :: ts,p :: ps,vs,env,tmps,hn,hlt,hr,h=>by
  simp only [bD] at hr; obtain ⟨v,vs',rfl,h1,h2⟩:=hr; simp only [Me,List.zip_cons_cons,List.foldl_cons]; refine G9 (by simpa using hn) (fun u hu=>hlt u (by simp [hu])) h2 ?_; exact h.put h1 (by rw [hn]; exact hlt t (by simp))
def codeOf :Option AX→Option Code
 | some .ret=>some .ret
 | some (.exit id)=>some (.exit id)
 | _=>none
def rZ (D:Nat):Deferred:={target:=.collected D,args:=#[]}
def rT (fn:FuncId) (tmps:Array Value) (ps:Array Tmp) (assign body:Code) (D:Nat) (x:Option AX):Loop:=
 {state:=if (codeOf x).isNone then .ready else .done,pending:=codeOf x,fn,tmps,params:=ps,assign,body,defers:=D}
def roundEnd {β:Type} (T:β→List bn) (pend:β→Option AX) (b:Bool) (s':β):Post:=fun x _ σ d=>d=[]∧(T s').Sublist σ∧
 match x with
 | .normal=>b=true∧pend s'=none
 | .ret=>b=false∧pend s'=some .ret
 | .exit id=>b=false∧pend s'=some (.exit id)
 | .panic _=>False
theorem tO {w:World} {m:jE} {σ:List bn} (hc:Conc w m σ) {i b:Nat} {o o':Obj} (hi:σ[i]?=some (.obj b o)):
  Conc (w.putObj b o') m (σ.set i (.obj b o'))∧Trans w m σ (w.putObj b o') m (σ.set i (.obj b o')):=by
 obtain ⟨hb,hm⟩:=hc.each _ (List.mem_of_getElem? hi)
 have hblt:b < w.heap.size:=by
  rcases Nat.lt_or_ge b w.heap.size with h | h
  · exact h
  · simp [Array.getElem?_eq_none h] at hb
 exact Conc.write (w':=w.putObj b o') (r':=.obj b o') hc hi rfl rfl hm ⟨World.putObj_heap_same hblt,hm⟩ ⟨rfl,rfl,rfl⟩ (by simp) (fun k hk=>World.putObj_heap_other hk)
section
variable {P : Program} {n : Nat} {env : Env} {σ : List bn} {ds : List Deferred} {Q : Post}
theorem AW.rangeFunc {β X:Type} {g:Operand} {ps:Array Tmp} {assign body:Code} {gf:Nat} {caps:List PV} (hg:env.ev g=.fn gf caps) (hp:bT P gf=true)
  (enc:X→List PV) (henc:∀ x,(enc x).length=ps.toList.length) (hps:∀ t∈ps.toList,t < n) (y:β→X→Option (Bool × β)) (T:β→List bn) (pend:β→Option AX) {s0 s1:β} (hσ:σ=T s0) (hs0:pend s0=none)
  (hit:∀ (l:Nat) (T':β→List bn),(∀ s x b s',y s x=some (b,s')→AY P l (enc x) (T' s) (fun out σ'=>out=.ret (.bool b)∧σ'=T' s'))→
   AC P gf (.val (.func (.yield l) #[] #[]) :: caps) (T' s0) (fun out σ'=>(∃ p,out=.ret p)∧σ'=T' s1))
  (round:∀ l s x b s',y s x=some (b,s')→pend s=none∧
   wE P (some l) n assign (Me ps.toList (enc x) env) (T s) [] (fun ax e σ' d=>ax=.normal∧wE P (some l) n body e σ' d (roundEnd T pend b s')))
  (hq:∀ D,(match pend s1 with | none=>Q .normal env | some .ret=>Q .ret env | some (.exit id)=>Q (.exit id) env | some _=>fun _ _=>False) (T s1 ++ [bn.obj D (.deferred (some []))]) (rZ D :: ds)):
  AW P n (.rangeFunc g ps assign body) env σ ds Q:=by
 subst hσ; intro w m a QC hs ha; refine (wpIn_wide (n:=0)).1 (wpIn_rangeFunc fun fn _=>?_); have hge:=hs.env.ev g; rw [hg] at hge; simp only [dO] at hge; obtain ⟨cs,hcv,hcs⟩:=hge; have c1:=yD hs.iX (.deferred (some []))
 have t1:=iZ (σ':=bn.obj w.heap.size (.deferred (some [])) :: T s0) hs.iX (.deferred (some [])) (fun _=>False) (fun b hb=>by
  simp [ku,bn.fp] at hb ⊢; rcases hb with hb | hb
  · exact .inr hb
  · exact .inl hb)
 have c2:=yD c1 (.loop (rT fn a.tmps ps assign body w.heap.size none))
 have t2:=iZ (σ':=.obj (w.alloc (.deferred (some []))).heap.size (.loop (rT fn a.tmps ps assign body w.heap.size none)) :: bn.obj w.heap.size (.deferred (some [])) :: T s0) c1 (.loop (rT fn a.tmps ps assign body w.heap.size none)) (fun _=>False) (fun b hb=>by
  simp [ku,bn.fp] at hb ⊢; rcases hb with hb | hb | hb
  · exact .inr hb
  · exact .inl (.inl hb)
  · exact .inl (.inr hb))
 have hsz:(w.alloc (.deferred (some []))).heap.size=w.heap.size + 1:=by simp
 rw [hsz] at c2 t2; generalize hW:(w.alloc (.deferred (some []))).alloc (.loop (rT fn a.tmps ps assign body w.heap.size none))=W at c2 t2; generalize hM:(fun b off=>(m b off∨b=w.heap.size∧False)∨b=w.heap.size + 1∧False)=M at c2 t2; have tW:=t1.trans t2; let rec' (s:β):Loop:=rT fn a.tmps ps assign body w.heap.size (pend s); let T' (s:β):List bn:=T s ++ [bn.obj (w.heap.size + 1) (.loop (rec' s)),bn.obj w.heap.size (.deferred (some [])),bn.since w m]
 have hT0:(T' s0).Perm (.obj (w.heap.size + 1) (.loop (rT fn a.tmps ps assign body w.heap.size none)) :: bn.obj w.heap.size (.deferred (some [])) :: T s0 ++ [bn.since w m]):=by
  simp only [T',rec',hs0]; refine List.perm_append_comm.trans ?_; simp only [List.cons_append,List.nil_append]; refine List.Perm.cons _ (List.Perm.cons _ ?_); exact (List.perm_append_comm (l₁:=[bn.since w m]) (l₂:=T s0))
 have cT:Conc W M (T' s0):=by
  refine Conc.perm hT0.symm ?_; refine ⟨fun r hr=>?_,?_,c2.wf,c2.rO⟩
  ·
   rcases List.mem_append.1 hr with h | h
   · exact c2.each r h
   ·
    rw [List.mem_singleton] at h; subst h; exact tW.le
  ·
   have:=c2.apart; simpa [ku,bn.fp] using this
 have tT:Trans w m (T s0) W M (T' s0):=by
  refine Trans.perm (.refl _) hT0.symm ⟨tW.os,tW.tape,tW.output,tW.size,tW.le,tW.keep,fun b hb=>tW.fresh b ?_,tW.drawn⟩; simpa [ku,bn.fp] using hb
 refine ⟨w.heap.size + 1,[rZ w.heap.size],W,{target:=.fn (.func gf) cs.toArray,args:=#[.func (.yield (w.heap.size + 1)) #[] #[]]},W,gf,
  #[.func (.yield (w.heap.size + 1)) #[] #[]] ++ cs.toArray,W,?_,?_,fun _ _=>trivial,?_,fun hh=>by simp [Fence.wide] at hh,?_⟩
 · rw [←hW]; exact run_enterLoop_outer _ _ _ _ _
 ·
  simp only [resolve,hcv]; simp [go_sem]
 ·
  simp only [invoke]; rw [uq hp]
 ·
  refine callsIn_wide.2 ?_; have hac:=hit (w.heap.size + 1) T' ?_
  ·
   have hcs':bD W M (.val (.func (.yield (w.heap.size + 1)) #[] #[]) :: caps) (.func (.yield (w.heap.size + 1)) #[] #[] :: cs):=bD.cons (by simp [dO]) (bD.mono tW.le _ _ hcs); have:=hac W M _ cT hcs'; rw [show (Value.func (.yield (w.heap.size + 1)) #[] #[] :: cs).toArray=#[.func (.yield (w.heap.size + 1)) #[] #[]] ++ cs.toArray from by apply Array.ext'; simp] at this; refine this.mono ?_; rintro e w' ⟨out,σ',m',⟨⟨p,rfl⟩,rfl⟩,⟨v,rfl,hv⟩,hc',ht'⟩; have hi:(T' s1)[(T s1).length]?=some (.obj (w.heap.size + 1) (.loop (rec' s1))):=by simp [T']
   obtain ⟨hb,_⟩:=hc'.each _ (List.mem_of_getElem? hi); obtain ⟨k1,k2⟩:=tO (o':=.loop {rec' s1 with state:=.exhausted}) hc' hi
   have hsub:(T s1 ++ [bn.obj w.heap.size (.deferred (some []))]).Sublist ((T' s1).set (T s1).length (.obj (w.heap.size + 1) (.loop {rec' s1 with state:=.exhausted}))):=by
    simp only [T']; rw [List.set_append_right _ _ (Nat.le_refl _),Nat.sub_self]; refine List.Sublist.append (List.Sublist.refl _) ?_; simp only [List.set_cons_zero]; exact .cons _ (.cons_cons _ (.cons _ .slnil))
   have k3:=k1.sub hsub; have k4:=(tT.trans (ht'.trans k2)).sub hsub
   have hse:∀ todo,oZ (w'.putObj (w.heap.size + 1) (.loop {rec' s1 with state:=.exhausted})) m' n env (T s1 ++ [bn.obj w.heap.size (.deferred (some []))]) (rZ w.heap.size :: ds) {a with defers:=todo}∨todo≠[rZ w.heap.size] ++ a.defers:=by
    intro todo; by_cases e:todo=[rZ w.heap.size] ++ a.defers
    ·
     subst e; exact .inl ⟨hs.size,by simp [hs.ds],hs.env.mono k4.le,k3⟩
    · exact .inr e
   have hse:=(hse ([rZ w.heap.size] ++ a.defers)).resolve_right (by simp); refine ⟨codeOf (pend s1),w'.putObj (w.heap.size + 1) (.loop {rec' s1 with state:=.exhausted}),?_,?_⟩
   ·
    have:=run_endLoop (P:=P) (w:=w') (l:=w.heap.size + 1) (r:=rec' s1) hb (by simp only [rec',rT]; split <;> simp); exact this
   ·
    have Td:=hq w.heap.size; cases hpe:pend s1 with
    | none=>
     rw [hpe] at Td; exact ha .normal _ env _ _ _ _ m' Td rfl hse k4
    | some x=>
     rw [hpe] at Td; cases x with
     | ret=>exact wpIn_ret (ha .ret _ env _ _ _ _ m' Td rfl hse k4)
     | exit id=>exact wpIn_exit (ha (.exit id) _ env _ _ _ _ m' Td rfl hse k4)
     | normal=>exact Td.elim
     | panic p=>exact Td.elim
  ·
   
   intro s x b s' hy w1 m1 vs hc1 hv1; obtain ⟨abv,Tc⟩:=round (w.heap.size + 1) s x b s' hy; have hi:(T' s)[(T s).length]?=some (.obj (w.heap.size + 1) (.loop (rec' s))):=by simp [T']
   obtain ⟨hb1,_⟩:=hc1.each _ (List.mem_of_getElem? hi); have Ta:Le w m w1 m1:=hc1.each (.since w m) (by simp [T']); have hvl:=hv1.length_eq
   have hsz':vs.toArray.size=(rec' s).params.size:=by
    simp only [rec',rT,List.size_toArray]; rw [hvl,henc x]; simp
   have hyr:=run_yield (P:=P) hb1 hsz'; refine ⟨_,_,_,_,hyr,?_⟩; refine roundIn_of_wpIn trivial ?_
   have XL:((rec' s).params.zip vs.toArray).foldl (fun tmps (t,a)=>tmps.setIfInBounds t a) (rec' s).tmps=(ps.toList.zip vs).foldl (fun t (p,v)=>t.setIfInBounds p v) a.tmps:=by
    simp only [rec',rT]; rw [←Array.foldl_toList,Array.toList_zip]
   obtain ⟨hb2,hb3⟩:=G9 (n:=n) (ts:=ps.toList) hs.size (fun t ht=>hps t ht) hv1 (hs.env.mono Ta); have hA:=wE.frame (τ:=[bn.obj (w.heap.size + 1) (.loop (rec' s)),bn.obj w.heap.size (.deferred (some [])),bn.since w m]) Tc; refine hA w1 m1 _ _ ⟨?_,rfl,?_,hc1⟩ ?_
   · rw [XL]; exact hb3
   · rw [XL]; exact hb2
   ·
    rintro ax ex e2 σ2 d2 a2 w2 m2 ⟨JR,rfl,rfl,hbody⟩ hx hs2 ht2; cases hx; have hi2:(JR ++ [bn.obj (w.heap.size + 1) (.loop (rec' s)),bn.obj w.heap.size (.deferred (some [])),bn.since w m])[JR.length]?=some (.obj (w.heap.size + 1) (.loop (rec' s))):=by simp
    obtain ⟨hb4,_⟩:=hs2.iX.each _ (List.mem_of_getElem? hi2); have K7:(rec' s).state=.ready:=by simp [rec',rT,abv,codeOf]
    refine ⟨_,run_beginRound hb4 K7,?_⟩; obtain ⟨k1,k2⟩:=tO (o':=.loop {rec' s with state:=.busy}) hs2.iX hi2
    have hset:(JR ++ [bn.obj (w.heap.size + 1) (.loop (rec' s)),bn.obj w.heap.size (.deferred (some [])),bn.since w m]).set JR.length (.obj (w.heap.size + 1) (.loop {rec' s with state:=.busy}))=
      JR ++ [bn.obj (w.heap.size + 1) (.loop {rec' s with state:=.busy}),bn.obj w.heap.size (.deferred (some [])),bn.since w m]:=by
     rw [List.set_append_right _ _ (Nat.le_refl _),Nat.sub_self]; rfl
    rw [hset] at k1 k2; have hB:=wE.frame (τ:=[bn.obj (w.heap.size + 1) (.loop {rec' s with state:=.busy}),bn.obj w.heap.size (.deferred (some [])),bn.since w m]) hbody; refine hB _ m2 a2 _ ⟨hs2.size,hs2.ds,hs2.env.mono k2.le,k1⟩ ?_; rintro ax3 ex3 e3 σ3 d3 a3 w3 m3 ⟨GR,rfl,hd3,XM,hend⟩ hx3 hs3 ht3; have hi3:(GR ++ [bn.obj (w.heap.size + 1) (.loop {rec' s with state:=.busy}),bn.obj w.heap.size (.deferred (some [])),bn.since w m])[GR.length]?=some (.obj (w.heap.size + 1) (.loop {rec' s with state:=.busy})):=by simp
    obtain ⟨hb5,_⟩:=hs3.iX.each _ (List.mem_of_getElem? hi3)
    have fin:∀ jump:Option Code,jump=codeOf (pend s')→b=jump.isNone→∃ v w',(Instr.endRound (w.heap.size + 1) jump).run P w3=.ok v w'∧∃ out σ' m',(out=fq.ret (.bool b)∧σ'=T' s')∧zn w' m' out (.returned v)∧Conc w' m' σ'∧Trans w1 m1 (T' s) w' m' σ':=by
     intro jump hj hbj; refine ⟨_,_,run_endRound jump hb5,.ret (.bool b),T' s',m3,⟨rfl,rfl⟩,⟨_,rfl,by simp [dO,hbj]⟩,?_⟩; obtain ⟨q1,q2⟩:=tO (o':=.loop {rec' s with state:=if jump.isNone then .ready else .done,pending:=jump}) hs3.iX hi3
     have hrec:({rec' s with state:=if jump.isNone then .ready else .done,pending:=jump}:Loop)=rec' s':=by
      simp only [rec',rT,hj]
     have XO:(GR ++ [bn.obj (w.heap.size + 1) (.loop {rec' s with state:=.busy}),bn.obj w.heap.size (.deferred (some [])),bn.since w m]).set GR.length (.obj (w.heap.size + 1) (.loop {rec' s with state:=if jump.isNone then .ready else .done,pending:=jump}))=
       GR ++ [bn.obj (w.heap.size + 1) (.loop (rec' s')),bn.obj w.heap.size (.deferred (some [])),bn.since w m]:=by
      rw [List.set_append_right _ _ (Nat.le_refl _),Nat.sub_self,hrec]; rfl
     rw [XO] at q1 q2; have hsub:(T' s').Sublist (GR ++ [bn.obj (w.heap.size + 1) (.loop (rec' s')),bn.obj w.heap.size (.deferred (some [])),bn.since w m]):=List.Sublist.append XM (List.Sublist.refl _); exact ⟨q1.sub hsub,(ht2.trans (k2.trans (ht3.trans q2))).sub hsub⟩
    cases ax3 with
    | normal=>
     cases hx3; obtain ⟨h5,h6⟩:=hend; exact fin none (by rw [h6]; rfl) (by rw [h5]; rfl)
    | ret=>
     cases hx3; obtain ⟨h5,h6⟩:=hend; exact fin (some .ret) (by rw [h6]; rfl) (by rw [h5]; rfl)
    | exit id=>
     cases hx3; obtain ⟨h5,h6⟩:=hend; exact fin (some (.exit id)) (by rw [h6]; rfl) (by rw [h5]; rfl)
    | panic p=>exact hend.elim
end
end Go.Abs
namespace Go.Abs
variable [iF]
open Go
theorem FM {P:Program} {fn:Func} {rs:List ResultVar} {env:Env} {σ:List bn} {w:World} {m:jE} {tmps:Array Value} {ps:List PV} (hrs:fn.results.toList=rs) (he:zk w m env tmps) (hc:Conc w m σ) (h1:zm P env σ rs ps):
  ∃ v,(results fn tmps).run P w=.ok v w∧dO w m (jU (ps.map PV.weak)) v:=by
 obtain ⟨us,k1,k2⟩:=zB he hc h1; have hl2:=k2.length_eq
 have hrun:(results fn tmps).run P w=.ok (if h:us.toArray.size=1 then us.toArray[0] else .tuple us.toArray) w:=by
  unfold results; rw [Array.mapM_eq_mapM_toList,hrs]; have k1':=k1; simp only [Sem.run_bind,Sem.run_map]
  erw [k1']
  rfl
 have k2:=k2.weak; have hl2:us.length=(ps.map PV.weak).length:=by simpa using hl2
 refine ⟨_,hrun,?_⟩; clear h1 hrun; generalize ps.map PV.weak=ps at k2 hl2 ⊢
 match ps,us,k2,hl2 with
 | [],us,k2,hl2=>
  simp only [bD] at k2; subst k2; simp only [jU,dO]; exact ⟨[],by simp,bD.nil⟩
 | [p],us,k2,hl2=>
  simp only [bD] at k2; obtain ⟨v,vs',rfl,h3,rfl⟩:=k2; simpa [jU] using h3
 | p :: q :: ps,us,k2,hl2=>
  rw [dif_neg (by simp [hl2])]; simp only [jU,dO]; exact ⟨us,rfl,k2⟩
def abQ (P:Program) (rs:List ResultVar) (R:fq→List bn→Prop):Post
 | .normal,e,s,d | .ret,e,s,d=>∃ D s1,d=[rZ D]∧s=s1 ++ [.obj D (.deferred (some []))]∧∃ ps,zm P e s1 rs ps∧∃ s',s'.Sublist s1∧R (.ret (jU (ps.map PV.weak))) s'
 | _,_,_,_=>False
theorem AC.Mt {P:Program} {f:FuncId} {fn:Func} {c:Code} {args:List PV} {σ:List bn} {R:fq→List bn→Prop} (n:Nat) (rs:List ResultVar) (ts:List Nat) {env:Env}
  (hf:P.funcs[f]?=some fn) (hb:fn.body=some c) (hn:fn.ntmps=n) (hl:Nat.ble args.length n=true) (hrs:fn.results.toList=rs) (Fb:settle ts (vY 0 args)=some env)
  (h:AW P n c env σ [] (abQ P rs R)):AC P f args σ R:=by
 intro w m vs hc hv; have hl:args.length≤n:=Nat.le_of_ble_eq_true hl; have hvl:=hv.length_eq; refine callsIn_wide.1 (callsIn_of_wp_marks (n:=0) hf hb trivial (wpIn_wide.2 ?_)); refine h w m _ _ ⟨?_,rfl,?_,hc⟩ ?_
 · simp [hvl,hn]; omega
 ·
  have:=vL (List.replicate (fn.ntmps - vs.toArray.size) Go.undef) [] hv; rw [show vs.toArray ++ Array.replicate (fn.ntmps - vs.toArray.size) Go.undef=([] ++ vs ++ List.replicate (fn.ntmps - vs.toArray.size) Go.undef).toArray from by simp]; exact zk.settle Fb this
 ·
  intro x ex env' σ' ds' a' w' m' hq hx hs ht
  have hend:∀ D s1,ds'=[rZ D]→σ'=s1 ++ [.obj D (.deferred (some []))]→∀ ps s',zm P env' s1 rs ps→s'.Sublist s1→R (.ret (jU (ps.map PV.weak))) s'→
    LeavesInM Fence.wide 0 P fn a'.tmps (fun e w'=>∃ out σ' m',R out σ'∧zn w' m' out e∧Conc w' m' σ'∧Trans w m σ w' m' σ') a'.defers .returning w':=by
   intro D s1 hd hs1 ps s' h1 hsub h2; subst hs1; rw [hs.ds,hd]; have hi:(s1 ++ [bn.obj D (.deferred (some []))])[s1.length]?=some (.obj D (.deferred (some []))):=by simp
   obtain ⟨hbD,_⟩:=hs.iX.each _ (List.mem_of_getElem? hi); obtain ⟨k1,k2⟩:=tO (o':=.deferred Option.none) hs.iX hi
   have hset:(s1 ++ [bn.obj D (.deferred (some []))]).set s1.length (.obj D (.deferred Option.none))=s1 ++ [.obj D (.deferred Option.none)]:=by
    rw [List.set_append_right _ _ (Nat.le_refl _),Nat.sub_self]; rfl
   rw [hset] at k1 k2; refine ⟨by simp,.inl ⟨D,_,rfl,run_takeDeferred hbD,?_⟩⟩; have k3:=k1.left; obtain ⟨v,hv1,hv2⟩:=FM hrs (hs.env.mono k2.le) k3 h1; refine ⟨v,hv1,.ret _,s',m',h2,⟨v,rfl,hv2⟩,k3.sub hsub,?_⟩; exact (ht.trans k2).sub (hsub.trans (List.sublist_append_left _ _))
  cases x with
  | normal=>cases hx; obtain ⟨D,s1,hd,hs1,ps,h1,s',hsub,h2⟩:=hq; exact hend D s1 hd hs1 ps s' h1 hsub h2
  | ret=>cases hx; obtain ⟨D,s1,hd,hs1,ps,h1,s',hsub,h2⟩:=hq; exact hend D s1 hd hs1 ps s' h1 hsub h2
  | exit id=>exact hq.elim
  | panic p=>exact hq.elim
theorem TW {w:World} {m:jE}:∀ {vs cs:List Value},bD w m (vs.map PV.val) cs→cs=vs
 | [],cs,h=>by simpa [bD] using h
 | v :: vs,cs,h=>by
  simp only [List.map_cons,bD,dO] at h; obtain ⟨u,us,rfl,h1,h2⟩:=h; rw [TW h2,h1]
theorem AR.defer {P:Program} {n:Nat} {env:Env} {σ:List bn} {ds:List Deferred} {Q:Post} {all:Array Oper} {rest:List Oper} {o:Oper} {c:Call} {Ic:Operand} {g:FuncId} {vs:List Value}
  (hg:o.guard=Option.none) (hd:o.dst=Option.none) (ho:o.op=.defer c) (jy:c.callee=.value Ic) (hargs:c.args=#[]) (hf:env.ev Ic=.fn g (vs.map PV.val))
  (h:AR P n all rest env σ ({target:=.fn (.func g) vs.toArray,args:=#[]} :: ds) Q):AR P n all (o :: rest) env σ ds Q:=by
 intro w m a QC hs ha; refine wpList_plain hg fun K hK=>?_; have hcv:=hs.env.ev Ic; rw [hf] at hcv; simp only [dO] at hcv; obtain ⟨cs,hcv,hcs⟩:=hcv; have hcs':=TW hcs; subst hcs'
 have hrun:(execOp a.eval o).run P w=.ok (.defer {target:=.fn (.func g) cs.toArray,args:=#[]}) w:=by
  unfold execOp; simp [ho,resolve,jy,hcv,hargs,Deferred.ofValue]
 unfold Oper.wp; rw [hrun]; refine hK _ _ (h w m _ QC ⟨?_,?_,?_,hs.iX⟩ ha)
 · rw [hd]; exact hs.size
 · rw [hd]; simp [Act.put,hs.ds]
 · rw [hd]; exact hs.env
def abO (P:Program) (rs:List ResultVar) (R:fq→List bn→Prop) (g:FuncId) (nt t:Nat) (ops:List Oper) (o:Oper) (X:Code) (vs:List Value) (Tk:Env):Post
 | .normal,e,s,d | .ret,e,s,d=>d=[{target:=.fn (.func g) vs.toArray,args:=#[]}]∧
   AR P nt (o :: ops).toArray ops ((t,.val .nilIface) :: Tk) s [] (AX.then (fun e' s d=>AW P nt X e' s d (QD fun s'=>∃ ps,zm P e s' rs ps∧∃ s'',s''.Sublist s'∧R (.ret (jU (ps.map PV.weak))) s'')) (QD fun s'=>∃ ps,zm P e s' rs ps∧∃ s'',s''.Sublist s'∧R (.ret (jU (ps.map PV.weak))) s''))
 | .panic p,e,s,d=>d=[{target:=.fn (.func g) vs.toArray,args:=#[]}]∧
   AR P nt (o :: ops).toArray ops ((t,p) :: Tk) s [] (AX.then (fun e' s d=>AW P nt X e' s d (QD fun s'=>∃ ps,zm P e s' rs ps∧∃ s'',s''.Sublist s'∧R (.ret (jU (ps.map PV.weak))) s'')) (QD fun s'=>∃ ps,zm P e s' rs ps∧∃ s'',s''.Sublist s'∧R (.ret (jU (ps.map PV.weak))) s''))
 | _,_,_,_=>False
theorem Qs (w:World) (m:jE):∀ vs:List Value,bD w m (vs.map PV.val) vs
 | []=>bD.nil
 | v :: vs=>bD.cons (by simp [dO]) (Qs w m vs)
theorem AC.IU {P:Program} {f g:FuncId} {fn fd:Func} {c X:Code} {args:List PV} {σ:List bn} {R:fq→List bn→Prop} {id nt t:Nat} {ops:List Oper} {o:Oper} (n:Nat) (rs:List ResultVar) (ts td:List Nat) {env:Env}
  (hf:P.funcs[f]?=some fn) (hb:fn.body=some c) (hn:fn.ntmps=n) (hl:Nat.ble args.length n=true) (hrs:fn.results.toList=rs) (Fb:settle ts (vY 0 args)=some env)
  (hfd:P.funcs[g]?=some fd) (hbd:fd.body=some (.seq (.region id (o :: ops).toArray false) X)) (hnd:fd.ntmps=nt) (hrsd:fd.results.toList=[])
  (hg:o.guard=Option.none) (ho:isRecover o=true) (hd:o.dst=some t) (ht:Nat.blt t nt=true) (hp:bT P g=true)
  (h:AW P n c env σ [] (fun x e s d=>∃ vs Tk,Nat.ble vs.length nt=true∧settle td (vY 0 (vs.map PV.val))=some Tk∧abO P rs R g nt t ops o X vs Tk x e s d)):AC P f args σ R:=by
 intro w m us hc hv; have hl:args.length≤n:=Nat.le_of_ble_eq_true hl; have hvl:=hv.length_eq; refine calls_of_wp_defers hf hb ?_; refine h w m _ _ ⟨?_,rfl,?_,hc⟩ ?_
 · simp [hvl,hn]; omega
 ·
  have:=vL (List.replicate (fn.ntmps - us.toArray.size) Go.undef) [] hv; rw [show us.toArray ++ Array.replicate (fn.ntmps - us.toArray.size) Go.undef=([] ++ us ++ List.replicate (fn.ntmps - us.toArray.size) Go.undef).toArray from by simp]; exact zk.settle Fb this
 ·
  intro x ex env' σ' ds' a' w' m' hq hx hs htr; obtain ⟨vs,Tk,hvn,ac7,hq⟩:=hq
  have key:∀ (q:Option Value) (p:PV),(match q with | Option.none=>p=.val .nilIface | some v=>dO w' m' p v)→ds'=[{target:=.fn (.func g) vs.toArray,args:=#[]}]→
    AR P nt (o :: ops).toArray ops ((t,p) :: Tk) σ' [] (AX.then (fun e' s d=>AW P nt X e' s d (QD fun s'=>∃ ps,zm P env' s' rs ps∧∃ s'',s''.Sublist s'∧R (.ret (jU (ps.map PV.weak))) s'')) (QD fun s'=>∃ ps,zm P env' s' rs ps∧∃ s'',s''.Sublist s'∧R (.ret (jU (ps.map PV.weak))) s''))→
    Leaves P fn a'.tmps (fun e w'=>∃ out σ' m',R out σ'∧zn w' m' out e∧Conc w' m' σ'∧Trans w m σ w' m' σ') a'.defers (FT q) w':=by
   intro q p hqp hds har; rw [hs.ds,hds]; refine leaves_cons (f:=g) (args:=vs.toArray) (by cases q <;> simp [FT]) ?_ ?_
   ·
    simp only [invoke]; rw [uq hp]; simp
   ·
    refine CallsD.mono (CD.rec (args:=vs.map PV.val) td hfd hbd hnd (by simpa using hvn) hrsd ac7 hg ho hd ht har w' m' vs q hqp hs.iX (Qs w' m' vs)) ?_; rintro e u' w2 ⟨rfl,rfl,σ2,m2,⟨ps,h1,s'',hsub,h2⟩,hc2,ht2⟩; obtain ⟨v,hv1,hv2⟩:=FM hrs (hs.env.mono ht2.le) hc2 h1; have hset:Go.settle (yH q)=.returning:=by cases q <;> simp [yH,Go.settle]
    simp only [hset]; exact ⟨v,hv1,.ret _,s'',m2,h2,⟨v,rfl,hv2⟩,hc2.sub hsub,(htr.trans ht2).sub hsub⟩
  cases x with
  | normal=>cases hx; exact key Option.none _ rfl hq.1 hq.2
  | ret=>cases hx; exact key Option.none _ rfl hq.1 hq.2
  | exit id=>exact hq.elim
  | panic p=>
   obtain ⟨v,rfl,hv'⟩:=hx; exact key (some v) p hv' hq.1 hq.2
theorem J8 {w:World} {m:jE} {σ:List bn} {i b:Nat} {cs:List PV} (hi:σ[i]?=some (.box b cs)) (hc:Conc w m σ):Conc w m (σ.set i (.box b (cs.map PV.sj)))∧Trans w m σ w m (σ.set i (.box b (cs.map PV.sj))):=by
 have hf:ku (σ.set i (.box b (cs.map PV.sj)))=ku σ:=by
  clear hc
  induction σ generalizing i with
  | nil=>rfl
  | cons r σ ih=>
   cases i with
   | zero=>
    simp only [List.getElem?_cons_zero,Option.some.injEq] at hi; subst hi; simp [ku,bn.fp]
   | succ i=>
    simp only [List.getElem?_cons_succ] at hi; have:=ih hi; simp only [ku,List.set_cons_succ,List.flatMap_cons] at this ⊢; rw [this]
 refine ⟨⟨fun r hr=>?_,by rw [hf]; exact hc.apart,hc.wf,hc.rO⟩,⟨rfl,rfl,rfl,Nat.le_refl _,Le.refl _ _,fun _ _ _=>⟨rfl,fun _ h=>h⟩,fun x hx=>.inl (by rw [←hf]; exact hx),fun _=>Nat.le_refl _⟩⟩; rcases List.mem_or_eq_of_mem_set hr with h | h
 · exact hc.each r h
 ·
  subst h; obtain ⟨vs,ty,h1,h2,h3⟩:=hc.each _ (List.mem_of_getElem? hi); exact ⟨vs,ty,h1,h2.sj,h3⟩
section
variable {P : Program} {n : Nat} {env : Env} {σ : List bn} {ds : List Deferred} {Q : Post} {all : Array Oper} {l : List Oper}
theorem AR.Iy (i:Nat) {b:Nat} {cs:List PV} (hi:σ[i]?=some (.box b cs)) (h:AR P n all l env (σ.set i (.box b (cs.map PV.sj))) ds Q):AR P n all l env σ ds Q:=by
 intro w m a QC hs ha; obtain ⟨k1,k2⟩:=J8 hi hs.iX; exact h w m a QC ⟨hs.size,hs.ds,hs.env,k1⟩ (ha.step k2)
theorem AW.Iy {c:Code} (i:Nat) {b:Nat} {cs:List PV} (hi:σ[i]?=some (.box b cs)) (h:AW P n c env (σ.set i (.box b (cs.map PV.sj))) ds Q):AW P n c env σ ds Q:=by
 intro w m a QC hs ha; obtain ⟨k1,k2⟩:=J8 hi hs.iX; exact h w m a QC ⟨hs.size,hs.ds,hs.env,k1⟩ (ha.step k2)
end
section
variable {P : Program} {o : Oper} {ρ : Operand → PV} {σ : List bn} {R S : PV → List bn → Prop}
theorem AO.T_ {x:Operand} {xt t:TypeId} {p:PV} (ho:o.op=.typeAssert x xt t true) (hx:ρ x=.iface t p) (hrun:∀ v w,(Instr.typeAssert (.iface t v) xt t true).run P w=.ok (.tuple #[v,.bool true]) w)
  (hR:R (.tuple [p,.bool true]) σ):AO P o ρ σ R S:=by
 refine AO.of_same hR fun w m ev hr hc=>?_; have h1:=hr x (by simp [ho,Op.operands]); rw [hx] at h1; simp only [dO] at h1; obtain ⟨v,h1,h2⟩:=h1; refine ⟨.tuple #[v,.bool true],?_,?_⟩
 · simp only [execOp,ho,h1,Sem.run_bind,hrun,Result.andThen_ok,Sem.run_pure]
 ·
  simp only [dO]; exact ⟨[v,.bool true],rfl,bD.cons h2 (bD.cons (by simp [dO]) bD.nil)⟩
theorem AO.Qe {x:Operand} {xt t:TypeId} {p:PV} {z:Value} (ho:o.op=.typeAssert x xt t true) (hx:ρ x=.val .nilIface) (hrun:∀ w,(Instr.typeAssert .nilIface xt t true).run P w=.ok (.tuple #[z,.bool false]) w)
  (hz:∀ w m,dO w m p z) (hR:R (.tuple [p,.bool false]) σ):AO P o ρ σ R S:=by
 refine AO.of_same hR fun w m ev hr hc=>?_; have h1:=hr x (by simp [ho,Op.operands]); rw [hx] at h1; simp only [dO] at h1; refine ⟨.tuple #[z,.bool false],?_,?_⟩
 · simp only [execOp,ho,h1,Sem.run_bind,hrun,Result.andThen_ok,Sem.run_pure]
 ·
  simp only [dO]; exact ⟨[z,.bool false],rfl,bD.cons (hz w m) (bD.cons (by simp [dO]) bD.nil)⟩
end
end Go.Abs
namespace Go.Abs
variable [iF]
open Go
section
variable {P : Program} {n : Nat} {all : Array Oper} {l : List Oper} {env : Env} {σ : List bn} {ds : List Deferred} {Q : Post} {c : Code}
def H8 :List bn→Nat→Option (List bn)
 | [],_=>none
 | _ :: σ,0=>some σ
 | r :: σ,i + 1=>match H8 σ i with
  | some σ'=>some (r :: σ')
  | none=>none
theorem B_ :∀ {σ σ':List bn} {i:Nat},H8 σ i=some σ'→σ'.Sublist σ
 | [],_,_,h=>by cases h
 | r :: σ,_,0,h=>by simp only [H8,Option.some.injEq] at h; subst h; exact List.sublist_cons_self _ _
 | r :: σ,σ',i + 1,h=>by
  simp only [H8] at h; split at h
  ·
   rename_i t ht; simp only [Option.some.injEq] at h; subst h; exact (B_ ht).cons_cons r
  · cases h
theorem AR.Dy (i:Nat) {σ':List bn} (he:H8 σ i=some σ') (h:AR P n all l env σ' ds Q):AR P n all l env σ ds Q:=
 fun w m a QC qd ha=>h w m a QC ⟨qd.size,qd.ds,qd.env,qd.iX.sub (B_ he)⟩ (ha.step (Trans.sub (Trans.refl w m σ) (B_ he)))
theorem AW.Dy (i:Nat) {σ':List bn} (he:H8 σ i=some σ') (h:AW P n c env σ' ds Q):AW P n c env σ ds Q:=AW.drop _ (B_ he) h
end
end Go.Abs
namespace Go.Abs
variable [iF]
open Go Go.Proofs Go.Sort Go.Lib Go.Shelf
theorem Qp {w:World} {m:jE}:∀ l:List (List UInt8),bD w m (l.map PV.str) (l.map fun s=>Value.string ⟨s.toArray⟩)
 | []=>bD.nil
 | s :: l=>bD.cons (by simp [dO]) (Qp l)
theorem Trans.grown (hD:iF.D) {w w':World} {m m':jE} {σ':List bn} (h:Trans w m [] w' m' σ'):∃ q os,w'=Sort.grow (w.drewN q) os:=by
 refine ⟨w'.drawn - w.drawn,w'.heap.extract w.heap.size w'.heap.size,?_⟩; have h1:=h.os; have h2:=h.tape; have h3:=h.output; have h4:=h.drawn hD; have h5:=h.size; have h6:=h.keep; cases w'; cases w; simp only [World.drewN,Sort.grow] at *; subst h1 h2 h3; congr 1
 ·
  apply Array.ext_getElem?; intro k; rw [Array.getElem?_append]; split
  ·
   rename_i hk; exact (h6 k hk (by simp [ku])).1
  ·
   rename_i hk; rw [Array.getElem?_extract]; split
   · congr 1; omega
   · rw [Array.getElem?_eq_none (by omega)]
 · omega
abbrev aav :Type:={s:List UInt8 // s.length < 4611686018427387904}
instance : Inhabited aav:=⟨⟨[],by decide⟩⟩
end Go.Abs
namespace Go.Ft
open Go.Lib
end Go.Ft
namespace Go.Abs
variable [iF]
open Go Go.Proofs Go.Sort Go.Lib Go.Shelf
end Go.Abs
namespace Go.Abs
variable [iF]
open Go
section
variable {P : Program} {o : Oper} {ρ : Operand → PV} {σ : List bn} {R S : PV → List bn → Prop}
theorem Ko (w:World) (t e:TypeId) (a:Option Addr) (l c:Nat) (h:P.underlying t=some (.slice e)):(binOp .eql t (.slice a l c) (.slice none 0 0)).run P w=.ok (.bool a.isNone) w:=by
 have h:∀ d:Nat,(Op.equalIn (d + 1) t (.slice a l c) (.slice none 0 0)).run P w=.ok a.isNone w:=fun d=>by
  cases a <;> simp [Op.equalIn,run_underlying h]
 simp only [binOp]; simp [Op.equal,Op.maxDepth,h 9999]
theorem AO.Ca {t e yt:TypeId} {x:Operand} {l:List (List PV)} (ho:o.op=.binOp .eql t x (.const (.slice none 0 0)) yt) (hx:(ρ x).els=some l) (hu:P.underlying t=some (.slice e))
  (hR:∀ b:Bool,(b=true→l=[])→R (.bool b) σ):AO P o ρ σ R S:=by
 intro w m a K QC hr hc hK _; have hv:=hr x (by simp [ho,Op.operands]); obtain ⟨ad,cap,e1,e2,e3⟩:=hv.els hx; have hev:a.eval (.const (.slice none 0 0))=.slice none 0 0:=rfl
 have hrun:(execOp a.eval o).run P w=.ok (.value (.bool ad.isNone)) w:=by
  simp only [execOp,ho,hev,e1,Sem.run_bind]; rw [show eqGuard .eql t x (.const (.slice none 0 0)) (.slice ad l.length cap) (.slice none 0 0)=pure () from rfl]; simp only [Sem.run_pure,Result.andThen_ok,Ko w t e ad l.length cap hu]
 unfold Oper.wp; rw [hrun]; refine hK (.bool ad.isNone) σ _ w m (hR _ fun h=>?_) (by simp only [dO]) hc (Trans.refl _ _ _); rcases e3 with rfl | ⟨bk,off,sz,rfl,_⟩
 · rfl
 · cases h
theorem AO.JG {x:Operand} {v:Value} {l:List (List PV)} (ho:o.op=.assign x) (hx:ρ x=.own v l) (hR:R (.val v) σ):AO P o ρ σ R S:=by
 refine AO.of_same hR fun w m ev hr _=>?_; have h1:=hr x (by simp [ho,Op.operands]); rw [hx] at h1; simp only [dO] at h1; exact ⟨ev x,by simp [execOp,ho],by simp only [dO]; exact h1.1⟩
end
theorem AW.adu {P:Program} {n:Nat} {c:Code} {env:Env} {σ:List bn} {ds:List Deferred} {Q:Post} (sz e:Nat) (h:AW P n c env (.buf (.slice none 0 0) 0 sz e [] :: σ) ds Q):AW P n c env σ ds Q:=by
 intro w m a QC hs ha
 have hc:Conc w m (.buf (.slice none 0 0) 0 sz e [] :: σ):=by
  refine ⟨fun r hr=>?_,by simpa [ku,bn.fp,Value.ownBlock] using hs.iX.apart,hs.iX.wf,hs.iX.rO⟩; rcases List.mem_cons.1 hr with rfl | hr
  · exact ⟨[],⟨by simp,.inl ⟨rfl,rfl⟩⟩,bD.nil,fun b hb=>by cases hb⟩
  · exact hs.iX.each r hr
 exact h w m a QC ⟨hs.size,hs.ds,hs.env,hc⟩ (ha.step ⟨rfl,rfl,rfl,Nat.le_refl _,Le.refl _ _,fun b _ _=>⟨rfl,fun _ h=>h⟩,fun b hb=>.inl (by simpa [ku,bn.fp,Value.ownBlock] using hb),fun _=>Nat.le_refl _⟩)
theorem AR.freeze {P:Program} {k:Nat} {all:Array Oper} {lo:List Oper} {env:Env} {σ:List bn} {ds:List Deferred} {Q:Post} {v:Value} {n sz e:Nat} {cs:List PV} (t i:Nat) (l:List (List PV)) (ht:env.get t=.val v) (hi:σ[i]?=some (bn.buf v n sz e cs))
  (hl:l.flatten=cs) (hsz:∀ x∈l,x.length=sz) (hn:l.length=n) (h:AR P k all lo ((t,.own v l) :: env) (σ.set i (.row v n sz e)) ds Q):AR P k all lo env σ ds Q:=by
 intro w m a QC hs ha; obtain ⟨m',h1,h2,h3⟩:=hs.iX.freeze hi hl hsz hn; refine h w m' a QC ⟨hs.size,hs.ds,fun u=>?_,h2⟩ (ha.step h3); have hu:=hs.env u; simp only [Env.get]; cases hb:Nat.beq t u with
 | false=>exact dO.mono h3.le _ _ hu
 | true=>
  have:=Nat.eq_of_beq_eq_true hb; subst this; rw [ht] at hu; simp only [dO] at hu; rw [hu]; exact h1
end Go.Abs
namespace Go.Abs
variable [iF]
open Go
def yE :List Bool→List PV→List PV
 | true :: ms,c :: cs=>c.sj :: yE ms cs
 | false :: ms,c :: cs=>c :: yE ms cs
 | [],cs=>cs
 | _ :: _,[]=>[]
theorem bD.yE {w:World} {m:jE}:∀ {ms:List Bool} {ps:List PV} {vs:List Value},bD w m ps vs→bD w m (Abs.yE ms ps) vs
 | [],_,_,h=>h
 | true :: ms,[],_,h=>h
 | false :: ms,[],_,h=>h
 | true :: ms,p :: ps,_,h=>by
  simp only [bD] at h; obtain ⟨v,vs',rfl,h1,h2⟩:=h; exact bD.cons h1.sj (bD.yE h2)
 | false :: ms,p :: ps,_,h=>by
  simp only [bD] at h; obtain ⟨v,vs',rfl,h1,h2⟩:=h; exact bD.cons h1 (bD.yE h2)
theorem J7 {w:World} {m:jE} {σ:List bn} {i b:Nat} {ms:List Bool} {cs:List PV} (hi:σ[i]?=some (.box b cs)) (hc:Conc w m σ):Conc w m (σ.set i (.box b (Abs.yE ms cs)))∧Trans w m σ w m (σ.set i (.box b (Abs.yE ms cs))):=by
 have hf:ku (σ.set i (.box b (Abs.yE ms cs)))=ku σ:=by
  clear hc
  induction σ generalizing i with
  | nil=>rfl
  | cons r σ ih=>
   cases i with
   | zero=>
    simp only [List.getElem?_cons_zero,Option.some.injEq] at hi; subst hi; simp [ku,bn.fp]
   | succ i=>
    simp only [List.getElem?_cons_succ] at hi; have:=ih hi; simp only [ku,List.set_cons_succ,List.flatMap_cons] at this ⊢; rw [this]
 refine ⟨⟨fun r hr=>?_,by rw [hf]; exact hc.apart,hc.wf,hc.rO⟩,⟨rfl,rfl,rfl,Nat.le_refl _,Le.refl _ _,fun _ _ _=>⟨rfl,fun _ h=>h⟩,fun x hx=>.inl (by rw [←hf]; exact hx),fun _=>Nat.le_refl _⟩⟩; rcases List.mem_or_eq_of_mem_set hr with h | h
 · exact hc.each r h
 ·
  subst h; obtain ⟨vs,ty,h1,h2,h3⟩:=hc.each _ (List.mem_of_getElem? hi); exact ⟨vs,ty,h1,h2.yE,h3⟩
section
variable {P : Program} {n : Nat} {env : Env} {σ : List bn} {ds : List Deferred} {Q : Post} {all : Array Oper} {l : List Oper}
theorem AR.yE (i:Nat) (ms:List Bool) {b:Nat} {cs:List PV} (hi:σ[i]?=some (.box b cs)) (h:AR P n all l env (σ.set i (.box b (Abs.yE ms cs))) ds Q):AR P n all l env σ ds Q:=by
 intro w m a QC hs ha; obtain ⟨k1,k2⟩:=J7 hi hs.iX; exact h w m a QC ⟨hs.size,hs.ds,hs.env,k1⟩ (ha.step k2)
theorem AW.yE {c:Code} (i:Nat) (ms:List Bool) {b:Nat} {cs:List PV} (hi:σ[i]?=some (.box b cs)) (h:AW P n c env (σ.set i (.box b (Abs.yE ms cs))) ds Q):AW P n c env σ ds Q:=by
 intro w m a QC hs ha; obtain ⟨k1,k2⟩:=J7 hi hs.iX; exact h w m a QC ⟨hs.size,hs.ds,hs.env,k1⟩ (ha.step k2)
end
end Go.Abs
namespace Go.Abs
variable [iF]
open Go
section
variable {P : Program} {n : Nat} {ds : List Deferred} {L : List Oper} {k : Nat}
end
end Go.Abs
namespace Go.Abs
variable [iF]
open Go
theorem P5 {n:Nat} (a:BitVec n) (s:Nat):a >>> (min s n)=a >>> s:=by
 rcases Nat.le_total s n with h | h
 · rw [Nat.min_eq_left h]
 ·
  rw [Nat.min_eq_right h]; apply BitVec.eq_of_toNat_eq; rw [BitVec.toNat_ushiftRight,BitVec.toNat_ushiftRight,Nat.shiftRight_eq_div_pow,Nat.shiftRight_eq_div_pow]; have h1:a.toNat < 2 ^ n:=a.isLt; have h2:a.toNat < 2 ^ s:=Nat.lt_of_lt_of_le h1 (Nat.pow_le_pow_right (by omega) h); rw [Nat.div_eq_of_lt h1,Nat.div_eq_of_lt h2]
theorem Wy {n:Nat} (a:BitVec n) (s:Nat):a <<< (min s n)=a <<< s:=by
 rcases Nat.le_total s n with h | h
 · rw [Nat.min_eq_left h]
 ·
  rw [Nat.min_eq_right h]; rw [BitVec.shiftLeft_eq_zero (Nat.le_refl n),BitVec.shiftLeft_eq_zero h]
section
variable {P : Program} {o : Oper} {ρ : Operand → PV} {σ : List bn} {R S : PV → List bn → Prop}
theorem AO.Ls {src dst:TypeId} {x:Operand} {d:TypeDesc} {k k':IntKind} {n r:Int} (ho:o.op=.convert src dst x) (hs:P.underlying src=some d) (hd:P.underlying dst=some (.int k')) (hx:ρ x=.int k n) (hr:k'.wrap n=r)
  (hR:R (.int k' r) σ):AO P o ρ σ R S:=AO.Lu ho hs hd hx (by rw [hr]; exact hR)
theorem AO.u64_and {t u:TypeId} {x y:Operand} {p q:Int} (a b:BitVec 64) (ho:o.op=.binOp .and t x y u) (hx:ρ x=.int .u64 p) (hy:ρ y=.int .u64 q) (ha:p=(a.toNat:Int)) (hb:q=(b.toNat:Int))
  (hR:R (.int .u64 ((a &&& b).toNat:Int)) σ):AO P o ρ σ R S:=by
 refine AO.I4 (p:=.int .u64 (IntKind.u64.wrap (BitVec.ofInt IntKind.u64.bits p &&& BitVec.ofInt IntKind.u64.bits q).toNat)) (by simp only [Vf,ho,hx,hy]; rfl) ?_ hR; rw [ZH,ha,hb,gW,gW]
theorem AO.u64_or {t u:TypeId} {x y:Operand} {p q:Int} (a b:BitVec 64) (ho:o.op=.binOp .or t x y u) (hx:ρ x=.int .u64 p) (hy:ρ y=.int .u64 q) (ha:p=(a.toNat:Int)) (hb:q=(b.toNat:Int))
  (hR:R (.int .u64 ((a ||| b).toNat:Int)) σ):AO P o ρ σ R S:=by
 refine AO.I4 (p:=.int .u64 (IntKind.u64.wrap (BitVec.ofInt IntKind.u64.bits p ||| BitVec.ofInt IntKind.u64.bits q).toNat)) (by simp only [Vf,ho,hx,hy]; rfl) ?_ hR; rw [abh,ha,hb,gW,gW]
theorem AO.u64_xor {t u:TypeId} {x y:Operand} {p q:Int} (a b:BitVec 64) (ho:o.op=.binOp .xor t x y u) (hx:ρ x=.int .u64 p) (hy:ρ y=.int .u64 q) (ha:p=(a.toNat:Int)) (hb:q=(b.toNat:Int))
  (hR:R (.int .u64 ((a ^^^ b).toNat:Int)) σ):AO P o ρ σ R S:=by
 refine AO.I4 (p:=.int .u64 (IntKind.u64.wrap (BitVec.ofInt IntKind.u64.bits p ^^^ BitVec.ofInt IntKind.u64.bits q).toNat)) (by simp only [Vf,ho,hx,hy]; rfl) ?_ hR; rw [YI,ha,hb,gW,gW]
theorem AO.Jz {t u:TypeId} {x y:Operand} {yk:IntKind} {p q:Int} (a:BitVec 64) (s:Nat) (ho:o.op=.binOp .shr t x y u) (hx:ρ x=.int .u64 p) (hy:ρ y=.int yk q) (ha:p=(a.toNat:Int)) (hq:q=(s:Int)) (hR:R (.int .u64 ((a >>> s).toNat:Int)) σ):AO P o ρ σ R S:=by
 subst ha hq; refine AO.shr ho hx hy (by omega) ?_; rw [Q6,Int.toNat_natCast,show IntKind.u64.bits=64 from rfl,P5]; exact hR
theorem AO.FE {t u:TypeId} {x y:Operand} {yk:IntKind} {p q:Int} (a:BitVec 64) (s:Nat) (ho:o.op=.binOp .shl t x y u) (hx:ρ x=.int .u64 p) (hy:ρ y=.int yk q) (ha:p=(a.toNat:Int)) (hq:q=(s:Int)) (hR:R (.int .u64 ((a <<< s).toNat:Int)) σ):AO P o ρ σ R S:=by
 subst ha hq; refine AO.shl ho hx hy (by omega) ?_; rw [Sj,Int.toNat_natCast,show IntKind.u64.bits=64 from rfl,Vk,gW,Wy]; exact hR
theorem AO.aar {src dst:TypeId} {x:Operand} {d:TypeDesc} {k:IntKind} {n:Int} (ho:o.op=.convert src dst x) (hs:P.underlying src=some d) (hd:P.underlying dst=some (.int .u64)) (hx:ρ x=.int k n)
  (hR:R (.int .u64 ((BitVec.ofInt 64 n).toNat:Int)) σ):AO P o ρ σ R S:=AO.Ls ho hs hd hx (Sj n) hR
theorem AO.Oj {src dst:TypeId} {x:Operand} {d:TypeDesc} {k:IntKind} {n:Int} {m:Nat} (a:BitVec m) (ho:o.op=.convert src dst x) (hs:P.underlying src=some d) (hd:P.underlying dst=some (.int .u64)) (hx:ρ x=.int k n) (ha:n=(a.toNat:Int))
  (hR:R (.int .u64 ((a.setWidth 64).toNat:Int)) σ):AO P o ρ σ R S:=AO.Ls ho hs hd hx (by rw [Sj,ha,Af]) hR
theorem AO.YM {t u:TypeId} {x y:Operand} {p q:Int} (a b:BitVec 32) (ho:o.op=.binOp .add t x y u) (hx:ρ x=.int .u32 p) (hy:ρ y=.int .u32 q) (ha:p=(a.toNat:Int)) (hb:q=(b.toNat:Int))
  (hR:R (.int .u32 ((a + b).toNat:Int)) σ):AO P o ρ σ R S:=by
 refine AO.I4 (p:=.int .u32 (IntKind.u32.wrap (p + q))) (by simp only [Vf,ho,hx,hy]; rfl) ?_ hR; rw [WC,ha,hb,SL,gW,gW]
theorem AO.YL {t u:TypeId} {x y:Operand} {p q:Int} (a b:BitVec 32) (ho:o.op=.binOp .mul t x y u) (hx:ρ x=.int .u32 p) (hy:ρ y=.int .u32 q) (ha:p=(a.toNat:Int)) (hb:q=(b.toNat:Int))
  (hR:R (.int .u32 ((a * b).toNat:Int)) σ):AO P o ρ σ R S:=by
 refine AO.I4 (p:=.int .u32 (IntKind.u32.wrap (p * q))) (by simp only [Vf,ho,hx,hy]; rfl) ?_ hR; rw [WC,ha,hb,KL,gW,gW]
theorem AO.u32_xor {t u:TypeId} {x y:Operand} {p q:Int} (a b:BitVec 32) (ho:o.op=.binOp .xor t x y u) (hx:ρ x=.int .u32 p) (hy:ρ y=.int .u32 q) (ha:p=(a.toNat:Int)) (hb:q=(b.toNat:Int))
  (hR:R (.int .u32 ((a ^^^ b).toNat:Int)) σ):AO P o ρ σ R S:=by
 refine AO.I4 (p:=.int .u32 (IntKind.u32.wrap (BitVec.ofInt IntKind.u32.bits p ^^^ BitVec.ofInt IntKind.u32.bits q).toNat)) (by simp only [Vf,ho,hx,hy]; rfl) ?_ hR; rw [YJ,ha,hb,gW,gW]
theorem AO.YK {t u:TypeId} {x y:Operand} {yk:IntKind} {p q:Int} (a:BitVec 32) (s:Nat) (ho:o.op=.binOp .shr t x y u) (hx:ρ x=.int .u32 p) (hy:ρ y=.int yk q) (ha:p=(a.toNat:Int)) (hq:q=(s:Int)) (hR:R (.int .u32 ((a >>> s).toNat:Int)) σ):AO P o ρ σ R S:=by
 subst ha hq; refine AO.shr ho hx hy (by omega) ?_; rw [Q6,Int.toNat_natCast,show IntKind.u32.bits=32 from rfl,P5]; exact hR
theorem AO.WI {src dst:TypeId} {x:Operand} {d:TypeDesc} {k:IntKind} {n:Int} (ho:o.op=.convert src dst x) (hs:P.underlying src=some d) (hd:P.underlying dst=some (.int .u32)) (hx:ρ x=.int k n)
  (hR:R (.int .u32 ((BitVec.ofInt 32 n).toNat:Int)) σ):AO P o ρ σ R S:=AO.Ls ho hs hd hx (WC n) hR
theorem AO.JB {src dst:TypeId} {x:Operand} {d:TypeDesc} {k:IntKind} {n:Int} {m:Nat} (a:BitVec m) (ho:o.op=.convert src dst x) (hs:P.underlying src=some d) (hd:P.underlying dst=some (.int .u32)) (hx:ρ x=.int k n) (ha:n=(a.toNat:Int))
  (hR:R (.int .u32 ((a.setWidth 32).toNat:Int)) σ):AO P o ρ σ R S:=AO.Ls ho hs hd hx (by rw [WC,ha,Af]) hR
theorem AO.WB {t u:TypeId} {x y:Operand} {p q:Int} (a b:BitVec 64) {v:BitVec 64} (hv:some (a &&& b)=some v) (ho:o.op=.binOp .and t x y u) (hx:ρ x=.int .u64 p) (hy:ρ y=.int .u64 q) (ha:p=(a.toNat:Int)) (hb:q=(b.toNat:Int)) (hR:R (.int .u64 (v.toNat:Int)) σ):AO P o ρ σ R S:=AO.u64_and a b ho hx hy ha hb (by cases hv; exact hR)
theorem AO.JA {t u:TypeId} {x y:Operand} {p q:Int} (a b:BitVec 64) {v:BitVec 64} (hv:some (a ||| b)=some v) (ho:o.op=.binOp .or t x y u) (hx:ρ x=.int .u64 p) (hy:ρ y=.int .u64 q) (ha:p=(a.toNat:Int)) (hb:q=(b.toNat:Int)) (hR:R (.int .u64 (v.toNat:Int)) σ):AO P o ρ σ R S:=AO.u64_or a b ho hx hy ha hb (by cases hv; exact hR)
theorem AO.WE {t u:TypeId} {x y:Operand} {p q:Int} (a b:BitVec 32) {v:BitVec 32} (hv:some (a * b)=some v) (ho:o.op=.binOp .mul t x y u) (hx:ρ x=.int .u32 p) (hy:ρ y=.int .u32 q) (ha:p=(a.toNat:Int)) (hb:q=(b.toNat:Int)) (hR:R (.int .u32 (v.toNat:Int)) σ):AO P o ρ σ R S:=AO.YL a b ho hx hy ha hb (by cases hv; exact hR)
theorem AO.aaq {src dst:TypeId} {x:Operand} {d:TypeDesc} {k:IntKind} {n:Int} {m:Nat} (a:BitVec m) (ho:o.op=.convert src dst x) (hs:P.underlying src=some d) (hd:P.underlying dst=some (.int .u8)) (hx:ρ x=.int k n) (ha:n=(a.toNat:Int))
  (hR:R (.int .u8 ((UInt8.ofBitVec (a.setWidth 8)).toNat:Int)) σ):AO P o ρ σ R S:=AO.Ls ho hs hd hx (by rw [u8w,ha,Af]; rfl) hR
end
end Go.Abs
namespace Go.Abs
variable [iF]
open Go
theorem AO.adr {P:Program} {o:Oper} {ρ:Operand→PV} {σ:List bn} {R S:PV→List bn→Prop} {c:Call} {f:FuncId} {caps:List PV}
  (ho:o.op=.call c) (Ic:Operand) (jy:c.callee=.value Ic) (hf:ρ Ic=.fn f caps) (hp:bT P f=true)
  (h:AC P f (c.args.toList.map ρ ++ caps) σ fun out σ'=>match out with | .ret p=>R p σ' | .panic p=>S p σ'):AO P o ρ σ R S:=by
 intro w m a K QC hr hc hK hS; have hcr:=hr Ic (by simp [ho,Op.operands,Call.operands,jy]); rw [hf] at hcr; simp only [dO] at hcr; obtain ⟨cs,hcv,hcs⟩:=hcr; have hargs:bD w m (c.args.toList.map ρ) (c.args.toList.map a.eval):=bD.map fun x hx=>hr x (by simp [ho,Op.operands,Call.operands,jy]; exact .inr (by simpa using hx))
 have hrun:(execOp a.eval o).run P w=.ok (.enter f (c.args.toList.map a.eval ++ cs).toArray) w:=by
  unfold execOp; simp only [ho,resolve,jy,hcv,Deferred.ofValue,invoke,Sem.run_bind,Sem.run_pure,Result.andThen_ok]; rw [uq hp]; congr 2; apply Array.ext'; simp
 unfold Oper.wp; rw [hrun,Oper.upon_enter]; refine (h w m _ hc (hargs.append hcs)).mono ?_; rintro e w' ⟨out,σ',m',h1,h2,h3,h4⟩; cases out with
 | ret p=>
  obtain ⟨v,rfl,hv⟩:=h2; exact hK p σ' v w' m' h1 hv h3 h4
 | panic p=>
  obtain ⟨v,rfl,hv⟩:=h2; exact hS p σ' v w' m' h1 hv h3 h4
def abN (P:Program) (rs:List ResultVar) (R:fq→List bn→Prop):Post
 | .normal,e,s,d | .ret,e,s,d=>d=[]∧∃ ps,zm P e s rs ps∧∃ s',s'.Sublist s∧R (.ret (jU ps)) s'
 | .panic p,_,s,d=>d=[]∧∃ s',s'.Sublist s∧R (.panic p) s'
 | _,_,_,_=>False
theorem AC.Xv {P:Program} {f:FuncId} {fn:Func} {c:Code} {args:List PV} {σ:List bn} {R:fq→List bn→Prop} (n:Nat) (rs:List ResultVar) (ts:List Nat) {env:Env}
  (hf:P.funcs[f]?=some fn) (hb:fn.body=some c) (hn:fn.ntmps=n) (hl:Nat.ble args.length n=true) (hrs:fn.results.toList=rs) (Fb:settle ts (vY 0 args)=some env)
  (h:AW P n c env σ [] (abN P rs R)):AC P f args σ R:=by
 intro w m vs hc hv; have hl:args.length≤n:=Nat.le_of_ble_eq_true hl; have hvl:=hv.length_eq; refine calls_of_wp hf hb ?_; refine h w m _ _ ⟨?_,rfl,?_,hc⟩ ?_
 · simp [hvl,hn]; omega
 ·
  have:=vL (List.replicate (fn.ntmps - vs.toArray.size) Go.undef) [] hv; rw [show vs.toArray ++ Array.replicate (fn.ntmps - vs.toArray.size) Go.undef=([] ++ vs ++ List.replicate (fn.ntmps - vs.toArray.size) Go.undef).toArray from by simp]; exact zk.settle Fb this
 ·
  intro x ex env' σ' ds' a' w' m' hq hx hs ht
  have hend:∀ ps s',ds'=[]→zm P env' σ' rs ps→s'.Sublist σ'→R (.ret (jU ps)) s'→a'.defers=[]∧∃ v,(results fn a'.tmps).run P w'=.ok v w'∧∃ out σ' m',R out σ'∧zn w' m' out (.returned v)∧Conc w' m' σ'∧Trans w m σ w' m' σ':=by
   intro ps s' hd h1 hsub h2; obtain ⟨us,k1,k2⟩:=zB hs.env hs.iX h1; have hl2:=k2.length_eq; refine ⟨by rw [hs.ds,hd],?_⟩
   have hrun:(results fn a'.tmps).run P w'=.ok (if h:us.toArray.size=1 then us.toArray[0] else .tuple us.toArray) w':=by
    unfold results; rw [Array.mapM_eq_mapM_toList,hrs]; have k1':=k1; simp only [Sem.run_bind,Sem.run_map]
    erw [k1']
    rfl
   have hl2:us.length=ps.length:=hl2; refine ⟨_,hrun,.ret (jU ps),s',m',h2,⟨_,rfl,?_⟩,hs.iX.sub hsub,ht.sub hsub⟩; clear h1 h2
   match ps,us,k2,hl2 with
   | [],us,k2,hl2=>
    simp only [bD] at k2; subst k2; simp only [jU,dO]; exact ⟨[],by simp,bD.nil⟩
   | [p],us,k2,hl2=>
    simp only [bD] at k2; obtain ⟨v,vs',rfl,h3,rfl⟩:=k2; simpa [jU] using h3
   | p :: q :: ps,us,k2,hl2=>
    rw [dif_neg (by simp [hl2])]; simp only [jU,dO]; exact ⟨us,rfl,k2⟩
  cases x with
  | normal=>cases hx; obtain ⟨hd,ps,h1,s',hsub,h2⟩:=hq; exact hend ps s' hd h1 hsub h2
  | ret=>cases hx; obtain ⟨hd,ps,h1,s',hsub,h2⟩:=hq; exact hend ps s' hd h1 hsub h2
  | exit id=>exact hq.elim
  | panic p=>
   obtain ⟨v,rfl,hv'⟩:=hx; obtain ⟨hd,s',hsub,h2⟩:=hq; exact ⟨by rw [hs.ds,hd],.panic p,s',m',h2,⟨v,rfl,hv'⟩,hs.iX.sub hsub,ht.sub hsub⟩
end Go.Abs
namespace Go.Abs
variable [iF]
open Go
section
variable {P : Program} {n : Nat} {all : Array Oper} {l : List Oper} {env : Env} {σ : List bn} {ds : List Deferred} {Q : Post} {c : Code}
end
end Go.Abs
namespace Go.Abs
variable [iF]
open Go Go.Proofs Go.Sort Go.Lib Go.Shelf
end Go.Abs
namespace Go.Ft
open Go Go.Lib
theorem Eh :∀ s t:Str,Go.Lib.index s t=match yS s t with | none=>-1 | some i=>(i:Int)
 | [],t=>by
  unfold Go.Lib.index yS; cases t.isEmpty <;> rfl
 | b :: l,t=>by
  unfold Go.Lib.index yS; rw [Eh l t]; cases t.isPrefixOf (b :: l) with
  | true=>rfl
  | false=>
   simp only [Bool.false_eq_true,if_false]; cases yS l t with
   | none=>rfl
   | some i=>
    have:(((i:Nat):Int) == -1)=false:=by rw [beq_eq_false_iff_ne]; omega
    simp only [this,Bool.false_eq_true,if_false,Option.map_some]; show (i:Int) + 1=((i + 1:Nat):Int); omega
theorem Tq (s t:Str):Go.Lib.contains s t=(yS s t).isSome:=by
 unfold Go.Lib.contains; rw [Eh]; cases yS s t with
 | none=>rfl
 | some i=>simp
theorem QV {s t:Str} {i:Nat} (h:yS s t=some i):i + t.length≤s.length:=by
 have:=index_room s t (by rw [Eh,h]; exact Int.natCast_nonneg i); rw [Eh,h] at this; simp only at this; omega
theorem Ub {t:Str} (ht:t≠[]):∀ (n:Nat) (s:Str) (f k:Nat),s.length < n→n≤f→n≤k→splitK t 0 (countFrom t f s) s=Da t k s
 | 0,s,f,k,h,_,_=>by omega
 | n + 1,s,f,k,h,hf,hk=>by
  obtain ⟨f,rfl⟩:∃ g,f=g + 1:=⟨f - 1,by omega⟩; obtain ⟨k,rfl⟩:∃ g,k=g + 1:=⟨k - 1,by omega⟩; rw [countFrom,Da,Eh]; cases hi:yS s t with
  | none=>simp [splitK]
  | some i=>
   have hr:=QV hi; have htl:0 < t.length:=List.length_pos_iff.2 ht; have hb:(((i:Nat):Int) == -1)=false:=by rw [beq_eq_false_iff_ne]; omega
   simp only [hb,Bool.false_eq_true,if_false,Int.toNat_natCast]; rw [Nat.add_comm 1,splitK,Eh,hi]; simp only [hb,Bool.false_eq_true,if_false,Int.toNat_natCast,Nat.add_zero]; rw [Ub ht n (s.drop (i + t.length)) f k (by simp; omega) (by omega) (by omega)]
theorem S9 :∀ (l:List Str) (t:Str),Go.Lib.join l t=NG l t
 | [],_=>rfl
 | [x],t=>by rw [NG,join_one]
 | x :: y :: r,t=>by
  rw [NG,←S9 (y :: r) t,join_cons,join_cons]; simp [joinTail]
theorem Z4 :∀ (l:Str) (acc:Nat),E9 acc l=match parseUint10 acc l with | .ok v=>(0,v) | .range=>(2,0) | _=>(1,0)
 | [],acc=>rfl
 | c :: r,acc=>by
  rw [E9,parseUint10]; split
  ·
   split
   · rfl
   ·
    split
    · rfl
    · exact Z4 r _
  · rfl
theorem abL (l:Str):Bt l=match atoiAll l with | .ok v=>(0,v) | .range=>(2,atoiSat l) | _=>(1,0):=by
 cases l with
 | nil=>rfl
 | cons c r=>
  have aee:atoiSat (c :: r)=if c.toNat=45 then -9223372036854775808 else 9223372036854775807:=by
   unfold atoiSat; simp
  rw [aee]; unfold Bt atoiAll parseMag; simp only; generalize (if c.toNat=43∨c.toNat=45 then r else c :: r)=body; by_cases hb:body=[]
  · simp [hb]
  ·
   rw [if_neg hb,if_neg hb,Z4]; cases parseUint10 0 body with
   | ok u=>
    simp only; by_cases h1:¬c.toNat=45∧9223372036854775808≤u
    · simp [h1]
    ·
     by_cases h2:c.toNat=45∧9223372036854775808 < u
     · simp [h1,h2]
     · simp [h1,h2]
   | _=>rfl
end Go.Ft
namespace Go.Abs
variable [iF]
open Go Go.Proofs Go.Lib Go.Shelf Go.RowKit
theorem zZ (hD:¬ iF.D) {w w':World} {m:jE} (hc:Conc w m []) (hb:Below w.heap.size w w'):Conc w' m []∧Trans w m [] w' m []:=by
 have hle:Le w m w' m:=fun b off hm=>⟨hm,World.cell?_of_block (w:=w) (hb.block b (hc.wf b off hm))⟩
 exact ⟨⟨fun r hr=>by simp at hr,by simp [ku],fun b off hm=>Nat.lt_of_lt_of_le (hc.wf b off hm) hb.size,iF.mono hle hc.rO⟩,
  ⟨hb.os,hb.tape,hb.output,hb.size,hle,fun b hlt _=>⟨hb.block b hlt,fun _ h=>h⟩,fun b hb=>by simp [ku] at hb,fun d=>absurd d hD⟩⟩
section
variable {P : Program} {ρ : Ren} {R : fq → List bn → Prop}
theorem AC.contains (L:Lays.n144 P ρ) {s t:List UInt8} (hs:s.length < 4294967281) (hm:∀ (w:World) (m:jE),iF.G w m→∃ n:Int,w.cell? ⟨ρ.g 1,0,Option.none⟩=some (.int .i64 n))
  (h:R (.ret (.bool (Ft.yS s t).isSome)) []):AC P (ρ.f 144) [.str s,.str t] [] R:=by
 intro w m vs hc hv; simp only [bD,dO] at hv; obtain ⟨v0,vs0,rfl,rfl,v1,vs1,rfl,rfl,rfl⟩:=hv; obtain ⟨n,hn⟩:=hm w m hc.rO; refine (Any.strings_Contains L ⟨s.toArray⟩ ⟨t.toArray⟩ n w (by simpa [ByteArray.size] using hs) hn).mono ?_; rintro en w' ⟨rfl,rfl⟩; exact ⟨_,_,m,h,⟨_,rfl,by simp only [dO]; rw [Ft.Tq]⟩,hc,Trans.refl _ _ _⟩
theorem AC.atoi (hD:¬ iF.D) (L:LaysC.n172 P ρ) {s:List UInt8} (hs:s.length≤281474976710656) {E:TypeId} (hE:ρ.t 168=E)
  (hv1:∀ (w:World) (m:jE),iF.G w m→∃ ev,w.cell? ⟨ρ.g 15,0,Option.none⟩=some ev∧(ev=.nilIface∨∃ te pe,ev=.iface te pe)) (hv2:∀ (w:World) (m:jE),iF.G w m→∃ ev,w.cell? ⟨ρ.g 16,0,Option.none⟩=some ev∧(ev=.nilIface∨∃ te pe,ev=.iface te pe))
  (h:R (.ret (.tuple [.int .i64 (Ft.Bt s).2,.err (if (Ft.Bt s).1=0 then Option.none else some E)])) []):AC P (ρ.f 172) [.str s] [] R:=by
 subst hE; intro w m vs hc hv; simp only [bD,dO] at hv; obtain ⟨v0,vs0,rfl,rfl,rfl⟩:=hv; have hF:=Ft.abL s; have hsz:(⟨s.toArray⟩:ByteArray).size=s.length:=by simp [ByteArray.size]
 have tup:∀ (w':World) (a:Int) (e:Option TypeId) (x:Value),dO w' m (.err e) x→dO w' m (.tuple [.int .i64 a,.err e]) (.tuple #[.int .i64 a,x]):=fun w' a e x hx=>by
  simp only [dO]; exact ⟨[.int .i64 a,x],rfl,bD.cons (by simp only [dO]) (bD.cons hx bD.nil)⟩
 cases ha:atoiAll s with
 | ok v=>
  rw [ha] at hF; simp only at hF; rw [hF] at h; refine (Any.strconv_Atoi_ok L ⟨s.toArray⟩ (by rw [hsz]; omega) v (by simpa using ha) w).mono ?_; rintro en w' ⟨rfl,hw⟩
  have hb:Below w.heap.size w w':=by
   rcases hw with rfl | ⟨t,rfl⟩
   · exact Below.refl _ _
   ·
    refine ⟨rfl,rfl,rfl,?_,fun j hj=>Lib.bytesWorld_at_old w _ _ j hj⟩; have hsz2:(Lib.bytesWorld w (ρ.t 5) t).heap.size=w.heap.size + 1:=Lib.bytesWorld_size ..; omega
  obtain ⟨c1,c2⟩:=zZ hD hc hb; exact ⟨_,_,m,h,⟨_,rfl,tup _ _ Option.none _ (by simp only [dO])⟩,c1,c2⟩
 | range=>
  rw [ha] at hF; simp only at hF; rw [hF] at h; obtain ⟨ev,e1,e2⟩:=hv2 w m hc.rO; refine (Any.strconv_Atoi_range L ⟨s.toArray⟩ (by rw [hsz]; exact hs) (by simpa using ha) ev w e1 e2).mono ?_; rintro en w' ⟨N,rfl,_,_,hb⟩; obtain ⟨c1,c2⟩:=zZ hD hc hb; exact ⟨_,_,m,h,⟨_,rfl,tup _ _ (some _) _ (by simp only [dO]; exact ⟨_,rfl⟩)⟩,c1,c2⟩
 | _=>
  rw [ha] at hF; simp only at hF; rw [hF] at h; obtain ⟨ev,e1,e2⟩:=hv1 w m hc.rO; refine (Any.strconv_Atoi_syntax L ⟨s.toArray⟩ (by rw [hsz]; exact hs) (by simpa using ha) ev w e1 e2).mono ?_; rintro en w' ⟨N,rfl,_,_,hb⟩; obtain ⟨c1,c2⟩:=zZ hD hc hb; exact ⟨_,_,m,h,⟨_,rfl,tup _ _ (some _) _ (by simp only [dO]; exact ⟨_,rfl⟩)⟩,c1,c2⟩
theorem Qf {w:World} {m:jE} {b:Nat}:∀ {l:List (List UInt8)} {off:Nat},jd w m b 1 off (l.map fun s=>[PV.str s])→∀ (j:Nat) (x:ByteArray),(l.map fun s=>(⟨s.toArray⟩:ByteArray))[j]?=some x→m b (off + j)∧w.cell? ⟨b,off + j,Option.none⟩=some (.string x)
 | [],_,_,j,x,h=>by simp at h
 | s :: l,off,hr,j,x,h=>by
  simp only [List.map_cons,jd,nW,dO] at hr; obtain ⟨⟨_,⟨v,h1,h2,h3⟩,_⟩,h4⟩:=hr; cases j with
  | zero=>
   simp only [List.map_cons,List.getElem?_cons_zero,Option.some.injEq] at h; subst h; rw [h3] at h2; exact ⟨h1,h2⟩
  | succ j=>
   simp only [List.map_cons,List.getElem?_cons_succ] at h; have:=Qf h4 j x h; rw [show off + (j + 1)=off + 1 + j from by omega]; exact this
theorem AC.join (hD:¬ iF.D) (L:Lays.n156 P ρ) (X:Builder.Extra P ρ) {l:List (List UInt8)} {t:List UInt8} (hl:l.length≤140737488355328) (hj:(Ft.NG l t).length≤140737488355328)
  (h:R (.ret (.str (Ft.NG l t))) []):AC P (ρ.f 156) [.list (l.map fun s=>[PV.str s]),.str t] [] R:=by
 intro w m vs hc hv; simp only [bD] at hv; obtain ⟨v0,vs0,rfl,h1,v1,vs1,rfl,h2,rfl⟩:=hv; simp only [dO] at h1 h2; obtain ⟨a,cap,rfl,hcap,hel⟩:=h1; subst h2; have hml:(l.map fun s=>[PV.str s]).length=l.length:=List.length_map _; rw [hml] at hcap ⊢
 have hdata:(l.map fun s=>(⟨s.toArray⟩:ByteArray)).map (·.data.toList)=l:=by
  rw [List.map_map]; exact (List.map_congr_left (fun s _=>by simp)).trans (List.map_id l)
 rcases hel with he | ⟨b,off,sz,rfl,he⟩
 ·
  have hl0:l=[]:=List.map_eq_nil_iff.1 he; subst hl0; refine (Any.strings_Join_none L X a cap ⟨t.toArray⟩ w).mono ?_; rintro en w' ⟨rfl,rfl⟩; exact ⟨_,_,m,h,⟨_,rfl,by simp only [dO]; rfl⟩,hc,Trans.refl _ _ _⟩
 ·
  cases hl0:l with
  | nil=>
   subst hl0; refine (Any.strings_Join_none L X _ cap ⟨t.toArray⟩ w).mono ?_; rintro en w' ⟨rfl,rfl⟩; exact ⟨_,_,m,h,⟨_,rfl,by simp only [dO]; rfl⟩,hc,Trans.refl _ _ _⟩
  | cons x r=>
   have hsz:sz=1:=by
    rw [hl0] at he; simp only [List.map_cons,jd] at he; exact he.1.1.symm
   subst hsz; rw [←hl0]; have hcell:=Qf he; have hbk:b < w.heap.size:=hc.wf b (off + 0) (hcell 0 ⟨x.toArray⟩ (by simp [hl0])).1; have hlm:(l.map fun s=>(⟨s.toArray⟩:ByteArray)).length=l.length:=List.length_map _
   have key:=Any.strings_Join L X b off cap (l.map fun s=>(⟨s.toArray⟩:ByteArray)) ⟨t.toArray⟩ w (fun j x hx=>(hcell j x hx).2) hbk (by rw [hlm]; exact hl) (by rw [hlm]; exact hcap)
    (by rw [hdata]; simpa [Ft.S9] using hj)
   rw [hlm,hdata] at key; refine key.mono ?_; rintro en w' ⟨rfl,hb⟩; obtain ⟨c1,c2⟩:=zZ hD hc hb; exact ⟨_,_,m,h,⟨_,rfl,by simp only [dO]; rw [Ft.S9]⟩,c1,c2⟩
theorem AC.split (L:Lays.n146 P ρ) (hi9:(P.info? (ρ.t 9)).map (fun i=>(i.zero,i.size,i.bytes))=some (some (.string ByteArray.empty),1,16)) {s t:List UInt8} (hs:s.length < 4294967281) (ht:t≠[])
  (hm:∀ (w:World) (m:jE),iF.G w m→∃ n:Int,w.cell? ⟨ρ.g 1,0,Option.none⟩=some (.int .i64 n))
  (h:R (.ret (.list ((Ft.Da t (s.length + 1) s).map fun s=>[PV.str s]))) []):AC P (ρ.f 146) [.str s,.str t] [] R:=by
 intro w m vs hc hv; simp only [bD,dO] at hv; obtain ⟨v0,vs0,rfl,rfl,v1,vs1,rfl,rfl,rfl⟩:=hv; obtain ⟨n,hn⟩:=hm w m hc.rO; have htl:1≤t.length:=List.length_pos_iff.2 ht; have hts:1≤(⟨t.toArray⟩:ByteArray).size:=by simpa [ByteArray.size] using htl
 refine (Any.strings_Split L hi9 ⟨s.toArray⟩ ⟨t.toArray⟩ n w (by simpa [ByteArray.size] using hs) hn hts).mono ?_; rintro en w' ⟨rfl,rfl⟩; have hall:=Lib.splitB_all ⟨t.toArray⟩ hts 0 _ ⟨s.toArray⟩ rfl
 have hdata:(Lib.splitB ⟨t.toArray⟩ 0 (Lib.countB ⟨s.toArray⟩ ⟨t.toArray⟩) ⟨s.toArray⟩).map (·.data.toList)=Ft.Da t (s.length + 1) s:=by
  rw [splitB_data]; exact Ft.Ub ht (s.length + 1) s (s.length + 1) (s.length + 1) (Nat.lt_succ_self _) (Nat.le_refl _) (Nat.le_refl _)
 have hlen:Lib.countB ⟨s.toArray⟩ ⟨t.toArray⟩ + 1=(Ft.Da t (s.length + 1) s).length:=by rw [←hdata,List.length_map,hall]
 have ac3:(Lib.splitB ⟨t.toArray⟩ 0 (Lib.countB ⟨s.toArray⟩ ⟨t.toArray⟩) ⟨s.toArray⟩).map Value.string=(Ft.Da t (s.length + 1) s).map fun s=>Value.string ⟨s.toArray⟩:=by
  rw [←hdata,List.map_map]; exact List.map_congr_left fun x _=>by simp
 rw [hlen,ac3]; generalize Ft.Da t (s.length + 1) s=r at h ⊢; have hcl:=pU hc (.cells (r.map fun s=>Value.string ⟨s.toArray⟩).toArray (ρ.t 9)) (fun _=>True); have htr:=iZ (σ':=[]) hc (.cells (r.map fun s=>Value.string ⟨s.toArray⟩).toArray (ρ.t 9)) (fun _=>True) (fun b hb=>by simp [ku] at hb); have href:=Bu hc (r.map fun s=>Value.string ⟨s.toArray⟩) (r.map PV.str) (Qp r) (ρ.t 9); refine ⟨_,_,_,h,⟨_,rfl,?_⟩,hcl,htr⟩; simp only [dO]; have hml:(r.map fun s=>[PV.str s]).length=r.length:=List.length_map _; rw [hml]; refine ⟨_,_,rfl,Nat.le_refl _,.inr ⟨w.heap.size,0,1,rfl,mO.2 ⟨fun e he=>?_,?_⟩⟩⟩
 · obtain ⟨x,_,rfl⟩:=List.mem_map.1 he; rfl
 ·
  have hfl:(r.map fun s=>[PV.str s]).flatten=r.map PV.str:=by
   clear h hcl htr href hml
   induction r with
   | nil=>rfl
   | cons x r ih=>simp [ih]
  rw [hfl]; exact href
end
end Go.Abs
namespace Go.Abs
open Go
@[reducible] def adj (ints errs:List Nat) (tabs:List (Nat × List Value)):iF where
 G:=fun w m=>(∀ g∈ints,m g 0∧∃ n:Int,w.cell? ⟨g,0,none⟩=some (.int .i64 n))∧(∀ g∈errs,m g 0∧∃ u v,w.cell? ⟨g,0,none⟩=some (.iface u v))∧∀ p∈tabs,∀ off,m p.1 off∧w.cell? ⟨p.1,off,none⟩=p.2[off]?
 mono:=fun {w w' m m'} hle ⟨h1,h2,h3⟩=>⟨fun g hg=>by
   obtain ⟨a,n,b⟩:=h1 g hg; obtain ⟨c,d⟩:=hle g 0 a
   exact ⟨c,n,by rw [d,b]⟩,fun g hg=>by
   obtain ⟨a,u,v,b⟩:=h2 g hg; obtain ⟨c,d⟩:=hle g 0 a
   exact ⟨c,u,v,by rw [d,b]⟩,fun p hp off=>by
   obtain ⟨a,b⟩:=h3 p hp off; obtain ⟨c,d⟩:=hle p.1 off a
   exact ⟨c,by rw [d,b]⟩⟩
 D:=False
theorem LA {W:World} {g off:Nat} {v:Value} (h:W.cell? ⟨g,off,none⟩=some v):tN W g 0:=by
 unfold World.cell? at h; show g < W.heap.size; rcases Nat.lt_or_ge g W.heap.size with hl | hl
 · exact hl
 ·
  simp only at h; rw [Array.getElem?_eq_none hl] at h; cases h
theorem KY {P:Program} {n nm:String} {d:DataW Unit} {r:List (String × DataW Unit)} {W:World} {g t:Nat} {ms:Array (String × TypeId)} (h:laidMet P ((n,.iface nm d) :: r) W) (hg:P.globalNamed n=some g)
  (ht:(P.globals[g]?).map (·.type)=some t) (hi:P.underlying t=some (.interface ms)):∃ u v,W.cell? ⟨g,0,none⟩=some (.iface u v):=by
 obtain ⟨ps,⟨g0,t0,cs0,f0,p0,q0,hg0,ht0,hv0,hd0,_,e0⟩,_,_⟩:=h; obtain rfl:=Option.some.inj (hg.symm.trans hg0); obtain rfl:=Option.some.inj (ht.symm.trans ht0); obtain ⟨l0⟩:=cs0; cases f0 with
 | zero=>simp [DataW.trod] at hd0
 | succ f0=>
  unfold DataW.trod at hd0; rw [hi] at hd0; simp only at hd0; split at hd0 <;> first | (cases hd0; done) | skip
  all_goals first
   | (rename_i e; cases e; done)
   | skip
  all_goals simp_all
  all_goals exact ⟨_,_,by simpa using World.var?_cell hg0 hv0 0⟩
theorem UY {P:Program} {w:World} {name:String} {k:IntKind} {zs:List Int} {g:Nat} (hg:P.globalNamed name=some g) (h:Lib.TabIs P w name k zs):∀ off,tN w g off∧w.cell? ⟨g,off,none⟩=(zs.map fun z=>Value.int k z)[off]?:=by
 intro off; unfold Lib.TabIs World.var? at h; rw [hg] at h; simp only [Option.bind_some] at h; split at h
 ·
  rename_i cs t f hc; cases h; refine ⟨?_,?_⟩
  ·
   show g < w.heap.size; rcases Nat.lt_or_ge g w.heap.size with hl | hl
   · exact hl
   · rw [Array.getElem?_eq_none hl] at hc; cases hc
  ·
   unfold World.cell?; simp only [hc]; simp
 · cases h
theorem VO {P:Program} {w:World} {name:String} {k:IntKind} {zs:List Int} {g:Nat} (hg:P.globalNamed name=some g) (hne:zs≠[]) (h:∀ off,w.cell? ⟨g,off,none⟩=(zs.map fun z=>Value.int k z)[off]?):Lib.TabIs P w name k zs:=by
 unfold Lib.TabIs World.var?; rw [hg]; simp only [Option.bind_some]; have h0:=h 0
 obtain ⟨z,r,rfl⟩:∃ z r,zs=z :: r:=by
  cases zs with
  | nil=>exact absurd rfl hne
  | cons z r=>exact ⟨z,r,rfl⟩
 unfold World.cell? at h0; simp only at h0; split at h0
 ·
  rename_i cs t f hc; rw [hc]; simp only [Option.some.injEq]; apply Array.ext_getElem?; intro i; have hi:=h i; unfold World.cell? at hi; simp only [hc] at hi; simpa using hi
 · simp at h0
end Go.Abs
namespace Go.Abs
variable [iF]
open Go
section
variable {P : Program} {o : Oper} {ρ : Operand → PV} {σ : List bn} {R S : PV → List bn → Prop}
theorem WS {α:Type} (C L:List α) (N off:Nat) (h1:off + L.length≤N) (h2:N≤C.length):(C.take N).take off ++ (L ++ (C.take N).drop (off + L.length))=(C.take off ++ (L ++ C.drop (off + L.length))).take N:=by
 have a1:(C.take off).length=off:=by rw [List.length_take]; omega
 rw [List.take_append,List.take_append,a1,List.take_of_length_le (l:=C.take off) (by omega),List.take_of_length_le (l:=L) (by omega),List.take_take,Nat.min_eq_left (by omega),List.drop_take,Nat.sub_sub]
theorem AO.Nz {t:TypeId} {x:Operand} {v:Value} {n sz e i off k:Nat} {ag:Bool} {cs:List PV} {p:PV} (ho:o.op=.load t x) (hx:ρ x=.val (.pointer (some ⟨v.blk,off,none⟩))) (hi:σ[i]?=some (bn.buf v n sz e cs))
  (ht:gZ P t=some (ag,k)) (hlt:off < cs.length) (hp:uP ag k (cs.drop off)=some p) (hR:R p σ):AO P o ρ σ R S:=by
 refine AO.of_same hR fun w m ev hr hc=>?_; have h:=hr x (by simp [ho,Op.operands]); rw [hx] at h; simp only [dO] at h; obtain ⟨xs,hrow,hrep,_⟩:=hc.each _ (List.mem_of_getElem? hi); have hl:=hrep.length_eq; have hn:=hrow.1
 have hb:v.ownBlock=some v.blk:=by
  rcases hrow.2 with ⟨_,rfl⟩ | ⟨g,cap,cur,fz,rfl,_⟩
  · omega
  · rfl
 obtain ⟨u,h5,h6⟩:=uo ht hp (hrep.drop off) (b:=v.blk) (off:=off) fun i u hu=>by
  rw [List.getElem?_drop] at hu; have hlt2:=(List.getElem?_eq_some_iff.1 hu).1; rw [hrow.cell hb (by omega)]; exact hu
 exact ⟨u,by simp [execOp,ho,Instr.loadAt,h,Instr.sureAddr,h5],h6⟩
theorem AO.Sr {t:TypeId} {x y:Operand} {v:Value} {n sz e i off k:Nat} {ag:Bool} {cs new cs':List PV} {σ':List bn} (ho:o.op=.store t x y) (hx:ρ x=.val (.pointer (some ⟨v.blk,off,none⟩))) (hi:σ[i]?=some (bn.buf v n sz e cs))
  (ht:gZ P t=some (ag,k)) (hnew:(ρ y).Ai=some new) (hone:new.all PV.one=true) (hk:new.length=k) (h0:0 < new.length) (hfit:off + new.length≤cs.length) (hput:putCells cs off new=cs') (hset:xM σ i (.buf v n sz e cs')=some σ') (hR:R .undef σ'):AO P o ρ σ R S:=by
 obtain ⟨hnew,hok⟩:=yC hnew; have hnew:=hnew.symm; have hset:=JE hset; subst hset; subst hput; intro w m a K QC hr hc hK _; have h:=hr x (by simp [ho,Op.operands]); have hy:=hr y (by simp [ho,Op.operands]); rw [hx] at h; simp only [dO] at h; obtain ⟨xs,hrow,hrep,hm⟩:=hc.each _ (List.mem_of_getElem? hi); have hyl:=hy.cells hok; rw [hnew] at hyl; have hl:=hyl.length_eq; have hl2:=hrep.length_eq; have hn:=hrow.1; rcases hrow.2 with ⟨_,rfl⟩ | ⟨g,cap,cur,fz,rfl,hg,hfz,hnc,hcm,hcs,htake⟩
 · omega
 have hle:n * sz≤cap * sz:=Nat.mul_le_mul_right _ hnc; have hst:=um P g off e fz (a.eval y).cells.toList 0 cur w hg (by simp at hl ⊢; omega) (fun j hj=>by rcases hfz with h | h <;> omega) (hyl.oneCell hone); obtain ⟨_,hsz⟩:=vM ht w; have hsize:(a.eval y).cells.size=k:=by rw [←Array.length_toList,hl,hk]
 generalize hL:(a.eval y).cells.toList=L at *
 have hrun:(execOp a.eval o).run P w=.ok .skip (w.setRow g (cur.toList.take off ++ (L ++ cur.toList.drop (off + L.length))).toArray):=by
  simp only [execOp,ho,Instr.storeAt,h,Instr.sureAddr,storeVar,Sem.run_bind,Sem.run_pure,Result.andThen_ok,hsz,hsize,ne_eq,not_true_eq_false,if_false]; rw [show Go.Value.blk (.slice (some ⟨g,0,none⟩) n cap)=g from rfl,hL,hst]; simp
 have hxs:xs.take off ++ (L ++ xs.drop (off + L.length))=(cur.toList.take off ++ (L ++ cur.toList.drop (off + L.length))).take (n * sz):=by
  have hcl:cur.toList.length=cap * sz:=by simpa using hcs
  rw [←htake]; exact WS _ _ _ _ (by omega) (by omega)
 have hl':bD w m (putCells cs off new) (xs.take off ++ (L ++ xs.drop (off + L.length))):=by
  unfold putCells; refine (hrep.take off).append (hyl.append ?_); rw [hl]; exact hrep.drop _
 have hother:∀ k,k≠g→(w.setRow g (cur.toList.take off ++ (L ++ cur.toList.drop (off + L.length))).toArray).heap[k]?=w.heap[k]?:=fun k hk=>setRow_other w g k _ hk; have hmg:∀ off,¬ m g off:=hm g rfl; have hle':Le w m (w.setRow g (cur.toList.take off ++ (L ++ cur.toList.drop (off + L.length))).toArray) m:=fun c off' hco=>⟨hco,World.cell?_of_block (w:=w) (hother c (fun e=>by subst e; exact hmg off' hco))⟩
 have hsz':(cur.toList.take off ++ (L ++ cur.toList.drop (off + L.length))).length=cur.size:=by
  simp only [List.length_append,List.length_take,List.length_drop,Array.length_toList]; omega
 obtain ⟨k1,k2⟩:=Conc.write (b:=g) (r':=.buf (.slice (some ⟨g,0,none⟩) n cap) n sz e (putCells cs off new)) (w':=w.setRow g (cur.toList.take off ++ (L ++ cur.toList.drop (off + L.length))).toArray) hc hi rfl rfl hmg
  ⟨xs.take off ++ (L ++ xs.drop (off + L.length)),⟨by simp only [List.length_append,List.length_take,List.length_drop]; omega,.inr ⟨g,cap,_,fz,rfl,setRow_heap w g cur _ e _ hg,by
   rcases hfz with h | h
   · exact .inl h
   · right; rw [List.size_toArray,hsz']; exact h,hnc,hcm,by rw [List.size_toArray,hsz']; exact hcs,hxs.symm⟩⟩,bD.mono hle' _ _ hl',hm⟩ ⟨rfl,rfl,rfl⟩ (by simp [World.setRow]) hother
 unfold Oper.wp; rw [hrun]; exact hK .undef _ _ _ m hR trivial k1 k2
end
end Go.Abs
namespace Go.Abs
theorem Lc {α:Type} {f:α→List PV} {k:Nat} (hf:∀ x,(f x).length=k):∀ l:List α,(l.flatMap f).length=l.length * k
 | []=>by simp
 | x :: r=>by rw [List.flatMap_cons,List.length_append,hf,Lc hf r,List.length_cons,Nat.add_mul]; omega
end Go.Abs
namespace Go.Abs
variable [iF]
end Go.Abs
namespace Go.Abs
variable [iF]
open Go
theorem Less.nil {e:Env}:Less [] e:=fun _=>.inl rfl
theorem Less.add {e e':Env} {t:Nat} {p:PV} (h:e.get t=p) (k:Less e' e):Less ((t,p) :: e') e:=by
 intro u; simp only [Env.get]; cases hb:Nat.beq t u with
 | false=>exact k u
 | true=>
  have:=Nat.eq_of_beq_eq_true hb; subst this; exact .inr h.symm
section
variable {P : Program} {n : Nat} {ds : List Deferred} {L : List Oper}
def AD (P:Program) (n:Nat) (L:List Oper) (env:Env) (σ:List bn) (ds:List Deferred) (Q:Post):Prop:=
 ∀ w m a QC,oZ w m n env σ ds a→Acc n Q w m σ QC→wpAny P .any L.toArray QC L.toArray.size (Array.replicate L.toArray.size false) a {w with drawn:=w.drawn + 1}
theorem AD.UC {env:Env} {σ:List bn} {Q:Post} (k k2:Nat) (σ1 σ2:List bn) (J:(Nat→Bool)→Env→List bn→Prop) (ho:Hr L k k2=true) (hk:Nat.ble k k2=true) (hk2:Nat.ble k2 L.length=true)
  (hperm:σ.Perm (σ1 ++ σ2))
  (h:Ev P n L.toArray σ1 env (L.take k) fun env'=>J (fun i=>Nat.blt i k) env' σ2)
  (hI:∀ S S' e s,(∀ i,k≤i→i < k2→S i=S' i)→J S e s→J S' e s)
  (hT:∀ S e σ2 i o,J S e σ2→k≤i→i < k2→S i=false→(∀ j∈gK o,k≤j→S j=true)→L[i]?=some o→o.guard=none∧(∀ t,o.dst=some t→t < n)∧
   AO P o e.ev σ2 (fun p sZ=>J (fun j=>if i=j then true else S j) (Kz o.dst p e) sZ) (fun p sZ=>Q (.panic p) [] (σ1 ++ sZ) ds))
  (hend:∀ S e σ2,(∀ i,k≤i→i < k2→S i=true)→J S e σ2→AR P n L.toArray (L.drop k2) e (σ1 ++ σ2) ds Q):
  AD P n L env σ ds Q:=by
 intro w m a QC hs ha; have hk:k≤k2:=Nat.le_of_ble_eq_true hk; have hk2:k2≤L.length:=Nat.le_of_ble_eq_true hk2; have ho:=Nt hk ho; obtain ⟨d,p,h1,h2⟩:=Ev.facts h; rw [List.length_take,Nat.min_eq_left (by omega)] at h2; have uY:Trans w m σ {w with drawn:=w.drawn + 1} m σ:=⟨rfl,rfl,rfl,Nat.le_refl _,fun _ _ h=>⟨h,rfl⟩,fun _ _ _=>⟨rfl,fun _ h=>h⟩,fun _ h=>.inl h,fun _=>Nat.le_succ _⟩; have hc':Conc {w with drawn:=w.drawn + 1} m σ:=⟨fun r hr=>bn.pJ (hs.iX.each r hr) uY.le fun _ _=>⟨rfl,fun _ h=>h⟩,hs.iX.apart,hs.iX.wf,iF.mono uY.le hs.iX.rO⟩; have K6:Trans w m σ {w with drawn:=w.drawn + 1} m (σ1 ++ σ2):=uY.perm (.refl _) hperm; have h1':∀ i o,i < k→L[i]?=some o→o.dst=some (d i)∧d i < n∧sS P L.toArray (nS (fun _=>true) d p env i) σ1 o (p i):=fun i o hi hoi=>h1 i o (by rw [List.getElem?_take_of_lt hi]; exact hoi); have hd:∀ i o,i < k→L[i]?=some o→o.dst=some (d i)∧d i < n:=fun i o hi hoi=>⟨(h1' i o hi hoi).1,(h1' i o hi hoi).2.1⟩; refine TS 0 (fun _ _ _ _ h=>by omega) (ds:=ds) (d:=d) (σ1:=σ1) (Q:=Q) hk hk2 ho hd J hI hT hend _ _ a _ m (nS (fun _=>true) d p env k) σ2 (by simp) ?_ ?_ ?_ ?_ ?_ ?_ (ha.step K6)
 · simp
 ·
  intro j _ hj; simp [Array.getD,hj]
 ·
  intro i o hoi hl
  have Jk:i < L.length:=by
   rcases Nat.lt_or_ge i L.length with h | h
   · exact h
   · simp [List.getElem?_eq_none h] at hoi
  simp [Array.getD,Jk] at hl
 ·
  intro i o hi hoi _; obtain ⟨f1,f2,f3⟩:=h1' i o hi hoi
  have hother:∀ t,(o.dst=some t∨t∈readsOf L o)→∀ j,(i≤j∧t∈readsOf L o∨i + 1≤j)→j < k→d j≠t:=by
   intro t ht j hj hjk hdj; have hoj:L[j]?=some L[j]:=List.getElem?_eq_getElem (by omega); have e1:=(hd j _ hjk hoj).1; rw [hdj] at e1; by_cases e:i=j
   ·
    subst e; have e9:=Option.some.inj (hoi.symm.trans hoj); rw [←e9] at e1; rcases hj with ⟨_,hj⟩ | hj
    · exact ho.self i o t hi hoi e1 hj
    · omega
   ·
    obtain ⟨e2,e3⟩:=ho.apart i o j _ t hi hoi (by omega) hoj e e1; rcases ht with ht | ht
    · exact e2 ht
    ·
     have:=ho.before i o hoi j (e3 ht).2; omega
  have abC:(nS (fun _=>true) d p env k).get (d i)=p i:=by
   rw [iW (i:=i + 1) (by omega) fun j h4 h5 _=>hother (d i) (.inl f1) j (.inr h4) h5]; simp [nS,Env.get]
  rw [abC,if_neg (by omega)]; refine sS.O6 rfl f3 fun t ht=>?_; exact iW (by omega) fun j h4 h5 _=>hother t (.inr ht) j (.inl ⟨h4,ht⟩) h5
 ·
  refine hI _ _ _ _ (fun i hi hi2=>?_) h2; have Jk:i < L.length:=by omega
  have hb:Nat.blt i k=false:=by
   cases e:Nat.blt i k with
   | false=>rfl
   | true=>have:=nV.1 e; omega
  rw [hb]; simp [Array.getD,Jk]
 ·
  refine ⟨hs.size,hs.ds,fun t=>?_,hc'.perm hperm⟩; rw [qR]; split
  · simp [dO]
  ·
   rename_i hh; rw [iW (i:=0) (Nat.zero_le _)]
   · exact hs.env.mono uY.le t
   ·
    intro j _ hj _ hdj; apply hh; rw [List.any_eq_true]; have hjL:j < L.length:=by omega
    exact ⟨j,by simpa using hj,by simp [Array.getD,hjL,hdj]⟩
theorem AW.UC {env:Env} {σ:List bn} {Q:Post} {id:Nat} (k k2:Nat) (σ1 σ2:List bn) (J:(Nat→Bool)→Env→List bn→Prop) (hm:P.follows .mixedOrders=true) (ho:Hr L k k2=true) (hk:Nat.ble k k2=true) (hk2:Nat.ble k2 L.length=true)
  (hperm:σ.Perm (σ1 ++ σ2))
  (h:Ev P n L.toArray σ1 env (L.take k) fun env'=>J (fun i=>Nat.blt i k) env' σ2)
  (hI:∀ S S' e s,(∀ i,k≤i→i < k2→S i=S' i)→J S e s→J S' e s)
  (hT:∀ S e σ2 i o,J S e σ2→k≤i→i < k2→S i=false→(∀ j∈gK o,k≤j→S j=true)→L[i]?=some o→o.guard=none∧(∀ t,o.dst=some t→t < n)∧
   AO P o e.ev σ2 (fun p sZ=>J (fun j=>if i=j then true else S j) (Kz o.dst p e) sZ) (fun p sZ=>Q (.panic p) [] (σ1 ++ sZ) ds))
  (hend:∀ S e σ2,(∀ i,k≤i→i < k2→S i=true)→J S e σ2→AR P n L.toArray (L.drop k2) e (σ1 ++ σ2) ds Q):
  AW P n (.region id L.toArray true) env σ ds Q:=
 fun w m a QC hs ha=>wp_region_any hm (AD.UC k k2 σ1 σ2 J ho hk hk2 hperm h hI hT hend w m a QC hs ha)
end
end Go.Abs
namespace Go.Abs
variable [iF]
open Go Go.Ft
theorem Vg {α:Type} (a b c d:α):[a,b,c,d].Perm ([b,c,d] ++ [a]):=by
 show (a :: [b,c,d]).Perm ([b,c,d] ++ [a]); exact (List.perm_append_singleton a [b,c,d]).symm
section
variable {P : Program} {o : Oper} {ρ : Operand → PV} {σ : List bn} {R S : PV → List bn → Prop}
theorem AO.Sm {src dst t e:TypeId} {x:Operand} {b i n k:Nat} {cs:List PV} {j:TypeInfo} (ho:o.op=.convert src dst x) (hs:P.underlying src=some (.pointer t)) (hd:P.underlying dst=some .unsafePointer) (ht:P.info? t=some j) (hj:(j.size != 0)=true)
  (hx:ρ x=.val (.pointer (some ⟨b,k,none⟩))) (hi:σ[i]?=some (bn.kr b e cs)) (hn:cs.length=k + n + 1) (hR:R (.val (.pointer (some ⟨b,k,none⟩))) σ):AO P o ρ σ R S:=by
 refine AO.of_same hR fun w m ev hr hc=>?_; have h1:=hr x (by simp [ho,Op.operands]); rw [hx] at h1; simp only [dO] at h1; obtain ⟨vs,g1,g2,_⟩:=hc.kr hi; have hsh:w.shape? b=some (e,vs.length):=by simp [World.shape?,g1]
 have hl:=g2.length_eq; refine ⟨.pointer (some ⟨b,k,none⟩),?_,by simp only [dO]⟩; have:=Lib.run_to_unsafe w ⟨b,k,none⟩ hs hd ht (by simpa using hj) hsh (by show k < vs.length; omega); simp [execOp,ho,h1,this]
theorem AO.OX {src dst u e:TypeId} {x:Operand} {b i n k:Nat} {cs:List PV} {j:TypeInfo} (ho:o.op=.convert src dst x) (hs:P.underlying src=some .unsafePointer) (hd:P.underlying dst=some (.pointer u)) (hu:P.info? u=some j)
  (hx:ρ x=.val (.pointer (some ⟨b,k,none⟩))) (hi:σ[i]?=some (bn.kr b e cs)) (hn:cs.length=n) (hlies:liesAt P P.depth e (n / P.cellsOf e) k u 1=true) (hR:R (.val (.pointer (some ⟨b,k,none⟩))) σ):AO P o ρ σ R S:=by
 refine AO.of_same hR fun w m ev hr hc=>?_; have h1:=hr x (by simp [ho,Op.operands]); rw [hx] at h1; simp only [dO] at h1; obtain ⟨vs,g1,g2,_⟩:=hc.kr hi; have hsh:w.shape? b=some (e,n):=by simp [World.shape?,g1,←hn,g2.length_eq]
 refine ⟨.pointer (some ⟨b,k,none⟩),?_,by simp only [dO]⟩; have:=Lib.run_from_unsafe w ⟨b,k,none⟩ hs hd hu hsh hlies; simp [execOp,ho,h1,this]
theorem AO.Ml {c:Call} {x y:Operand} {pt it e eu:TypeId} {b:Nat} {v p:Value} {q:PV} {bs:List UInt8} (ho:o.op=.call c) (jy:c.callee=.builtin .unsafeString) (hargs:c.args=#[x,y]) (hty:c.argTypes=#[pt,it])
  (hp:P.underlying pt=some (.pointer eu)) (hce:P.cellsOf eu=1) (hσ:σ=[.row v bs.length 1 eu,.kr b e [q,.val p,.own v (bs.map fO)]]) (hx:ρ x=.val (.pointer (IQ v))) (hy:ρ y=.int .i64 bs.length)
  (hR:R (.str bs) [.kr b e [q,.val p,.own v (bs.map fO)]]):AO P o ρ σ R S:=by
 subst hσ; refine AO.of_run' fun w m ev hr hc=>?_; have h1:=hr x (by simp [ho,Op.operands,Call.operands,jy,hargs]); have h2:=hr y (by simp [ho,Op.operands,Call.operands,jy,hargs]); rw [hx] at h1; rw [hy] at h2; simp only [dO] at h1 h2; have htb:=hc.each (.kr b e [q,.val p,.own v (bs.map fO)]) (by simp); obtain ⟨vs,g1,g2,g2m⟩:=hc.each (.kr b e [q,.val p,.own v (bs.map fO)]) (by simp); obtain ⟨xs,hrow,MB⟩:=hc.each (.row v bs.length 1 eu) (by simp); have g2':=g2; simp only [bD] at g2; obtain ⟨v0,vs0,rfl,g0,v1,vs1,rfl,g3,v2,vs2,rfl,g4,rfl⟩:=g2; have hvv:v2=v:=by simp only [dO] at g4; exact g4.1
 rw [hvv] at g4; have hxs:=KH hrow (by simp) (vW bs) g4; rw [vX] at hxs; have hxs:=(qH bs xs).1 hxs; subst hxs; have hap:=hc.apart; simp only [ku,bn.fp,List.flatMap_cons,List.flatMap_nil,List.append_nil] at hap; have hbn:v.ownBlock≠some b:=fun h=>(List.nodup_append.1 hap).2.2 b (by simp [h]) b (by simp) rfl
 have ex:∀ r,(Builtin.unsafeString_ #[pt,it] o.type #[.pointer (IQ v),.int .i64 bs.length]).run P w=r→(execOp ev o).run P w=r.andThen fun v w'=>.ok (.value v) w':=by
  intro r hr'; simp [execOp,ho,resolve,jy,hargs,hty,invoke,builtin,h1,h2]; rw [←hr']
 have fin:∀ w',w'.os=w.os→w'.tape=w.tape→w'.output=w.output→w'.heap.size=w.heap.size→w'.drawn=w.drawn→(∀ k a,(w'.cell? ⟨k,a,none⟩)=w.cell? ⟨k,a,none⟩)→(∀ k,v.ownBlock≠some k→w'.heap[k]?=w.heap[k]?)→
   Conc w' m [.kr b e [q,.val p,.own v (bs.map fO)]]∧Trans w m [.row v bs.length 1 eu,.kr b e [q,.val p,.own v (bs.map fO)]] w' m [.kr b e [q,.val p,.own v (bs.map fO)]]:=by
  intro w' e1 e2 e3 e4 ed e5 e6; have hle:Le w m w' m:=fun c off h=>⟨h,e5 c off⟩; refine ⟨⟨fun r hr=>?_,by simp [ku,bn.fp],fun c off h=>by rw [e4]; exact hc.wf c off h,iF.mono hle hc.rO⟩,⟨e1,e2,e3,by omega,hle,fun c hcl hn=>⟨e6 c fun h=>hn ?_,fun _ h=>h⟩,fun c hcf=>.inl ?_,fun _=>Nat.le_of_eq ed.symm⟩⟩
  ·
   obtain rfl:=List.mem_singleton.1 hr; exact ⟨_,by rw [e6 b hbn]; exact g1,bD.mono hle _ _ g2',g2m⟩
  · simp [ku,bn.fp,h]
  ·
   simp only [ku,bn.fp,List.flatMap_cons,List.flatMap_nil,List.append_nil,List.mem_singleton] at hcf; simp [ku,bn.fp,hcf]
 by_cases h0:bs=[]
 ·
  subst h0; have hrun:=Lib.run_unsafeString_none (P:=P) w pt it o.type (IQ v); obtain ⟨k1,k2⟩:=fin w rfl rfl rfl rfl rfl (fun _ _=>rfl) (fun _ _=>rfl); exact ⟨.str [],_,.string .empty,w,m,hR,by rw [ex _ (by simpa using hrun)]; rfl,by simp only [dO]; rfl,k1,k2⟩
 ·
  rcases hrow.2 with ⟨_,hn⟩ | ⟨g,cap,cur,fz,rfl,hg,hfz,hnc,hcm,hcs,htake⟩
  · exact absurd (List.eq_nil_of_length_eq_zero hn) h0
  ·
   have hsh:w.shape? g=some (eu,cur.size):=by simp [World.shape?,hg]
   have hrun:=Lib.run_unsafeString_row (P:=P) w pt it o.type eu hp hce g cur.size hsh bs h0 (by omega) (by unfold maxLen at hcm; omega) (fun j x hj=>by
    rw [Addr.add_lit,Nat.zero_add,hrow.cell (b:=g) rfl (by have:=(List.getElem?_eq_some_iff.1 hj).1; omega)]
    simp [hj])
   have hz:bs.length≠0:=by simpa using h0
   have hsame:∀ k,k≠g→(w.freeze ⟨g,0,none⟩ bs.length).heap[k]?=w.heap[k]?:=by
    intro k hk; simp [World.freeze,hz,Array.getElem?_modify,Ne.symm hk]
   have hcell:∀ k a,(w.freeze ⟨g,0,none⟩ bs.length).cell? ⟨k,a,none⟩=w.cell? ⟨k,a,none⟩:=by
    intro k a; by_cases hk:k=g
    ·
     subst hk; simp [World.cell?,World.freeze,hz,Array.getElem?_modify,hg]
    · simp only [World.cell?,hsame k hk]
   obtain ⟨k1,k2⟩:=fin (w.freeze ⟨g,0,none⟩ bs.length) (by simp [World.freeze,hz]) (by simp [World.freeze,hz]) (by simp [World.freeze,hz]) (by simp [World.freeze,hz]) (by simp [World.freeze,hz]) hcell (fun k hk=>hsame k fun e=>hk (by subst e; rfl)); refine ⟨.str bs,_,.string ⟨bs.toArray⟩,_,m,hR,?_,by simp only [dO],k1,k2⟩; rw [ex _ hrun]; rfl
theorem AO.TL {e:TypeId} {cs:List PV} (ho:o.op=.alloc e) (hz:jY P e=some cs) (hR:∀ b,R (.val (.pointer (some ⟨b,0,none⟩))) (.kr b e cs :: σ)):AO P o ρ σ R S:=by
 refine AO.of_run' fun w m ev hr hc=>?_; obtain ⟨z,h1,h2⟩:=Av hz w; have hc':=pU hc (.cells z.cells e) (fun _=>False); have hle:Le w m (w.alloc (.cells z.cells e)) (fun b off=>m b off∨(b=w.heap.size∧False)):=(iZ (σ':=σ) hc (.cells z.cells e) (fun _=>False) fun b hb=>.inl hb).le
 have hnew:Conc (w.alloc (.cells z.cells e)) (fun b off=>m b off∨(b=w.heap.size∧False)) (.kr w.heap.size e cs :: σ):=by
  refine El ⟨z.cells.toList,?_,bD.mono hle _ _ (h2 m),fun off ho=>?_⟩ (by simp [bn.fp]) (fun b hb hm=>?_) hc'
  · rw [heap_alloc_new w _,Array.toArray_toList]
  ·
   rcases ho with ho | ⟨_,ho⟩
   · have:=hc.wf _ off ho; omega
   · exact ho
  ·
   simp [bn.fp] at hb; subst hb; have:=hc.Fg _ hm; omega
 refine ⟨_,_,.pointer (some ⟨w.heap.size,0,none⟩),_,_,hR w.heap.size,?_,by simp [dO],hnew,iZ hc _ _ fun b hb=>?_⟩
 · simp [execOp,ho,Instr.alloc,newVar,newRow,h1,go_sem]
 ·
  simp [ku,bn.fp] at hb ⊢; rcases hb with hb | hb
  · exact .inr hb
  · exact .inl hb
end
end Go.Abs
namespace Go.Abs
variable [iF]
open Go
section
variable {P : Program} {o : Oper} {ρ : Operand → PV} {σ : List bn} {R S : PV → List bn → Prop}
theorem AO.R4 {c:Call} {s x:Operand} {t tx e sz bytes:Nat} {v:Value} {l2:List (List PV)} {i n:Nat} {cs:List PV} (ho:o.op=.call c) (jy:c.callee=.builtin .append) (hargs:c.args=#[s,x]) (hty:c.argTypes=#[t,tx])
  (hs:ρ s=.val v) (hx:(ρ x).els=some l2) (hi:σ[i]?=some (bn.buf v n sz e cs)) (hf:iD P t e sz bytes) (htx:elemSize P tx=some sz)
  (h2:∀ y∈l2,y.length=sz) (h3:∀ y∈l2,y.all PV.one=true) (hb1:n + l2.length≤maxLen) (hb2:(n + l2.length) * bytes≤140737488355328)
  (hR:∀ v' σ',xM σ i (.buf v' (n + l2.length) sz e (cs ++ l2.flatten))=some σ'→R (.val v') σ'):AO P o ρ σ R S:=by
 refine AO.of_run' fun w m ev hr hc=>?_; have hsv:=hr s (by simp [ho,Op.operands,Call.operands,jy,hargs]); have hxv:=hr x (by simp [ho,Op.operands,Call.operands,jy,hargs]); rw [hs] at hsv; simp only [dO] at hsv; have hev:ev s=v:=hsv; obtain ⟨xs,hrow,hrep,hm0⟩:=hc.each _ (List.mem_of_getElem? hi); obtain ⟨inf,z,g1,g2,g3,g4,g5⟩:=hf.info; obtain ⟨ex,ix,q1,q2,q3⟩:=ny htx
 obtain ⟨news,hsrc,hnews⟩:∃ news,Src P sz tx (ev x) l2.length news w∧bD w m l2.flatten news:=by
  obtain ⟨a,cap,e1,e2,e3⟩:=hxv.els hx; by_cases hnil:l2=[]
  ·
   subst hnil; refine ⟨[],?_,by simpa using bD.nil⟩; rw [e1]; cases a with
   | none=>exact Src.ofNil w q1 _
   | some a=>exact Src.ofSlice w q1 a 0 cap [] (by simp) (by simp) (by simp)
  ·
   rcases e3 with e3 | ⟨b,off,sz',rfl,e4⟩
   · exact absurd e3 hnil
   ·
    have hsz':sz'=sz:=by
     cases l2 with
     | nil=>exact absurd rfl hnil
     | cons y ys=>
      simp only [jd] at e4; rw [←e4.1.1]; exact h2 y (by simp)
    subst hsz'; obtain ⟨vs,k1,k2,k3⟩:=z8 e4; refine ⟨vs,?_,k1⟩; rw [e1]; refine Src.ofSlice w q1 ⟨b,off,none⟩ _ cap vs k2 (fun j u hj=>by rw [Addr.add_lit]; exact (k3 j u hj).2) (k1.oneCell ?_); rw [List.all_eq_true]; intro p hp; rw [List.mem_flatten] at hp; obtain ⟨y,hy,hp⟩:=hp; exact List.all_eq_true.1 (h3 y hy) p hp
 subst g2 g3; obtain ⟨v',w',r1,r2,r3,_,r5⟩:=yG (ty:=o.type) hf.und g1 g4 g5 hrow hsrc (by omega) (by simpa using hb2); obtain ⟨p1,p2⟩:=wQ hi (.buf v' (n + l2.length) inf.size e (cs ++ l2.flatten)); have hc1:=hc.perm p1
 have hos:w'.os=w.os∧w'.tape=w.tape∧w'.output=w.output∧w.heap.size≤w'.heap.size:=by
  rcases r3 with ⟨_,hg⟩ | ⟨_,hg⟩ <;> exact ⟨hg.os,hg.tape,hg.output,hg.size⟩
 have hkeep:∀ b,b < w.heap.size→v.ownBlock≠some b→w'.heap[b]?=w.heap[b]?:=by
  intro b hb hne; rcases r3 with ⟨_,hg⟩ | ⟨_,hg⟩
  · exact hg.block b hb (fun h=>hne h.symm)
  · exact hg.block b hb (by simp)
 have hle:Le w m w' m:=fun b off hm=>⟨hm,World.cell?_of_block (w:=w) (hkeep b (hc.wf b off hm) (fun h=>hm0 b h off hm))⟩
 have hm':∀ b,v'.ownBlock=some b→∀ off,¬ m b off:=by
  intro b hb off hm; rcases r3 with ⟨h1,_⟩ | ⟨h1,_⟩
  · exact hm0 b (h1 ▸ hb) off hm
  ·
   rw [h1] at hb; cases hb; have:=hc.wf _ off hm; omega
 have hk:Conc w' m [.buf v' (n + l2.length) inf.size e (cs ++ l2.flatten)]:=
  ⟨fun r hr=>by rw [List.mem_singleton] at hr; subst hr; exact ⟨xs ++ news,r2,(bD.mono hle _ _ hrep).append (bD.mono hle _ _ hnews),hm'⟩,by cases h:v'.ownBlock <;> simp [ku,bn.fp,h],fun b off hm=>by have:=hc.wf b off hm; omega,iF.mono hle hc.rO⟩
 have ht:Trans w m [.buf v n inf.size e cs] w' m [.buf v' (n + l2.length) inf.size e (cs ++ l2.flatten)]:=by
  refine ⟨hos.1,hos.2.1,hos.2.2.1,hos.2.2.2,hle,fun b hb hn=>⟨hkeep b hb fun h=>hn (by simp [ku,bn.fp,h]),fun _ h=>h⟩,fun b hb=>?_,fun _=>r5⟩; simp [ku,bn.fp] at hb; rcases r3 with ⟨h1,_⟩ | ⟨h1,_⟩
  · left; simp [ku,bn.fp,←h1,hb]
  · right; rw [h1] at hb; simp at hb; omega
 obtain ⟨f1,f2⟩:=Conc.frame hc1 hk ht
 have hilt:i < σ.length:=by
  rcases Nat.lt_or_ge i σ.length with h | h
  · exact h
  · simp [List.getElem?_eq_none h] at hi
 have hset:∀ (σ:List bn) (i:Nat) (r:bn),i < σ.length→xM σ i r=some (σ.set i r):=by
  intro σ
  induction σ with
  | nil=>intro i r h; simp at h
  | cons a σ ih=>
   intro i r h; cases i with
   | zero=>simp [xM]
   | succ i=>simp only [xM,ih i r (by simpa using h),List.set_cons_succ]
 refine ⟨.val v',_,v',w',m,hR v' _ (hset σ i _ hilt),?_,by simp only [dO],f1.perm p2.symm,f2.perm p1.symm p2.symm⟩; simp only [execOp,ho,resolve,jy,hargs,hty,invoke,builtin,Sem.run_bind,Sem.run_pure,Result.andThen_ok]; simp only [List.map_toArray,List.map_cons,List.map_nil,hev,r1,Result.andThen_ok]
end
end Go.Abs
namespace Go.Abs
variable [iF]
open Go
def U6 {β:Type} (T:β→List bn→Prop) (pend:β→Option AX) (b:Bool) (s':β):Post:=fun x _ σ d=>d=[]∧(∃ τ,τ.Sublist σ∧T s' τ)∧
 match x with
 | .normal=>b=true∧pend s'=none
 | .ret=>b=false∧pend s'=some .ret
 | .exit id=>b=false∧pend s'=some (.exit id)
 | .panic _=>False
section
variable {P : Program} {n : Nat} {r : Option Nat} {env : Env} {σ : List bn} {ds : List Deferred} {Q : Post} {all : Array Oper} {rest : List Oper} {o : Oper}
theorem Bw.aan {t l:Nat} {c:Call} {K0:List bn→Prop} {p:PV} (hnd:uN o=true) (hg:o.guard=none) (hd:o.dst=some t) (ht:Nat.blt t n=true) (ho:o.op=.call c) (Ic:Operand) (jy:c.callee=.value Ic)
  (hf:env.ev Ic=.val (.func (.yield l) #[] #[])) (h:AY P l ((c.args.toList.map env.ev).map PV.weak) σ (fun out s=>out=.ret p∧K0 s))
  (hk:∀ s,K0 s→Bw P r n all rest ((t,p) :: env) s ds Q):Bw P r n all (o :: rest) env σ ds Q:=by
 intro w m a QC hs ha; have ht:t < n:=Nat.le_of_ble_eq_true ht; refine wpListIn_plain hg fun K hK=>⟨fun _ _=>trivial,?_⟩; rw [Oper.semAt_eq _ _ _ (E5 hnd)]; have hcv:=hs.env.ev Ic; rw [hf] at hcv; simp only [dO] at hcv; have hargs:bD w m (c.args.toList.map env.ev) (c.args.toList.map a.eval):=bD.map fun x _=>hs.env.ev x; obtain ⟨fn,tmps,assign,body,h1,h2⟩:=h w m _ hs.iX hargs.weak
 have hrun:(execOp a.eval o).run P w=.ok (.round l fn tmps assign body) w:=by
  unfold execOp; simp only [ho,resolve,jy,hcv,Deferred.ofValue,invoke,Sem.run_bind,Sem.run_pure,Result.andThen_ok]; rw [←h1]; congr 2; apply Array.ext'; simp
 rw [hrun]; simp only [Oper.uponIn]; refine ⟨fun hh=>by simp [R6,Fence.wide] at hh,?_⟩; refine RoundIn.mono (show RoundIn (R6 r) (0 - 1) P l fn tmps assign body w _ from h2) ?_; rintro e w' ⟨out,s,m',⟨rfl,hK0⟩,⟨v,rfl,hv⟩,hc,htr⟩; exact hK _ _ (hk s hK0 w' m' _ QC (hs.put hd ht hv hc htr.le) (ha.step htr))
theorem Bw.run {j u:Nat} {want:Bool} {oj:Oper} (hg:o.guard=some (j,want)) (hj:all[j]?=some oj) (hu:oj.dst=some u) (hb:env.get u=.bool want)
  (h:Bw P r n all ({o with guard:=none} :: rest) env σ ds Q):Bw P r n all (o :: rest) env σ ds Q:=by
 intro w m a QC hs ha; have h':=h w m a QC hs ha; unfold wpListIn at h' ⊢; rw [if_pos (by simp [Region.wanted])] at h'; rw [if_pos (by simp [Region.wanted,hg,xG hs hj hu hb])]; exact h'
theorem Bw.drop1 {l:List Oper} {x:bn} (h:Bw P r n all l env σ ds Q):Bw P r n all l env (x :: σ) ds Q:=
 fun w m a QC qd ha=>h w m a QC ⟨qd.size,qd.ds,qd.env,qd.iX.sub (List.sublist_cons_self x σ)⟩ (ha.step (Trans.sub (Trans.refl w m (x :: σ)) (List.sublist_cons_self x σ)))
theorem Bw.is {l:List Oper} {b want:Bool} (u:Nat) (h:b=want) (hu:env.get u=.bool b) (hr:Bw P r n all l ((u,.bool want) :: env) σ ds Q):Bw P r n all l env σ ds Q:=by
 subst h; intro w m a QC hs ha; refine hr w m a QC ⟨hs.size,hs.ds,fun t=>?_,hs.iX⟩ ha; simp only [Env.get]; cases e:Nat.beq u t with
 | false=>exact hs.env t
 | true=>have:=hs.env u; rw [hu,Nat.eq_of_beq_eq_true e] at this; exact this
theorem Pv {md:Region.Mode} {ops:Array Oper} {Q:Exit→Act→World→Prop} (hno:¬ LetsOut Q) (hd:∀ o∈ops.toList,uN o=true):∀ (fuel:Nat) (listed:Array Bool) (a:Act) (w:World),wpAny P md ops Q fuel listed a w→wpAnyIn (R6 r) 0 P md ops Q fuel listed a w
 | 0,_,_,_,h=>h
 | fuel + 1,listed,a,w,h=>by
  refine ⟨h.1,fun i hi=>?_⟩; have h2:=h.2 i hi; unfold wpOp at h2; unfold wpOpIn; cases ho:ops[i]? with
  | none=>rw [ho] at h2; exact Pv hno hd fuel _ a w h2
  | some o=>
   rw [ho] at h2; have hdo:=hd o (by have:=Array.mem_of_getElem? ho; simpa using this); simp only at h2 ⊢; split
   ·
    rename_i hw; rw [if_pos hw] at h2; rcases h2 with h2 | ⟨_,h2⟩
    · exact Oper.wpIn_mono (fun a w h=>Pv hno hd fuel _ a w h) (OH hdo h2)
    · exact (hno h2).elim
   ·
    rename_i hw; rw [if_neg hw] at h2; exact ⟨fun _ _=>trivial,Pv hno hd fuel _ _ w h2⟩
theorem wE.drawn {id:Nat} {L:List Oper} (hm:P.follows .mixedOrders=true) (hd:(L.all uN)=true) (h:AD P n L env σ ds Q):wE P r n (.region id L.toArray true) env σ ds Q:=by
 intro w m a QC hs ha; rw [List.all_eq_true] at hd; refine wpIn_mono (wpIn_region_any hm (Pv (Bb QC) (by simpa using hd) _ _ _ _ (h w m a _ hs ha.KM))) fun e a w h=>h.2
end
section
variable {P : Program} {n : Nat} {env : Env} {σ : List bn} {ds : List Deferred} {Q : Post}
theorem AW.SC {β X:Type} {g:Operand} {ps:Array Tmp} {assign body:Code} {gf:Nat} {caps:List PV} (hg:env.ev g=.fn gf caps) (hp:bT P gf=true)
  (enc:X→List PV) (henc:∀ x,(enc x).length=ps.toList.length) (hps:∀ t∈ps.toList,t < n) (y:β→X→Option (Bool × β)) (T:β→List bn→Prop) (pend:β→Option AX) {s0 s1:β} (hσ:T s0 σ) (hs0:pend s0=none)
  (hit:∀ (l:Nat) (T':β→List bn→Prop),(∀ s x b s' τ,y s x=some (b,s')→T' s τ→AY P l (enc x) τ (fun out σ'=>out=.ret (.bool b)∧T' s' σ'))→
   ∀ τ,T' s0 τ→AC P gf (.val (.func (.yield l) #[] #[]) :: caps) τ (fun out σ'=>(∃ p,out=.ret p)∧T' s1 σ'))
  (round:∀ l s x b s' τ,y s x=some (b,s')→T s τ→pend s=none∧
   wE P (some l) n assign (Me ps.toList (enc x) env) τ [] (fun ax e σ' d=>ax=.normal∧wE P (some l) n body e σ' d (U6 T pend b s')))
  (hq:∀ D τ,T s1 τ→(match pend s1 with | none=>Q .normal env | some .ret=>Q .ret env | some (.exit id)=>Q (.exit id) env | some _=>fun _ _=>False) (τ ++ [bn.obj D (.deferred (some []))]) (rZ D :: ds)):
  AW P n (.rangeFunc g ps assign body) env σ ds Q:=by
 intro w m a QC hs ha; refine (wpIn_wide (n:=0)).1 (wpIn_rangeFunc fun fn _=>?_); have hge:=hs.env.ev g; rw [hg] at hge; simp only [dO] at hge; obtain ⟨cs,hcv,hcs⟩:=hge; have c1:=yD hs.iX (.deferred (some []))
 have t1:=iZ (σ':=bn.obj w.heap.size (.deferred (some [])) :: σ) hs.iX (.deferred (some [])) (fun _=>False) (fun b hb=>by
  simp [ku,bn.fp] at hb ⊢; rcases hb with hb | hb
  · exact .inr hb
  · exact .inl hb)
 have c2:=yD c1 (.loop (rT fn a.tmps ps assign body w.heap.size none))
 have t2:=iZ (σ':=.obj (w.alloc (.deferred (some []))).heap.size (.loop (rT fn a.tmps ps assign body w.heap.size none)) :: bn.obj w.heap.size (.deferred (some [])) :: σ) c1 (.loop (rT fn a.tmps ps assign body w.heap.size none)) (fun _=>False) (fun b hb=>by
  simp [ku,bn.fp] at hb ⊢; rcases hb with hb | hb | hb
  · exact .inr hb
  · exact .inl (.inl hb)
  · exact .inl (.inr hb))
 have hsz:(w.alloc (.deferred (some []))).heap.size=w.heap.size + 1:=by simp
 rw [hsz] at c2 t2; generalize hW:(w.alloc (.deferred (some []))).alloc (.loop (rT fn a.tmps ps assign body w.heap.size none))=W at c2 t2; generalize hM:(fun b off=>(m b off∨b=w.heap.size∧False)∨b=w.heap.size + 1∧False)=M at c2 t2; have tW:=t1.trans t2; let rec' (s:β):Loop:=rT fn a.tmps ps assign body w.heap.size (pend s); let R' (s:β):List bn:=[bn.obj (w.heap.size + 1) (.loop (rec' s)),bn.obj w.heap.size (.deferred (some [])),bn.since w m]; let T' (s:β) (τ:List bn):Prop:=∃ τ0,T s τ0∧τ=τ0 ++ R' s
 have hT0:(σ ++ R' s0).Perm (.obj (w.heap.size + 1) (.loop (rT fn a.tmps ps assign body w.heap.size none)) :: bn.obj w.heap.size (.deferred (some [])) :: σ ++ [bn.since w m]):=by
  simp only [R',rec',hs0]; refine List.perm_append_comm.trans ?_; simp only [List.cons_append,List.nil_append]; refine List.Perm.cons _ (List.Perm.cons _ ?_); exact (List.perm_append_comm (l₁:=[bn.since w m]) (l₂:=σ))
 have cT:Conc W M (σ ++ R' s0):=by
  refine Conc.perm hT0.symm ?_; refine ⟨fun r hr=>?_,?_,c2.wf,c2.rO⟩
  ·
   rcases List.mem_append.1 hr with h | h
   · exact c2.each r h
   ·
    rw [List.mem_singleton] at h; subst h; exact tW.le
  ·
   have:=c2.apart; simpa [ku,bn.fp] using this
 have tT:Trans w m σ W M (σ ++ R' s0):=by
  refine Trans.perm (.refl _) hT0.symm ⟨tW.os,tW.tape,tW.output,tW.size,tW.le,tW.keep,fun b hb=>tW.fresh b ?_,tW.drawn⟩; simpa [ku,bn.fp] using hb
 refine ⟨w.heap.size + 1,[rZ w.heap.size],W,{target:=.fn (.func gf) cs.toArray,args:=#[.func (.yield (w.heap.size + 1)) #[] #[]]},W,gf,
  #[.func (.yield (w.heap.size + 1)) #[] #[]] ++ cs.toArray,W,?_,?_,fun _ _=>trivial,?_,fun hh=>by simp [Fence.wide] at hh,?_⟩
 · rw [←hW]; exact run_enterLoop_outer _ _ _ _ _
 ·
  simp only [resolve,hcv]; simp [go_sem]
 ·
  simp only [invoke]; rw [uq hp]
 ·
  refine callsIn_wide.2 ?_; have hac:=hit (w.heap.size + 1) T' ?_ _ ⟨σ,hσ,rfl⟩
  ·
   have hcs':bD W M (.val (.func (.yield (w.heap.size + 1)) #[] #[]) :: caps) (.func (.yield (w.heap.size + 1)) #[] #[] :: cs):=bD.cons (by simp [dO]) (bD.mono tW.le _ _ hcs); have:=hac W M _ cT hcs'; rw [show (Value.func (.yield (w.heap.size + 1)) #[] #[] :: cs).toArray=#[.func (.yield (w.heap.size + 1)) #[] #[]] ++ cs.toArray from by apply Array.ext'; simp] at this; refine this.mono ?_; rintro e w' ⟨out,σ',m',⟨⟨p,rfl⟩,τ1,ad9,rfl⟩,⟨v,rfl,hv⟩,hc',ht'⟩; have hi:(τ1 ++ R' s1)[τ1.length]?=some (.obj (w.heap.size + 1) (.loop (rec' s1))):=by simp [R']
   obtain ⟨hb,_⟩:=hc'.each _ (List.mem_of_getElem? hi); obtain ⟨k1,k2⟩:=tO (o':=.loop {rec' s1 with state:=.exhausted}) hc' hi
   have hsub:(τ1 ++ [bn.obj w.heap.size (.deferred (some []))]).Sublist ((τ1 ++ R' s1).set τ1.length (.obj (w.heap.size + 1) (.loop {rec' s1 with state:=.exhausted}))):=by
    simp only [R']; rw [List.set_append_right _ _ (Nat.le_refl _),Nat.sub_self]; refine List.Sublist.append (List.Sublist.refl _) ?_; simp only [List.set_cons_zero]; exact .cons _ (.cons_cons _ (.cons _ .slnil))
   have k3:=k1.sub hsub; have k4:=(tT.trans (ht'.trans k2)).sub hsub
   have hse:∀ todo,oZ (w'.putObj (w.heap.size + 1) (.loop {rec' s1 with state:=.exhausted})) m' n env (τ1 ++ [bn.obj w.heap.size (.deferred (some []))]) (rZ w.heap.size :: ds) {a with defers:=todo}∨todo≠[rZ w.heap.size] ++ a.defers:=by
    intro todo; by_cases e:todo=[rZ w.heap.size] ++ a.defers
    ·
     subst e; exact .inl ⟨hs.size,by simp [hs.ds],hs.env.mono k4.le,k3⟩
    · exact .inr e
   have hse:=(hse ([rZ w.heap.size] ++ a.defers)).resolve_right (by simp); refine ⟨codeOf (pend s1),w'.putObj (w.heap.size + 1) (.loop {rec' s1 with state:=.exhausted}),?_,?_⟩
   ·
    have:=run_endLoop (P:=P) (w:=w') (l:=w.heap.size + 1) (r:=rec' s1) hb (by simp only [rec',rT]; split <;> simp); exact this
   ·
    have Td:=hq w.heap.size τ1 ad9; cases hpe:pend s1 with
    | none=>
     rw [hpe] at Td; exact ha .normal _ env _ _ _ _ m' Td rfl hse k4
    | some x=>
     rw [hpe] at Td; cases x with
     | ret=>exact wpIn_ret (ha .ret _ env _ _ _ _ m' Td rfl hse k4)
     | exit id=>exact wpIn_exit (ha (.exit id) _ env _ _ _ _ m' Td rfl hse k4)
     | normal=>exact Td.elim
     | panic p=>exact Td.elim
  ·
   
   rintro s x b s' _ hy ⟨τ,hτ,rfl⟩ w1 m1 vs hc1 hv1; obtain ⟨abv,Tc⟩:=round (w.heap.size + 1) s x b s' τ hy hτ; have hi:(τ ++ R' s)[τ.length]?=some (.obj (w.heap.size + 1) (.loop (rec' s))):=by simp [R']
   obtain ⟨hb1,_⟩:=hc1.each _ (List.mem_of_getElem? hi); have Ta:Le w m w1 m1:=hc1.each (.since w m) (by simp [R']); have hvl:=hv1.length_eq
   have hsz':vs.toArray.size=(rec' s).params.size:=by
    simp only [rec',rT,List.size_toArray]; rw [hvl,henc x]; simp
   have hyr:=run_yield (P:=P) hb1 hsz'; refine ⟨_,_,_,_,hyr,?_⟩; refine roundIn_of_wpIn trivial ?_
   have XL:((rec' s).params.zip vs.toArray).foldl (fun tmps (t,a)=>tmps.setIfInBounds t a) (rec' s).tmps=(ps.toList.zip vs).foldl (fun t (p,v)=>t.setIfInBounds p v) a.tmps:=by
    simp only [rec',rT]; rw [←Array.foldl_toList,Array.toList_zip]
   obtain ⟨hb2,hb3⟩:=G9 (n:=n) (ts:=ps.toList) hs.size (fun t ht=>hps t ht) hv1 (hs.env.mono Ta); have hA:=wE.frame (τ:=[bn.obj (w.heap.size + 1) (.loop (rec' s)),bn.obj w.heap.size (.deferred (some [])),bn.since w m]) Tc; refine hA w1 m1 _ _ ⟨?_,rfl,?_,hc1⟩ ?_
   · rw [XL]; exact hb3
   · rw [XL]; exact hb2
   ·
    rintro ax ex e2 σ2 d2 a2 w2 m2 ⟨JR,rfl,rfl,hbody⟩ hx hs2 ht2; cases hx; have hi2:(JR ++ [bn.obj (w.heap.size + 1) (.loop (rec' s)),bn.obj w.heap.size (.deferred (some [])),bn.since w m])[JR.length]?=some (.obj (w.heap.size + 1) (.loop (rec' s))):=by simp
    obtain ⟨hb4,_⟩:=hs2.iX.each _ (List.mem_of_getElem? hi2); have K7:(rec' s).state=.ready:=by simp [rec',rT,abv,codeOf]
    refine ⟨_,run_beginRound hb4 K7,?_⟩; obtain ⟨k1,k2⟩:=tO (o':=.loop {rec' s with state:=.busy}) hs2.iX hi2
    have hset:(JR ++ [bn.obj (w.heap.size + 1) (.loop (rec' s)),bn.obj w.heap.size (.deferred (some [])),bn.since w m]).set JR.length (.obj (w.heap.size + 1) (.loop {rec' s with state:=.busy}))=
      JR ++ [bn.obj (w.heap.size + 1) (.loop {rec' s with state:=.busy}),bn.obj w.heap.size (.deferred (some [])),bn.since w m]:=by
     rw [List.set_append_right _ _ (Nat.le_refl _),Nat.sub_self]; rfl
    rw [hset] at k1 k2; have hB:=wE.frame (τ:=[bn.obj (w.heap.size + 1) (.loop {rec' s with state:=.busy}),bn.obj w.heap.size (.deferred (some [])),bn.since w m]) hbody; refine hB _ m2 a2 _ ⟨hs2.size,hs2.ds,hs2.env.mono k2.le,k1⟩ ?_; rintro ax3 ex3 e3 σ3 d3 a3 w3 m3 ⟨GR,rfl,hd3,⟨τ2,XM,ad8⟩,hend⟩ hx3 hs3 ht3; have hi3:(GR ++ [bn.obj (w.heap.size + 1) (.loop {rec' s with state:=.busy}),bn.obj w.heap.size (.deferred (some [])),bn.since w m])[GR.length]?=some (.obj (w.heap.size + 1) (.loop {rec' s with state:=.busy})):=by simp
    obtain ⟨hb5,_⟩:=hs3.iX.each _ (List.mem_of_getElem? hi3)
    have fin:∀ jump:Option Code,jump=codeOf (pend s')→b=jump.isNone→∃ v w',(Instr.endRound (w.heap.size + 1) jump).run P w3=.ok v w'∧∃ out σ' m',(out=fq.ret (.bool b)∧T' s' σ')∧zn w' m' out (.returned v)∧Conc w' m' σ'∧Trans w1 m1 (τ ++ R' s) w' m' σ':=by
     intro jump hj hbj; refine ⟨_,_,run_endRound jump hb5,.ret (.bool b),τ2 ++ R' s',m3,⟨rfl,τ2,ad8,rfl⟩,⟨_,rfl,by simp [dO,hbj]⟩,?_⟩; obtain ⟨q1,q2⟩:=tO (o':=.loop {rec' s with state:=if jump.isNone then .ready else .done,pending:=jump}) hs3.iX hi3
     have hrec:({rec' s with state:=if jump.isNone then .ready else .done,pending:=jump}:Loop)=rec' s':=by
      simp only [rec',rT,hj]
     have XO:(GR ++ [bn.obj (w.heap.size + 1) (.loop {rec' s with state:=.busy}),bn.obj w.heap.size (.deferred (some [])),bn.since w m]).set GR.length (.obj (w.heap.size + 1) (.loop {rec' s with state:=if jump.isNone then .ready else .done,pending:=jump}))=
       GR ++ [bn.obj (w.heap.size + 1) (.loop (rec' s')),bn.obj w.heap.size (.deferred (some [])),bn.since w m]:=by
      rw [List.set_append_right _ _ (Nat.le_refl _),Nat.sub_self,hrec]; rfl
     rw [XO] at q1 q2; have hsub:(τ2 ++ R' s').Sublist (GR ++ [bn.obj (w.heap.size + 1) (.loop (rec' s')),bn.obj w.heap.size (.deferred (some [])),bn.since w m]):=List.Sublist.append XM (List.Sublist.refl _); exact ⟨q1.sub hsub,(ht2.trans (k2.trans (ht3.trans q2))).sub hsub⟩
    cases ax3 with
    | normal=>
     cases hx3; obtain ⟨h5,h6⟩:=hend; exact fin none (by rw [h6]; rfl) (by rw [h5]; rfl)
    | ret=>
     cases hx3; obtain ⟨h5,h6⟩:=hend; exact fin (some .ret) (by rw [h6]; rfl) (by rw [h5]; rfl)
    | exit id=>
     cases hx3; obtain ⟨h5,h6⟩:=hend; exact fin (some (.exit id)) (by rw [h6]; rfl) (by rw [h5]; rfl)
    | panic p=>exact hend.elim
end
def abP (P:Program) (rs:List ResultVar) (R:fq→List bn→Prop):Post
 | .normal,e,s,d | .ret,e,s,d=>(d=[]∧∃ ps,zm P e s rs ps∧∃ s',s'.Sublist s∧R (.ret (jU (ps.map PV.weak))) s')∨∃ D s1,d=[rZ D]∧s=s1 ++ [.obj D (.deferred (some []))]∧∃ ps,zm P e s1 rs ps∧∃ s',s'.Sublist s1∧R (.ret (jU (ps.map PV.weak))) s'
 | _,_,_,_=>False
theorem AC.SK {P:Program} {f:FuncId} {fn:Func} {c:Code} {args:List PV} {σ:List bn} {R:fq→List bn→Prop} (n:Nat) (rs:List ResultVar) (ts:List Nat) {env:Env}
  (hf:P.funcs[f]?=some fn) (hb:fn.body=some c) (hn:fn.ntmps=n) (hl:Nat.ble args.length n=true) (hrs:fn.results.toList=rs) (Fb:settle ts (vY 0 args)=some env)
  (h:AW P n c env σ [] (abP P rs R)):AC P f args σ R:=by
 intro w m vs hc hv; have hl:args.length≤n:=Nat.le_of_ble_eq_true hl; have hvl:=hv.length_eq; refine callsIn_wide.1 (callsIn_of_wp_marks (n:=0) hf hb trivial (wpIn_wide.2 ?_)); refine h w m _ _ ⟨?_,rfl,?_,hc⟩ ?_
 · simp [hvl,hn]; omega
 ·
  have:=vL (List.replicate (fn.ntmps - vs.toArray.size) Go.undef) [] hv; rw [show vs.toArray ++ Array.replicate (fn.ntmps - vs.toArray.size) Go.undef=([] ++ vs ++ List.replicate (fn.ntmps - vs.toArray.size) Go.undef).toArray from by simp]; exact zk.settle Fb this
 ·
  intro x ex env' σ' ds' a' w' m' hq hx hs ht
  have hend:∀ D s1,ds'=[rZ D]→σ'=s1 ++ [.obj D (.deferred (some []))]→∀ ps s',zm P env' s1 rs ps→s'.Sublist s1→R (.ret (jU (ps.map PV.weak))) s'→
    LeavesInM Fence.wide 0 P fn a'.tmps (fun e w'=>∃ out σ' m',R out σ'∧zn w' m' out e∧Conc w' m' σ'∧Trans w m σ w' m' σ') a'.defers .returning w':=by
   intro D s1 hd hs1 ps s' h1 hsub h2; subst hs1; rw [hs.ds,hd]; have hi:(s1 ++ [bn.obj D (.deferred (some []))])[s1.length]?=some (.obj D (.deferred (some []))):=by simp
   obtain ⟨hbD,_⟩:=hs.iX.each _ (List.mem_of_getElem? hi); obtain ⟨k1,k2⟩:=tO (o':=.deferred Option.none) hs.iX hi
   have hset:(s1 ++ [bn.obj D (.deferred (some []))]).set s1.length (.obj D (.deferred Option.none))=s1 ++ [.obj D (.deferred Option.none)]:=by
    rw [List.set_append_right _ _ (Nat.le_refl _),Nat.sub_self]; rfl
   rw [hset] at k1 k2; refine ⟨by simp,.inl ⟨D,_,rfl,run_takeDeferred hbD,?_⟩⟩; have k3:=k1.left; obtain ⟨v,hv1,hv2⟩:=FM hrs (hs.env.mono k2.le) k3 h1; refine ⟨v,hv1,.ret _,s',m',h2,⟨v,rfl,hv2⟩,k3.sub hsub,?_⟩; exact (ht.trans k2).sub (hsub.trans (List.sublist_append_left _ _))
  have Z8:ds'=[]→∀ ps s',zm P env' σ' rs ps→s'.Sublist σ'→R (.ret (jU (ps.map PV.weak))) s'→
    LeavesInM Fence.wide 0 P fn a'.tmps (fun e w'=>∃ out σ' m',R out σ'∧zn w' m' out e∧Conc w' m' σ'∧Trans w m σ w' m' σ') a'.defers .returning w':=by
   intro hd ps s' h1 hsub h2; rw [hs.ds,hd]; obtain ⟨v,hv1,hv2⟩:=FM hrs hs.env hs.iX h1; exact ⟨v,hv1,.ret _,s',m',h2,⟨v,rfl,hv2⟩,hs.iX.sub hsub,ht.sub hsub⟩
  cases x with
  | normal=>
   cases hx; rcases hq with ⟨hd,ps,h1,s',hsub,h2⟩ | ⟨D,s1,hd,hs1,ps,h1,s',hsub,h2⟩
   · exact Z8 hd ps s' h1 hsub h2
   · exact hend D s1 hd hs1 ps s' h1 hsub h2
  | ret=>
   cases hx; rcases hq with ⟨hd,ps,h1,s',hsub,h2⟩ | ⟨D,s1,hd,hs1,ps,h1,s',hsub,h2⟩
   · exact Z8 hd ps s' h1 hsub h2
   · exact hend D s1 hd hs1 ps s' h1 hsub h2
  | exit id=>exact hq.elim
  | panic p=>exact hq.elim
theorem bD.JG {w:World} {m:jE} {v:Value} {l:List (List PV)}:∀ (k:Nat) (cs:List PV) (vs:List Value),cs[k]?=some (.own v l)→bD w m cs vs→bD w m (cs.set k (.val v)) vs
 | 0,[],_,h,_=>by simp at h
 | k + 1,[],_,h,_=>by simp at h
 | 0,c :: cs,vs,h,hr=>by
  simp only [List.getElem?_cons_zero,Option.some.injEq] at h; subst h; simp only [bD] at hr; obtain ⟨u,vs',rfl,h1,h2⟩:=hr; simp only [dO] at h1; exact bD.cons (by simp only [dO]; exact h1.1) h2
 | k + 1,c :: cs,vs,h,hr=>by
  simp only [bD] at hr; obtain ⟨u,vs',rfl,h1,h2⟩:=hr; exact bD.cons h1 (bD.JG k cs vs' (by simpa using h) h2)
end Go.Abs
namespace Go.Abs
variable [iF]
open Go Go.Proofs Go.Shelf
end Go.Abs
namespace Go.Abs
variable [iF]
open Go Go.Ft
def ZI (a:List UInt8):List PV:=[.int .u8 ((a.getD 0 0).toNat:Int),.int .u8 ((a.getD 1 0).toNat:Int)]
def UR (n:BitVec 64):List PV:=[.int .u64 (n.toNat:Int)]
section
variable {P : Program} {o : Oper} {ρ : Operand → PV} {σ : List bn} {R S : PV → List bn → Prop} {α : Type}
theorem Fa {L:List α} {j:Int} {c:α} (h:idx L j=some c):j.toNat < L.length:=by
 obtain ⟨h0,h1⟩:=uW h; rcases Nat.lt_or_ge j.toNat L.length with h3 | h3
 · exact h3
 · rw [List.getElem?_eq_none h3] at h1; cases h1
theorem AO.u64_andNot {t u:TypeId} {x y:Operand} {p q:Int} (a b:BitVec 64) (ho:o.op=.binOp .andNot t x y u) (hx:ρ x=.int .u64 p) (hy:ρ y=.int .u64 q) (ha:p=(a.toNat:Int)) (hb:q=(b.toNat:Int))
  (hR:R (.int .u64 ((a &&& ~~~ b).toNat:Int)) σ):AO P o ρ σ R S:=by
 refine AO.I4 (p:=.int .u64 (IntKind.u64.wrap (BitVec.ofInt IntKind.u64.bits p &&& ~~~ BitVec.ofInt IntKind.u64.bits q).toNat)) (by simp only [Vf,ho,hx,hy]; rfl) ?_ hR
 have h1:IntKind.u64.wrap ((BitVec.ofInt IntKind.u64.bits p &&& ~~~ BitVec.ofInt IntKind.u64.bits q).toNat:Int)=((BitVec.ofInt 64 p &&& ~~~ BitVec.ofInt 64 q).toNat:Int):=by
  rw [Sj]; exact congrArg (fun n:Nat=>(n:Int)) (congrArg BitVec.toNat (gW (n:=64) _))
 rw [h1,ha,hb,gW,gW]
theorem AO.P6 {t u:TypeId} {x y:Operand} {p q:Int} (a b:BitVec 64) {v:BitVec 64} (hv:some (a &&& ~~~ b)=some v) (ho:o.op=.binOp .andNot t x y u) (hx:ρ x=.int .u64 p) (hy:ρ y=.int .u64 q) (ha:p=(a.toNat:Int)) (hb:q=(b.toNat:Int))
  (hR:R (.int .u64 (v.toNat:Int)) σ):AO P o ρ σ R S:=AO.u64_andNot a b ho hx hy ha hb (by cases hv; exact hR)
theorem AO.oN {t n b off:Nat} {x i:Operand} {k:IntKind} {j:Int} {L:List α} {c:α} (h:idx L j=some c) (ho:o.op=.indexAddr t x i) (ha:vH P t=some (n,1)) (hx:ρ x=.val (.pointer (some ⟨b,off,none⟩))) (hi:ρ i=.int k j)
  (hL:L.length=n) (hR:R (.val (.pointer (some ⟨b,off + j.toNat,none⟩))) σ):AO P o ρ σ R S:=
 AO.EH ho ha hx hi (uW h).1 (hL ▸ Fa h) (by rw [Nat.mul_one]; exact hR)
theorem KX {f:α→PV} (d:α) {n:Nat}:∀ {l:List α},l.length=n→l.map f=(List.range n).map fun i=>f (l.getD i d):=by
 intro l h; subst h; apply List.ext_getElem
 · simp
 ·
  intro i h1 h2; simp at h1; simp [List.getElem?_eq_getElem h1]
theorem AO.ET {t:TypeId} {x y:Operand} {cs cs':List PV} {b i k n:Nat} {j:Int} {L l':List α} {c v:α} (f:α→PV) (d:α) (h:idx L j=some c) (h':some (L.set j.toNat v)=some l') (ho:o.op=.store t x y) (hx:ρ x=.val (.pointer (some ⟨b,0 + j.toNat,none⟩)))
  (hi:σ[i]?=some (bn.box b cs)) (ht:gZ P t=some (false,k)) (hk:k=1) (hy:(ρ y).force=some (f v)) (hone:(f v).one=true) (hcs:cs=L.map f) (hL:L.length=n) (hcs':(List.range n).map (fun i=>f (l'.getD i d))=cs')
  (hR:R .undef (σ.set i (.box b cs'))):AO P o ρ σ R S:=by
 have hl:L.set j.toNat v=l':=Option.some.inj h'
 have e:cs.set (0 + j.toNat) (f v)=cs':=by
  rw [hcs,Nat.zero_add,←List.map_set,hl,←hcs']; exact KX d (by rw [←hl,List.length_set,hL])
 exact AO.IG ho hx hi ht hk hy hone (by rw [hcs,List.length_map,Nat.zero_add]; exact Fa h) (e ▸ hR)
theorem AO.Vr {t:TypeId} {x:Operand} {cs more:List PV} {b i k:Nat} {j:Int} {L:List α} {c:α} (f:α→PV) (h:idx L j=some c) (ho:o.op=.load t x) (hx:ρ x=.val (.pointer (some ⟨b,0 + j.toNat,none⟩))) (hi:σ[i]?=some (bn.box b cs))
  (ht:gZ P t=some (false,k)) (hcs:cs=L.map f ++ more) (hR:R (f c) σ):AO P o ρ σ R S:=by
 obtain ⟨h0,h1⟩:=uW h; refine AO.KV ho hx hi ht ?_ hR; rw [hcs,Nat.zero_add,List.getElem?_append_left (by rw [List.length_map]; exact Fa h),List.getElem?_map,h1]; rfl
theorem AO.Sv {t:TypeId} {x y:Operand} {cs cs' more:List PV} {b i k n:Nat} {j:Int} {L l':List α} {c v:α} (f:α→PV) (d:α) (h:idx L j=some c) (h':some (L.set j.toNat v)=some l') (ho:o.op=.store t x y) (hx:ρ x=.val (.pointer (some ⟨b,0 + j.toNat,none⟩)))
  (hi:σ[i]?=some (bn.box b cs)) (ht:gZ P t=some (false,k)) (hk:k=1) (hy:(ρ y).force=some (f v)) (hone:(f v).one=true) (hcs:cs=L.map f ++ more) (hL:L.length=n) (hcs':(List.range n).map (fun i=>f (l'.getD i d)) ++ more=cs')
  (hR:R .undef (σ.set i (.box b cs'))):AO P o ρ σ R S:=by
 have hl:L.set j.toNat v=l':=Option.some.inj h'
 have e:cs.set (0 + j.toNat) (f v)=cs':=by
  rw [hcs,Nat.zero_add,List.set_append_left _ _ (by rw [List.length_map]; exact Fa h),←List.map_set,hl,←hcs']; congr 1; exact KX d (by rw [←hl,List.length_set,hL])
 exact AO.IG ho hx hi ht hk hy hone (by rw [hcs,List.length_append,List.length_map,Nat.zero_add]; exact Nat.lt_of_lt_of_le (Fa h) (Nat.le_add_right _ _)) (e ▸ hR)
end
end Go.Abs
namespace Go.Abs
variable [iF]
open Go
theorem AO.abE {P:Program} {o:Oper} {ρ:Operand→PV} {σ:List bn} {R R' S:PV→List bn→Prop} (h:AO P o ρ σ R' S) (hc:∀ p s,R' p s→∃ p' s',R p' s'∧(∀ w m v,dO w m p v→dO w m p' v)∧s'.Sublist s):AO P o ρ σ R S:=by
 intro w m a K QC hr hco hK hS; refine h w m a K QC hr hco (fun p s v w' m' hR hrep hc' ht=>?_) hS; obtain ⟨p',s',h1,h2,h3⟩:=hc p s hR; exact hK p' s' v w' m' h1 (h2 _ _ _ hrep) (hc'.sub h3) (ht.sub h3)
theorem AO.Sq {P:Program} {o:Oper} {ρ:Operand→PV} {σ:List bn} {R S:PV→List bn→Prop} {src dst e:TypeId} {x:Operand} {s r:List UInt8} {u:TypeDesc} (h:Ft.app [] s=some r) (ho:o.op=.convert src dst x) (hs:P.underlying src=some u) (hd:P.underlying dst=some (.slice e)) (he:P.underlying e=some (.int .u8))
  (hx:ρ x=.str s) (hR:R (.list (r.map fO)) σ):AO P o ρ σ R S:=by
 refine AO.abE (R':=fun p t=>∃ v,p=.own v (r.map fO)∧t=.row v (r.map fO).length 1 e :: σ) (AO.Kk h ho hs hd he hx fun v=>⟨v,rfl,rfl⟩) ?_; rintro p t ⟨v,rfl,rfl⟩; exact ⟨_,_,hR,fun w m v h=>by simp only [dO] at h ⊢; exact h.2,List.sublist_cons_self _ _⟩
section
variable {P : Program} {n : Nat} {ds : List Deferred} {σ : List bn}
theorem AD.draw {env:Env} {Q:Post} {L:List Oper} (k:Nat) (ho:JH L k=true) (hk:Nat.ble k L.length=true)
  (h:Ev P n L.toArray σ env (L.take k) fun env'=>AR P n L.toArray (L.drop k) env' σ ds Q):AD P n L env σ ds Q:=by
 intro w m a QC hs ha; have hk:k≤L.length:=Nat.le_of_ble_eq_true hk; obtain ⟨d,p,h1,h2⟩:=Ev.facts h; rw [List.length_take,Nat.min_eq_left hk] at h2; have uY:Trans w m σ {w with drawn:=w.drawn + 1} m σ:=⟨rfl,rfl,rfl,Nat.le_refl _,fun _ _ h=>⟨h,rfl⟩,fun _ _ _=>⟨rfl,fun _ h=>h⟩,fun _ h=>.inl h,fun _=>Nat.le_succ _⟩
 have hs':oZ {w with drawn:=w.drawn + 1} m n env σ ds a:=⟨hs.size,hs.ds,hs.env.mono uY.le,
  ⟨fun r hr=>bn.pJ (hs.iX.each r hr) uY.le fun _ _=>⟨rfl,fun _ h=>h⟩,hs.iX.apart,hs.iX.wf,iF.mono uY.le hs.iX.rO⟩⟩
 refine M9 (d:=d) (p:=p) (env:=env) (σ:=σ) (ds:=ds) (n:=n) (w0:=w) (m0:=m) hk (Qz ho) (fun i o hi hoi=>h1 i o (by rw [List.getElem?_take_of_lt hi]; exact hoi)) ?_ _ _ a _ m (by simp) ?_ ?_ ?_ ?_ uY
 ·
  intro w1 m1 a1 hs1 htr; exact h2 w1 m1 a1 QC hs1 (ha.step htr)
 · simp
 ·
  intro j _ hj; simp [Array.getD,hj]
 ·
  intro i o hi hoi hl; have Jk:i < L.length:=by omega
  simp [Array.getD,Jk] at hl
 ·
  refine hs'.congr fun t=>.inr ?_
  have:(nS (fun j=>(Array.replicate L.toArray.size false).getD j true) d p env k).get t=(nS (fun j=>(Array.replicate L.toArray.size false).getD j true) d p env 0).get t:=
   iW (Nat.zero_le _) fun j _ hj hS=>by
    have hjL:j < L.length:=by omega
    simp [Array.getD,hjL] at hS
  rw [this]; rfl
end
end Go.Abs
