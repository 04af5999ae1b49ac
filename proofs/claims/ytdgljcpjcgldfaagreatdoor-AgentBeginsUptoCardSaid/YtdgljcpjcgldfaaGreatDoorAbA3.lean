/- Proved here: how a functional text stands for a walk of the given code: ranges, maps, sorted lists, library functions. -/
import Derived.Test.YtdgljcpjcgldfaaGreatDoorAbA2
import Derived.RangeFuncRecord
import Derived.RangeFuncIn
import Derived.OrdersIn
import Derived.TacticsIn
import Derived.Test.YtdgljcpjcgldfaaGreatDoorAbA1
import Derived.Lib.LaidTab
import Derived.Stop.LaidErr
import Derived.Lib.ItoaNum
import Derived.Shelf.Vars
import Derived.Shelf.Strings.Cut
import Derived.DeepKeys
set_option linter.unusedVariables false
set_option linter.unusedSimpArgs false
set_option linter.unusedSectionVars false
namespace Go.Abs
variable [bX]
open Go
def He (r:Option Nat):Fence:={Fence.wide with round:=r}
def nM (o:Oper):Bool:=match o.op with | .defer _=>false | _=>true
theorem C_ {o:Oper} (h:nM o=true):∀ c,o.op≠.defer c:=by
 intro c hc; unfold nM at h; rw [hc] at h; cases h
section
variable {P : Program} {n : Nat} {r : Option Nat} {env : Env} {σ : List aA} {ds : List Deferred} {Q : Post} {all : Array Oper} {rest : List Oper} {o : Oper}
theorem GV {f:FuncId} {args:Array Value} {w:World} {R:Ending→World→Prop} {n:Nat} (h:Calls P f args w R):CallsIn (He r) n P f args w R:=by
 have:=(callsIn_wide (n:=n)).2 h; exact this
theorem Hz {row:String} {args:Array Value} {w:World} {R:Value→World→Prop} {n:Nat} (h:Rows P row args w R):RowsIn (He r) n P row args w R:=
 fun c cs _=>let ⟨v,w',r,s⟩:=h c cs; ⟨v,w',r,stepsIn_wide.2 s⟩
theorem DX {a:Act} {w:World} {K:Act→World→Prop} {Q:Exit→Act→World→Prop} (hd:nM o=true) (h:o.wp P a w K Q):o.wpIn (He r) 0 P a w K Q:=by
 refine ⟨fun _ _=>trivial,?_⟩; rw [Oper.semAt_eq _ _ _ (C_ hd)]; unfold Oper.wp at h; generalize (execOp a.eval o).run P w=x at h ⊢; cases x with
 | ok v w'=>
  cases v <;> simp only [Oper.upon,Oper.uponIn] at h ⊢ <;> first
   | exact h
   | exact ⟨fun hh=>by simp [He,Fence.wide] at hh,GV h⟩
   | exact ⟨fun hh=>by simp [He,Fence.wide] at hh,Hz h⟩
 | halt v w'=>cases v <;> simp only [Oper.upon,Oper.uponIn] at h ⊢ <;> exact h
theorem uY {Q:Exit→Act→World→Prop} (hno:¬ LetsOut Q):∀ (l:List Oper) (a:Act) (w:World),(∀ o∈l,nM o=true)→wpList P all Q l a w→wpListIn (He r) 0 P all Q l a w
 | [],a,w,_,h=>h
 | o :: rest,a,w,hd,h=>by
  unfold wpList at h; unfold wpListIn; split
  ·
   rename_i hw; rw [if_pos hw] at h; rcases h with h | ⟨_,h⟩
   · exact Oper.wpIn_mono (fun a w h=>uY hno rest a w (fun o ho=>hd o (by simp [ho])) h) (DX (hd o (by simp)) h)
   · exact (hno h).elim
  ·
   rename_i hw; rw [if_neg hw] at h; exact ⟨fun _ _=>trivial,uY hno rest _ _ (fun o ho=>hd o (by simp [ho])) h⟩
def sI (P:Program) (r:Option Nat) (n:Nat) (c:Code) (env:Env) (σ:List aA) (ds:List Deferred) (Q:Post):Prop:=
 ∀ w m a QC,iK w m n env σ ds a→Acc n Q w m σ QC→c.wpIn (He r) 0 P QC a w
def yN (Q:Exit→Act→World→Prop):Exit→Act→World→Prop:=fun e a w=>e≠.outgrown∧Q e a w
theorem pX (Q:Exit→Act→World→Prop):¬ LetsOut (yN Q):=fun ⟨_,_,h,_⟩=>h rfl
theorem Acc.yN {w:World} {m:cZ} {QC:Exit→Act→World→Prop} (h:Acc n Q w m σ QC):Acc n Q w m σ (Abs.yN QC):=by
 intro x ex env' σ' ds' a' w' m' hq hx hs ht; refine ⟨?_,h x ex env' σ' ds' a' w' m' hq hx hs ht⟩; rintro rfl; cases x <;> simp [LQ] at hx
theorem sI.region {id:Nat} {l:List Oper} (hd:(l.all nM)=true) (h:AR P n l.toArray l env σ ds Q):sI P r n (.region id l.toArray false) env σ ds Q:=by
 intro w m a QC hs ha; rw [List.all_eq_true] at hd; refine wpIn_mono (wpIn_region_lit (uY (pX QC) l a w hd (h w m a _ hs ha.yN))) fun e a w h=>h.2
theorem sI.skip (h:Q .normal env σ ds):sI P r n .skip env σ ds Q:=
 fun w m a _ hs ha=>wpIn_skip (ha .normal .normal env σ ds a w m h rfl hs (Trans.refl ..))
theorem sI.exit {id:Nat} (h:Q (.exit id) env σ ds):sI P r n (.exit id) env σ ds Q:=
 fun w m a _ hs ha=>wpIn_exit (ha (.exit id) (.exit id) env σ ds a w m h rfl hs (Trans.refl ..))
theorem sI.ret (h:Q .ret env σ ds):sI P r n .ret env σ ds Q:=
 fun w m a _ hs ha=>wpIn_ret (ha .ret .ret env σ ds a w m h rfl hs (Trans.refl ..))
theorem sI.seq {c d:Code} (h:sI P r n c env σ ds (AX.then (fun e s ds=>sI P r n d e s ds Q) Q)):sI P r n (.seq c d) env σ ds Q:=by
 intro w m a QC hs ha; refine wpIn_seq (h w m a _ hs ?_); intro x ex e1 σ1 d1 a1 w1 m1 hq hx hs1 ht; cases x with
 | normal=>cases hx; exact hq w1 m1 a1 QC hs1 (ha.step ht)
 | exit id=>cases hx; exact ha (.exit id) _ e1 σ1 d1 a1 w1 m1 hq rfl hs1 ht
 | ret=>cases hx; exact ha .ret _ e1 σ1 d1 a1 w1 m1 hq rfl hs1 ht
 | panic p=>obtain ⟨v,rfl,hv⟩:=hx; exact ha (.panic p) _ e1 σ1 d1 a1 w1 m1 hq ⟨v,rfl,hv⟩ hs1 ht
theorem sI.cond {c:Operand} {x y:Code} {b:Bool} (hc:env.ev c=.bool b) (ht:b=true→sI P r n x env σ ds Q) (hf:b=false→sI P r n y env σ ds Q):
  sI P r n (.cond c x y) env σ ds Q:=by
 intro w m a QC hs ha; have he:=hs.env.ev c; rw [hc] at he; simp only [aN] at he; exact wpIn_cond_split he (fun h=>ht h w m a QC hs ha) (fun h=>hf h w m a QC hs ha)
theorem sI.block {id:Nat} {c:Code} (h:sI P r n c env σ ds (AX.inBlock id Q)):sI P r n (.block id c) env σ ds Q:=by
 intro w m a QC hs ha; refine wpIn_block (h w m a _ hs ?_); intro x ex e1 σ1 d1 a1 w1 m1 hq hx hs1 ht; cases x with
 | normal=>cases hx; exact ha .normal _ e1 σ1 d1 a1 w1 m1 hq rfl hs1 ht
 | exit id'=>
  cases hx; simp only [Exit.inBlock]; simp only [AX.inBlock] at hq; by_cases e:id'=id
  ·
   subst e; simp only [Nat.beq_refl,cond_true] at hq; rw [if_pos rfl]; exact ha .normal _ e1 σ1 d1 a1 w1 m1 hq rfl hs1 ht
  ·
   have:Nat.beq id' id=false:=gJ e; simp only [this,cond_false] at hq; rw [if_neg e]; exact ha (.exit id') _ e1 σ1 d1 a1 w1 m1 hq rfl hs1 ht
 | ret=>cases hx; exact ha .ret _ e1 σ1 d1 a1 w1 m1 hq rfl hs1 ht
 | panic p=>obtain ⟨v,rfl,hv⟩:=hx; exact ha (.panic p) _ e1 σ1 d1 a1 w1 m1 hq ⟨v,rfl,hv⟩ hs1 ht
theorem sI.mono {c:Code} {Q':Post} (h:sI P r n c env σ ds Q) (hq:∀ x e s d,Q x e s d→Q' x e s d):sI P r n c env σ ds Q':=
 fun w m a QC hs ha=>h w m a QC hs fun x ex env' σ' ds' a' w' m' h1 h2 h3 h4=>ha x ex env' σ' ds' a' w' m' (hq _ _ _ _ h1) h2 h3 h4
theorem sI.settle {c:Code} {env':Env} (ps:List Nat) (hs:Abs.settle ps env=some env') (h:sI P r n c env' σ ds Q):sI P r n c env σ ds Q:=
 fun w m a QC ku ha=>h w m a QC ⟨ku.size,ku.ds,ku.env.settle hs,ku.fT⟩ ha
theorem sI.frame {c:Code} {τ:List aA} (h:sI P r n c env σ ds Q):sI P r n c env (σ ++ τ) ds (fun x e s d=>∃ s0,s=s0 ++ τ∧Q x e s0 d):=by
 intro w m a QC hs ha; refine h w m a QC ⟨hs.size,hs.ds,hs.env,hs.fT.left⟩ fun x ex e' σ' ds' a' w' m' hq hx hs' ht=>?_; obtain ⟨k1,k2⟩:=Conc.frame hs.fT hs'.fT ht; exact ha x ex e' (σ' ++ τ) ds' a' w' m' ⟨σ',rfl,hq⟩ hx ⟨hs'.size,hs'.ds,hs'.env,k1⟩ k2
def LW (P:Program) (r:Option Nat) (n:Nat) (all:Array Oper) (l:List Oper) (env:Env) (σ:List aA) (ds:List Deferred) (Q:Post):Prop:=
 ∀ w m a QC,iK w m n env σ ds a→Acc n Q w m σ QC→wpListIn (He r) 0 P all QC l a w
theorem LW.of {l:List Oper} (hd:(l.all nM)=true) (h:AR P n all l env σ ds Q):LW P r n all l env σ ds Q:=by
 intro w m a QC hs ha; rw [List.all_eq_true] at hd; have:=uY (r:=r) (pX QC) l a w hd (h w m a _ hs ha.yN)
 have key:∀ (l:List Oper) (a:Act) (w:World),wpListIn (He r) 0 P all (yN QC) l a w→wpListIn (He r) 0 P all QC l a w:=by
  intro l
  induction l with
  | nil=>intro a w h; exact h.2
  | cons o l ih=>
   intro a w h; unfold wpListIn at h ⊢; split
   ·
    rename_i hw; rw [if_pos hw] at h; refine ⟨h.1,?_⟩; have h2:=h.2; generalize (o.semAt (He r).round a.eval).run P w=x at h2 ⊢; cases x with
    | ok v w'=>
     cases v <;> simp only [Oper.uponIn] at h2 ⊢ <;> first
      | exact ih _ _ h2
      | exact ⟨h2.1,CallsIn.mono h2.2 fun e w'' he=>by
        cases e with
        | returned v=>exact ih _ _ he
        | panicked c=>exact he.2
        | outgrown=>exact (pX QC he).elim⟩
      | exact ⟨h2.1,RowsIn.mono h2.2 fun v w'' he=>ih _ _ he⟩
      | exact ⟨h2.1,RoundIn.mono h2.2 fun e w'' he=>by
        cases e with
        | returned v=>exact ih _ _ he
        | panicked c=>exact he.2
        | outgrown=>exact (pX QC he).elim⟩
    | halt v w'=>
     cases v <;> simp only [Oper.uponIn] at h2 ⊢ <;> exact h2.2
   ·
    rename_i hw; rw [if_neg hw] at h; exact ⟨h.1,ih _ _ h.2⟩
 exact key l a w this
theorem LW.step {t:Nat} (hnd:nM o=true) (hg:o.guard=none) (hd:o.dst=some t) (ht:Nat.blt t n=true)
  (h:AO P o env.ev σ (fun p σ'=>LW P r n all rest ((t,p) :: env) σ' ds Q) (fun p σ'=>Q (.panic p) env σ' ds)):
  LW P r n all (o :: rest) env σ ds Q:=by
 intro w m a QC hs ha; have ht:t < n:=Nat.le_of_ble_eq_true ht; refine wpListIn_plain hg fun K hK=>DX hnd ?_; refine h w m a K QC (fun x _=>hs.env.ev x) hs.fT ?_ ?_
 ·
  intro p σ' v w' m' hr hv hc htr; exact hK _ _ (hr w' m' _ QC (hs.put hd ht hv hc htr.le) (ha.step htr))
 ·
  intro p σ' v w' m' hr hv hc htr; exact ha (.panic p) _ _ _ _ a w' m' hr ⟨v,rfl,hv⟩ ⟨hs.size,hs.ds,hs.env.mono htr.le,hc⟩ htr
end
section
variable {P : Program} {n : Nat} {env : Env} {σ : List aA} {ds : List Deferred} {Q : Post}
end
end Go.Abs
namespace Go.Abs
variable [bX]
open Go
theorem DK {w:World} {m:cZ}:∀ {vs cs:List Value},aG w m (vs.map PV.val) cs→cs=vs
 | [],cs,h=>by simpa [aG] using h
 | v :: vs,cs,h=>by
  simp only [List.map_cons,aG,aN] at h; obtain ⟨u,us,rfl,h1,h2⟩:=h; rw [DK h2,h1]
theorem AR.defer {P:Program} {n:Nat} {env:Env} {σ:List aA} {ds:List Deferred} {Q:Post} {all:Array Oper} {rest:List Oper} {o:Oper} {c:Call} {tV:Operand} {g:FuncId} {vs:List Value}
  (hg:o.guard=Option.none) (hd:o.dst=Option.none) (ho:o.op=.defer c) (cK:c.callee=.value tV) (hargs:c.args=#[]) (hf:env.ev tV=.fn g (vs.map PV.val))
  (h:AR P n all rest env σ ({target:=.fn (.func g) vs.toArray,args:=#[]} :: ds) Q):AR P n all (o :: rest) env σ ds Q:=by
 intro w m a QC hs ha; refine wpList_plain hg fun K hK=>?_; have hcv:=hs.env.ev tV; rw [hf] at hcv; simp only [aN] at hcv; obtain ⟨cs,hcv,hcs⟩:=hcv; have hcs':=DK hcs; subst hcs'
 have hrun:(execOp a.eval o).run P w=.ok (.defer {target:=.fn (.func g) cs.toArray,args:=#[]}) w:=by
  unfold execOp; simp [ho,resolve,cK,hcv,hargs,Deferred.ofValue]
 unfold Oper.wp; rw [hrun]; refine hK _ _ (h w m _ QC ⟨?_,?_,?_,hs.fT⟩ ha)
 · rw [hd]; exact hs.size
 · rw [hd]; simp [Act.put,hs.ds]
 · rw [hd]; exact hs.env
section
variable {P : Program} {n : Nat} {env : Env} {σ : List aA} {ds : List Deferred} {Q : Post} {all : Array Oper} {l : List Oper}
end
section
variable {P : Program} {o : Oper} {ρ : Operand → PV} {σ : List aA} {R S : PV → List aA → Prop}
end
end Go.Abs
namespace Go.Abs
open Go
theorem sZ {α:Type} {f:α→List PV} {μ:α→Nat} {p:α→Prop}:∀ {l:List (List PV × Nat)},(∀ x∈l,∃ a,x.1=f a∧μ a≤x.2∧p a)→∃ LM:List α,l.map (·.1)=LM.map f∧(LM.map μ).sum≤(l.map (·.2)).sum∧∀ a∈LM,p a
 | [],_=>⟨[],rfl,Nat.le_refl _,fun _ h=>by cases h⟩
 | x :: l,h=>by
  obtain ⟨a,h1,h2,h3⟩:=h x List.mem_cons_self; obtain ⟨LM,h4,h5,h6⟩:=sZ fun y hy=>h y (List.mem_cons_of_mem _ hy)
  exact ⟨a :: LM,by simp [h1,h4],by simp only [List.map_cons,List.sum_cons]; omega,fun b hb=>by
   rcases List.mem_cons.1 hb with rfl | hb
   · exact h3
   · exact h6 b hb⟩
end Go.Abs
namespace Go.Abs
variable [bX]
open Go
section
variable {P : Program} {n : Nat} {all : Array Oper} {l : List Oper} {env : Env} {σ : List aA} {ds : List Deferred} {Q : Post} {c : Code}
end
end Go.Abs
namespace Go.Abs
variable [bX]
open Go
section
variable {P : Program} {o : Oper} {ρ : Operand → PV} {σ : List aA} {R S : PV → List aA → Prop}
theorem oO (w:World) (t e:TypeId) (a:Option Addr) (l c:Nat) (h:P.underlying t=some (.slice e)):(binOp .eql t (.slice a l c) (.slice none 0 0)).run P w=.ok (.bool a.isNone) w:=by
 have h:∀ d:Nat,(Op.equalIn (d + 1) t (.slice a l c) (.slice none 0 0)).run P w=.ok a.isNone w:=fun d=>by
  cases a <;> simp [Op.equalIn,run_underlying h]
 simp only [binOp]; simp [Op.equal,Op.maxDepth,h 9999]
theorem AO.zP {t e yt:TypeId} {x:Operand} {l:List (List PV)} (ho:o.op=.binOp .eql t x (.const (.slice none 0 0)) yt) (hx:(ρ x).els=some l) (hu:P.underlying t=some (.slice e))
  (hR:∀ b:Bool,(b=true→l=[])→R (.bool b) σ):AO P o ρ σ R S:=by
 intro w m a K QC hr hc hK _; have hv:=hr x (by simp [ho,Op.operands]); obtain ⟨ad,cap,e1,e2,e3⟩:=hv.els hx; have hev:a.eval (.const (.slice none 0 0))=.slice none 0 0:=rfl
 have hrun:(execOp a.eval o).run P w=.ok (.value (.bool ad.isNone)) w:=by
  simp only [execOp,ho,hev,e1,Sem.run_bind]; rw [show eqGuard .eql t x (.const (.slice none 0 0)) (.slice ad l.length cap) (.slice none 0 0)=pure () from rfl]; simp only [Sem.run_pure,Result.andThen_ok,oO w t e ad l.length cap hu]
 unfold Oper.wp; rw [hrun]; refine hK (.bool ad.isNone) σ _ w m (hR _ fun h=>?_) (by simp only [aN]) hc (Trans.refl _ _ _); rcases e3 with rfl | ⟨bk,off,sz,rfl,_⟩
 · rfl
 · cases h
end
theorem AR.freeze {P:Program} {k:Nat} {all:Array Oper} {lo:List Oper} {env:Env} {σ:List aA} {ds:List Deferred} {Q:Post} {v:Value} {n sz e:Nat} {cs:List PV} (t i:Nat) (l:List (List PV)) (ht:env.get t=.val v) (hi:σ[i]?=some (aA.buf v n sz e cs))
  (hl:l.flatten=cs) (hsz:∀ x∈l,x.length=sz) (hn:l.length=n) (h:AR P k all lo ((t,.own v l) :: env) (σ.set i (.row v n sz e)) ds Q):AR P k all lo env σ ds Q:=by
 intro w m a QC hs ha; obtain ⟨m',h1,h2,h3⟩:=hs.fT.freeze hi hl hsz hn; refine h w m' a QC ⟨hs.size,hs.ds,fun u=>?_,h2⟩ (ha.step h3); have hu:=hs.env u; simp only [Env.get]; cases hb:Nat.beq t u with
 | false=>exact aN.mono h3.le _ _ hu
 | true=>
  have:=Nat.eq_of_beq_eq_true hb; subst this; rw [ht] at hu; simp only [aN] at hu; rw [hu]; exact h1
end Go.Abs
namespace Go.Abs
variable [bX]
open Go
section
variable {P : Program} {o : Oper} {ρ : Operand → PV} {σ : List aA} {R S : PV → List aA → Prop}
theorem AO.wM {t n sz:Nat} {x i:Operand} {k:IntKind} {cs cs':List PV} (j:Nat) (ho:o.op=.indexAddr t x i) (ha:jM P t=some (n,sz)) (hx:ρ x=.ref cs) (hi:ρ i=.int k (j:Int)) (h1:j < n) (hd:fH (j * sz) cs=some cs')
  (hR:R (.ref cs') σ):AO P o ρ σ R S:=by
 obtain ⟨e1,e2⟩:=lM hd; exact AO.xS ho ha hx hi (by omega) (by simpa using h1) (by simpa using e2) (by simpa [←e1] using hR)
theorem AO.wN {t n sz b off:Nat} {x i:Operand} {k:IntKind} (j:Nat) (ho:o.op=.indexAddr t x i) (ha:jM P t=some (n,sz)) (hx:ρ x=.val (.pointer (some ⟨b,off,none⟩))) (hi:ρ i=.int k (j:Int)) (h1:j < n)
  (hR:R (.val (.pointer (some ⟨b,off + j * sz,none⟩))) σ):AO P o ρ σ R S:=
 AO.xU ho ha hx hi (by omega) (by simpa using h1) (by simpa using hR)
end
end Go.Abs
namespace Go.Abs
open Go
@[reducible] def Li (ints errs:List Nat) (tabs:List (Nat × List Value)):bX where
 G:=fun w m=>(∀ g∈ints,m g 0∧∃ n:Int,w.cell? ⟨g,0,none⟩=some (.int .i64 n))∧(∀ g∈errs,m g 0∧∃ u v,w.cell? ⟨g,0,none⟩=some (.iface u v))∧∀ p∈tabs,∀ off,m p.1 off∧w.cell? ⟨p.1,off,none⟩=p.2[off]?
 mono:=fun {w w' m m'} hle ⟨h1,h2,h3⟩=>⟨fun g hg=>by
   obtain ⟨a,n,b⟩:=h1 g hg; obtain ⟨c,d⟩:=hle g 0 a
   exact ⟨c,n,by rw [d,b]⟩,fun g hg=>by
   obtain ⟨a,u,v,b⟩:=h2 g hg; obtain ⟨c,d⟩:=hle g 0 a
   exact ⟨c,u,v,by rw [d,b]⟩,fun p hp off=>by
   obtain ⟨a,b⟩:=h3 p hp off; obtain ⟨c,d⟩:=hle p.1 off a
   exact ⟨c,by rw [d,b]⟩⟩
 D:=False
theorem xq {W:World} {g off:Nat} {v:Value} (h:W.cell? ⟨g,off,none⟩=some v):jg W g 0:=by
 unfold World.cell? at h; show g < W.heap.size; rcases Nat.lt_or_ge g W.heap.size with hl | hl
 · exact hl
 ·
  simp only at h; rw [Array.getElem?_eq_none hl] at h; cases h
theorem wB {P:Program} {n nm:String} {d:DataW Unit} {r:List (String × DataW Unit)} {W:World} {g t:Nat} {ms:Array (String × TypeId)} (h:laidMet P ((n,.iface nm d) :: r) W) (hg:P.globalNamed n=some g)
  (ht:(P.globals[g]?).map (·.type)=some t) (hi:P.underlying t=some (.interface ms)):∃ u v,W.cell? ⟨g,0,none⟩=some (.iface u v):=by
 obtain ⟨ps,⟨g0,t0,cs0,f0,p0,q0,hg0,ht0,hv0,hd0,_,e0⟩,_,_⟩:=h; obtain rfl:=Option.some.inj (hg.symm.trans hg0); obtain rfl:=Option.some.inj (ht.symm.trans ht0); obtain ⟨l0⟩:=cs0; cases f0 with
 | zero=>simp [DataW.trod] at hd0
 | succ f0=>
  unfold DataW.trod at hd0; rw [hi] at hd0; simp only at hd0; split at hd0 <;> first | (cases hd0; done) | skip
  all_goals first
   | (rename_i e; cases e; done)
   | skip
  all_goals simp_all
  all_goals exact ⟨_,_,by simpa using World.var?_cell hg0 hv0 0⟩
theorem Ew {P:Program} {w:World} {name:String} {k:IntKind} {zs:List Int} {g:Nat} (hg:P.globalNamed name=some g) (h:Lib.TabIs P w name k zs):∀ off,jg w g off∧w.cell? ⟨g,off,none⟩=(zs.map fun z=>Value.int k z)[off]?:=by
 intro off; unfold Lib.TabIs World.var? at h; rw [hg] at h; simp only [Option.bind_some] at h; split at h
 ·
  rename_i cs t f hc; cases h; refine ⟨?_,?_⟩
  ·
   show g < w.heap.size; rcases Nat.lt_or_ge g w.heap.size with hl | hl
   · exact hl
   · rw [Array.getElem?_eq_none hl] at hc; cases hc
  ·
   unfold World.cell?; simp only [hc]; simp
 · cases h
theorem EX {P:Program} {w:World} {name:String} {k:IntKind} {zs:List Int} {g:Nat} (hg:P.globalNamed name=some g) (hne:zs≠[]) (h:∀ off,w.cell? ⟨g,off,none⟩=(zs.map fun z=>Value.int k z)[off]?):Lib.TabIs P w name k zs:=by
 unfold Lib.TabIs World.var?; rw [hg]; simp only [Option.bind_some]; have h0:=h 0
 obtain ⟨z,r,rfl⟩:∃ z r,zs=z :: r:=by
  cases zs with
  | nil=>exact absurd rfl hne
  | cons z r=>exact ⟨z,r,rfl⟩
 unfold World.cell? at h0; simp only at h0; split at h0
 ·
  rename_i cs t f hc; rw [hc]; simp only [Option.some.injEq]; apply Array.ext_getElem?; intro i; have hi:=h i; unfold World.cell? at hi; simp only [hc] at hi; simpa using hi
 · simp at h0
end Go.Abs
namespace Go.Abs
variable [bX]
open Go Go.Ft
def cu :Nat→List (Str × Int)→List MapEntry
 | _,[]=>[]
 | i,(k,v) :: r=>{key:=.string ⟨k.toArray⟩,val:=.bool (v != 0),born:=i} :: cu (i + 1) r
def gN (l:List (Str × Int)):Obj:=.map (cu 0 l).toArray l.length
theorem Aa (a b:List UInt8):((⟨a.toArray⟩:ByteArray) == ⟨b.toArray⟩)=(a == b):=by
 show (a.toArray == b.toArray)=(a == b); simp
theorem qR (k:Str):∀ (l:List (Str × Int)) (i j:Nat),∃ r,Instr.findNow .string (.string ⟨k.toArray⟩) (cu i l) j=some r∧
  ((r=none∧oD l k=0∧∀ n,cu i (m_ l k n)=cu i l ++ [{key:=.string ⟨k.toArray⟩,val:=.bool (n != 0),born:=i + l.length}]∧(m_ l k n).length=l.length + 1)∨
   ∃ q v,r=some (j + q,.bool (v != 0))∧oD l k=v∧(∃ e,(cu i l)[q]?=some e∧e.key=.string ⟨k.toArray⟩)∧
    ∀ n,cu i (m_ l k n)=(cu i l).modify q (fun e=>{e with key:=.string ⟨k.toArray⟩,val:=.bool (n != 0)})∧(m_ l k n).length=l.length)
 | [],i,j=>⟨none,rfl,.inl ⟨rfl,rfl,fun n=>⟨by simp [m_,cu],rfl⟩⟩⟩
 | (k',v) :: l,i,j=>by
  simp only [cu,Instr.findNow,Instr.sameNow,oD,m_]; by_cases e:k=k'
  ·
   subst e; refine ⟨some (j,.bool (v != 0)),by rw [Aa,beq_self_eq_true],.inr ⟨0,v,rfl,by simp,⟨_,rfl,rfl⟩,fun n=>⟨by simp [cu],by simp⟩⟩⟩
  ·
   have hb:(k == k')=false:=beq_eq_false_iff_ne.2 e; have hb2:((⟨k.toArray⟩:ByteArray) == ⟨k'.toArray⟩)=false:=(Aa k k').trans hb; rw [hb2,hb]; obtain ⟨r,h1,h2⟩:=qR k l (i + 1) (j + 1); refine ⟨r,h1,?_⟩; rcases h2 with ⟨h3,h4,h5⟩ | ⟨q,u,h3,h4,h5,h6⟩
   ·
    refine .inl ⟨h3,by simpa using h4,fun n=>⟨?_,?_⟩⟩
    ·
     simp only [Bool.false_eq_true,if_false,cu,(h5 n).1,List.cons_append,List.length_cons]; rw [show i + 1 + l.length=i + (l.length + 1) from by omega]
    · simp [(h5 n).2]
   ·
    refine .inr ⟨q + 1,u,by rw [h3]; congr 2; omega,by simpa using h4,by simpa using h5,fun n=>⟨?_,?_⟩⟩
    · simp only [Bool.false_eq_true,if_false,cu,(h6 n).1,List.modify_succ_cons]
    · simp [(h6 n).2]
section
variable {P : Program} {o : Oper} {ρ : Operand → PV} {σ : List aA} {R S : PV → List aA → Prop}
theorem AO.Gh {t:TypeId} (ho:o.op=.makeMap t none) (hR:∀ b,R (.val (.map (some b))) (.obj b (gN []) :: σ)):AO P o ρ σ R S:=by
 refine AO.of_run' fun w m ev hr hc=>?_; have:=qx hc (gN []); refine ⟨_,_,.map (some w.heap.size),_,_,hR w.heap.size,?_,by simp [aN],this,dS hc _ _ fun b hb=>?_⟩
 · simp [execOp,ho,Instr.makeMap,go_sem,gN,cu]
 ·
  simp [fG,aA.fp] at hb ⊢; rcases hb with hb | hb
  · exact .inr hb
  · exact .inl hb
theorem l7 {t:TypeId} (h:P.underlying t=some .string) (b:Bool) (n:Nat) (k:ByteArray) (w:World):(Instr.checkKey b (n + 1) t (.string k)).run P w=.ok () w:=by
 simp [Instr.checkKey,run_underlying h]
theorem ou {w:World} {b c:Nat} {es:Array MapEntry} (h:w.heap[b]?=some (.map es c)):(getObj b).run P w=.ok (.map es c) w:=by simp [getObj,Sem.run,h]
theorem uI {w:World} {b c:Nat} {es:Array MapEntry} (h:w.heap[b]?=some (.map es c)) (o:Obj):(setObj b o).run P w=.ok () {w with heap:=w.heap.setIfInBounds b o}:=by simp [setObj,Sem.run,h]
theorem AO.H_ {t kt et:TypeId} {x y:Operand} {l:List (Str × Int)} {k:Str} {b i:Nat} (ho:o.op=.lookup t x y false) (hi:σ[i]?=some (.obj b (gN l))) (hx:ρ x=.val (.map (some b))) (hy:ρ y=.str k)
  (ht:P.underlying t=some (.map kt et)) (hk:P.underlying kt=some .string) (hz:(P.info? et).map (·.zero)=some (some (.bool false))) (hR:R (.bool (oD l k != 0)) σ):AO P o ρ σ R S:=by
 refine AO.of_same hR fun w m ev hr hc=>?_; have h1:=hr x (by simp [ho,Op.operands]); have h2:=hr y (by simp [ho,Op.operands]); rw [hx] at h1; rw [hy] at h2; simp only [aN] at h1 h2; obtain ⟨hb,hm⟩:=hc.each _ (List.mem_of_getElem? hi); obtain ⟨r,f1,f2⟩:=qR k l 0 0
 have hf:(Instr.findKey kt (.string ⟨k.toArray⟩) (cu 0 l)).run P w=.ok r w:=by
  simp [Instr.findKey,run_underlying hk,f1]
 have z1:(zeroValue et).run P w=.ok (.bool false) w:=by
  cases hi:P.info? et with
  | none=>rw [hi] at hz; cases hz
  | some inf=>
   rw [hi] at hz; simp only [Option.map_some,Option.some.injEq] at hz; simp [zeroValue,run_typeInfo hi,hz]
 refine ⟨.bool (oD l k != 0),?_,by simp only [aN]⟩; have hg:(getObj b).run P w=.ok (.map (cu 0 l).toArray l.length) w:=ou hb; simp only [execOp,ho,Instr.lookup,h1,h2,Sem.run_bind,run_underlying ht,Result.andThen_ok,hg,Sem.run_pure,l7 hk,List.toList_toArray,hf]; rcases f2 with ⟨f3,f4,_⟩ | ⟨q,v,f3,f4,_⟩
 ·
  subst f3; simp [z1,f4]
 ·
  subst f3; simp [f4]
theorem AO.Db {t kt et:TypeId} {x y z:Operand} {l:List (Str × Int)} {k:Str} {n:Int} {b i:Nat} (ho:o.op=.mapUpdate t x y z) (hi:σ[i]?=some (.obj b (gN l))) (hx:ρ x=.val (.map (some b))) (hy:ρ y=.str k) (hv:ρ z=.bool (n != 0))
  (ht:P.underlying t=some (.map kt et)) (hk:P.underlying kt=some .string) (hR:R .undef (σ.set i (.obj b (gN (m_ l k n))))):AO P o ρ σ R S:=by
 intro w m a K QC hr hc hK _; have h1:=hr x (by simp [ho,Op.operands]); have h2:=hr y (by simp [ho,Op.operands]); have h3:=hr z (by simp [ho,Op.operands]); rw [hx] at h1; rw [hy] at h2; rw [hv] at h3; simp only [aN] at h1 h2 h3; obtain ⟨hb,hm⟩:=hc.each _ (List.mem_of_getElem? hi)
 have hblt:b < w.heap.size:=by
  rcases Nat.lt_or_ge b w.heap.size with h | h
  · exact h
  · simp [Array.getElem?_eq_none h] at hb
 let w':World:={w with heap:=w.heap.setIfInBounds b (gN (m_ l k n))}; have hb':w'.heap[b]?=some (gN (m_ l k n)):=by simp [w',hblt]
 obtain ⟨k1,k2⟩:=Conc.write (w':=w') (r':=.obj b (gN (m_ l k n))) hc hi rfl rfl hm ⟨hb',hm⟩ ⟨rfl,rfl,rfl⟩ (by simp [w']) (fun j hj=>by simp [w',Array.getElem?_setIfInBounds_ne (Ne.symm hj)]); obtain ⟨r,f1,f2⟩:=qR k l 0 0
 have hf:(Instr.findKey kt (.string ⟨k.toArray⟩) (cu 0 l)).run P w=.ok r w:=by
  simp [Instr.findKey,run_underlying hk,f1]
 have hg:(getObj b).run P w=.ok (.map (cu 0 l).toArray l.length) w:=ou hb; have hst:=uI (P:=P) (w:=w) (b:=b) (c:=l.length) (es:=(cu 0 l).toArray) hb
 have hrun:(execOp a.eval o).run P w=.ok .skip w':=by
  simp only [execOp,ho,Instr.mapUpdate,h1,h2,h3,Sem.run_bind,run_underlying ht,Result.andThen_ok,hg,l7 hk,List.toList_toArray,hf]; rcases f2 with ⟨f3,_,f5⟩ | ⟨q,v,f3,_,⟨e,g1,g2⟩,f6⟩
  ·
   subst f3
   have e1:gN (m_ l k n)=.map ((cu 0 l).toArray.push {key:=.string ⟨k.toArray⟩,val:=.bool (n != 0),born:=l.length}) (l.length + 1):=by
    unfold gN; rw [(f5 n).1,(f5 n).2]; simp
   simp [hst,w',e1]
  ·
   subst f3
   have e1:gN (m_ l k n)=.map ((cu 0 l).toArray.modify q (fun e=>{e with key:=.string ⟨k.toArray⟩,val:=.bool (n != 0)})) l.length:=by
    unfold gN; rw [(f6 n).1,(f6 n).2]; simp
   have g3:((cu 0 l).toArray[q]?)=some e:=by simpa using g1
   simp [Instr.keyThatStays,Instr.sameBits,Aa,g1,g2,hst,w',e1]
 unfold Oper.wp; rw [hrun]; exact hK _ _ _ _ _ hR trivial k1 k2
end
end Go.Abs
namespace Go.Abs
variable [bX]
open Go Go.Proofs Go.Lib Go.Shelf Go.RowKit
theorem Cb :∀ s t:Ft.Str,Go.Lib.index s t=match Ft.dK s t with | none=>-1 | some i=>(i:Int)
 | [],t=>by
  unfold Go.Lib.index Ft.dK; cases t.isEmpty <;> rfl
 | b :: l,t=>by
  unfold Go.Lib.index Ft.dK; rw [Cb l t]; cases t.isPrefixOf (b :: l) with
  | true=>rfl
  | false=>
   simp only [Bool.false_eq_true,if_false]; cases Ft.dK l t with
   | none=>rfl
   | some i=>
    have:(((i:Nat):Int) == -1)=false:=by rw [beq_eq_false_iff_ne]; omega
    simp only [this,Bool.false_eq_true,if_false,Option.map_some]; show (i:Int) + 1=((i + 1:Nat):Int); omega
def EP (s t:Ft.Str):Ft.Str × Ft.Str × Bool:=
 match Ft.dK s t with
 | none=>(s,[],false)
 | some i=>(s.take i,s.drop (i + t.length),true)
theorem LA (s t:Ft.Str):Go.Lib.cut s t=EP s t:=by
 unfold Go.Lib.cut EP; rw [Cb]; cases Ft.dK s t with
 | none=>simp
 | some i=>simp
theorem z8 (hD:¬ bX.D) {w w':World} {m:cZ} (hc:Conc w m []) (hb:Below w.heap.size w w'):Conc w' m []∧Trans w m [] w' m []:=by
 have hle:Le w m w' m:=fun b off hm=>⟨hm,World.cell?_of_block (w:=w) (hb.block b (hc.wf b off hm))⟩
 exact ⟨⟨fun r hr=>by simp at hr,by simp [fG],fun b off hm=>Nat.lt_of_lt_of_le (hc.wf b off hm) hb.size,bX.mono hle hc.kN⟩,
  ⟨hb.os,hb.tape,hb.output,hb.size,hle,fun b hlt _=>⟨hb.block b hlt,fun _ h=>h⟩,fun b hb=>by simp [fG] at hb,fun d=>absurd d hD⟩⟩
theorem AC.cut {P:Program} {ρ:Ren} {R:nH→List aA→Prop} (hD:¬ bX.D) (L:Lays.n145 P ρ) {s t:List UInt8} (hs:s.length < 4294967281) (hm:∀ (w:World) (m:cZ),bX.G w m→∃ n:Int,w.cell? ⟨ρ.g 1,0,Option.none⟩=some (.int .i64 n))
  (h:R (.ret (.tuple [.str (EP s t).1,.str (EP s t).2.1,.bool (EP s t).2.2])) []):AC P (ρ.f 145) [.str s,.str t] [] R:=by
 intro w m vs hc hv; simp only [aG,aN] at hv; obtain ⟨v0,N_,rfl,rfl,v1,vs1,rfl,rfl,rfl⟩:=hv; obtain ⟨n,hn⟩:=hm w m hc.kN; refine (Any.strings_Cut L ⟨s.toArray⟩ ⟨t.toArray⟩ n w (by simpa [ByteArray.size] using hs) hn).mono ?_; rintro en w' ⟨rfl,k,rfl⟩; have hb:Below w.heap.size w (w.drewN k):=⟨rfl,rfl,rfl,Nat.le_refl _,fun j hj=>rfl⟩; obtain ⟨c1,c2⟩:=z8 hD hc hb; exact ⟨_,_,m,h,⟨_,rfl,by simp only [aN,aG,List.toList_toArray,LA]; exact ⟨_,rfl,_,_,rfl,rfl,_,_,rfl,rfl,_,_,rfl,rfl,rfl⟩⟩,c1,c2⟩
section
variable {P : Program} {o : Oper} {ρ : Operand → PV} {σ : List aA} {R S : PV → List aA → Prop}
theorem yT {α:Type} (f:α→List PV) {sz:Nat} (hf:∀ a,(f a).length=sz):∀ {L:List α} {j:Nat} {c:α},L[j]?=some c→((L.flatMap f).drop (j * sz)).take sz=f c
 | [],j,c,h=>by simp at h
 | x :: l,0,c,h=>by
  simp at h; subst h; simp [List.flatMap_cons,List.take_append,hf,List.take_of_length_le]
 | x :: l,j + 1,c,h=>by
  simp at h; rw [←yT f hf h,List.flatMap_cons,show (j + 1) * sz=(f x).length + j * sz from by rw [hf]; rw [Nat.succ_mul]; omega,List.drop_append,List.drop_eq_nil_of_le (by omega),List.nil_append,Nat.add_sub_cancel_left]
theorem AO.Df {α:Type} {t n e sz:Nat} {x i:Operand} {j:Int} {L:List α} {c:α} (f:α→List PV) (h:Ft.idx L j=some c) (ho:o.op=.index t x i) (hu:P.underlying t=some (.array n e)) (ht:dZ P e=some (true,sz))
  (hx:ρ x=.agg (L.flatMap f)) (hi:ρ i=.int .i64 j) (hL:L.length=n) (hf:∀ a,(f a).length=sz) (hR:R (.agg (f c)) σ):AO P o ρ σ R S:=by
 obtain ⟨h0,h1⟩:=Ft.pE h; have hlt:j.toNat < n:=by rw [←hL]; exact (List.getElem?_eq_some_iff.1 h1).1
 refine AO.of_same hR fun w m ev hr _=>?_; have e1:=hr x (by simp [ho,Op.operands]); have e2:=hr i (by simp [ho,Op.operands]); rw [hx] at e1; rw [hi] at e2; simp only [aN] at e1 e2; obtain ⟨vs,e1,e3⟩:=e1; obtain ⟨hA,hS⟩:=mU ht w; have e4:=(e3.drop (j.toNat * sz)).take sz; rw [yT f hf h1] at e4; have hb:0≤j∧j < (n:Int):=⟨h0,by omega⟩; refine ⟨.agg ((vs.drop (j.toNat * sz)).take sz).toArray,?_,by simp only [aN]; exact ⟨_,rfl,e4⟩⟩; simp only [execOp,ho,Instr.index,Sem.run_bind,e1,e2,asIntOf,Sem.run_pure,Result.andThen_ok,run_underlying hu,hb,and_self,if_true,part,hA,hS]; congr 3; simp [List.extract_toArray]
end
end Go.Abs
namespace Go.Abs
variable [bX]
open Go Go.Ft
section
variable {P : Program}
def Lp (P:Program) (g:TypeId→PV→PV→Option Bool) (xs ys:List PV):List Field→Option Bool
 | []=>some true
 | f :: fs=>bif f.name != "_" then (match dZ P f.type with
  | some (ag,k)=>match fH f.offset xs,fH f.offset ys with
   | some xs',some ys'=>match dP ag k xs',dP ag k ys' with
    | some p,some q=>match g f.type p q,Lp P g xs ys fs with
     | some a,some b=>some (a && b)
     | _,_=>none
    | _,_=>none
   | _,_=>none
  | none=>none) else none
def Hl (P:Program):Nat→TypeId→PV→PV→Option Bool
 | 0,_,_,_=>none
 | d + 1,t,p,q=>match P.underlying t with
  | some .bool=>match p,q with
   | .bool a,.bool b=>some (a == b)
   | _,_=>none
  | some (.int _)=>match p,q with
   | .int k a,.int k' b=>bif Dc k k' then some (a == b) else none
   | _,_=>none
  | some .string=>match p,q with
   | .str a,.str b=>some (a == b)
   | _,_=>none
  | some (.struct fs)=>match p,q with
   | .agg xs,.agg ys=>bif P.stoodInHeld t then none else Lp P (Hl P d) xs ys fs.toList
   | _,_=>none
  | _=>none
theorem Bu {t:TypeId} {ag:Bool} {k off:Nat} {cs cs':List PV} {p:PV} {vs:List Value} {w:World} {m:cZ} (ht:dZ P t=some (ag,k)) (hd:fH off cs=some cs') (hp:dP ag k cs'=some p) (hv:aG w m cs vs):
  ∃ v,(part t vs.toArray off).run P w=.ok v w∧aN w m p v:=by
 obtain ⟨rfl,_⟩:=lM hd; obtain ⟨hA,hS⟩:=mU ht w; have e3:=hv.drop off; unfold dP at hp; cases ag with
 | true=>
  simp only [cond_true] at hp; split at hp
  ·
   rename_i r hr; simp only [Option.some.injEq] at hp; subst hp; obtain ⟨rfl,hk⟩:=oJ hr; refine ⟨.agg ((vs.drop off).take k).toArray,?_,by simp only [aN]; exact ⟨_,rfl,e3.take k⟩⟩; simp only [part,Sem.run_bind,hA,Result.andThen_ok,if_true,hS,Sem.run_pure]; congr 3; apply Array.ext'; simp
  · cases hp
 | false=>
  simp only [cond_false] at hp; split at hp
  ·
   rename_i c cs' hd'; have hp:=PV.force_eq hp; subst hp; rw [hd'] at e3; simp only [aG] at e3; obtain ⟨v,vs',e4,e5,e6⟩:=e3; refine ⟨v,?_,e5⟩
   have:vs[off]?=some v:=by
    have:=congrArg (·[0]?) e4; simpa [List.getElem?_drop] using this
   simp [part,hA,this]
  · cases hp
theorem Eb {g:TypeId→PV→PV→Option Bool} {d:Nat} {xs ys:List PV} {vs us:List Value} {w:World} {m:cZ} (hx:aG w m xs vs) (hy:aG w m ys us)
  (ih:∀ t p q b v u,g t p q=some b→aN w m p v→aN w m q u→(Op.equalIn d t v u).run P w=.ok b w):∀ {fs:List Field} {b:Bool},Lp P g xs ys fs=some b→(Op.eqFields d vs.toArray us.toArray fs).run P w=.ok b w
 | [],b,h=>by simp only [Lp,Option.some.injEq] at h; subst h; simp [Op.eqFields]
 | f :: fs,b,h=>by
  simp only [Lp] at h
  cases hn:(f.name != "_") with
  | false=>rw [hn] at h; cases h
  | true=>
   rw [hn] at h; simp only [cond_true] at h
   have hn:f.name≠ "_" :=by simpa using hn
   split at h
   ·
    rename_i ag k ht; split at h
    ·
     rename_i xs' ys' NR hdy; split at h
     ·
      rename_i p q hlp hlq; split at h
      ·
       rename_i a b' ha hb; simp only [Option.some.injEq] at h; subst h; obtain ⟨v,p1,p2⟩:=Bu ht NR hlp hx; obtain ⟨u,q1,q2⟩:=Bu ht hdy hlq hy; have h1:=ih _ _ _ _ _ _ ha p2 q2; have h2:=Eb hx hy ih hb; simp only [Op.eqFields,hn,ne_eq,not_false_eq_true,if_true,Sem.run_bind,p1,q1,h1,Result.andThen_ok]; cases a with
       | false=>simp
       | true=>simpa using h2
      · cases h
     · cases h
    · cases h
   · cases h
theorem Ea {w:World} {m:cZ}:∀ (d e:Nat) (t:TypeId) (p q:PV) (b:Bool) (v u:Value),Hl P d t p q=some b→aN w m p v→aN w m q u→(Op.equalIn (e + d) t v u).run P w=.ok b w
 | 0,_,_,_,_,_,_,_,h,_,_=>by cases h
 | d + 1,e,t,p,q,b,v,u,h,hp,hq=>by
  simp only [Hl] at h; split at h
  ·
   rename_i hu; split at h
   ·
    simp only [Option.some.injEq] at h; subst h; simp only [aN] at hp hq; subst hp hq; simp [←Nat.add_assoc,Op.equalIn,run_underlying hu]
   · cases h
  ·
   rename_i k0 hu; split at h
   ·
    rename_i k a k' b'; cases hk:Dc k k' with
    | false=>rw [hk] at h; cases h
    | true=>
     cases wK hk; rw [hk] at h; simp only [cond_true,Option.some.injEq] at h; subst h; simp only [aN] at hp hq; subst hp hq; simp [←Nat.add_assoc,Op.equalIn,run_underlying hu]
   · cases h
  ·
   rename_i hu; split at h
   ·
    rename_i a b'; simp only [Option.some.injEq] at h; subst h; simp only [aN] at hp hq; subst hp hq
    have:((⟨a.toArray⟩:ByteArray) == ⟨b'.toArray⟩)=(a == b'):=by
     show (a.toArray == b'.toArray)=(a == b'); simp
    simp [←Nat.add_assoc,Op.equalIn,run_underlying hu,this]
   · cases h
  ·
   rename_i fs hu; split at h
   ·
    rename_i xs ys; cases hs:P.stoodInHeld t with
    | true=>rw [hs] at h; cases h
    | false=>
     rw [hs] at h; simp only [cond_false] at h; simp only [aN] at hp hq; obtain ⟨vs,rfl,hv⟩:=hp; obtain ⟨us,rfl,NK⟩:=hq; have hfs:P.fieldsOf t=fs:=by simp [Program.fieldsOf,hu]
     rw [←Nat.add_assoc,run_equalIn_struct w (e + d) t vs.toArray us.toArray (by rw [hfs]; exact hu) hs,hfs]; exact Eb hv NK (fun t p q b v u h hp hq=>Ea d e t p q b v u h hp hq) h
   · cases h
  · cases h
end
section
variable {P : Program} {o : Oper} {ρ : Operand → PV} {σ : List aA} {R S : PV → List aA → Prop}
theorem AO.nu {t u:TypeId} {x y:Operand} {xs ys:List PV} {b r:Bool} {op:BinOp} (ho:o.op=.binOp op t x y u) (hg:P.eqGuardType P.depth t=false) (hx:ρ x=.agg xs) (hy:ρ y=.agg ys) (h:Hl P 100 t (.agg xs) (.agg ys)=some b)
  (hr:(match op with | .eql=>some b | .neq=>some (!b) | _=>none)=some r) (hR:R (.bool r) σ):AO P o ρ σ R S:=by
 refine AO.of_same hR fun w m ev hrep _=>?_; have h1:=hrep x (by simp [ho,Op.operands]); have h2:=hrep y (by simp [ho,Op.operands]); rw [hx] at h1; rw [hy] at h2; have hrun:=Ea (P:=P) (w:=w) (m:=m) 100 9900 t _ _ b _ _ h h1 h2; simp only [aN] at h1 h2; obtain ⟨vs,e1,_⟩:=h1; obtain ⟨us,e2,_⟩:=h2; rw [e1,e2] at hrun; refine ⟨.bool r,?_,by simp only [aN]⟩; have e4:(Op.equal t (.agg vs.toArray) (.agg us.toArray)).run P w=.ok b w:=hrun; cases op <;> simp only [reduceCtorEq,Option.some.injEq] at hr <;> subst hr
 ·
  have e3:binOp .eql t (.agg vs.toArray) (.agg us.toArray)=(do pure (.bool (←Op.equal t (.agg vs.toArray) (.agg us.toArray)))):=rfl; simp only [execOp,ho,e1,e2,e3,Sem.run_bind,Sem.run_pure]; simp [eqGuard,hg,e4]
 ·
  have e3:binOp .neq t (.agg vs.toArray) (.agg us.toArray)=(do pure (.bool (!(←Op.equal t (.agg vs.toArray) (.agg us.toArray))))):=rfl; simp only [execOp,ho,e1,e2,e3,Sem.run_bind,Sem.run_pure]; simp [eqGuard,hg,e4]
end
end Go.Abs
namespace Go.Abs
variable [bX]
open Go
structure dV where
 lb:Nat→Nat
 hd:Nat→Value
def rz (nx:Nat) (ρ ρ':dV):Prop:=∀ k,k < nx→ρ'.lb k=ρ.lb k∧ρ'.hd k=ρ.hd k
theorem rz.refl (nx:Nat) (ρ:dV):rz nx ρ ρ:=fun _ _=>⟨rfl,rfl⟩
theorem rz.le {nx lW:Nat} {ρ ρ':dV} (h:rz lW ρ ρ') (hn:nx≤lW):rz nx ρ ρ':=fun k hk=>h k (Nat.lt_of_lt_of_le hk hn)
theorem rz.trans {nx:Nat} {ρ ρ' KG:dV} (h:rz nx ρ ρ') (h':rz nx ρ' KG):rz nx ρ KG:=fun k hk=>⟨(h' k hk).1.trans (h k hk).1,(h' k hk).2.trans (h k hk).2⟩
def vR (ρ:dV):Value→Value
 | .pointer (some ⟨b,off,none⟩)=>.pointer (some ⟨ρ.lb b,off,none⟩)
 | .map (some b)=>.map (some (ρ.lb b))
 | v=>v
def sN (ρ:dV):Value→Value
 | .slice (some ⟨k,0,none⟩) 0 0=>ρ.hd k
 | v=>v
mutual
def PV.ren (ρ:dV):PV→PV
 | .list l=>.list (dQ ρ l)
 | .agg cs=>.agg (bG ρ cs)
 | .tuple vs=>.tuple (bG ρ vs)
 | .val v=>.val (vR ρ v)
 | .iface t p=>.iface t (p.ren ρ)
 | .fn f cs=>.fn f (bG ρ cs)
 | .ref cs=>.ref (bG ρ cs)
 | .own v l=>.own (sN ρ v) (dQ ρ l)
 | .undef=>.undef
 | .int k n=>.int k n
 | .bool b=>.bool b
 | .str s=>.str s
 | .err e=>.err e
def bG (ρ:dV):List PV→List PV
 | []=>[]
 | p :: ps=>p.ren ρ :: bG ρ ps
def dQ (ρ:dV):List (List PV)→List (List PV)
 | []=>[]
 | l :: ls=>bG ρ l :: dQ ρ ls
end
section
variable {ρ ρ' : dV}
theorem j5 (ρ:dV):∀ l:List PV,bG ρ l=l.map (PV.ren ρ)
 | []=>rfl
 | p :: ps=>by simp only [bG,List.map_cons,j5 ρ ps]
theorem bR (ρ:dV):∀ l:List (List PV),dQ ρ l=l.map (bG ρ)
 | []=>rfl
 | p :: ps=>by simp only [dQ,List.map_cons,bR ρ ps]
def xR (ρ:dV):Obj→Obj
 | .mapIter (some m) a b c=>.mapIter (some (ρ.lb m)) a b c
 | o=>o
def fQ (ρ:dV) (es:List (Nat × PV × PV)):List (Nat × PV × PV):=es.map fun x=>(x.1,x.2.1.ren ρ,x.2.2.ren ρ)
def aA.ren (ρ:dV):aA→aA
 | .box b cs=>.box (ρ.lb b) (bG ρ cs)
 | .row v n sz e=>.row (sN ρ v) n sz e
 | .obj b o=>.obj (ρ.lb b) (xR ρ o)
 | .mp b es n=>.mp (ρ.lb b) (fQ ρ es) n
 | r=>r
def eP (ρ:dV) (e:Env):Env:=e.map fun x=>(x.1,x.2.ren ρ)
def bT (ρ:dV) (s:List aA):List aA:=s.map (aA.ren ρ)
def Ok {α:Type} (nx:Nat) (f:dV→α):Prop:=∀ ρ ρ',rz nx ρ ρ'→f ρ=f ρ'
theorem Ok.le {α:Type} {nx lW:Nat} {f:dV→α} (h:Ok nx f) (hn:nx≤lW):Ok lW f:=fun ρ ρ' ha=>h ρ ρ' (ha.le hn)
theorem Ok.via {α β:Type} {nx:Nat} {f:dV→α} {g:dV→β} (h:Ok nx f) (k:∀ ρ ρ',f ρ=f ρ'→g ρ=g ρ'):Ok nx g:=fun ρ ρ' ha=>k ρ ρ' (h ρ ρ' ha)
abbrev gL (nx:Nat) (p:PV):Prop:=Ok nx fun ρ=>p.ren ρ
abbrev jh (nx:Nat) (l:List PV):Prop:=Ok nx fun ρ=>bG ρ l
abbrev sH (nx:Nat) (e:Env):Prop:=Ok nx fun ρ=>eP ρ e
abbrev gB (nx:Nat) (s:List aA):Prop:=Ok nx fun ρ=>bT ρ s
theorem rY (e:Env) (t:Nat):(eP ρ e).get t=(e.get t).ren ρ:=by
 induction e with
 | nil=>rfl
 | cons x e ih=>
  obtain ⟨u,p⟩:=x; simp only [eP,List.map_cons,Env.get] at ih ⊢; cases Nat.beq u t with
  | true=>rfl
  | false=>exact ih
theorem sH.get {nx:Nat} {e:Env} (h:sH nx e) (t:Nat):gL nx (e.get t):=h.via fun ρ ρ' he=>by
 have:=congrArg (fun x=>Env.get x t) he; simpa only [rY] using this
theorem sH.cons {nx:Nat} {e:Env} {p:PV} (t:Nat) (hp:gL nx p) (h:sH nx e):sH nx ((t,p) :: e):=fun ρ ρ' ha=>by
 have h1:=hp ρ ρ' ha; have h2:=h ρ ρ' ha; simp only [eP,List.map_cons] at h1 h2 ⊢; rw [h1,h2]
theorem iZ (p:PV):p.force=some p:=by cases p <;> rfl
theorem jh.cons {nx:Nat} {p:PV} {l:List PV} (hp:gL nx p) (hl:jh nx l):jh nx (p :: l):=fun ρ ρ' ha=>by
 simp only [bG]; rw [show p.ren ρ=p.ren ρ' from hp ρ ρ' ha,show bG ρ l=bG ρ' l from hl ρ ρ' ha]
theorem jh.nil {nx:Nat}:jh nx []:=fun _ _ _=>rfl
theorem jh.of {nx:Nat} {l:List PV} (h:∀ p∈l,gL nx p):jh nx l:=by
 induction l with
 | nil=>exact jh.nil
 | cons p l ih=>exact jh.cons (h p (by simp)) (ih fun q hq=>h q (by simp [hq]))
theorem jh.mem {nx:Nat}:∀ {l:List PV} (_:jh nx l) {p:PV},p∈l→gL nx p
 | q :: l,h,p,hp=>by
  rcases List.mem_cons.1 hp with rfl | hp
  · exact h.via fun ρ ρ' he=>(List.cons.inj he).1
  · exact jh.mem (h.via fun ρ ρ' he=>(List.cons.inj he).2) hp
theorem jh.append {nx:Nat} {l l':List PV} (h:jh nx l) (h':jh nx l'):jh nx (l ++ l'):=fun ρ ρ' ha=>by
 have h1:=h ρ ρ' ha; have h2:=h' ρ ρ' ha; simp only [j5] at h1 h2 ⊢; rw [List.map_append,List.map_append,h1,h2]
theorem gT (l:List PV):(bG ρ l).length=l.length:=by rw [j5,List.length_map]
theorem sJ :∀ (k:Nat) (cs:List PV),lZ k (bG ρ cs)=(lZ k cs).map (bG ρ)
 | 0,cs=>by simp only [lZ,Option.map_some,bG]
 | k + 1,[]=>rfl
 | k + 1,c :: cs=>by
  simp only [bG,lZ,iZ,sJ k cs]; cases lZ k cs <;> rfl
theorem jT :∀ (k:Nat) (cs:List PV),fH k (bG ρ cs)=(fH k cs).map (bG ρ)
 | 0,[]=>rfl
 | 0,c :: cs=>rfl
 | k + 1,[]=>rfl
 | k + 1,c :: cs=>by simp only [bG,fH]; exact jT k cs
theorem lG (ag:Bool) (k:Nat) (cs:List PV):dP ag k (bG ρ cs)=(dP ag k cs).map (PV.ren ρ):=by
 unfold dP; cases ag with
 | true=>
  simp only [cond_true,sJ]; cases lZ k cs <;> rfl
 | false=>
  cases cs with
  | nil=>rfl
  | cons c cs=>simp only [cond_false,bG,iZ,Option.map_some]
theorem sS :∀ (cs new:List PV),o9 (bG ρ cs) (bG ρ new)=(o9 cs new).map (bG ρ)
 | [],[]=>rfl
 | _ :: _,[]=>rfl
 | [],_ :: _=>rfl
 | c :: cs,n :: ns=>by
  simp only [bG,o9,sS cs ns]; cases o9 cs ns <;> rfl
theorem o8 :∀ (cs:List PV) (off:Nat) (new:List PV),qy (bG ρ cs) off (bG ρ new)=(qy cs off new).map (bG ρ)
 | [],0,new=>by simpa only [qy,bG] using sS [] new
 | c :: cs,0,new=>by simpa only [qy,bG] using sS (c :: cs) new
 | [],_ + 1,_=>rfl
 | c :: cs,k + 1,new=>by
  simp only [bG,qy,o8 cs k new]; cases qy cs k new <;> rfl
theorem uh (v:Value):(vR ρ v).oneCell'=v.oneCell':=by
 unfold vR; split <;> rfl
theorem H7 (p:PV):(p.ren ρ).one=p.one:=by cases p <;> simp [PV.ren,PV.one,uh]
theorem nS (p:PV):(p.ren ρ).gu=p.gu.map (bG ρ):=by
 cases p <;> simp only [PV.ren,PV.gu,Option.map_some,bG,Option.map_none]; rename_i v; rw [uh]; cases v.oneCell' <;> simp [bG,PV.ren]
theorem uE (l:List PV):(bG ρ l).all PV.one=l.all PV.one:=by
 induction l with
 | nil=>rfl
 | cons p l ih=>simp only [bG,List.all_cons,H7,ih]
theorem ql (p:PV):(p.ren ρ).els=p.els.map (dQ ρ):=by cases p <;> rfl
theorem nk (place:Nat→Option (Nat × Nat)):∀ (ps:List (Nat × PV)) (cells:List PV),iq place (bG ρ cells) (ps.map fun x=>(x.1,x.2.ren ρ))=(iq place cells ps).map (bG ρ)
 | [],cells=>by simp only [List.map_nil,iq,Option.map_some]
 | (i,p) :: r,cells=>by
  simp only [List.map_cons,iq]; cases place i with
  | none=>rfl
  | some os=>
   obtain ⟨off,size⟩:=os; simp only [nS]; cases p.gu with
   | none=>rfl
   | some cs=>
    simp only [Option.map_some,gT]; cases Nat.beq cs.length size with
    | false=>rfl
    | true=>
     simp only [cond_true,o8]; cases qy cells off cs with
     | none=>rfl
     | some c'=>exact nk place r c'
theorem qX (sz:Nat):∀ (n:Nat) (cs:List PV),iN sz n (bG ρ cs)=(iN sz n cs).map (dQ ρ)
 | 0,[]=>rfl
 | 0,_ :: _=>rfl
 | n + 1,cs=>by
  simp only [iN,sJ]; cases lZ sz cs with
  | none=>rfl
  | some e=>
   simp only [Option.map_some,jT]; cases fH sz cs with
   | none=>rfl
   | some r=>
    simp only [Option.map_some,qX sz n r]; cases iN sz n r <;> rfl
theorem oM :∀ (s:List aA) (i:Nat) (r:aA),iM (bT ρ s) i (r.ren ρ)=(iM s i r).map (bT ρ)
 | [],_,_=>rfl
 | _ :: _,0,_=>rfl
 | x :: s,i + 1,r=>by
  have:=oM s i r; simp only [bT,List.map_cons,iM] at this ⊢; rw [this]; cases iM s i r <;> rfl
theorem fK (s:List aA) (i:Nat):(bT ρ s)[i]?=(s[i]?).map (aA.ren ρ):=by simp [bT]
theorem gB.cons {nx:Nat} {r:aA} {s:List aA} (hr:Ok nx fun ρ=>r.ren ρ) (hs:gB nx s):gB nx (r :: s):=fun ρ ρ' ha=>by
 have h1:=hr ρ ρ' ha; have h2:=hs ρ ρ' ha; simp only [bT,List.map_cons] at h1 h2 ⊢; rw [h1,h2]
theorem gB.tail {nx:Nat} {r:aA} {s:List aA} (h:gB nx (r :: s)):gB nx s:=h.via fun ρ ρ' he=>by
 simp only [bT,List.map_cons] at he ⊢; exact (List.cons.inj he).2
theorem gB.get {nx:Nat} {s:List aA} (h:gB nx s) {i:Nat} {r:aA} (hi:s[i]?=some r):Ok nx fun ρ=>r.ren ρ:=h.via fun ρ ρ' he=>by
 have:=congrArg (fun x=>x[i]?) he; simpa only [fK,hi,Option.map_some,Option.some.injEq] using this
theorem gB.set {nx:Nat}:∀ {s s':List aA} {i:Nat} {r:aA},gB nx s→Ok nx (fun ρ=>r.ren ρ)→iM s i r=some s'→gB nx s'
 | [],_,_,_,_,_,h=>by simp [iM] at h
 | x :: s,s',0,r,hs,hr,h=>by
  simp only [iM,Option.some.injEq] at h; subst h; exact gB.cons hr hs.tail
 | x :: s,s',i + 1,r,hs,hr,h=>by
  simp only [iM] at h; split at h
  ·
   rename_i t ht; simp only [Option.some.injEq] at h; subst h; exact gB.cons (hs.get (i:=0) rfl) (gB.set hs.tail hr ht)
  · cases h
theorem Ok.Dh {α β:Type} {nx:Nat} {x:dV→α} {y:dV→β} (g:α→Option β) (hx:Ok nx x) (h:∀ ρ,g (x ρ)=some (y ρ)):Ok nx y:=hx.via fun ρ ρ' he=>by
 have:=congrArg g he; rw [h,h] at this; exact Option.some.inj this
end
end Go.Abs
namespace Go.Abs
variable [bX]
open Go
section
variable {P : Program} {o : Oper} {ρ : Operand → PV} {σ : List aA} {R S : PV → List aA → Prop}
theorem AO.undef {ρ1:Operand→PV} (h:∀ x,ρ1 x=.undef∨ρ1 x=ρ x) (k:AO P o ρ1 σ R S):AO P o ρ σ R S:=
 fun w m a K QC hr hc hK hS=>k w m a K QC (fun x hx=>by
  rcases h x with e | e
  · rw [e]; simp only [aN]
  · rw [e]; exact hr x hx) hc hK hS
theorem AO.MB (sz e:Nat) (h:AO P o ρ (.row (.slice none 0 0) 0 sz e :: σ) R S):AO P o ρ σ R S:=by
 intro w m a K QC hr hc hK hS; obtain ⟨h1,h2⟩:=w9 hc sz e; exact h w m a K QC hr h1 (fun p σ' v w' m' k1 k2 k3 k4=>hK p σ' v w' m' k1 k2 k3 (h2.trans k4)) (fun p σ' v w' m' k1 k2 k3 k4=>hS p σ' v w' m' k1 k2 k3 (h2.trans k4))
theorem AO.LC {c:Call} {f:FuncId} {caps:List PV} (ho:o.op=.call c) (tV:Operand) (cK:c.callee=.value tV) (hf:ρ tV=.fn f caps) (hp:aU P f=true)
  (h:AC P f (c.args.toList.map ρ ++ caps) σ fun out σ'=>match out with | .ret p=>R p σ' | .panic p=>S p σ'):AO P o ρ σ R S:=by
 intro w m a K QC hr hc hK hS; have hcr:=hr tV (by simp [ho,Op.operands,Call.operands,cK]); rw [hf] at hcr; simp only [aN] at hcr; obtain ⟨cs,hcv,hcs⟩:=hcr; have hargs:aG w m (c.args.toList.map ρ) (c.args.toList.map a.eval):=aG.map fun x hx=>hr x (by simp [ho,Op.operands,Call.operands,cK]; exact .inr (by simpa using hx))
 have hrun:(execOp a.eval o).run P w=.ok (.enter f (c.args.toList.map a.eval ++ cs).toArray) w:=by
  unfold execOp; simp only [ho,resolve,cK,hcv,Deferred.ofValue,invoke,Sem.run_bind,Sem.run_pure,Result.andThen_ok]; rw [rH hp]; congr 2; apply Array.ext'; simp
 unfold Oper.wp; rw [hrun,Oper.upon_enter]; refine (h w m _ hc (hargs.append hcs)).mono ?_; rintro e w' ⟨out,σ',m',h1,h2,h3,h4⟩; cases out with
 | ret p=>
  obtain ⟨v,rfl,hv⟩:=h2; exact hK p σ' v w' m' h1 hv h3 h4
 | panic p=>
  obtain ⟨v,rfl,hv⟩:=h2; exact hS p σ' v w' m' h1 hv h3 h4
def zF :PV→Option Bool
 | .own (.slice none 0 0) []=>some true
 | .own _ (_ :: _)=>some false
 | .list (_ :: _)=>some false
 | _=>none
theorem F7 {w:World} {m:cZ} {p:PV} {b:Bool} {v:Value} (h:zF p=some b) (hv:aN w m p v):∃ a n c,v=.slice a n c∧a.isNone=b:=by
 unfold zF at h; split at h
 ·
  simp only [Option.some.injEq] at h; subst h; simp only [aN] at hv; exact ⟨none,0,0,hv.1,rfl⟩
 ·
  simp only [Option.some.injEq] at h; subst h; simp only [aN] at hv; obtain ⟨_,a,cap,h1,_,h3⟩:=hv; refine ⟨a,_,cap,h1,?_⟩; rcases h3 with h3 | ⟨bk,off,sz,rfl,_⟩
  · cases h3
  · rfl
 ·
  simp only [Option.some.injEq] at h; subst h; simp only [aN] at hv; obtain ⟨a,cap,h1,_,h3⟩:=hv; refine ⟨a,_,cap,h1,?_⟩; rcases h3 with h3 | ⟨bk,off,sz,rfl,_⟩
  · cases h3
  · rfl
 · cases h
theorem zu (w:World) (t e:TypeId) (a:Option Addr) (l c:Nat) (h:P.underlying t=some (.slice e)):(Op.equal t (.slice a l c) (.slice none 0 0)).run P w=.ok a.isNone w:=by
 have h:∀ d:Nat,(Op.equalIn (d + 1) t (.slice a l c) (.slice none 0 0)).run P w=.ok a.isNone w:=fun d=>by
  cases a <;> simp [Op.equalIn,run_underlying h]
 simp [Op.equal,Op.maxDepth,h 9999]
theorem AO.F8 {t e yt:TypeId} {x:Operand} {b r:Bool} {op:BinOp} (ho:o.op=.binOp op t x (.const (.slice none 0 0)) yt) (hx:zF (ρ x)=some b) (hu:P.underlying t=some (.slice e))
  (hop:(match op with | .eql=>some b | .neq=>some (!b) | _=>none)=some r) (hR:R (.bool r) σ):AO P o ρ σ R S:=by
 intro w m a K QC hr hc hK _; have hv:=hr x (by simp [ho,Op.operands]); obtain ⟨ad,n,c,e1,e2⟩:=F7 hx hv; have hev:a.eval (.const (.slice none 0 0))=.slice none 0 0:=rfl
 have hrun:(execOp a.eval o).run P w=.ok (.value (.bool r)) w:=by
  cases op <;> simp only [reduceCtorEq,Option.some.injEq] at hop <;> subst hop
  ·
   simp only [execOp,ho,hev,e1,Sem.run_bind]; rw [show eqGuard .eql t x (.const (.slice none 0 0)) (.slice ad n c) (.slice none 0 0)=pure () from rfl]; simp only [Sem.run_pure,Result.andThen_ok,oO w t e ad n c hu,e2]
  ·
   simp only [execOp,ho,hev,e1,Sem.run_bind]; rw [show eqGuard .neq t x (.const (.slice none 0 0)) (.slice ad n c) (.slice none 0 0)=pure () from rfl]; simp only [Sem.run_pure,Result.andThen_ok,binOp,Sem.run_bind,zu w t e ad n c hu,e2]
 unfold Oper.wp; rw [hrun]; exact hK _ σ _ w m hR (by simp only [aN]) hc (Trans.refl ..)
theorem AO.CJ {t e sz bytes len:Nat} {parts:Array (Nat × Operand)} {cells:List PV} {l:List (List PV)} (ho:o.op=.buildSlice t len parts) (hs:eO P t e sz bytes) (hle:Nat.ble (len * sz) 16777216=true)
  (hf:iq (fun i=>some (i * sz,sz)) (List.replicate (len * sz) .undef) (parts.toList.map fun x=>(x.1,ρ x.2))=some cells) (hl:iN sz len cells=some l) (hlen:Nat.ble len 16777216=true) (hR:∀ v,R (.own v l) (.row v len sz e :: σ)):AO P o ρ σ R S:=by
 refine AO.of_run' fun w m ev hr hc=>?_; obtain ⟨vs,h1,h2,h3⟩:=run_buildSlice (ρ:=ρ) (ev:=ev) hs hle (fun x hx=>hr x.2 (by simp only [ho,Op.operands]; simpa using ⟨x.1,by simpa using hx⟩)) hf (l:=l); obtain ⟨hl1,hl2,hl3⟩:=ny hl; have hlen:=Nat.le_of_ble_eq_true hlen; have hc':=je hc (.cells vs.toArray e) (fun off=>off < len * sz)
 have hrow:gK (w.alloc (.cells vs.toArray e)) e sz (.slice (some ⟨w.heap.size,0,none⟩) len len) len vs:=
  ⟨h3,.inr ⟨w.heap.size,len,vs.toArray,(0,0),rfl,heap_alloc_new w _,.inl rfl,Nat.le_refl _,by unfold maxLen; omega,by simp [h3],by rw [←h3]; simp⟩⟩
 refine ⟨.own (.slice (some ⟨w.heap.size,0,none⟩) len len) l,_,.slice (some ⟨w.heap.size,0,none⟩) len len,_,_,hR _,by simp only [execOp,ho,Sem.run_bind,h1,Result.andThen_ok,Sem.run_pure],?_,⟨fun r hr'=>?_,?_,hc'.wf,hc'.kN⟩,dS hc _ _ fun b hb=>?_⟩
 ·
  simp only [aN]; refine ⟨trivial,some ⟨w.heap.size,0,none⟩,len,by rw [hl1],by omega,.inr ⟨w.heap.size,0,sz,rfl,eY.2 ⟨hl3,?_⟩⟩⟩; rw [hl2]; refine dW.2 ⟨vs,aG.mono (lV w m _ hc.wf _) _ vs h2,fun i v hv=>⟨.inr ⟨rfl,?_⟩,?_⟩⟩
  ·
   rw [Nat.zero_add,←h3]; rcases Nat.lt_or_ge i vs.length with h | h
   · exact h
   · simp [List.getElem?_eq_none h] at hv
  ·
   rw [Nat.zero_add,World.cell?_alloc_new]; simpa using hv
 ·
  rcases List.mem_cons.1 hr' with rfl | hr'
  ·
   refine ⟨vs,hrow,fun b hb off hm=>?_⟩; have hb:w.heap.size=b:=by simpa [Value.ownBlock] using hb
   rcases hm with hm | ⟨_,hm⟩
   · have:=hc.wf b off hm; omega
   · exact hm
  · exact hc'.each r hr'
 ·
  simp only [fG,List.flatMap_cons,aA.fp,Value.ownBlock,Option.toList_some,List.singleton_append,List.nodup_cons]; refine ⟨fun hm=>?_,hc.apart⟩; have:=hc.tK _ hm; omega
 ·
  simp only [fG,List.flatMap_cons,aA.fp,Value.ownBlock,Option.toList_some,List.singleton_append,List.mem_cons] at hb; rcases hb with hb | hb
  · exact .inr hb
  · exact .inl hb
theorem AO.xO {c:Call} {x y:Operand} {pt it:TypeId} (ho:o.op=.call c) (cK:c.callee=.builtin .unsafeString) (hargs:c.args=#[x,y]) (hty:c.argTypes=#[pt,it])
  (hx:ρ x=.val (.pointer none)) (hy:ρ y=.int .i64 0) (hR:R (.str []) σ):AO P o ρ σ R S:=by
 refine AO.of_same hR fun w m ev hr hc=>?_; have h1:=hr x (by simp [ho,Op.operands,Call.operands,cK,hargs]); have h2:=hr y (by simp [ho,Op.operands,Call.operands,cK,hargs]); rw [hx] at h1; rw [hy] at h2; simp only [aN] at h1 h2; have hrun:=Lib.run_unsafeString_none (P:=P) w pt it o.type none; refine ⟨.string .empty,?_,by simp only [aN]; rfl⟩; simp [execOp,ho,resolve,cK,hargs,hty,invoke,builtin,h1,h2,hrun]
def yQ :PV→PV→Option Bool
 | .int k a,.int k' b=>bif Dc k k' then some (a == b) else none
 | .str a,.str b=>some (a == b)
 | _,_=>none
def kC (k:PV):List (Nat × PV × PV)→Nat→Option (Option (Nat × PV))
 | [],_=>some none
 | (_,k',v) :: r,i=>match yQ k k' with
  | some true=>some (some (i,v))
  | some false=>kC k r (i + 1)
  | none=>none
def Br (k v:PV):List (Nat × PV × PV)→Nat→List (Nat × PV × PV)
 | [],_=>[]
 | (b,_,_) :: r,0=>(b,k,v) :: r
 | x :: r,i + 1=>x :: Br k v r i
def wH (P:Program) (t:TypeId):Option (TypeId × TypeId):=
 match P.underlying t with
 | some (.map kt et)=>match P.underlying kt with
  | some (.int _)=>some (kt,et)
  | some .string=>some (kt,et)
  | _=>none
 | _=>none
theorem lH {t kt et:TypeId} (h:wH P t=some (kt,et)):P.underlying t=some (.map kt et)∧((∃ k,P.underlying kt=some (.int k))∨P.underlying kt=some .string):=by
 unfold wH at h; split at h
 ·
  rename_i Og Ol hu; split at h
  ·
   rename_i k hk; simp only [Option.some.injEq,Prod.mk.injEq] at h; obtain ⟨rfl,rfl⟩:=h; exact ⟨hu,.inl ⟨k,hk⟩⟩
  ·
   rename_i hk; simp only [Option.some.injEq,Prod.mk.injEq] at h; obtain ⟨rfl,rfl⟩:=h; exact ⟨hu,.inr hk⟩
  · cases h
 · cases h
theorem yP {w:World} {m:cZ} {p q:PV} {u v:Value} {b:Bool} {d:TypeDesc} (h:yQ p q=some b) (hu:aN w m p u) (hv:aN w m q v) (hd:((∃ k,d=.int k)∧∃ k n,p=.int k n)∨(d=.string∧∃ s,p=.str s)):
  Instr.sameNow d u v=some b∧(b=true→u=v):=by
 cases p <;> cases q <;> simp only [yQ,reduceCtorEq] at h
 ·
  rename_i k n k' n'; cases e:Dc k k' with
  | false=>rw [e] at h; cases h
  | true=>
   cases wK e; rw [e] at h; simp only [cond_true,Option.some.injEq] at h; subst h; simp only [aN] at hu hv; subst hu hv; rcases hd with ⟨⟨kk,rfl⟩,_⟩ | ⟨_,s,hs⟩
   · exact ⟨by simp [Instr.sameNow],fun h=>by simp at h; rw [h]⟩
   · cases hs
 ·
  rename_i s s'; simp only [Option.some.injEq] at h; subst h; simp only [aN] at hu hv; subst hu hv; rcases hd with ⟨_,k,n,hs⟩ | ⟨rfl,_⟩
  · cases hs
  · exact ⟨by simp only [Instr.sameNow]; rw [G5],fun h=>by simp at h; rw [h]⟩
theorem eX.length_eq {w:World} {m:cZ}:∀ {es:List (Nat × PV × PV)} {ents:List MapEntry},eX w m es ents→ents.length=es.length
 | [],_,h=>by simp only [eX] at h; rw [h]; rfl
 | (_,_,_) :: es,_,h=>by
  simp only [eX] at h; obtain ⟨e,es',rfl,_,_,_,h5⟩:=h; simp [eX.length_eq h5]
theorem tL {w:World} {m:cZ} {kp:PV} {kv:Value} {d:TypeDesc} (hk:aN w m kp kv) (hd:((∃ k,d=.int k)∧∃ k n,kp=.int k n)∨(d=.string∧∃ s,kp=.str s)):
  ∀ {es:List (Nat × PV × PV)} {ents:List MapEntry} (i:Nat) {r:Option (Nat × PV)},eX w m es ents→kC kp es i=some r→
   match r with
   | none=>Instr.findNow d kv ents i=some none
   | some (j,p)=>∃ q v,j=i + q∧Instr.findNow d kv ents i=some (some (j,v))∧aN w m p v∧(∃ e,ents[q]?=some e∧e.key=kv)
 | [],ents,i,r,h,hf=>by
  simp only [eX] at h; subst h; simp only [kC,Option.some.injEq] at hf; subst hf; rfl
 | (b,k',v') :: es,ents,i,r,h,hf=>by
  simp only [eX] at h; obtain ⟨e,es',rfl,h2,h3,h4,h5⟩:=h; simp only [kC] at hf; split at hf
  ·
   rename_i hq; simp only [Option.some.injEq] at hf; subst hf; obtain ⟨g1,g2⟩:=yP hq hk h3 hd; exact ⟨0,e.val,rfl,by simp only [Instr.findNow,g1],h4,e,rfl,(g2 rfl).symm⟩
  ·
   rename_i hq; obtain ⟨g1,g2⟩:=yP hq hk h3 hd; have ih:=tL hk hd (i + 1) h5 hf; cases r with
   | none=>simpa only [Instr.findNow,g1] using ih
   | some jp=>
    obtain ⟨j,p⟩:=jp; obtain ⟨q,v,e1,e2,e3,e4,e5,e6⟩:=ih; exact ⟨q + 1,v,by omega,by simpa only [Instr.findNow,g1] using e2,e3,e4,by simpa using e5,e6⟩
  · cases hf
theorem eX.append {w:World} {m:cZ} {i:Nat} {k v:PV} {e:MapEntry} (hb:e.born=i) (hk:aN w m k e.key) (hv:aN w m v e.val):∀ {es:List (Nat × PV × PV)} {ents:List MapEntry},eX w m es ents→eX w m (es ++ [(i,k,v)]) (ents ++ [e])
 | [],_,h=>by simp only [eX] at h; subst h; exact ⟨e,[],rfl,hb,hk,hv,rfl⟩
 | (_,_,_) :: _,_,⟨e',es',h1,h2,h3,h4,h5⟩=>by subst h1; exact ⟨e',es' ++ [e],rfl,h2,h3,h4,eX.append hb hk hv h5⟩
theorem eX.modify {w:World} {m:cZ} {k v:PV} {kv vv:Value} (hk:aN w m k kv) (hv:aN w m v vv):∀ {es:List (Nat × PV × PV)} {ents:List MapEntry} (q:Nat),eX w m es ents→eX w m (Br k v es q) (ents.modify q fun e=>{e with key:=kv,val:=vv})
 | [],_,q,h=>by simp only [eX] at h; subst h; cases q <;> rfl
 | (_,_,_) :: _,_,0,⟨e',es',h1,h2,h3,h4,h5⟩=>by subst h1; exact ⟨_,es',rfl,h2,hk,hv,h5⟩
 | (_,_,_) :: _,_,q + 1,⟨e',es',h1,h2,h3,h4,h5⟩=>by subst h1; exact ⟨e',_,rfl,h2,h3,h4,eX.modify hk hv q h5⟩
theorem D8 {t kt et:TypeId} {y:PV} (ht:wH P t=some (kt,et)) (hk:(match P.underlying kt,y with | some (.int _),.int _ _=>true | some .string,.str _=>true | _,_=>false)=true):
  ∃ d,P.underlying kt=some d∧(((∃ k,d=.int k)∧∃ k n,y=.int k n)∨(d=.string∧∃ s,y=.str s)):=by
 obtain ⟨_,h2⟩:=lH ht; rcases h2 with ⟨k,h2⟩ | h2
 ·
  rw [h2] at hk; cases y <;> simp only [Bool.false_eq_true] at hk; exact ⟨_,h2,.inl ⟨⟨k,rfl⟩,_,_,rfl⟩⟩
 ·
  rw [h2] at hk; cases y <;> simp only [Bool.false_eq_true] at hk; exact ⟨_,h2,.inr ⟨rfl,_,rfl⟩⟩
def rV (P:Program) (kt:TypeId) (y:PV):Bool:=match P.underlying kt,y with | some (.int _),.int _ _=>true | some .string,.str _=>true | _,_=>false
theorem ow {kt:TypeId} {d:TypeDesc} {y:PV} {kv:Value} {w:World} {m:cZ} (h:P.underlying kt=some d) (hd:((∃ k,d=.int k)∧∃ k n,y=.int k n)∨(d=.string∧∃ s,y=.str s)) (hy:aN w m y kv) (b:Bool) (n:Nat):
  (Instr.checkKey b (n + 1) kt kv).run P w=.ok () w:=by
 rcases hd with ⟨⟨k,rfl⟩,k',n',rfl⟩ | ⟨rfl,s,rfl⟩
 · simp only [aN] at hy; subst hy; simp [Instr.checkKey,run_underlying h]
 · simp only [aN] at hy; subst hy; simp [Instr.checkKey,run_underlying h]
theorem AO.Gg {t:TypeId} (ho:o.op=.makeMap t none) (hR:∀ b,R (.val (.map (some b))) (.mp b [] 0 :: σ)):AO P o ρ σ R S:=by
 refine AO.of_run' fun w m ev hr hc=>?_; have hal:=qx hc (.map #[] 0); refine ⟨_,_,.map (some w.heap.size),_,_,hR w.heap.size,?_,by simp [aN],⟨fun r hr'=>?_,?_,hal.wf,hal.kN⟩,dS hc _ _ fun b hb=>?_⟩
 · simp [execOp,ho,Instr.makeMap,go_sem]
 ·
  rcases List.mem_cons.1 hr' with rfl | hr'
  ·
   have:=hal.each (.obj w.heap.size (.map #[] 0)) (by simp); exact ⟨⟨[],this.1,rfl⟩,this.2⟩
  · exact hal.each r (by simp [hr'])
 · exact hal.apart
 ·
  simp [fG,aA.fp] at hb ⊢; rcases hb with hb | hb
  · exact .inr hb
  · exact .inl hb
theorem AO.D6 {t kt et:TypeId} {x y:Operand} {ok:Bool} {es:List (Nat × PV × PV)} {n b i:Nat} {r:Option (Nat × PV)} {z p:PV} (ho:o.op=.lookup t x y ok) (hi:σ[i]?=some (.mp b es n)) (hx:ρ x=.val (.map (some b)))
  (ht:wH P t=some (kt,et)) (hk:rV P kt (ρ y)=true) (hr:kC (ρ y) es 0=some r) (hz:∀ w m,r=none→∃ v,(zeroValue et).run P w=.ok v w∧aN w m z v)
  (hp:p=(match r with | some (_,q)=>bif ok then .tuple [q,.bool true] else q | none=>bif ok then .tuple [z,.bool false] else z)) (hR:R p σ):AO P o ρ σ R S:=by
 refine AO.of_same hR fun w m ev Kt hc=>?_; have h1:=Kt x (by simp [ho,Op.operands]); have h2:=Kt y (by simp [ho,Op.operands]); rw [hx] at h1; simp only [aN] at h1; obtain ⟨⟨ents,hb,he⟩,hm⟩:=hc.each _ (List.mem_of_getElem? hi); obtain ⟨d,hd1,hd2⟩:=D8 ht hk; have f1:=tL h2 hd2 0 he hr; have hg:(getObj b).run P w=.ok (.map ents.toArray n) w:=run_getObj_map hb; have hck:=ow (P:=P) hd1 hd2 h2; cases r with
 | none=>
  obtain ⟨zv,z1,z2⟩:=hz w m rfl; have hf:(Instr.findKey kt (ev y) ents).run P w=.ok none w:=by simp [Instr.findKey,run_underlying hd1,f1]
  refine ⟨if ok then .tuple #[zv,.bool false] else zv,?_,?_⟩
  · simp only [execOp,ho,Instr.lookup,h1,Sem.run_bind,run_underlying (lH ht).1,Result.andThen_ok,hg,Sem.run_pure,hck,List.toList_toArray,hf,z1]
  ·
   subst hp; cases ok
   · exact z2
   ·
    simp only [cond_true,if_true,aN]; exact ⟨_,rfl,aG.cons z2 (aG.cons (by simp only [aN]) aG.nil)⟩
 | some jp=>
  obtain ⟨j,q⟩:=jp; obtain ⟨_,v,_,f2,f3,_⟩:=f1; have hf:(Instr.findKey kt (ev y) ents).run P w=.ok (some (j,v)) w:=by simp [Instr.findKey,run_underlying hd1,f2]
  refine ⟨if ok then .tuple #[v,.bool true] else v,?_,?_⟩
  · simp only [execOp,ho,Instr.lookup,h1,Sem.run_bind,run_underlying (lH ht).1,Result.andThen_ok,hg,Sem.run_pure,hck,List.toList_toArray,hf]
  ·
   subst hp; cases ok
   · exact f3
   ·
    simp only [cond_true,if_true,aN]; exact ⟨_,rfl,aG.cons f3 (aG.cons (by simp only [aN]) aG.nil)⟩
theorem AO.wo {t kt et:TypeId} {x y z:Operand} {es es':List (Nat × PV × PV)} {n n' b i:Nat} {r:Option (Nat × PV)} {σ':List aA} (ho:o.op=.mapUpdate t x y z) (hi:σ[i]?=some (.mp b es n)) (hx:ρ x=.val (.map (some b)))
  (ht:wH P t=some (kt,et)) (hk:rV P kt (ρ y)=true) (hr:kC (ρ y) es 0=some r)
  (he:(es',n')=(match r with | some (j,_)=>(Br (ρ y) (ρ z) es j,n) | none=>(es ++ [(n,ρ y,ρ z)],n + 1))) (hset:iM σ i (.mp b es' n')=some σ') (hR:R .undef σ'):AO P o ρ σ R S:=by
 intro w m a K QC Kt hc hK _; have h1:=Kt x (by simp [ho,Op.operands]); have h2:=Kt y (by simp [ho,Op.operands]); have h3:=Kt z (by simp [ho,Op.operands]); rw [hx] at h1; simp only [aN] at h1; obtain ⟨⟨ents,hb,hE⟩,hm⟩:=hc.each _ (List.mem_of_getElem? hi); obtain ⟨d,hd1,hd2⟩:=D8 ht hk; have f1:=tL h2 hd2 0 hE hr; have hg:(getObj b).run P w=.ok (.map ents.toArray n) w:=run_getObj_map hb; have hck:=ow (P:=P) hd1 hd2 h2
 have hblt:b < w.heap.size:=by
  rcases Nat.lt_or_ge b w.heap.size with h | h
  · exact h
  · simp [Array.getElem?_eq_none h] at hb
 have fin:∀ yV:List MapEntry,eX w m es' yV→(execOp a.eval o).run P w=.ok .skip {w with heap:=w.heap.setIfInBounds b (.map yV.toArray n')}→o.wp P a w K QC:=by
  intro yV hE' hrun; let w':World:={w with heap:=w.heap.setIfInBounds b (.map yV.toArray n')}; have hb':w'.heap[b]?=some (.map yV.toArray n'):=by simp [w',hblt]
  have hother:∀ k,k≠b→w'.heap[k]?=w.heap[k]?:=fun k hk=>by simp [w',Array.getElem?_setIfInBounds_ne (Ne.symm hk)]
  have hle:Le w m w' m:=fun c off hco=>⟨hco,World.cell?_of_block (w:=w) (hother c (fun e=>by subst e; exact hm off hco))⟩; obtain ⟨k1,k2⟩:=Conc.write (w':=w') (r':=.mp b es' n') hc hi rfl rfl hm ⟨⟨yV,hb',hE'.mono hle⟩,hm⟩ ⟨rfl,rfl,rfl⟩ (by simp [w']) hother; rw [←uW hset] at k1 k2; unfold Oper.wp; rw [hrun]; exact hK _ _ _ _ _ hR trivial k1 k2
 have hst:=fun o'=>run_setObj_map (P:=P) (w:=w) (b:=b) (c:=n) (es:=ents.toArray) hb o'; cases r with
 | none=>
  simp only [Prod.mk.injEq] at he; obtain ⟨rfl,rfl⟩:=he; have hf:(Instr.findKey kt (a.eval y) ents).run P w=.ok none w:=by simp [Instr.findKey,run_underlying hd1,f1]
  refine fin (ents ++ [{key:=a.eval y,val:=a.eval z,born:=n}]) (eX.append (e:={key:=a.eval y,val:=a.eval z,born:=n}) rfl h2 h3 hE) ?_; simp only [execOp,ho,Instr.mapUpdate,h1,Sem.run_bind,run_underlying (lH ht).1,Result.andThen_ok,hg,hck,List.toList_toArray,hf]; simp [hst]
 | some jp=>
  obtain ⟨j,q⟩:=jp; simp only [Prod.mk.injEq] at he; obtain ⟨rfl,rfl⟩:=he; obtain ⟨q',v,e1,f2,f3,e,g1,g2⟩:=f1; have e1:j=q':=by omega
  subst e1; have hf:(Instr.findKey kt (a.eval y) ents).run P w=.ok (some (j,v)) w:=by simp [Instr.findKey,run_underlying hd1,f2]
  refine fin (ents.modify j fun e=>{e with key:=a.eval y,val:=a.eval z}) (eX.modify h2 h3 j hE) ?_
  have hsb:Instr.sameBits 10000 (a.eval y) (a.eval y)=true:=by
   rcases hd2 with ⟨_,k',n'',hy⟩ | ⟨_,s',hy⟩ <;> rw [hy] at h2 <;> simp only [aN] at h2 <;> rw [h2] <;> simp [Instr.sameBits,G5]
  simp only [execOp,ho,Instr.mapUpdate,h1,Sem.run_bind,run_underlying (lH ht).1,Result.andThen_ok,hg,hck,List.toList_toArray,hf]; simp [Instr.keyThatStays,g1,g2,hsb,hst]
theorem eX.filter {w:World} {m:cZ} (f:Nat→Bool):∀ {es:List (Nat × PV × PV)} {ents:List MapEntry},eX w m es ents→eX w m (es.filter fun e=>f e.1) (ents.filter fun e=>f e.born)
 | [],_,h=>by simp only [eX] at h; subst h; rfl
 | (i,k,v) :: es,_,⟨e,es',h1,h2,h3,h4,h5⟩=>by
  subst h1 h2; simp only [List.filter_cons]; cases f e.born with
  | true=>exact ⟨e,_,rfl,rfl,h3,h4,eX.filter f h5⟩
  | false=>exact eX.filter f h5
theorem eX.any {w:World} {m:cZ} (f:Nat→Bool):∀ {es:List (Nat × PV × PV)} {ents:List MapEntry},eX w m es ents→ents.any (fun e=>f e.born)=es.any fun e=>f e.1
 | [],_,h=>by simp only [eX] at h; subst h; rfl
 | (i,k,v) :: es,_,⟨e,es',h1,h2,h3,h4,h5⟩=>by subst h1 h2; simp only [List.any_cons,eX.any f h5]
theorem eX.find {w:World} {m:cZ} (f:Nat→Bool):∀ {es:List (Nat × PV × PV)} {ents:List MapEntry} {x:Nat × PV × PV},eX w m es ents→es.find? (fun e=>f e.1)=some x→∃ e,ents.find? (fun e=>f e.born)=some e∧aN w m x.2.1 e.key∧aN w m x.2.2 e.val
 | [],_,_,_,hx=>by cases hx
 | (i,k,v) :: es,_,x,⟨e,es',h1,h2,h3,h4,h5⟩,hx=>by
  subst h1 h2; simp only [List.find?_cons] at hx ⊢; cases hf:f e.born with
  | true=>rw [hf] at hx; cases hx; exact ⟨e,rfl,h3,h4⟩
  | false=>rw [hf] at hx; exact eX.find f h5 hx
theorem AO.FL {t kt et:TypeId} {x:Operand} {es:List (Nat × PV × PV)} {n mb i:Nat} (ho:o.op=.range t x) (hi:σ[i]?=some (.mp mb es n)) (hx:ρ x=.val (.map (some mb))) (ht:P.underlying t=some (.map kt et))
  (hR:∀ b,R (.val (.pointer (some ⟨b,0,none⟩))) (.obj b (.mapIter (some mb) n #[] n) :: σ)):AO P o ρ σ R S:=by
 refine AO.of_run' fun w m ev hr hc=>?_; have h1:=hr x (by simp [ho,Op.operands]); rw [hx] at h1; simp only [aN] at h1; obtain ⟨⟨ents,hb,he⟩,hm⟩:=hc.each _ (List.mem_of_getElem? hi); have hg:(getObj mb).run P w=.ok (.map ents.toArray n) w:=run_getObj_map hb; have:=qx hc (.mapIter (some mb) n #[] n); refine ⟨_,_,.pointer (some ⟨w.heap.size,0,none⟩),_,_,hR w.heap.size,?_,by simp [aN],this,dS hc _ _ fun b hb=>?_⟩
 · simp [execOp,ho,Instr.range,run_underlying ht,h1,hg,go_sem]
 ·
  simp [fG,aA.fp] at hb ⊢; rcases hb with hb | hb
  · exact .inr hb
  · exact .inl hb
theorem mI {w:World} {b:Nat} {mp:Option Nat} {s:Nat} {seen:Array Nat} {l:Nat} (h:w.heap[b]?=some (.mapIter mp s seen l)):(getObj b).run P w=.ok (.mapIter mp s seen l) w:=by simp [getObj,Sem.run,h]
theorem xQ {w:World} {b:Nat} {mp:Option Nat} {s:Nat} {seen:Array Nat} {l:Nat} (h:w.heap[b]?=some (.mapIter mp s seen l)) (o:Obj):(setObj b o).run P w=.ok () {w with heap:=w.heap.setIfInBounds b o}:=by simp [setObj,Sem.run,h]
theorem LJ (a b:Nat):(a == b)=Nat.beq a b:=by rw [Bool.eq_iff_iff]; simp [Nat.beq_eq]
theorem DZ (seen:List Nat) (ents:List MapEntry):(ents.toArray.filter fun e=>!seen.toArray.contains e.born)=(ents.filter fun e=>!seen.any (Nat.beq e.born)).toArray:=by
 rw [List.filter_toArray]; congr 2; funext e; rw [List.contains_toArray]; congr 1
 induction seen with
 | nil=>rfl
 | cons a l ih=>simp only [List.contains_cons,List.any_cons,ih,LJ]
theorem BQ {w:World} {m:cZ} {es:List (Nat × PV × PV)} {ents:List MapEntry} {last:Nat} {seen:List Nat} (he:eX w m es ents) (hg:(seen.isEmpty || es.isEmpty || es.any fun e=>Nat.blt e.1 last)=true):
  (!seen.toArray.isEmpty && !ents.toArray.isEmpty && ents.toArray.all fun e=>decide (e.born ≥ last))=false:=by
 have hl:=he.length_eq; have hany:=eX.any (fun k=>Nat.blt k last) he; simp only [Bool.or_eq_true] at hg; rcases hg with (hg | hg) | hg
 · simp only [List.isEmpty_iff] at hg; subst hg; rfl
 ·
  simp only [List.isEmpty_iff] at hg; subst hg; have:ents=[]:=by simpa using hl
  subst this; simp
 ·
  rw [hg,List.any_eq_true] at hany; obtain ⟨e,h1,h2⟩:=hany; have h3:e.born < last:=Nat.le_of_ble_eq_true h2; simp only [Bool.and_eq_false_iff]; right; rw [List.all_toArray,List.all_eq_false]; exact ⟨e,h1,by simpa using h3⟩
theorem AO.Ga {x:Operand} {es:List (Nat × PV × PV)} {n mb b i j since last:Nat} {seen:List Nat} (ho:o.op=.next x false) (hx:ρ x=.val (.pointer (some ⟨b,0,none⟩))) (hi:σ[i]?=some (.obj b (.mapIter (some mb) since seen.toArray last)))
  (hj:σ[j]?=some (.mp mb es n)) (hl:es.filter (fun e=>!seen.any (Nat.beq e.1))=[]) (hg:(seen.isEmpty || es.isEmpty || es.any fun e=>Nat.blt e.1 last)=true) (hR:R (.tuple [.bool false]) σ):AO P o ρ σ R S:=by
 refine AO.of_same hR fun w m ev hr hc=>?_; have h1:=hr x (by simp [ho,Op.operands]); rw [hx] at h1; simp only [aN] at h1; obtain ⟨hb,_⟩:=hc.each _ (List.mem_of_getElem? hi); obtain ⟨⟨ents,hmb,he⟩,_⟩:=hc.each _ (List.mem_of_getElem? hj); have g1:=mI (P:=P) hb; have g2:(getObj mb).run P w=.ok (.map ents.toArray n) w:=run_getObj_map hmb; have hf:=eX.filter (fun k=>!seen.any (Nat.beq k)) he; rw [hl] at hf; simp only [eX] at hf; have hguard:=BQ he hg; have hleft:=DZ seen ents; rw [hf] at hleft; refine ⟨.tuple #[.bool false],?_,by simp only [aN]; exact ⟨_,rfl,aG.cons rfl aG.nil⟩⟩; simp only [execOp,ho,Instr.next,h1,Sem.run_bind,g1,Result.andThen_ok,g2,hguard,hleft]; simp [Question.forced]
theorem AO.F9 {x:Operand} {es:List (Nat × PV × PV)} {n mb b i j since last born:Nat} {kp vp:PV} {seen:List Nat} {σ':List aA} (ho:o.op=.next x false) (hx:ρ x=.val (.pointer (some ⟨b,0,none⟩))) (hi:σ[i]?=some (.obj b (.mapIter (some mb) since seen.toArray last)))
  (hj:σ[j]?=some (.mp mb es n)) (hl:es.filter (fun e=>!seen.any (Nat.beq e.1))=[(born,kp,vp)]) (hlt:Nat.blt born since=true) (hg:(seen.isEmpty || es.isEmpty || es.any fun e=>Nat.blt e.1 last)=true)
  (hset:iM σ i (.obj b (.mapIter (some mb) since (seen ++ [born]).toArray n))=some σ') (hR:R (.tuple [.bool true,kp,vp]) σ'):AO P o ρ σ R S:=by
 refine AO.of_run' fun w m ev hr hc=>?_; have h1:=hr x (by simp [ho,Op.operands]); rw [hx] at h1; simp only [aN] at h1; obtain ⟨hb,hm⟩:=hc.each _ (List.mem_of_getElem? hi); obtain ⟨⟨ents,hmb,he⟩,_⟩:=hc.each _ (List.mem_of_getElem? hj); have g1:=mI (P:=P) hb; have g2:(getObj mb).run P w=.ok (.map ents.toArray n) w:=run_getObj_map hmb; have g3:=fun o'=>xQ (P:=P) hb o'
 have hblt:b < w.heap.size:=by
  rcases Nat.lt_or_ge b w.heap.size with h | h
  · exact h
  · simp [Array.getElem?_eq_none h] at hb
 have hf:=eX.filter (fun k=>!seen.any (Nat.beq k)) he; rw [hl] at hf; simp only [eX] at hf; obtain ⟨e,es2,e1,e2,e3,e4,rfl⟩:=hf; have hguard:=BQ he hg; have hleft:=DZ seen ents; rw [e1] at hleft; subst e2; have hlt2:e.born < since:=Nat.le_of_ble_eq_true hlt; let w':World:={w with heap:=w.heap.setIfInBounds b (.mapIter (some mb) since (seen ++ [e.born]).toArray n)}; have hb':w'.heap[b]?=some (.mapIter (some mb) since (seen ++ [e.born]).toArray n):=by simp [w',hblt]
 obtain ⟨k1,k2⟩:=Conc.write (w':=w') (r':=.obj b (.mapIter (some mb) since (seen ++ [e.born]).toArray n)) hc hi rfl rfl hm ⟨hb',hm⟩ ⟨rfl,rfl,rfl⟩ (by simp [w']) (fun k hk=>by simp [w',Array.getElem?_setIfInBounds_ne (Ne.symm hk)]); rw [←uW hset] at k1 k2; refine ⟨_,_,.tuple #[.bool true,e.key,e.val],w',m,hR,?_,by simp only [aN]; exact ⟨_,rfl,aG.cons (by simp only [aN]) (aG.cons (e3.mono k2.le _ _) (aG.cons (e4.mono k2.le _ _) aG.nil))⟩,k1,k2⟩; simp only [execOp,ho,Instr.next,h1,Sem.run_bind,g1,Result.andThen_ok,g2,hguard,hleft]; have hge:¬ since≤e.born:=by omega
 simp [Question.forced,hlt2,hge,g3,w',List.filter_cons]
theorem AO.Gv {x:Operand} {es:List (Nat × PV × PV)} {n mb b i j since st born:Nat} {kp vp:PV} {seen:List Nat} (ho:o.op=.entry x) (hx:ρ x=.val (.pointer (some ⟨b,0,none⟩))) (hi:σ[i]?=some (.obj b (.mapIter (some mb) since seen.toArray n)))
  (hj:σ[j]?=some (.mp mb es n)) (hs:seen.getLast?=some st) (hl:es.find? (fun e=>Nat.beq e.1 st)=some (born,kp,vp)) (hR:R (.tuple [kp,vp]) σ):AO P o ρ σ R S:=by
 refine AO.of_same hR fun w m ev hr hc=>?_; have h1:=hr x (by simp [ho,Op.operands]); rw [hx] at h1; simp only [aN] at h1; obtain ⟨hb,_⟩:=hc.each _ (List.mem_of_getElem? hi); obtain ⟨⟨ents,hmb,he⟩,_⟩:=hc.each _ (List.mem_of_getElem? hj); have g1:=mI (P:=P) hb; have g2:(getObj mb).run P w=.ok (.map ents.toArray n) w:=run_getObj_map hmb; obtain ⟨e,f1,f2,f3⟩:=eX.find (fun k=>Nat.beq k st) he hl
 have NA:(ents.toArray.find? fun e=>e.born == st)=some e:=by
  rw [List.find?_toArray,←f1]; congr 1; funext e; exact LJ _ _
 have hb2:seen.toArray.back?=some st:=by rw [←hs]; simp
 refine ⟨.tuple #[e.key,e.val],?_,by simp only [aN]; exact ⟨_,rfl,aG.cons f2 (aG.cons f3 aG.nil)⟩⟩; simp only [execOp,ho,Instr.entry,h1,Sem.run_bind,g1,Result.andThen_ok,g2,hb2,NA]; simp [g2,NA]
end
end Go.Abs
namespace Go.Abs
variable [bX]
open Go
def kP :List aA→Nat→Nat→Option (Nat × List PV)
 | [],_,_=>none
 | .box b cs :: r,k,i=>bif Nat.beq b k then some (i,cs) else kP r k (i + 1)
 | _ :: r,k,i=>kP r k (i + 1)
def zw :aA→Option (Nat × Nat × Nat × Nat)
 | .row (.slice (some ⟨b,0,none⟩) 0 0) n sz e=>some (b,n,sz,e)
 | _=>none
theorem EB {r:aA} {b n sz e:Nat} (h:zw r=some (b,n,sz,e)):r=.row (.slice (some ⟨b,0,none⟩) 0 0) n sz e:=by
 unfold zw at h; split at h
 ·
  simp only [Option.some.injEq,Prod.mk.injEq] at h; obtain ⟨rfl,rfl,rfl,rfl⟩:=h; rfl
 · cases h
def qj :List aA→Nat→Nat→Option (Nat × Nat × Nat × Nat)
 | [],_,_=>none
 | r :: s,k,i=>match zw r with
  | some (b,n,sz,e)=>bif Nat.beq b k then some (i,n,sz,e) else qj s k (i + 1)
  | none=>qj s k (i + 1)
def mK :List aA→Nat→Nat→Option (Nat × List (Nat × PV × PV) × Nat)
 | [],_,_=>none
 | .mp b es n :: r,k,i=>bif Nat.beq b k then some (i,es,n) else mK r k (i + 1)
 | _ :: r,k,i=>mK r k (i + 1)
def nP :List aA→Nat→Nat→Option (Nat × Obj)
 | [],_,_=>none
 | .obj b o :: r,k,i=>bif Nat.beq b k then some (i,o) else nP r k (i + 1)
 | _ :: r,k,i=>nP r k (i + 1)
theorem lK :∀ {s:List aA} {k i j:Nat} {cs:List PV},kP s k i=some (j,cs)→i≤j∧s[j - i]?=some (.box k cs)
 | [],_,_,_,_,h=>by cases h
 | r :: s,k,i,j,cs,h=>by
  have tl:kP s k (i + 1)=some (j,cs)→i≤j∧(r :: s)[j - i]?=some (.box k cs):=fun h=>by
   obtain ⟨h1,h2⟩:=lK h; refine ⟨by omega,?_⟩; rw [show j - i=(j - (i + 1)) + 1 from by omega]; exact h2
  cases r with
  | box b cs'=>
   unfold kP at h; cases e:Nat.beq b k with
   | true=>
    rw [e] at h; simp only [cond_true,Option.some.injEq,Prod.mk.injEq] at h; obtain ⟨rfl,rfl⟩:=h; rw [←Nat.eq_of_beq_eq_true e]; exact ⟨Nat.le_refl _,by simp⟩
   | false=>rw [e] at h; exact tl h
  | _=>exact tl h
theorem wR :∀ {s:List aA} {k i j n sz e:Nat},qj s k i=some (j,n,sz,e)→i≤j∧s[j - i]?=some (.row (.slice (some ⟨k,0,none⟩) 0 0) n sz e)
 | [],_,_,_,_,_,_,h=>by cases h
 | r :: s,k,i,j,n,sz,e,h=>by
  have tl:qj s k (i + 1)=some (j,n,sz,e)→i≤j∧(r :: s)[j - i]?=some (.row (.slice (some ⟨k,0,none⟩) 0 0) n sz e):=fun h=>by
   obtain ⟨h1,h2⟩:=wR h; refine ⟨by omega,?_⟩; rw [show j - i=(j - (i + 1)) + 1 from by omega]; exact h2
  unfold qj at h; cases hr:zw r with
  | none=>rw [hr] at h; exact tl h
  | some x=>
   obtain ⟨b,n',sz',e'⟩:=x; rw [hr] at h; simp only at h; cases eb:Nat.beq b k with
   | true=>
    rw [eb] at h; simp only [cond_true,Option.some.injEq,Prod.mk.injEq] at h; obtain ⟨rfl,rfl,rfl,rfl⟩:=h; rw [←Nat.eq_of_beq_eq_true eb,EB hr]; exact ⟨Nat.le_refl _,by simp⟩
   | false=>rw [eb] at h; exact tl h
theorem kY :∀ {s:List aA} {k i j n:Nat} {es:List (Nat × PV × PV)},mK s k i=some (j,es,n)→i≤j∧s[j - i]?=some (.mp k es n)
 | [],_,_,_,_,_,h=>by cases h
 | r :: s,k,i,j,n,es,h=>by
  have tl:mK s k (i + 1)=some (j,es,n)→i≤j∧(r :: s)[j - i]?=some (.mp k es n):=fun h=>by
   obtain ⟨h1,h2⟩:=kY h; refine ⟨by omega,?_⟩; rw [show j - i=(j - (i + 1)) + 1 from by omega]; exact h2
  cases r with
  | mp b es' n'=>
   unfold mK at h; cases e:Nat.beq b k with
   | true=>
    rw [e] at h; simp only [cond_true,Option.some.injEq,Prod.mk.injEq] at h; obtain ⟨rfl,rfl,rfl⟩:=h; rw [←Nat.eq_of_beq_eq_true e]; exact ⟨Nat.le_refl _,by simp⟩
   | false=>rw [e] at h; exact tl h
  | _=>exact tl h
theorem qV :∀ {s:List aA} {k i j:Nat} {o:Obj},nP s k i=some (j,o)→i≤j∧s[j - i]?=some (.obj k o)
 | [],_,_,_,_,h=>by cases h
 | r :: s,k,i,j,o,h=>by
  have tl:nP s k (i + 1)=some (j,o)→i≤j∧(r :: s)[j - i]?=some (.obj k o):=fun h=>by
   obtain ⟨h1,h2⟩:=qV h; refine ⟨by omega,?_⟩; rw [show j - i=(j - (i + 1)) + 1 from by omega]; exact h2
  cases r with
  | obj b o'=>
   unfold nP at h; cases e:Nat.beq b k with
   | true=>
    rw [e] at h; simp only [cond_true,Option.some.injEq,Prod.mk.injEq] at h; obtain ⟨rfl,rfl⟩:=h; rw [←Nat.eq_of_beq_eq_true e]; exact ⟨Nat.le_refl _,by simp⟩
   | false=>rw [e] at h; exact tl h
  | _=>exact tl h
def tJ :Value→Bool
 | .int _ _ | .bool _ | .string _ | .slice none 0 0 | .pointer none | .map none | .nilIface | .nilFunc=>true
 | _=>false
def wP :Value→Bool
 | .agg cs=>cs.toList.all tJ
 | v=>tJ v
theorem vQ (ρ:dV) {v:Value} (h:tJ v=true):(gY v).ren ρ=gY v:=by
 cases v <;> simp only [tJ,Bool.false_eq_true] at h <;> try rfl
 · rename_i a; cases a <;> simp_all; rfl
 ·
  rename_i a n c; cases a with
  | some a=>simp at h
  | none=>
   cases n with
   | succ n=>simp at h
   | zero=>cases c with
    | succ c=>simp at h
    | zero=>rfl
 · rename_i a; cases a <;> simp_all; rfl
theorem pV (ρ:dV) {v:Value} (h:wP v=true):(ofConst v).ren ρ=ofConst v:=by
 cases v with
 | agg cs=>
  have h:cs.toList.all tJ=true:=h; simp only [ofConst,PV.ren]; rw [j5,List.map_map]; congr 1; rw [List.all_eq_true] at h; exact List.map_congr_left fun v hv=>vQ ρ (h v hv)
 | _=>exact vQ ρ (show tJ _=true from by simpa only [wP] using h)
def u6 (e:Env):Operand→PV
 | .tmp t=>e.get t
 | .const v=>bif wP v then ofConst v else .undef
 | .global _=>.undef
 | .func f=>.fn f []
theorem tN (ρ:dV) (e:Env) (x:Operand):(u6 e x).ren ρ=.undef∨(u6 e x).ren ρ=(eP ρ e).ev x:=by
 cases x with
 | tmp t=>right; exact (rY e t).symm
 | const v=>
  simp only [u6,Env.ev]; cases h:wP v with
  | true=>right; exact pV ρ h
  | false=>left; rfl
 | global g=>left; rfl
 | func f=>right; rfl
theorem sH.u6 {nx:Nat} {e:Env} (h:sH nx e) (x:Operand):gL nx (u6 e x):=by
 cases x with
 | tmp t=>exact h.get t
 | const v=>
  simp only [Abs.u6]; cases hv:wP v with
  | true=>exact fun ρ ρ' _=>by simp only [cond_true]; rw [pV ρ hv,pV ρ' hv]
  | false=>exact fun _ _ _=>rfl
 | global g=>exact fun _ _ _=>rfl
 | func f=>exact fun _ _ _=>rfl
section
variable {P : Program}
def aK (P:Program) (s:List aA) (nx:Nat) (v:Operand→PV) (op:Op) (p:PV) (s1:List aA) (lW:Nat):Prop:=
 nx≤lW∧gL lW p∧gB lW s1∧∀ (ρ:dV) (o:Oper),o.op=op→∀ {R S:PV→List aA→Prop},(∀ ρ1,rz nx ρ ρ1→R (p.ren ρ1) (bT ρ1 s1))→AO P o (fun x=>(v x).ren ρ) (bT ρ s) R S
def uH (ρ:dV) (nx b:Nat):dV:={ρ with lb:=fun k=>bif Nat.beq k nx then b else ρ.lb k}
def setH (ρ:dV) (nx:Nat) (v:Value):dV:={ρ with hd:=fun k=>bif Nat.beq k nx then v else ρ.hd k}
theorem j4 (ρ:dV) (nx b:Nat):rz nx ρ (uH ρ nx b):=fun k hk=>⟨by simp only [uH]; rw [gJ (by omega)]; rfl,rfl⟩
theorem mR (ρ:dV) (nx:Nat) (v:Value):rz nx ρ (setH ρ nx v):=fun k hk=>⟨rfl,by simp only [setH]; rw [gJ (by omega)]; rfl⟩
theorem zo (ρ:dV) (nx b:Nat):(uH ρ nx b).lb nx=b:=by simp [uH]
theorem zn (ρ:dV) (nx:Nat) (v:Value):(setH ρ nx v).hd nx=v:=by simp [setH]
theorem aK.pure {s:List aA} {nx:Nat} {v:Operand→PV} {op:Op} {p:PV} (hp:gL nx p) (hs:gB nx s)
  (h:∀ (ρ:dV) (o:Oper),o.op=op→∀ {R S:PV→List aA→Prop},R (p.ren ρ) (bT ρ s)→AO P o (fun x=>(v x).ren ρ) (bT ρ s) R S):aK P s nx v op p s nx:=
 ⟨Nat.le_refl _,hp,hs,fun ρ o ho R S hR=>h ρ o ho (hR ρ (rz.refl _ _))⟩
theorem gL.free {nx:Nat} {p:PV} (h:∀ ρ,p.ren ρ=p):gL nx p:=fun ρ ρ' _=>(h ρ).trans (h ρ').symm
theorem I4 {nx off:Nat}:gL (nx + 1) (.val (.pointer (some ⟨nx,off,none⟩))):=fun ρ ρ' ha=>by simp only [PV.ren,vR]; rw [(ha nx (Nat.lt_succ_self _)).1]
theorem aK.box {s:List aA} {nx:Nat} {v:Operand→PV} {op:Op} {cs:List PV} (hc:jh nx cs) (hs:gB nx s)
  (h:∀ (ρ:dV) (o:Oper),o.op=op→∀ {R S:PV→List aA→Prop},(∀ b,R (.val (.pointer (some ⟨b,0,none⟩))) (.box b (bG ρ cs) :: bT ρ s))→AO P o (fun x=>(v x).ren ρ) (bT ρ s) R S):
  aK P s nx v op (.val (.pointer (some ⟨nx,0,none⟩))) (.box nx cs :: s) (nx + 1):=by
 refine ⟨Nat.le_succ _,I4,gB.cons (fun ρ ρ' ha=>?_) (hs.le (Nat.le_succ _)),fun ρ o ho R S hR=>h ρ o ho fun b=>?_⟩
 ·
  simp only [aA.ren]; rw [(ha nx (Nat.lt_succ_self _)).1,show bG ρ cs=bG ρ' cs from hc ρ ρ' (ha.le (Nat.le_succ _))]
 ·
  have:=hR (uH ρ nx b) (j4 ρ nx b); simp only [PV.ren,vR,zo,bT,List.map_cons,aA.ren] at this; rw [←show bG ρ cs=bG (uH ρ nx b) cs from hc _ _ (j4 ρ nx b),←show s.map (aA.ren ρ)=s.map (aA.ren (uH ρ nx b)) from hs _ _ (j4 ρ nx b)] at this; exact this
theorem aK.row {s:List aA} {nx n sz e:Nat} {v:Operand→PV} {op:Op} {l:List (List PV)} (hl:Ok nx fun ρ=>dQ ρ l) (hs:gB nx s)
  (h:∀ (ρ:dV) (o:Oper),o.op=op→∀ {R S:PV→List aA→Prop},(∀ h,R (.own h (dQ ρ l)) (.row h n sz e :: bT ρ s))→AO P o (fun x=>(v x).ren ρ) (bT ρ s) R S):
  aK P s nx v op (.own (.slice (some ⟨nx,0,none⟩) 0 0) l) (.row (.slice (some ⟨nx,0,none⟩) 0 0) n sz e :: s) (nx + 1):=by
 refine ⟨Nat.le_succ _,fun ρ ρ' ha=>?_,gB.cons (fun ρ ρ' ha=>?_) (hs.le (Nat.le_succ _)),fun ρ o ho R S hR=>h ρ o ho fun b=>?_⟩
 ·
  simp only [PV.ren,sN]; rw [(ha nx (Nat.lt_succ_self _)).2,show dQ ρ l=dQ ρ' l from hl ρ ρ' (ha.le (Nat.le_succ _))]
 ·
  simp only [aA.ren,sN]; rw [(ha nx (Nat.lt_succ_self _)).2]
 ·
  have:=hR (setH ρ nx b) (mR ρ nx b); simp only [PV.ren,sN,zn,bT,List.map_cons,aA.ren] at this; rw [←show dQ ρ l=dQ (setH ρ nx b) l from hl _ _ (mR ρ nx b),←show s.map (aA.ren ρ)=s.map (aA.ren (setH ρ nx b)) from hs _ _ (mR ρ nx b)] at this; exact this
end
end Go.Abs
namespace Go.Abs
variable [bX]
open Go
section
variable {P : Program} {s s1 : List aA} {nx lW : Nat} {v : Operand → PV} {p : PV}
theorem gL.agg {cs:List PV} (h:gL nx (.agg cs)):jh nx cs:=h.via fun ρ ρ' he=>by simpa only [PV.ren,PV.agg.injEq] using he
theorem gL.KL {cs:List PV} (h:gL nx (.tuple cs)):jh nx cs:=h.via fun ρ ρ' he=>by simpa only [PV.ren,PV.tuple.injEq] using he
theorem gL.ref {cs:List PV} (h:gL nx (.ref cs)):jh nx cs:=h.via fun ρ ρ' he=>by simpa only [PV.ren,PV.ref.injEq] using he
theorem gL.fn {f:Nat} {cs:List PV} (h:gL nx (.fn f cs)):jh nx cs:=h.via fun ρ ρ' he=>by simpa only [PV.ren,PV.fn.injEq,true_and] using he
theorem jh.agg {cs:List PV} (h:jh nx cs):gL nx (.agg cs):=h.via fun ρ ρ' he=>by simp only [PV.ren,he]
theorem jh.KL {cs:List PV} (h:jh nx cs):gL nx (.tuple cs):=h.via fun ρ ρ' he=>by simp only [PV.ren,he]
theorem jh.ref {cs:List PV} (h:jh nx cs):gL nx (.ref cs):=h.via fun ρ ρ' he=>by simp only [PV.ren,he]
theorem jh.fn {f:Nat} {cs:List PV} (h:jh nx cs):gL nx (.fn f cs):=h.via fun ρ ρ' he=>by simp only [PV.ren,he]
theorem gL.els {l:List (List PV)} (h:gL nx p) (hl:p.els=some l):Ok nx fun ρ=>dQ ρ l:=Ok.Dh PV.els h fun ρ=>by rw [ql,hl]; rfl
theorem gL.cells {cs:List PV} (h:gL nx p) (hl:p.gu=some cs):jh nx cs:=Ok.Dh PV.gu h fun ρ=>by rw [nS,hl]; rfl
theorem Nj.get {l:List (List PV)} {i:Nat} {cs:List PV} (h:Ok nx fun ρ=>dQ ρ l) (hi:l[i]?=some cs):jh nx cs:=Ok.Dh (fun x:List (List PV)=>x[i]?) h fun ρ=>by rw [bR,List.getElem?_map,hi]; rfl
theorem gB.box {i b:Nat} {cs:List PV} (h:gB nx s) (hi:s[i]?=some (.box b cs)):jh nx cs:=(h.get hi).via fun ρ ρ' he=>by simp only [aA.ren,aA.box.injEq] at he; exact he.2
theorem jh.load {ag:Bool} {k:Nat} {cs:List PV} (h:jh nx cs) (hp:dP ag k cs=some p):gL nx p:=Ok.Dh (dP ag k) h fun ρ=>by rw [lG,hp]; rfl
theorem jh.drop {k:Nat} {cs cs':List PV} (h:jh nx cs) (hp:fH k cs=some cs'):jh nx cs':=Ok.Dh (fH k) h fun ρ=>by rw [jT,hp]; rfl
def KY (P:Program) (s:List aA) (t:TypeId) (p:PV):Option PV:=
 match dZ P t with
 | some (ag,k)=>match p with
  | .ref cs=>dP ag k cs
  | .val (.pointer (some ⟨b,off,none⟩))=>match kP s b 0 with
   | some (_,cs)=>match fH off cs with
    | some cs'=>dP ag k cs'
    | none=>none
   | none=>none
  | _=>none
 | none=>none
theorem Gi {t:TypeId} {q:PV} (h:KY P s t q=some p):∃ (ag:Bool) (k:Nat),dZ P t=some (ag,k)∧((∃ cs:List PV,q=.ref cs∧dP ag k cs=some p)∨(∃ (b off i:Nat) (cs cs':List PV),q=.val (.pointer (some ⟨b,off,none⟩))∧s[i]?=some (aA.box b cs)∧fH off cs=some cs'∧dP ag k cs'=some p)):=by
 unfold KY at h; split at h
 ·
  rename_i ag k ht; refine ⟨ag,k,ht,?_⟩; split at h
  ·
   rename_i cs; exact .inl ⟨cs,rfl,h⟩
  ·
   rename_i b off; split at h
   ·
    rename_i i cs hb; split at h
    ·
     rename_i cs' hd; have:=(lK hb).2; exact .inr ⟨b,off,_,cs,cs',rfl,this,hd,h⟩
    · cases h
   · cases h
  · cases h
 · cases h
theorem JG {t:TypeId} {q:PV} (h:KY P s t q=some p) (hq:gL nx q) (hs:gB nx s):gL nx p:=by
 obtain ⟨ag,k,_,h | h⟩:=Gi h
 · obtain ⟨cs,rfl,h2⟩:=h; exact hq.ref.load h2
 · obtain ⟨b,off,i,cs,cs',rfl,h1,h2,h3⟩:=h; exact ((hs.box h1).drop h2).load h3
theorem Ir {t:TypeId} {x:Operand} (h:KY P s t (v x)=some p) (hv:∀ x,gL nx (v x)) (hs:gB nx s):aK P s nx v (.load t x) p s nx:=by
 refine aK.pure (JG h (hv x) hs) hs fun ρ o ho R S hR=>?_; obtain ⟨ag,k,ht,h | h⟩:=Gi h
 ·
  obtain ⟨cs,hx,h⟩:=h; exact AO.wu ho (cs:=bG ρ cs) (by show (v x).ren ρ=_; rw [hx]; rfl) ht (by rw [lG,h]; rfl) hR
 ·
  obtain ⟨b,off,i,cs,cs',hx,h1,h2,h3⟩:=h; exact AO.rU (b:=ρ.lb b) (off:=off) (cs:=bG ρ cs) (cs':=bG ρ cs') ho (by show (v x).ren ρ=_; rw [hx]; rfl) (by rw [fK,h1]; rfl) ht (by rw [jT,h2]; rfl) (by rw [lG,h3]; rfl) hR
def Mv (P:Program) (s:List aA) (t:TypeId) (p q:PV):Option (List aA):=
 match dZ P t,p,q.gu with
 | some (_,k),.val (.pointer (some ⟨b,off,none⟩)),some new=>match kP s b 0 with
  | some (i,cs)=>bif new.all PV.one && Nat.beq new.length k then (match qy cs off new with
   | some cs'=>iM s i (.box b cs')
   | none=>none) else none
  | none=>none
 | _,_,_=>none
theorem GD {t:TypeId} {x y:Operand} (h:Mv P s t (v x) (v y)=some s1) (hv:∀ x,gL nx (v x)) (hs:gB nx s):aK P s nx v (.store t x y) .undef s1 nx:=by
 unfold Mv at h; split at h
 ·
  rename_i ag k b off new ht hx hnew; split at h
  ·
   rename_i i cs hb; have hb:=(lK hb).2; cases e:(new.all PV.one && Nat.beq new.length k) with
   | false=>rw [e] at h; cases h
   | true=>
    rw [e] at h; simp only [cond_true] at h; simp only [Bool.and_eq_true] at e; split at h
    ·
     rename_i cs' hp
     have hcs':jh nx cs':=fun ρ ρ' ha=>by
      have h1:bG ρ cs=bG ρ' cs:=hs.box hb ρ ρ' ha; have h2:bG ρ new=bG ρ' new:=(hv y).cells hnew ρ ρ' ha; have h3:=o8 (ρ:=ρ) cs off new; rw [h1,h2,o8,hp] at h3; exact (Option.some.inj h3).symm
     refine ⟨Nat.le_refl _,gL.free fun _=>rfl,hs.set (fun ρ ρ' ha=>?_) h,fun ρ o ho R S hR=>?_⟩
     ·
      have h1:bG ρ cs'=bG ρ' cs':=hcs' ρ ρ' ha; have h2:Ok nx fun ρ=>(aA.box b cs).ren ρ:=hs.get hb; have h3:=h2 ρ ρ' ha; simp only [aA.ren,aA.box.injEq] at h3 ⊢; exact ⟨h3.1,h1⟩
     ·
      refine AO.yA (b:=ρ.lb b) (off:=off) (cs:=bG ρ cs) (new:=bG ρ new) (cs':=bG ρ cs') (i:=i) ho (by show (v x).ren ρ=_; rw [hx]; rfl) (by rw [fK]; rw [Nat.sub_zero] at hb; rw [hb]; rfl) ht (by show ((v y).ren ρ).gu=_; rw [nS,hnew]; rfl) (by rw [uE]; exact e.1) (by rw [gT]; exact e.2) (by rw [o8,hp]; rfl) (σ':=bT ρ s1) ?_ (hR ρ (rz.refl _ _)); have:=oM (ρ:=ρ) s i (.box b cs'); rw [h] at this; exact this
    · cases h
  · cases h
 · cases h
def wQ :PV→Bool
 | .int _ _ | .bool _ | .str _ | .undef | .own (.slice none 0 0) [] | .val (.pointer none) | .val (.map none) | .val .nilIface | .val .nilFunc | .list []=>true
 | _=>false
theorem EM (ρ:dV) {p:PV} (h:wQ p=true):p.ren ρ=p:=by
 unfold wQ at h; split at h <;> first | rfl | cases h
theorem qh (ρ:dV) {l:List PV} (h:l.all wQ=true):bG ρ l=l:=by
 induction l with
 | nil=>rfl
 | cons p l ih=>simp only [List.all_cons,Bool.and_eq_true] at h; simp only [bG,EM ρ h.1,ih h.2]
theorem Ce {l:List PV} (h:l.all wQ=true):jh nx l:=fun ρ ρ' _=>(qh ρ h).trans (qh ρ' h).symm
def KH (P:Program) (t:TypeId):Option (List PV):=match iL P t with | some cs=>bif cs.all wQ then some cs else none | none=>none
theorem Fv {t:TypeId} {cs:List PV} (h:KH P t=some cs):iL P t=some cs∧cs.all wQ=true:=by
 unfold KH at h; split at h
 ·
  rename_i cs' hz; cases e:cs'.all wQ with
  | false=>rw [e] at h; cases h
  | true=>rw [e] at h; simp only [cond_true,Option.some.injEq] at h; subst h; exact ⟨hz,e⟩
 · cases h
theorem GU {t:TypeId} {cs:List PV} (h:KH P t=some cs) (hs:gB nx s):aK P s nx v (.alloc t) (.val (.pointer (some ⟨nx,0,none⟩))) (.box nx cs :: s) (nx + 1):=by
 obtain ⟨h1,h2⟩:=Fv h; exact aK.box (Ce h2) hs fun ρ o ho R S hR=>AO.dn ho h1 fun b=>by have:=hR b; rwa [qh ρ h2] at this
theorem J7 {t:TypeId} {x:Operand} {cs:List PV} (h:(v x).gu=some cs) (hv:∀ x,gL nx (v x)) (hs:gB nx s):aK P s nx v (.box t x) (.val (.pointer (some ⟨nx,0,none⟩))) (.box nx cs :: s) (nx + 1):=
 aK.box ((hv x).cells h) hs fun ρ o ho R S hR=>AO.Iy ho (cs:=bG ρ cs) (by show ((v x).ren ρ).gu=_; rw [nS,h]; rfl) hR
theorem wU (ρ:dV) (l:List (Nat × Operand)):(l.map fun x=>(x.1,(v x.2).ren ρ))=(l.map fun x=>(x.1,v x.2)).map fun x=>(x.1,x.2.ren ρ):=by simp
theorem jh.fill {place:Nat→Option (Nat × Nat)} {l:List (Nat × Operand)} {zc cs:List PV} (hz:jh nx zc) (hv:∀ x,gL nx (v x)) (h:iq place zc (l.map fun x=>(x.1,v x.2))=some cs):jh nx cs:=fun ρ ρ' ha=>by
 have h1:=nk (ρ:=ρ) place (l.map fun x=>(x.1,v x.2)) zc; have h2:=nk (ρ:=ρ') place (l.map fun x=>(x.1,v x.2)) zc; rw [h] at h1 h2; rw [←wU] at h1 h2; have e1:bG ρ zc=bG ρ' zc:=hz ρ ρ' ha; have e2:(l.map fun x=>(x.1,(v x.2).ren ρ))=l.map fun x=>(x.1,(v x.2).ren ρ'):=List.map_congr_left fun x _=>by rw [show (v x.2).ren ρ=(v x.2).ren ρ' from hv x.2 ρ ρ' ha]
 rw [e1,e2,h2] at h1; exact (Option.some.inj h1).symm
def Dx (P:Program) (v:Operand→PV) (t:TypeId) (parts:Array (Nat × Operand)):Option (List PV):=
 match KH P t with
 | some zc=>match oL P t with
  | some pl=>iq (fun i=>pl[i]?) zc (parts.toList.map fun x=>(x.1,v x.2))
  | none=>none
 | none=>none
theorem GQ {t:TypeId} {parts:Array (Nat × Operand)} {cs:List PV} (h:Dx P v t parts=some cs) (hv:∀ x,gL nx (v x)) (hs:gB nx s):aK P s nx v (.build t parts) (.agg cs) s nx:=by
 unfold Dx at h; split at h
 ·
  rename_i zc hz; obtain ⟨h1,h2⟩:=Fv hz; split at h
  ·
   rename_i pl hpl; refine aK.pure ((Ce h2).fill hv h).agg hs fun ρ o ho R S hR=>?_; refine AO.build ho h1 hpl (cs:=bG ρ cs) ?_ hR; have:=nk (ρ:=ρ) (fun i=>pl[i]?) (parts.toList.map fun x=>(x.1,v x.2)) zc; rw [h,←wU,qh ρ h2] at this; exact this
  · cases h
 · cases h
def pU (P:Program) (t:TypeId):Option (Nat × Nat × Nat):=
 match P.underlying t with
 | some (.slice e)=>match P.info? e with
  | some i=>bif lu P t e i.size i.bytes then some (e,i.size,i.bytes) else none
  | none=>none
 | _=>none
theorem rE {t e sz b:Nat} (h:pU P t=some (e,sz,b)):lu P t e sz b=true:=by
 unfold pU at h; split at h
 ·
  split at h
  ·
   rename_i e' hu _ i hi; cases hb:lu P t e' i.size i.bytes with
   | false=>rw [hb] at h; cases h
   | true=>
    rw [hb] at h; simp only [cond_true,Option.some.injEq,Prod.mk.injEq] at h; obtain ⟨rfl,rfl,rfl⟩:=h; exact hb
  · cases h
 · cases h
def Ng (P:Program) (v:Operand→PV) (t len:Nat) (parts:Array (Nat × Operand)):Option (List (List PV) × Nat × Nat):=
 match pU P t with
 | some (e,sz,_)=>bif Nat.ble (len * sz) 16777216 && Nat.ble len 16777216 then (match iq (fun i=>some (i * sz,sz)) (List.replicate (len * sz) .undef) (parts.toList.map fun x=>(x.1,v x.2)) with
  | some cells=>match iN sz len cells with
   | some l=>some (l,sz,e)
   | none=>none
  | none=>none) else none
 | none=>none
theorem sM (ρ:dV) (n:Nat):bG ρ (List.replicate n .undef)=List.replicate n .undef:=by rw [j5,List.map_replicate]; rfl
theorem xW {t len sz e:Nat} {parts:Array (Nat × Operand)} {l:List (List PV)} (h:Ng P v t len parts=some (l,sz,e)) (hv:∀ x,gL nx (v x)) (hs:gB nx s):
  aK P s nx v (.buildSlice t len parts) (.own (.slice (some ⟨nx,0,none⟩) 0 0) l) (.row (.slice (some ⟨nx,0,none⟩) 0 0) len sz e :: s) (nx + 1):=by
 unfold Ng at h; split at h
 ·
  rename_i e' sz' by' hi
  have hf:=mQ (rE hi); cases hb:(Nat.ble (len * sz') 16777216 && Nat.ble len 16777216) with
  | false=>rw [hb] at h; cases h
  | true=>
   rw [hb] at h; simp only [cond_true] at h; simp only [Bool.and_eq_true] at hb; split at h
   ·
    rename_i cells hc; split at h
    ·
     rename_i l' hl; simp only [Option.some.injEq,Prod.mk.injEq] at h; obtain ⟨rfl,rfl,rfl⟩:=h; have hok:jh nx cells:=jh.fill (fun ρ ρ' _=>(sM ρ _).trans (sM ρ' _).symm) hv hc; refine aK.row (Ok.Dh (iN sz' len) hok fun ρ=>by rw [qX,hl]; rfl) hs fun ρ o ho R S hR=>?_; refine AO.CJ (cells:=bG ρ cells) ho hf hb.1 ?_ (by rw [qX,hl]; rfl) hb.2 hR; have:=nk (ρ:=ρ) (fun i=>some (i * sz',sz')) (parts.toList.map fun x=>(x.1,v x.2)) (List.replicate (len * sz') .undef); rw [hc,←wU,sM] at this; exact this
    · cases h
   · cases h
 · cases h
def MN (P:Program) (v:Operand→PV) (t:TypeId) (x i:Operand):Option PV:=
 match P.underlying t,v x,v i with
 | some .string,.str a,.int _ (.ofNat n)=>match a[n]? with
  | some c=>some (.int .u8 (c.toNat:Int))
  | none=>none
 | _,_,_=>none
theorem GJ {t:TypeId} {x i:Operand} (h:MN P v t x i=some p) (hs:gB nx s):aK P s nx v (.index t x i) p s nx:=by
 unfold MN at h; split at h
 ·
  rename_i a k n hu hx hi; split at h
  ·
   rename_i c hc; simp only [Option.some.injEq] at h; subst h; refine aK.pure (gL.free fun _=>rfl) hs fun ρ o ho R S hR=>?_; exact AO.yR (n:=Int.ofNat n) (s:=a) (k:=k) ho hu (by show (v x).ren ρ=_; rw [hx]; rfl) (by show (v i).ren ρ=_; rw [hi]; rfl) (Int.natCast_nonneg n) hc hR
  · cases h
 · cases h
def MQ (P:Program) (v:Operand→PV) (t:TypeId) (x i:Operand):Option PV:=
 match v i with
 | .int _ (.ofNat n)=>match v x with
  | .ref cs=>match jM P t with
   | some (m,sz)=>bif Nat.blt n m then (match fH (n * sz) cs with
    | some cs'=>some (.ref cs')
    | none=>none) else none
   | none=>none
  | .val (.pointer (some ⟨b,off,none⟩))=>match jM P t with
   | some (m,sz)=>bif Nat.blt n m then some (.val (.pointer (some ⟨b,off + n * sz,none⟩))) else none
   | none=>none
  | q=>match q.els,elemSize P t with
   | some l,some sz=>match l[n]? with
    | some cs=>bif Nat.beq cs.length sz then some (.ref cs) else none
    | none=>none
   | _,_=>none
 | _=>none
theorem zT {t:TypeId} {x i:Operand} (h:MQ P v t x i=some p) (hv:∀ x,gL nx (v x)) (hs:gB nx s):aK P s nx v (.indexAddr t x i) p s nx:=by
 unfold MQ at h; split at h
 ·
  rename_i k n hi; have hix:∀ ρ,(v i).ren ρ=.int k (n:Int):=fun ρ=>by rw [hi]; rfl
  split at h
  ·
   rename_i cs hx; split at h
   ·
    rename_i m sz ha; cases hb:Nat.blt n m with
    | false=>rw [hb] at h; cases h
    | true=>
     rw [hb] at h; simp only [cond_true] at h; split at h
     ·
      rename_i cs' hd; simp only [Option.some.injEq] at h; subst h; have hx':=hv x; rw [hx] at hx'; refine aK.pure (hx'.ref.drop hd).ref hs fun ρ o ho R S hR=>?_; exact AO.wM (cs:=bG ρ cs) (cs':=bG ρ cs') n ho ha (by show (v x).ren ρ=_; rw [hx]; rfl) (hix ρ) (Nat.le_of_ble_eq_true hb) (by rw [jT,hd]; rfl) hR
     · cases h
   · cases h
  ·
   rename_i b off hx; split at h
   ·
    rename_i m sz ha; cases hb:Nat.blt n m with
    | false=>rw [hb] at h; cases h
    | true=>
     rw [hb] at h; simp only [cond_true,Option.some.injEq] at h; subst h; have hx':=hv x; rw [hx] at hx'; refine aK.pure (hx'.via fun ρ ρ' he=>by simp only [PV.ren,vR,PV.val.injEq,Value.pointer.injEq,Option.some.injEq,Addr.mk.injEq,and_true] at he ⊢; exact he) hs fun ρ o ho R S hR=>?_; exact AO.wN n ho ha (by show (v x).ren ρ=_; rw [hx]; rfl) (hix ρ) (Nat.le_of_ble_eq_true hb) hR
   · cases h
  ·
   split at h
   ·
    rename_i l sz hl hsz; split at h
    ·
     rename_i cs hc; cases hb:Nat.beq cs.length sz with
     | false=>rw [hb] at h; cases h
     | true=>
      rw [hb] at h; simp only [cond_true,Option.some.injEq] at h; subst h; refine aK.pure (Nj.get ((hv x).els hl) hc).ref hs fun ρ o ho R S hR=>?_; exact AO.indexAddr (l:=dQ ρ l) (n:=(n:Int)) (e:=bG ρ cs) ho (by show ((v x).ren ρ).els=_; rw [ql,hl]; rfl) (hix ρ) hsz (Int.natCast_nonneg n) (by rw [Int.toNat_natCast,bR,List.getElem?_map,hc]; rfl) (by rw [gT]; exact Nat.eq_of_beq_eq_true hb) hR
    · cases h
   · cases h
 · cases h
def KE (v:Operand→PV) (o:Option Operand) (d:Nat):Option Nat:=
 match o with
 | none=>some d
 | some y=>match v y with
  | .int _ (.ofNat a)=>some a
  | _=>none
theorem z_ {o:Option Operand} {d a:Nat} (h:KE v o d=some a) (ρ:dV):bound (fun x=>(v x).ren ρ) o a d:=by
 unfold KE at h; unfold bound; cases o with
 | none=>simp only [Option.some.injEq] at h ⊢; exact h.symm
 | some y=>
  simp only at h ⊢; split at h
  ·
   rename_i k n hy; simp only [Option.some.injEq] at h; subst h; exact ⟨k,by rw [hy]; rfl⟩
  · cases h
def Mw (P:Program) (v:Operand→PV) (t:TypeId) (x:Operand) (lo hi:Option Operand):Option PV:=
 match v x with
 | .str a=>match P.underlying t,KE v lo 0,KE v hi a.length with
  | some .string,some l,some h=>bif Nat.ble l h && Nat.ble h a.length then some (.str ((a.take h).drop l)) else none
  | _,_,_=>none
 | q=>match q.els,elemSize P t with
  | some a,some sz=>match KE v lo 0,KE v hi a.length with
   | some l,some h=>bif Nat.ble l h && Nat.ble h a.length && a.all (fun e=>Nat.beq e.length sz) then some (.list ((a.take h).drop l)) else none
   | _,_=>none
  | _,_=>none
theorem GH {t:TypeId} {x:Operand} {lo hi:Option Operand} (h:Mw P v t x lo hi=some p) (hv:∀ x,gL nx (v x)) (hs:gB nx s):aK P s nx v (.slice t x lo hi none) p s nx:=by
 unfold Mw at h; split at h
 ·
  rename_i a hx; split at h
  ·
   rename_i l b hu hlo hhi; cases hb:(Nat.ble l b && Nat.ble b a.length) with
   | false=>rw [hb] at h; cases h
   | true=>
    rw [hb] at h; simp only [cond_true,Option.some.injEq] at h; subst h; simp only [Bool.and_eq_true] at hb; refine aK.pure (gL.free fun _=>rfl) hs fun ρ o ho R S hR=>?_; exact AO.yD ho hu (by show (v x).ren ρ=_; rw [hx]; rfl) (z_ hlo ρ) (z_ hhi ρ) (Nat.le_of_ble_eq_true hb.1) (Nat.le_of_ble_eq_true hb.2) hR
  · cases h
 ·
  split at h
  ·
   rename_i a sz ha hsz; split at h
   ·
    rename_i l b hlo hhi; cases hb:(Nat.ble l b && Nat.ble b a.length && a.all (fun e=>Nat.beq e.length sz)) with
    | false=>rw [hb] at h; cases h
    | true=>
     rw [hb] at h; simp only [cond_true,Option.some.injEq] at h; subst h; simp only [Bool.and_eq_true] at hb
     have hok:Ok nx fun ρ=>dQ ρ ((a.take b).drop l):=((hv x).els ha).via fun ρ ρ' he=>by
      simp only [bR] at he ⊢; rw [List.map_drop,List.map_take,he,←List.map_take,←List.map_drop]
     refine aK.pure (hok.via fun ρ ρ' he=>by simp only [PV.ren,he]) hs fun ρ o ho R S hR=>?_; refine AO.CW (l:=dQ ρ a) ho hsz (by show ((v x).ren ρ).els=_; rw [ql,ha]; rfl) ?_ (z_ hlo ρ) ?_ (Nat.le_of_ble_eq_true hb.1.1) ?_ ?_
     ·
      intro e he; rw [bR,List.mem_map] at he; obtain ⟨e',he',rfl⟩:=he; have:=hb.2; rw [List.all_eq_true] at this; rw [gT]; exact Nat.eq_of_beq_eq_true (this e' he')
     · rw [bR,List.length_map]; exact z_ hhi ρ
     · rw [bR,List.length_map]; exact Nat.le_of_ble_eq_true hb.1.2
     ·
      simp only [PV.ren,bR] at hR ⊢; rw [List.map_drop,List.map_take] at hR; exact hR
   · cases h
  · cases h
end
end Go.Abs
namespace Go.Abs
variable [bX]
open Go
section
variable {P : Program} {s s1 : List aA} {nx lW : Nat} {v : Operand → PV} {p : PV}
theorem BP (ρ:dV) {p:PV} {b:Bool} (h:zF p=some b):zF (p.ren ρ)=some b:=by
 unfold zF at h; split at h
 · exact h
 · simp only [Option.some.injEq] at h; subst h; simp [PV.ren,dQ,zF]
 · simp only [Option.some.injEq] at h; subst h; simp [PV.ren,dQ,zF]
 · cases h
theorem Dy {op:BinOp} {a b:PV} (h:ze op a b=some p):(∀ ρ:dV,p.ren ρ=p)∧(∀ ρ:dV,a.ren ρ=a)∧∀ ρ:dV,b.ren ρ=b:=by
 cases a <;> cases b <;> simp only [ze,reduceCtorEq] at h
 ·
  rename_i k x k' y; cases e:Dc k k' with
  | false=>rw [e] at h; cases h
  | true=>
   rw [e] at h; refine ⟨?_,fun _=>rfl,fun _=>rfl⟩; cases op <;> simp only [cond_true,reduceCtorEq,Option.some.injEq] at h <;> subst h <;> intro ρ <;> rfl
 ·
  refine ⟨?_,fun _=>rfl,fun _=>rfl⟩; cases op <;> simp only [reduceCtorEq,Option.some.injEq] at h <;> subst h <;> intro ρ <;> rfl
def zI :Operand→Bool
 | .const (.slice none 0 0)=>true
 | _=>false
theorem EK {y:Operand} (h:zI y=true):y=.const (.slice none 0 0):=by
 unfold zI at h; split at h
 · rfl
 · cases h
def Ki (P:Program) (v:Operand→PV) (op:BinOp) (t:TypeId) (x y:Operand):Option PV:=
 bif zI y then (match P.underlying t,zF (v x) with
  | some (.slice _),some b=>match op with
   | .eql=>some (.bool b)
   | .neq=>some (.bool (!b))
   | _=>none
  | _,_=>none)
 else match op,v x,v y with
  | .quo,.int k a,.int k' b=>bif Dc k k' && !decide (b=0) then some (.int k (k.wrap (a.tdiv b))) else none
  | .rem,.int k a,.int k' b=>bif Dc k k' && !decide (b=0) then some (.int k (a.tmod b)) else none
  | .shl,.int k a,.int _ (.ofNat n)=>some (.int k (k.wrap (a * 2 ^ (min n k.bits))))
  | .shr,.int k a,.int _ (.ofNat n)=>some (.int k (a.fdiv (2 ^ (min n k.bits))))
  | .eql,.bool a,.bool b=>match P.underlying t with
   | some .bool=>some (.bool (a == b))
   | _=>none
  | .neq,.bool a,.bool b=>match P.underlying t with
   | some .bool=>some (.bool (!(a == b)))
   | _=>none
  | .add,.str a,.str b=>match Ft.app a b with
   | some r=>some (.str r)
   | none=>none
  | op,a,b=>ze op a b
theorem GR {op:BinOp} {t u:TypeId} {x y:Operand} (h:Ki P v op t x y=some p):
  (∀ ρ:dV,p.ren ρ=p)∧∀ (ρ:dV) (o:Oper),o.op=.binOp op t x y u→∀ {R S:PV→List aA→Prop},R p (bT ρ s)→AO P o (fun x=>(v x).ren ρ) (bT ρ s) R S:=by
 unfold Ki at h; cases hn:zI y with
 | true=>
  rw [hn] at h; simp only [cond_true] at h; have hy:=EK hn; subst hy; split at h
  ·
   rename_i e b hu hq; split at h
   ·
    rename_i hop; simp only [Option.some.injEq] at h; subst h; exact ⟨fun _=>rfl,fun ρ o ho R S hR=>AO.F8 (b:=b) ho (BP ρ hq) hu rfl hR⟩
   ·
    simp only [Option.some.injEq] at h; subst h; exact ⟨fun _=>rfl,fun ρ o ho R S hR=>AO.F8 (b:=b) ho (BP ρ hq) hu rfl hR⟩
   · cases h
  · cases h
 | false=>
  rw [hn] at h; simp only [cond_false] at h; have key:∀ {a:PV} {z:Operand},v z=a→(∀ ρ:dV,a.ren ρ=a)→∀ ρ:dV,(fun x=>(v x).ren ρ) z=a:=fun h1 h2 ρ=>by show (v _).ren ρ=_; rw [h1,h2]
  split at h
  ·
   rename_i k a k' b hx hy; cases e:(Dc k k' && !decide (b=0)) with
   | false=>rw [e] at h; cases h
   | true=>
    rw [e] at h; simp only [cond_true,Option.some.injEq] at h; subst h; simp only [Bool.and_eq_true,Bool.not_eq_true',decide_eq_false_iff_not] at e; cases wK e.1; exact ⟨fun _=>rfl,fun ρ o ho R S hR=>AO.quo ho (key hx (fun _=>rfl) ρ) (key hy (fun _=>rfl) ρ) e.2 hR⟩
  ·
   rename_i k a k' b hx hy; cases e:(Dc k k' && !decide (b=0)) with
   | false=>rw [e] at h; cases h
   | true=>
    rw [e] at h; simp only [cond_true,Option.some.injEq] at h; subst h; simp only [Bool.and_eq_true,Bool.not_eq_true',decide_eq_false_iff_not] at e; cases wK e.1; exact ⟨fun _=>rfl,fun ρ o ho R S hR=>AO.rem ho (key hx (fun _=>rfl) ρ) (key hy (fun _=>rfl) ρ) e.2 hR⟩
  ·
   rename_i k a k' n hx hy; simp only [Option.some.injEq] at h; subst h; exact ⟨fun _=>rfl,fun ρ o ho R S hR=>AO.shl (b:=(n:Int)) ho (key hx (fun _=>rfl) ρ) (key hy (fun _=>rfl) ρ) (Int.natCast_nonneg n) (by rw [Int.toNat_natCast]; exact hR)⟩
  ·
   rename_i k a k' n hx hy; simp only [Option.some.injEq] at h; subst h; exact ⟨fun _=>rfl,fun ρ o ho R S hR=>AO.shr (b:=(n:Int)) ho (key hx (fun _=>rfl) ρ) (key hy (fun _=>rfl) ρ) (Int.natCast_nonneg n) (by rw [Int.toNat_natCast]; exact hR)⟩
  ·
   rename_i a b hx hy; split at h
   ·
    rename_i hu; simp only [Option.some.injEq] at h; subst h; exact ⟨fun _=>rfl,fun ρ o ho R S hR=>AO.su ho hu (key hx (fun _=>rfl) ρ) (key hy (fun _=>rfl) ρ) hR⟩
   · cases h
  ·
   rename_i a b hx hy; split at h
   ·
    rename_i hu; simp only [Option.some.injEq] at h; subst h; exact ⟨fun _=>rfl,fun ρ o ho R S hR=>AO.GY ho hu (key hx (fun _=>rfl) ρ) (key hy (fun _=>rfl) ρ) hR⟩
   · cases h
  ·
   rename_i a b hx hy; split at h
   ·
    rename_i r hr; simp only [Option.some.injEq] at h; subst h; exact ⟨fun _=>rfl,fun ρ o ho R S hR=>AO.Nf hr ho (key hx (fun _=>rfl) ρ) (key hy (fun _=>rfl) ρ) hR⟩
   · cases h
  ·
   obtain ⟨h1,h2,h3⟩:=Dy h; refine ⟨h1,fun ρ o ho R S hR=>AO.calc' ?_ hR⟩; rw [ho]; simp only [FT]; rw [h2,h3]; exact h
theorem Er {op:UnOp} {a:PV} (h:Es op a=some p):(∀ ρ:dV,p.ren ρ=p)∧∀ ρ:dV,a.ren ρ=a:=by
 cases a <;> simp only [Es,reduceCtorEq] at h
 ·
  refine ⟨?_,fun _=>rfl⟩; cases op <;> simp only [reduceCtorEq,Option.some.injEq] at h <;> subst h <;> intro ρ <;> rfl
 ·
  refine ⟨?_,fun _=>rfl⟩; cases op <;> simp only [reduceCtorEq,Option.some.injEq] at h <;> subst h <;> intro ρ <;> rfl
def xD :List (List PV)→Option (List UInt8)
 | []=>some []
 | [.int .u8 (.ofNat n)] :: r=>bif Nat.blt n 256 then (match xD r with | some t=>some (UInt8.ofNat n :: t) | none=>none) else none
 | _=>none
theorem y8 :∀ {l:List (List PV)} {t:List UInt8},xD l=some t→l=t.map eU
 | [],t,h=>by simp only [xD,Option.some.injEq] at h; subst h; rfl
 | x :: r,t,h=>by
  unfold xD at h; split at h
  · cases h; rename_i heq; cases heq
  ·
   rename_i n r' heq; simp only [List.cons.injEq] at heq; obtain ⟨rfl,rfl⟩:=heq; cases e:Nat.blt n 256 with
   | false=>rw [e] at h; cases h
   | true=>
    rw [e] at h; simp only [cond_true] at h; split at h
    ·
     rename_i t' ht; simp only [Option.some.injEq] at h; subst h; have hn:n < 256:=Nat.le_of_ble_eq_true e; have ih:=y8 ht; simp only [List.map_cons,eU,←ih]; congr 3; simp [UInt8.toNat_ofNat,Nat.mod_eq_of_lt hn]
    · cases h
  · cases h
theorem qo (ρ:dV) (t:List UInt8):dQ ρ (t.map eU)=t.map eU:=by
 rw [bR,List.map_map]; exact List.map_congr_left fun _ _=>rfl
inductive LV where
 | val (p:PV)
 | row (e:Nat) (t:List UInt8)
def Kv (P:Program) (src dst:TypeId) (q:PV):Option LV:=
 match P.underlying src,P.underlying dst with
 | some _,some (.int k)=>match q with
  | .int _ n=>some (.val (.int k (k.wrap n)))
  | _=>none
 | some (.slice e),some .string=>match P.underlying e,q.els with
  | some (.int .u8),some l=>match xD l with
   | some t=>some (.val (.str t))
   | none=>none
  | _,_=>none
 | some _,some .string=>match q with
  | .str a=>some (.val (.str a))
  | _=>none
 | some _,some (.slice e)=>match P.underlying e,q with
  | some (.int .u8),.str a=>bif Nat.ble a.length 4294967296 then some (.row e a) else none
  | _,_=>none
 | _,_=>none
theorem Jc {src dst:TypeId} {x:Operand} (h:Kv P src dst (v x)=some (.val p)) (hs:gB nx s):aK P s nx v (.convert src dst x) p s nx:=by
 unfold Kv at h; have key:∀ {a:PV} {z:Operand},v z=a→(∀ ρ:dV,a.ren ρ=a)→∀ ρ:dV,(fun x=>(v x).ren ρ) z=a:=fun h1 h2 ρ=>by show (v _).ren ρ=_; rw [h1,h2]
 split at h
 ·
  rename_i d k hs1 hd; split at h
  ·
   rename_i kk n hx; simp only [Option.some.injEq,LV.val.injEq] at h; subst h; exact aK.pure (gL.free fun _=>rfl) hs fun ρ o ho R S hR=>AO.Co ho hs1 hd (key hx (fun _=>rfl) ρ) hR
  · cases h
 ·
  rename_i e hs1 hd; split at h
  ·
   rename_i l he hl; split at h
   ·
    rename_i t ht; simp only [Option.some.injEq,LV.val.injEq] at h; subst h; refine aK.pure (gL.free fun _=>rfl) hs fun ρ o ho R S hR=>AO.E8 (l:=t.map eU) ho hs1 he hd ?_ rfl hR; show ((v x).ren ρ).els=_; rw [ql,hl,Option.map_some,y8 ht,qo]
   · cases h
  · cases h
 ·
  rename_i d hs1 hd; split at h
  ·
   rename_i a hx; simp only [Option.some.injEq,LV.val.injEq] at h; subst h; exact aK.pure (gL.free fun _=>rfl) hs fun ρ o ho R S hR=>AO.Gz ho hs1 hd (key hx (fun _=>rfl) ρ) hR
  · cases h
 ·
  split at h
  ·
   rename_i a he hx; cases e:Nat.ble a.length 4294967296 with
   | false=>rw [e] at h; cases h
   | true=>rw [e] at h; cases h
  · cases h
 · cases h
theorem GN {src dst:TypeId} {x:Operand} {e:Nat} {t:List UInt8} (h:Kv P src dst (v x)=some (.row e t)) (hs:gB nx s):
  aK P s nx v (.convert src dst x) (.own (.slice (some ⟨nx,0,none⟩) 0 0) (t.map eU)) (.row (.slice (some ⟨nx,0,none⟩) 0 0) t.length 1 e :: s) (nx + 1):=by
 unfold Kv at h; split at h
 · split at h <;> cases h
 ·
  split at h
  · split at h <;> cases h
  · cases h
 · split at h <;> cases h
 ·
  rename_i e' hs1 hd; split at h
  ·
   rename_i a he hx; cases hb:Nat.ble a.length 4294967296 with
   | false=>rw [hb] at h; cases h
   | true=>
    rw [hb] at h; simp only [cond_true,Option.some.injEq,LV.row.injEq] at h; obtain ⟨rfl,rfl⟩:=h; refine aK.row (fun ρ ρ' _=>(qo ρ _).trans (qo ρ' _).symm) hs fun ρ o ho R S hR=>?_; refine AO.qC ho hs1 hd he (s:=a) (by show (v x).ren ρ=_; rw [hx]; rfl) (Nat.le_trans (Nat.le_of_ble_eq_true hb) (by decide)) fun h=>?_; have:=hR h
    rwa [qo] at this
  · cases h
 · cases h
def JH (P:Program) (t:TypeId) (q:PV):Option PV:=
 match q with
 | .str a=>match P.underlying t with
  | some .string=>some (.int .i64 (a.length:Int))
  | _=>none
 | q=>match q.els,elemSize P t with
  | some l,some _=>some (.int .i64 (l.length:Int))
  | _,_=>none
theorem G6 {α:Type} {a:Array α} {x:α} (h:a.toList=[x]):a=#[x]:=by apply Array.ext'; simpa using h
theorem Fg {α:Type} {a:Array α} {x y:α} (h:a.toList=[x,y]):a=#[x,y]:=by apply Array.ext'; simpa using h
inductive NH where
 | val (p:PV)
 | row (l:List (List PV)) (sz e:Nat)
 | grow (i:Nat) (l:List (List PV)) (sz e:Nat)
def Nh (P:Program) (s:List aA) (t tx:TypeId) (p q:PV):Option NH:=
 match p,q.els,pU P t,elemSize P tx with
 | .own h l,some l2,some (e,sz,Me),some sz'=>
  bif Nat.beq sz sz' && l.all (fun y=>Nat.beq y.length sz) && l2.all (fun y=>Nat.beq y.length sz && y.all PV.one) && Nat.ble (l.length + l2.length) 4294967296 && Nat.ble Me 32768 then (match h with
   | .slice none 0 0=>match l with
    | []=>some (.row l2 sz e)
    | _=>none
   | .slice (some ⟨b,0,none⟩) 0 0=>match qj s b 0 with
    | some (i,n,LZ,e2)=>bif Nat.beq n l.length && Nat.beq LZ sz && Nat.beq e2 e then some (.grow i (l ++ l2) sz e) else none
    | none=>none
   | _=>none) else none
 | _,_,_,_=>none
theorem yZ {c:Call} {x y:Operand} {t tx:TypeId} {r:NH} (cK:c.callee=.builtin .append) (ha:c.args.toList=[x,y]) (ht:c.argTypes.toList=[t,tx]) (h:Nh P s t tx (v x) (v y)=some r) (hv:∀ x,gL nx (v x)) (hs:gB nx s):
  match r with
  | .val _=>False
  | .row l sz e=>aK P s nx v (.call c) (.own (.slice (some ⟨nx,0,none⟩) 0 0) l) (.row (.slice (some ⟨nx,0,none⟩) 0 0) l.length sz e :: s) (nx + 1)
  | .grow i l sz e=>∀ s1,iM s i (.row (.slice (some ⟨nx,0,none⟩) 0 0) l.length sz e)=some s1→aK P s nx v (.call c) (.own (.slice (some ⟨nx,0,none⟩) 0 0) l) s1 (nx + 1):=by
 unfold Nh at h; split at h
 ·
  rename_i hd l l2 e sz Me sz' hx hl2 hsi hes; cases hb:(Nat.beq sz sz' && l.all (fun y=>Nat.beq y.length sz) && l2.all (fun y=>Nat.beq y.length sz && y.all PV.one) && Nat.ble (l.length + l2.length) 4294967296 && Nat.ble Me 32768) with
  | false=>rw [hb] at h; cases h
  | true=>
   rw [hb] at h; simp only [cond_true] at h; simp only [Bool.and_eq_true] at hb; obtain ⟨⟨⟨⟨b1,b2⟩,b3⟩,b4⟩,b5⟩:=hb; have b1:=Nat.eq_of_beq_eq_true b1; subst b1; have b4:=Nat.le_of_ble_eq_true b4; have b5:=Nat.le_of_ble_eq_true b5; rw [List.all_eq_true] at b2 b3; have hf:=mQ (rE hsi); have K7:=(hv y).els hl2; have hol:Ok nx fun ρ=>dQ ρ l:=(hv x).els (by rw [hx]; rfl); have hmul:(l.length + l2.length) * Me≤4294967296 * 32768:=Nat.mul_le_mul b4 b5
   have hrow:∀ (ρ:dV) (o:Oper),o.op=.call c→∀ {R S:PV→List aA→Prop} (σ:List aA) (i:Nat),σ[i]?=some (.row (sN ρ hd) l.length sz e)→(∀ v' σ',iM σ i (.row v' (l.length + l2.length) sz e)=some σ'→R (.own v' (dQ ρ l ++ dQ ρ l2)) σ')→AO P o (fun x=>(v x).ren ρ) σ R S:=by
    intro ρ o ho R S σ i hi hR; refine AO.append ho cK (Fg ha) (Fg ht) (v:=sN ρ hd) (l:=dQ ρ l) (l2:=dQ ρ l2) (n:=l.length) (by show (v x).ren ρ=_; rw [hx]; rfl) (by show ((v y).ren ρ).els=_; rw [ql,hl2]; rfl) hi hf hes (by rw [bR,List.length_map]) ?_ ?_ ?_ ?_ ?_ ?_
    ·
     intro z hz; rw [bR,List.mem_map] at hz; obtain ⟨z,hz,rfl⟩:=hz; rw [gT]; exact Nat.eq_of_beq_eq_true (b2 z hz)
    ·
     intro z hz; rw [bR,List.mem_map] at hz; obtain ⟨z,hz,rfl⟩:=hz; have:=b3 z hz; simp only [Bool.and_eq_true] at this; rw [gT]; exact Nat.eq_of_beq_eq_true this.1
    ·
     intro z hz; rw [bR,List.mem_map] at hz; obtain ⟨z,hz,rfl⟩:=hz; have:=b3 z hz; simp only [Bool.and_eq_true] at this; rw [uE]; exact this.2
    · simp only [bR,List.length_map]; unfold maxLen; omega
    · simp only [bR,List.length_map]; omega
    ·
     intro v' σ' h; exact hR v' σ' (by simpa only [bR,List.length_map] using h)
   split at h
   ·
    split at h
    ·
     simp only [Option.some.injEq] at h; subst h; refine aK.row K7 hs fun ρ o ho R S hR=>?_; refine AO.MB sz e (hrow ρ o ho _ 0 rfl fun v' σ' h=>?_); simp only [iM,Option.some.injEq] at h; subst h; have:=hR v'; simpa only [dQ,List.nil_append,List.length_nil,Nat.zero_add] using this
    · cases h
   ·
    rename_i bb; split at h
    ·
     rename_i i n LZ e2 hfr; cases hq:(Nat.beq n l.length && Nat.beq LZ sz && Nat.beq e2 e) with
     | false=>rw [hq] at h; cases h
     | true=>
      rw [hq] at h; simp only [cond_true,Option.some.injEq] at h; subst h; simp only [Bool.and_eq_true] at hq; have q1:=Nat.eq_of_beq_eq_true hq.1.1; have q2:=Nat.eq_of_beq_eq_true hq.1.2; have q3:=Nat.eq_of_beq_eq_true hq.2; subst q1 q2 q3; have hfr:=(wR hfr).2; rw [Nat.sub_zero] at hfr; intro s1 hset
      have hoa:Ok nx fun ρ=>dQ ρ (l ++ l2):=fun ρ ρ' ha=>by
       have h1:=hol ρ ρ' ha; have h2:=K7 ρ ρ' ha; simp only [bR] at h1 h2 ⊢; rw [List.map_append,List.map_append,h1,h2]
      refine ⟨Nat.le_succ _,fun ρ ρ' ha=>?_,gB.set (hs.le (Nat.le_succ _)) (fun ρ ρ' ha=>?_) hset,fun ρ o ho R S hR=>?_⟩
      ·
       show PV.ren ρ _=PV.ren ρ' _; simp only [PV.ren,sN]; rw [(ha nx (Nat.lt_succ_self _)).2,show dQ ρ (l ++ l2)=dQ ρ' (l ++ l2) from hoa ρ ρ' (ha.le (Nat.le_succ _))]
      ·
       show aA.ren ρ _=aA.ren ρ' _; simp only [aA.ren,sN]; rw [(ha nx (Nat.lt_succ_self _)).2]
      ·
       refine hrow ρ o ho (bT ρ s) i (by rw [fK,hfr]; rfl) fun v' σ' h=>?_; have:=hR (setH ρ nx v') (mR ρ nx v')
       have hs1:bT (setH ρ nx v') s1=σ':=by
        have h2:=oM (ρ:=setH ρ nx v') s i (.row (.slice (some ⟨nx,0,none⟩) 0 0) (l ++ l2).length LZ e2); rw [hset,←show bT ρ s=bT (setH ρ nx v') s from hs _ _ (mR ρ nx v')] at h2; simp only [aA.ren,sN,zn,List.length_append,Option.map_some] at h2; rw [h] at h2; exact (Option.some.inj h2).symm
       rw [hs1] at this; simp only [PV.ren,sN,zn] at this; rw [←show dQ ρ (l ++ l2)=dQ (setH ρ nx v') (l ++ l2) from hoa _ _ (mR ρ nx v'),bR,List.map_append,←bR,←bR] at this; exact this
    · cases h
   · cases h
 · cases h
end
end Go.Abs
namespace Go.Abs
variable [bX]
open Go
section
variable {P : Program} {s s1 : List aA} {nx lW : Nat} {v : Operand → PV} {p : PV}
theorem J6 {c:Call} {x:Operand} {t:TypeId} (cK:c.callee=.builtin .len) (ha:c.args.toList=[x]) (ht:c.argTypes.toList=[t]) (h:JH P t (v x)=some p) (hs:gB nx s):aK P s nx v (.call c) p s nx:=by
 unfold JH at h; split at h
 ·
  rename_i a hx; split at h
  ·
   rename_i hu; simp only [Option.some.injEq] at h; subst h; exact aK.pure (gL.free fun _=>rfl) hs fun ρ o ho R S hR=>AO.aY ho cK (G6 ha) (G6 ht) hu (by show (v x).ren ρ=_; rw [hx]; rfl) hR
  · cases h
 ·
  split at h
  ·
   rename_i l sz hl hz; simp only [Option.some.injEq] at h; subst h; exact aK.pure (gL.free fun _=>rfl) hs fun ρ o ho R S hR=>AO.yO (l:=dQ ρ l) ho cK (G6 ha) (G6 ht) hz (by show ((v x).ren ρ).els=_; rw [ql,hl]; rfl) (by rw [bR,List.length_map]; exact hR)
  · cases h
def Mf (P:Program) (v:Operand→PV) (b:Builtin) (args:List Operand) (tys:List TypeId):Option PV:=
 match args,tys with
 | [x],[t]=>match b with
  | .len=>JH P t (v x)
  | .unsafeSliceData=>match v x with
   | .own (.slice none 0 0) []=>some (.val (.pointer none))
   | _=>none
  | _=>none
 | [x,y],[t,u]=>match b,v x,v y with
  | .min,.int k a,.int _ b=>some (.int k (if b < a then b else a))
  | .max,.int k a,.int _ b=>some (.int k (if a < b then b else a))
  | .unsafeString,.val (.pointer none),.int .i64 n=>bif decide (n=0) then (match P.underlying t with
   | some _=>some (.str [])
   | none=>none) else none
  | _,_,_=>none
 | _,_=>none
theorem Jd {c:Call} {b:Builtin} (cK:c.callee=.builtin b) (h:Mf P v b c.args.toList c.argTypes.toList=some p) (hs:gB nx s):aK P s nx v (.call c) p s nx:=by
 have key:∀ {a:PV} {z:Operand},v z=a→(∀ ρ:dV,a.ren ρ=a)→∀ ρ:dV,(fun x=>(v x).ren ρ) z=a:=fun h1 h2 ρ=>by show (v _).ren ρ=_; rw [h1,h2]
 unfold Mf at h; split at h
 ·
  rename_i x t ha ht; split at h
  · exact J6 cK ha ht h hs
  ·
   split at h
   ·
    rename_i hx; simp only [Option.some.injEq] at h; subst h; exact aK.pure (gL.free fun _=>rfl) hs fun ρ o ho R S hR=>AO.sliceData ho cK (G6 ha) (key hx (fun _=>rfl) ρ) rfl hR
   · cases h
  · cases h
 ·
  rename_i x y t u ha ht; split at h
  ·
   rename_i k a k' b' hx hy; simp only [Option.some.injEq] at h; subst h; exact aK.pure (gL.free fun _=>rfl) hs fun ρ o ho R S hR=>AO.min2 ho cK (Fg ha) (key hx (fun _=>rfl) ρ) (key hy (fun _=>rfl) ρ) hR
  ·
   rename_i k a k' b' hx hy; simp only [Option.some.injEq] at h; subst h; exact aK.pure (gL.free fun _=>rfl) hs fun ρ o ho R S hR=>AO.max2 ho cK (Fg ha) (key hx (fun _=>rfl) ρ) (key hy (fun _=>rfl) ρ) hR
  ·
   rename_i n hx hy; cases e:decide (n=0) with
   | false=>rw [e] at h; cases h
   | true=>
    rw [e] at h; simp only [cond_true] at h; have e:=of_decide_eq_true e; subst e; split at h
    ·
     simp only [Option.some.injEq] at h; subst h; exact aK.pure (gL.free fun _=>rfl) hs fun ρ o ho R S hR=>AO.xO ho cK (Fg ha) (Fg ht) (key hx (fun _=>rfl) ρ) (key hy (fun _=>rfl) ρ) hR
    · cases h
  · cases h
 · cases h
def M8 (P:Program) (t f:Nat) (q:PV):Option PV:=
 match P.underlying t with
 | some (.struct fs)=>match fs[f]? with
  | some fl=>match dZ P fl.type,q with
   | some (ag,k),.agg cs=>match fH fl.offset cs with
    | some r=>dP ag k r
    | none=>none
   | _,_=>none
  | none=>none
 | _=>none
theorem GK {t f:Nat} {x:Operand} (h:M8 P t f (v x)=some p) (hv:∀ x,gL nx (v x)) (hs:gB nx s):aK P s nx v (.field t x f) p s nx:=by
 unfold M8 at h; split at h
 ·
  rename_i fs hu; split at h
  ·
   rename_i fl hfl; split at h
   ·
    rename_i ag k cs ht hx; split at h
    ·
     rename_i r hd; have hx':=hv x; rw [hx] at hx'; refine aK.pure ((hx'.agg.drop hd).load h) hs fun ρ o ho R S hR=>?_; exact AO.field (cs:=bG ρ cs) (cs':=bG ρ r) ho hu hfl rfl ht (by show (v x).ren ρ=_; rw [hx]; rfl) (by rw [jT,hd]; rfl) (by rw [lG,h]; rfl) hR
    · cases h
   · cases h
  · cases h
 · cases h
def M_ (P:Program) (t f:Nat) (q:PV):Option PV:=
 match jI P t f with
 | some off=>match q with
  | .ref cs=>match fH off cs with
   | some r=>some (.ref r)
   | none=>none
  | .val (.pointer (some ⟨b,k,none⟩))=>some (.val (.pointer (some ⟨b,k + off,none⟩)))
  | _=>none
 | none=>none
theorem zU {t f:Nat} {x:Operand} (h:M_ P t f (v x)=some p) (hv:∀ x,gL nx (v x)) (hs:gB nx s):aK P s nx v (.fieldAddr t x f) p s nx:=by
 unfold M_ at h; split at h
 ·
  rename_i off ho; split at h
  ·
   rename_i cs hx; split at h
   ·
    rename_i r hd; simp only [Option.some.injEq] at h; subst h; have hx':=hv x; rw [hx] at hx'; exact aK.pure (hx'.ref.drop hd).ref hs fun ρ o ho' R S hR=>AO.qD (cs:=bG ρ cs) (cs':=bG ρ r) ho' (by show (v x).ren ρ=_; rw [hx]; rfl) ho (by rw [jT,hd]; rfl) hR
   · cases h
  ·
   rename_i b k hx; simp only [Option.some.injEq] at h; subst h; have hx':=hv x; rw [hx] at hx'; refine aK.pure (hx'.via fun ρ ρ' he=>by simp only [PV.ren,vR,PV.val.injEq,Value.pointer.injEq,Option.some.injEq,Addr.mk.injEq,and_true] at he ⊢; exact he) hs fun ρ o ho' R S hR=>?_; exact AO.qE ho' (by show (v x).ren ρ=_; rw [hx]; rfl) ho hR
  · cases h
 · cases h
theorem C9 (ρ:dV) (h:p.notNil=true):(p.ren ρ).notNil=true:=by
 unfold PV.notNil at h; split at h
 · rfl
 · rfl
 ·
  rename_i a; obtain ⟨b,off,x⟩:=a; cases x <;> rfl
 · cases h
theorem Cr {x:Operand} (h:(v x).notNil=true) (hv:∀ x,gL nx (v x)) (hs:gB nx s):aK P s nx v (.nilCheck x) (v x) s nx:=
 aK.pure (hv x) hs fun ρ o ho R S hR=>AO.nilCheck ho (C9 ρ h) hR
theorem BG (g:Bool) (a b:PV):vY g a b=some (bif g then a else b):=by
 unfold vY; split
 · cases g <;> rfl
 · rw [iZ]
def ME (v:Operand→PV):Op→Option PV
 | .move x | .assign x=>some (v x)
 | .pick c a b=>match v c with
  | .bool g=>some (bif g then v a else v b)
  | _=>none
 | .unOp op _ x=>Es op (v x)
 | .makeFunc (.func f) first captured=>bif first.isEmpty then some (.fn f (captured.toList.map v)) else none
 | .extract x i=>match v x with
  | .tuple vs=>vs[i]?
  | _=>none
 | _=>none
theorem LB {op:Op} (h:ME v op=some p) (hv:∀ x,gL nx (v x)) (hs:gB nx s):aK P s nx v op p s nx:=by
 unfold ME at h; split at h
 ·
  rename_i x; simp only [Option.some.injEq] at h; subst h; exact aK.pure (hv x) hs fun ρ o ho R S hR=>AO.calc' (by rw [ho]; exact iZ _) hR
 ·
  rename_i x; simp only [Option.some.injEq] at h; subst h; exact aK.pure (hv x) hs fun ρ o ho R S hR=>AO.calc' (by rw [ho]; exact iZ _) hR
 ·
  rename_i c a b; split at h
  ·
   rename_i g hg; simp only [Option.some.injEq] at h; subst h; refine aK.pure (by cases g; exact hv b; exact hv a) hs fun ρ o ho R S hR=>AO.calc' (p:=(bif g then v a else v b).ren ρ) ?_ hR; rw [ho]; simp only [FT,hg,PV.ren,BG]; cases g <;> rfl
  · cases h
 ·
  rename_i op t x; obtain ⟨h1,h2⟩:=Er h; refine aK.pure (gL.free h1) hs fun ρ o ho R S hR=>AO.calc' (p:=p) ?_ (by rw [h1] at hR; exact hR); rw [ho]; simp only [FT,h2]; exact h
 ·
  rename_i f first captured; cases e:first.isEmpty with
  | false=>rw [e] at h; cases h
  | true=>
   rw [e] at h; simp only [cond_true,Option.some.injEq] at h; subst h; refine aK.pure (jh.of fun q hq=>?_).fn hs fun ρ o ho R S hR=>AO.calc' (p:=.fn f (captured.toList.map fun x=>(v x).ren ρ)) ?_ ?_
   ·
    obtain ⟨x,_,rfl⟩:=List.mem_map.1 hq; exact hv x
   · rw [ho]; simp only [FT,e,cond_true]
   · simp only [PV.ren,j5,List.map_map] at hR; exact hR
 ·
  rename_i x i; split at h
  ·
   rename_i vs hx; have hx':=hv x; rw [hx] at hx'; refine aK.pure (hx'.KL.mem (List.mem_of_getElem? h)) hs fun ρ o ho R S hR=>AO.calc' (p:=p.ren ρ) ?_ hR; rw [ho]; simp only [FT,hx,PV.ren,j5,List.getElem?_map,h,Option.map_some,iZ]
  · cases h
 · cases h
theorem wJ {a b:PV} {r:Bool} (h:yQ a b=some r) (ρ:dV):yQ (a.ren ρ) (b.ren ρ)=some r:=by
 cases a <;> cases b <;> simp only [yQ,reduceCtorEq] at h <;> exact h
theorem kZ (ρ:dV) (k:PV):∀ (es:List (Nat × PV × PV)) (i:Nat) {r:Option (Nat × PV)},kC k es i=some r→kC (k.ren ρ) (fQ ρ es) i=some (r.map fun x=>(x.1,x.2.ren ρ))
 | [],i,r,h=>by simp only [kC,Option.some.injEq] at h; subst h; rfl
 | (b,k',v') :: es,i,r,h=>by
  simp only [fQ,List.map_cons,kC] at h ⊢; split at h
  ·
   rename_i hq; simp only [Option.some.injEq] at h; subst h; rw [wJ hq]; rfl
  ·
   rename_i hq; rw [wJ hq]; exact kZ ρ k es (i + 1) h
  · cases h
theorem yU {k:PV}:∀ {es:List (Nat × PV × PV)} {i j:Nat} {q:PV},kC k es i=some (some (j,q))→∃ b k',(b,k',q)∈es
 | [],i,j,q,h=>by simp [kC] at h
 | (b,k',v') :: es,i,j,q,h=>by
  simp only [kC] at h; split at h
  ·
   simp only [Option.some.injEq,Prod.mk.injEq] at h; obtain ⟨_,rfl⟩:=h; exact ⟨b,k',by simp⟩
  ·
   obtain ⟨b,k2,h⟩:=yU h; exact ⟨b,k2,by simp [h]⟩
  · cases h
theorem gB.mp {i b n:Nat} {es:List (Nat × PV × PV)} (h:gB nx s) (hi:s[i]?=some (.mp b es n)):Ok nx (fun ρ=>fQ ρ es):=(h.get hi).via fun ρ ρ' he=>by simp only [aA.ren,aA.mp.injEq] at he; exact he.2.1
theorem Ni.mem {es:List (Nat × PV × PV)} (h:Ok nx fun ρ=>fQ ρ es) {x:Nat × PV × PV} (hx:x∈es):gL nx x.2.1∧gL nx x.2.2:=by
 obtain ⟨i,hi⟩:=List.getElem?_of_mem hx; have:Ok nx fun ρ=>(x.1,x.2.1.ren ρ,x.2.2.ren ρ):=Ok.Dh (fun l:List (Nat × PV × PV)=>l[i]?) h fun ρ=>by simp only [fQ,List.getElem?_map,hi,Option.map_some]
 exact ⟨this.via fun ρ ρ' he=>(Prod.mk.inj (Prod.mk.inj he).2).1,this.via fun ρ ρ' he=>(Prod.mk.inj (Prod.mk.inj he).2).2⟩
theorem qg (ρ:dV) {kt:TypeId} {y:PV} (h:rV P kt y=true):rV P kt (y.ren ρ)=true:=by
 unfold rV at h ⊢; cases y <;> simp_all [PV.ren]
def Fx (P:Program) (t:TypeId):Option PV:=
 match P.info? t with
 | some i=>match i.zero with
  | some z=>bif wP z then some (ofConst z) else none
  | none=>none
 | none=>none
theorem Fw {t:TypeId} {z:PV} (h:Fx P t=some z):(∀ ρ:dV,z.ren ρ=z)∧∀ w m,∃ v,(zeroValue t).run P w=.ok v w∧aN w m z v:=by
 unfold Fx at h; split at h
 ·
  rename_i i hi; split at h
  ·
   rename_i zv hz; cases e:wP zv with
   | false=>rw [e] at h; cases h
   | true=>
    rw [e] at h; simp only [cond_true,Option.some.injEq] at h; subst h; exact ⟨fun ρ=>pV ρ e,fun w m=>⟨zv,by simp [zeroValue,run_typeInfo hi,hz],ug w m zv⟩⟩
  · cases h
 · cases h
def MK (P:Program) (s:List aA) (t:TypeId) (q y:PV) (ok:Bool):Option PV:=
 match wH P t,q with
 | some (kt,et),.val (.map (some b))=>bif rV P kt y then (match mK s b 0 with
  | some (_,es,_)=>match kC y es 0 with
   | some (some (_,p))=>some (bif ok then .tuple [p,.bool true] else p)
   | some none=>match Fx P et with
    | some z=>some (bif ok then .tuple [z,.bool false] else z)
    | none=>none
   | none=>none
  | none=>none) else none
 | _,_=>none
theorem EU {t:TypeId} {x y:Operand} {ok:Bool} (h:MK P s t (v x) (v y) ok=some p) (hs:gB nx s):aK P s nx v (.lookup t x y ok) p s nx:=by
 unfold MK at h; split at h
 ·
  rename_i kt et b hk hx; cases hko:rV P kt (v y) with
  | false=>rw [hko] at h; cases h
  | true=>
   rw [hko] at h; simp only [cond_true] at h; split at h
   ·
    rename_i i es n hm; have hm:=(kY hm).2; rw [Nat.sub_zero] at hm; have hi:∀ ρ:dV,(bT ρ s)[i]?=some (.mp (ρ.lb b) (fQ ρ es) n):=fun ρ=>by rw [fK,hm]; rfl
    have I7:∀ ρ:dV,(v x).ren ρ=.val (.map (some (ρ.lb b))):=fun ρ=>by rw [hx]; rfl
    split at h
    ·
     rename_i j q hf; simp only [Option.some.injEq] at h; obtain ⟨bb,kk,hmem⟩:=yU hf; have hq:gL nx q:=(Ni.mem (hs.mp hm) hmem).2
     have hp:gL nx p:=by
      subst h; cases ok
      · exact hq
      · exact (jh.cons hq (jh.cons (gL.free fun _=>rfl) jh.nil)).KL
     refine aK.pure hp hs fun ρ o ho R S hR=>AO.D6 (z:=.undef) ho (hi ρ) (I7 ρ) hk (qg ρ hko) (kZ ρ _ es 0 hf) (fun _ _ h=>by cases h) ?_ hR; subst h; cases ok <;> rfl
    ·
     rename_i hf; split at h
     ·
      rename_i z hz; obtain ⟨z1,z2⟩:=Fw hz; simp only [Option.some.injEq] at h
      have hp:∀ ρ:dV,p.ren ρ=p:=by
       subst h; intro ρ; cases ok
       · exact z1 ρ
       · simp only [cond_true,PV.ren,bG,z1]
      refine aK.pure (gL.free hp) hs fun ρ o ho R S hR=>AO.D6 (z:=z) ho (hi ρ) (I7 ρ) hk (qg ρ hko) (kZ ρ _ es 0 hf) (fun w m _=>z2 w m) ?_ hR; rw [hp,←h]; rfl
     · cases h
    · cases h
   · cases h
 · cases h
def MJ (P:Program) (s:List aA) (t:TypeId) (q y z:PV):Option (List aA):=
 match wH P t,q with
 | some (kt,_),.val (.map (some b))=>bif rV P kt y then (match mK s b 0 with
  | some (i,es,n)=>match kC y es 0 with
   | some (some (j,_))=>iM s i (.mp b (Br y z es j) n)
   | some none=>iM s i (.mp b (es ++ [(n,y,z)]) (n + 1))
   | none=>none
  | none=>none) else none
 | _,_=>none
theorem rF (ρ:dV) (k v:PV):∀ (es:List (Nat × PV × PV)) (j:Nat),fQ ρ (Br k v es j)=Br (k.ren ρ) (v.ren ρ) (fQ ρ es) j
 | [],_=>rfl
 | (_,_,_) :: _,0=>rfl
 | x :: es,j + 1=>by
  have:=rF ρ k v es j; simp only [fQ,List.map_cons,Br] at this ⊢; rw [this]
theorem zS {t:TypeId} {x y z:Operand} (h:MJ P s t (v x) (v y) (v z)=some s1) (hv:∀ x,gL nx (v x)) (hs:gB nx s):aK P s nx v (.mapUpdate t x y z) .undef s1 nx:=by
 unfold MJ at h; split at h
 ·
  rename_i kt et b hk hx; cases hko:rV P kt (v y) with
  | false=>rw [hko] at h; cases h
  | true=>
   rw [hko] at h; simp only [cond_true] at h; split at h
   ·
    rename_i i es n hm; have hm:=(kY hm).2; rw [Nat.sub_zero] at hm; have hi:∀ ρ:dV,(bT ρ s)[i]?=some (.mp (ρ.lb b) (fQ ρ es) n):=fun ρ=>by rw [fK,hm]; rfl
    have I7:∀ ρ:dV,(v x).ren ρ=.val (.map (some (ρ.lb b))):=fun ρ=>by rw [hx]; rfl
    have hlb:Ok nx fun ρ=>ρ.lb b:=(hs.get hm).via fun ρ ρ' he=>by simp only [aA.ren,aA.mp.injEq] at he; exact he.1
    have fin:∀ es' n',Ok nx (fun ρ=>fQ ρ es')→iM s i (.mp b es' n')=some s1→(∀ ρ:dV,(fQ ρ es',n')=(match (kC ((v y).ren ρ) (fQ ρ es) 0).getD none with | some (j,_)=>(Br ((v y).ren ρ) ((v z).ren ρ) (fQ ρ es) j,n) | none=>(fQ ρ es ++ [(n,(v y).ren ρ,(v z).ren ρ)],n + 1)))→
      (∃ r,kC (v y) es 0=some r)→aK P s nx v (.mapUpdate t x y z) .undef s1 nx:=by
     intro es' n' hes hset heq ⟨r,hr⟩; refine ⟨Nat.le_refl _,gL.free fun _=>rfl,gB.set hs (fun ρ ρ' ha=>?_) hset,fun ρ o ho R S hR=>?_⟩
     ·
      show aA.ren ρ _=aA.ren ρ' _; simp only [aA.ren,aA.mp.injEq,and_true]; exact ⟨hlb ρ ρ' ha,hes ρ ρ' ha⟩
     ·
      have h1:=kZ ρ _ es 0 hr; have h2:=heq ρ; rw [h1] at h2; have h3:=oM (ρ:=ρ) s i (.mp b es' n'); rw [hset] at h3; cases r with
      | none=>exact AO.wo ho (hi ρ) (I7 ρ) hk (qg ρ hko) h1 h2 h3 (hR ρ (rz.refl _ _))
      | some x=>exact AO.wo ho (hi ρ) (I7 ρ) hk (qg ρ hko) h1 h2 h3 (hR ρ (rz.refl _ _))
    split at h
    ·
     rename_i j q hf; refine fin _ _ (fun ρ ρ' ha=>?_) h (fun ρ=>?_) ⟨_,hf⟩
     ·
      show fQ ρ _=fQ ρ' _; rw [rF,rF,show (v y).ren ρ=(v y).ren ρ' from hv y ρ ρ' ha,show (v z).ren ρ=(v z).ren ρ' from hv z ρ ρ' ha,show fQ ρ es=fQ ρ' es from hs.mp hm ρ ρ' ha]
     · rw [kZ ρ _ es 0 hf,rF]; rfl
    ·
     rename_i hf; refine fin _ _ (fun ρ ρ' ha=>?_) h (fun ρ=>?_) ⟨_,hf⟩
     ·
      have h1:fQ ρ es=fQ ρ' es:=hs.mp hm ρ ρ' ha; show fQ ρ _=fQ ρ' _; simp only [fQ] at h1 ⊢; rw [List.map_append,List.map_append,h1]; simp only [List.map_cons,List.map_nil]; rw [show (v y).ren ρ=(v y).ren ρ' from hv y ρ ρ' ha,show (v z).ren ρ=(v z).ren ρ' from hv z ρ ρ' ha]
     ·
      rw [kZ ρ _ es 0 hf]; simp only [fQ,List.map_append,List.map_cons,List.map_nil,Option.map_none,Option.getD_some]
    · cases h
   · cases h
 · cases h
def MC (P:Program) (s:List aA) (t:TypeId) (q:PV):Option Obj:=
 match P.underlying t,q with
 | some .string,.str a=>some (.stringIter ⟨a.toArray⟩ 0)
 | some (.map _ _),.val (.map (some b))=>match mK s b 0 with
  | some (_,_,n)=>some (.mapIter (some b) n #[] n)
  | none=>none
 | _,_=>none
theorem aK.obj {op:Op} {ob:Obj} (hc:Ok nx fun ρ=>xR ρ ob) (hs:gB nx s)
  (h:∀ (ρ:dV) (o:Oper),o.op=op→∀ {R S:PV→List aA→Prop},(∀ b,R (.val (.pointer (some ⟨b,0,none⟩))) (.obj b (xR ρ ob) :: bT ρ s))→AO P o (fun x=>(v x).ren ρ) (bT ρ s) R S):
  aK P s nx v op (.val (.pointer (some ⟨nx,0,none⟩))) (.obj nx ob :: s) (nx + 1):=by
 refine ⟨Nat.le_succ _,I4,gB.cons (fun ρ ρ' ha=>?_) (hs.le (Nat.le_succ _)),fun ρ o ho R S hR=>h ρ o ho fun b=>?_⟩
 ·
  show aA.ren ρ _=aA.ren ρ' _; simp only [aA.ren]; rw [(ha nx (Nat.lt_succ_self _)).1,show xR ρ ob=xR ρ' ob from hc ρ ρ' (ha.le (Nat.le_succ _))]
 ·
  have:=hR (uH ρ nx b) (j4 ρ nx b); simp only [PV.ren,vR,zo,bT,List.map_cons,aA.ren] at this; rw [←show xR ρ ob=xR (uH ρ nx b) ob from hc _ _ (j4 ρ nx b),←show s.map (aA.ren ρ)=s.map (aA.ren (uH ρ nx b)) from hs _ _ (j4 ρ nx b)] at this; exact this
theorem GI {t:TypeId} {x:Operand} {ob:Obj} (h:MC P s t (v x)=some ob) (hv:∀ x,gL nx (v x)) (hs:gB nx s):aK P s nx v (.range t x) (.val (.pointer (some ⟨nx,0,none⟩))) (.obj nx ob :: s) (nx + 1):=by
 unfold MC at h; split at h
 ·
  rename_i a hu hx; simp only [Option.some.injEq] at h; subst h; exact aK.obj (fun _ _ _=>rfl) hs fun ρ o ho R S hR=>AO.ED ho hu (by show (v x).ren ρ=_; rw [hx]; rfl) hR
 ·
  rename_i kt et b hu hx; split at h
  ·
   rename_i i es n hm; simp only [Option.some.injEq] at h; subst h; have hm:=(kY hm).2; rw [Nat.sub_zero] at hm; have hlb:Ok nx fun ρ=>ρ.lb b:=(hs.get hm).via fun ρ ρ' he=>by simp only [aA.ren,aA.mp.injEq] at he; exact he.1
   exact aK.obj (hlb.via fun ρ ρ' he=>by simp only [xR,he]) hs fun ρ o ho R S hR=>AO.FL ho (es:=fQ ρ es) (i:=i) (by rw [fK,hm]; rfl) (by show (v x).ren ρ=_; rw [hx]; rfl) hu hR
  · cases h
 · cases h
def MI (s:List aA) (q:PV):Option (PV × Option (Nat × Obj)):=
 match q with
 | .val (.pointer (some ⟨r,0,none⟩))=>match nP s r 0 with
  | some (i,.mapIter (some m) since ⟨seen⟩ last)=>match mK s m 0 with
   | some (_,es,n)=>bif seen.isEmpty || es.isEmpty || es.any (fun e=>Nat.blt e.1 last) then (match es.filter (fun e=>!seen.any (Nat.beq e.1)) with
    | []=>some (.tuple [.bool false],none)
    | [(born,k,w)]=>bif Nat.blt born since then some (.tuple [.bool true,k,w],some (i,.mapIter (some m) since ⟨seen ++ [born]⟩ n)) else none
    | _=>none) else none
   | none=>none
  | _=>none
 | _=>none
theorem wT (ρ:dV) (f:Nat→Bool) (es:List (Nat × PV × PV)):(fQ ρ es).filter (fun e=>f e.1)=fQ ρ (es.filter fun e=>f e.1):=by
 induction es with
 | nil=>rfl
 | cons x es ih=>
  simp only [fQ,List.map_cons,List.filter_cons] at ih ⊢; cases f x.1 <;> simp [ih]
theorem IQ (ρ:dV) (f:Nat→Bool) (es:List (Nat × PV × PV)):(fQ ρ es).any (fun e=>f e.1)=es.any fun e=>f e.1:=by
 induction es with
 | nil=>rfl
 | cons x es ih=>simp only [fQ,List.map_cons,List.any_cons] at ih ⊢; rw [ih]
theorem B_ (ρ:dV) (es:List (Nat × PV × PV)):(fQ ρ es).isEmpty=es.isEmpty:=by cases es <;> rfl
theorem Ee {x:Operand} {r:Nat} {u:Option (Nat × Obj)} (hx:v x=.val (.pointer (some ⟨r,0,none⟩))) (h:MI s (v x)=some (p,u)) (hv:∀ x,gL nx (v x)) (hs:gB nx s):
  (u=none∧aK P s nx v (.next x false) p s nx)∨∃ i ob,u=some (i,ob)∧∀ s1,iM s i (.obj r ob)=some s1→aK P s nx v (.next x false) p s1 nx:=by
 rw [hx] at h; have I7:∀ ρ:dV,(v x).ren ρ=.val (.pointer (some ⟨ρ.lb r,0,none⟩)):=fun ρ=>by rw [hx]; rfl
 unfold MI at h; simp only at h; split at h
 ·
  rename_i i m since seen last ho1; have ho1:=(qV ho1).2; rw [Nat.sub_zero] at ho1; have hi:∀ ρ:dV,(bT ρ s)[i]?=some (.obj (ρ.lb r) (.mapIter (some (ρ.lb m)) since seen.toArray last)):=fun ρ=>by rw [fK,ho1]; rfl
  split at h
  ·
   rename_i j es n hm; have hm:=(kY hm).2; rw [Nat.sub_zero] at hm; have hj:∀ ρ:dV,(bT ρ s)[j]?=some (.mp (ρ.lb m) (fQ ρ es) n):=fun ρ=>by rw [fK,hm]; rfl
   cases hg:(seen.isEmpty || es.isEmpty || es.any (fun e=>Nat.blt e.1 last)) with
   | false=>rw [hg] at h; cases h
   | true=>
    rw [hg] at h; simp only [cond_true] at h; have hgr:∀ ρ:dV,(seen.isEmpty || (fQ ρ es).isEmpty || (fQ ρ es).any (fun e=>Nat.blt e.1 last))=true:=fun ρ=>by rw [B_,IQ ρ (fun k=>Nat.blt k last)]; exact hg
    split at h
    ·
     rename_i hl; simp only [Option.some.injEq,Prod.mk.injEq] at h; obtain ⟨rfl,rfl⟩:=h; left; refine ⟨rfl,aK.pure (gL.free fun _=>rfl) hs fun ρ o ho R S hR=>?_⟩; exact AO.Ga ho (I7 ρ) (hi ρ) (hj ρ) (by rw [wT ρ (fun k=>!seen.any (Nat.beq k)),hl]; rfl) (hgr ρ) hR
    ·
     rename_i born k w hl; cases hb:Nat.blt born since with
     | false=>rw [hb] at h; cases h
     | true=>
      rw [hb] at h; simp only [cond_true,Option.some.injEq,Prod.mk.injEq] at h; obtain ⟨rfl,rfl⟩:=h; right; refine ⟨i,_,rfl,fun s1 hset=>⟨Nat.le_refl _,?_,?_,fun ρ o ho R S hR=>?_⟩⟩
      ·
       have hmem:(born,k,w)∈es:=(List.mem_filter.1 (show (born,k,w)∈es.filter (fun e=>!seen.any (Nat.beq e.1)) from by rw [hl]; simp)).1; have:=Ni.mem (hs.mp hm) hmem; exact (jh.cons (gL.free fun _=>rfl) (jh.cons this.1 (jh.cons this.2 jh.nil))).KL
      ·
       have hlb:Ok nx fun ρ=>ρ.lb m:=(hs.get hm).via fun ρ ρ' he=>by simp only [aA.ren,aA.mp.injEq] at he; exact he.1
       have hlr:Ok nx fun ρ=>ρ.lb r:=(hs.get ho1).via fun ρ ρ' he=>by simp only [aA.ren,aA.obj.injEq] at he; exact he.1
       exact gB.set hs (fun ρ ρ' ha=>by show aA.ren ρ _=aA.ren ρ' _; simp only [aA.ren,xR]; rw [show ρ.lb m=ρ'.lb m from hlb ρ ρ' ha,show ρ.lb r=ρ'.lb r from hlr ρ ρ' ha]) hset
      ·
       have h3:=oM (ρ:=ρ) s i (.obj r (.mapIter (some m) since ⟨seen ++ [born]⟩ n)); rw [hset] at h3; exact AO.F9 ho (I7 ρ) (hi ρ) (hj ρ) (by rw [wT ρ (fun k=>!seen.any (Nat.beq k)),hl]; rfl) hb (hgr ρ) h3 (hR ρ (rz.refl _ _))
    · cases h
  · cases h
 · cases h
def Na (s:List aA) (q:PV):Option PV:=
 match q with
 | .val (.pointer (some ⟨r,0,none⟩))=>match nP s r 0 with
  | some (_,.mapIter (some m) _ ⟨seen⟩ last)=>match mK s m 0,seen.getLast? with
   | some (_,es,n),some st=>bif Nat.beq n last then (match es.find? (fun e=>Nat.beq e.1 st) with
    | some e=>some (.tuple [e.2.1,e.2.2])
    | none=>none) else none
   | _,_=>none
  | _=>none
 | _=>none
theorem Gt (ρ:dV) (f:Nat→Bool) (es:List (Nat × PV × PV)):(fQ ρ es).find? (fun e=>f e.1)=(es.find? fun e=>f e.1).map fun x=>(x.1,x.2.1.ren ρ,x.2.2.ren ρ):=by
 induction es with
 | nil=>rfl
 | cons x es ih=>
  simp only [fQ,List.map_cons,List.find?_cons] at ih ⊢; cases f x.1 <;> simp [ih]
theorem GL {x:Operand} (h:Na s (v x)=some p) (hs:gB nx s):aK P s nx v (.entry x) p s nx:=by
 unfold Na at h; split at h
 ·
  rename_i r hx; split at h
  ·
   rename_i i m since seen last ho1; have ho1:=(qV ho1).2; rw [Nat.sub_zero] at ho1; split at h
   ·
    rename_i j es n st hm hst; have hm:=(kY hm).2; rw [Nat.sub_zero] at hm; cases hb:Nat.beq n last with
    | false=>rw [hb] at h; cases h
    | true=>
     rw [hb] at h; have hb:=Nat.eq_of_beq_eq_true hb; subst hb; simp only [cond_true] at h; split at h
     ·
      rename_i e he; simp only [Option.some.injEq] at h; subst h; have:=Ni.mem (hs.mp hm) (List.mem_of_find?_eq_some he); refine aK.pure (jh.cons this.1 (jh.cons this.2 jh.nil)).KL hs fun ρ o ho R S hR=>?_; refine AO.Gv (b:=ρ.lb r) (mb:=ρ.lb m) (es:=fQ ρ es) (seen:=seen) (since:=since) (n:=n) (i:=i) (j:=j) (born:=e.1) (kp:=e.2.1.ren ρ) (vp:=e.2.2.ren ρ) ho (by show (v x).ren ρ=_; rw [hx]; rfl) (by rw [fK,ho1]; rfl) (by rw [fK,hm]; rfl) hst ?_ hR; rw [Gt ρ (fun k=>Nat.beq k st),he]; rfl
     · cases h
   · cases h
  · cases h
 · cases h
theorem Dl {t:TypeId} (hs:gB nx s):aK P s nx v (.makeMap t none) (.val (.map (some nx))) (.mp nx [] 0 :: s) (nx + 1):=by
 refine ⟨Nat.le_succ _,fun ρ ρ' ha=>?_,gB.cons (fun ρ ρ' ha=>?_) (hs.le (Nat.le_succ _)),fun ρ o ho R S hR=>AO.Gg ho fun b=>?_⟩
 ·
  show PV.ren ρ _=PV.ren ρ' _; simp only [PV.ren,vR]; rw [(ha nx (Nat.lt_succ_self _)).1]
 ·
  show aA.ren ρ _=aA.ren ρ' _; simp only [aA.ren]; rw [(ha nx (Nat.lt_succ_self _)).1]; rfl
 ·
  have:=hR (uH ρ nx b) (j4 ρ nx b); simp only [PV.ren,vR,zo,bT,List.map_cons,aA.ren] at this; rw [←show s.map (aA.ren ρ)=s.map (aA.ren (uH ρ nx b)) from hs _ _ (j4 ρ nx b)] at this; exact this
end
end Go.Abs
namespace Go.Abs
variable [bX]
open Go
mutual
def BK (nx:Nat):PV→Bool
 | .val (.pointer (some ⟨b,_,none⟩))=>Nat.blt b nx
 | .val (.map (some b))=>Nat.blt b nx
 | .own (.slice (some ⟨b,0,none⟩) 0 0) l=>Nat.blt b nx && BL nx l
 | .own _ l=>BL nx l
 | .list l=>BL nx l
 | .agg cs=>H8 nx cs
 | .tuple vs=>H8 nx vs
 | .iface _ p=>BK nx p
 | .fn _ cs=>H8 nx cs
 | .ref cs=>H8 nx cs
 | _=>true
def H8 (nx:Nat):List PV→Bool
 | []=>true
 | p :: ps=>BK nx p && H8 nx ps
def BL (nx:Nat):List (List PV)→Bool
 | []=>true
 | l :: ls=>H8 nx l && BL nx ls
end
theorem nX {a b:Nat} (h:Nat.blt a b=true):a < b:=Nat.le_of_ble_eq_true h
mutual
theorem sV {nx:Nat}:∀ (p:PV),BK nx p=true→gL nx p
 | .val v,h=>fun ρ ρ' ha=>by
  show PV.ren ρ _=PV.ren ρ' _; simp only [PV.ren]; unfold vR; split
  ·
   rename_i b off; have:=nX (show Nat.blt b nx=true from h); simp only [(ha b this).1]
  ·
   rename_i b; have:=nX (show Nat.blt b nx=true from h); simp only [(ha b this).1]
  · rfl
 | .own v l,h=>fun ρ ρ' ha=>by
  have hl:BL nx l=true:=by
   unfold BK at h; split at h <;> simp_all
  show PV.ren ρ _=PV.ren ρ' _; simp only [PV.ren]; rw [zC l hl ρ ρ' ha]; congr 1; unfold sN; split
  ·
   rename_i b; have:(Nat.blt b nx && BL nx l)=true:=h; simp only [Bool.and_eq_true] at this; exact ((ha b (nX this.1)).2).symm
  · rfl
 | .list l,h=>fun ρ ρ' ha=>by show PV.ren ρ _=PV.ren ρ' _; simp only [PV.ren]; rw [zC l (by simpa only [BK] using h) ρ ρ' ha]
 | .agg l,h=>fun ρ ρ' ha=>by show PV.ren ρ _=PV.ren ρ' _; simp only [PV.ren]; rw [qN l (by simpa only [BK] using h) ρ ρ' ha]
 | .tuple l,h=>fun ρ ρ' ha=>by show PV.ren ρ _=PV.ren ρ' _; simp only [PV.ren]; rw [qN l (by simpa only [BK] using h) ρ ρ' ha]
 | .fn f l,h=>fun ρ ρ' ha=>by show PV.ren ρ _=PV.ren ρ' _; simp only [PV.ren]; rw [qN l (by simpa only [BK] using h) ρ ρ' ha]
 | .ref l,h=>fun ρ ρ' ha=>by show PV.ren ρ _=PV.ren ρ' _; simp only [PV.ren]; rw [qN l (by simpa only [BK] using h) ρ ρ' ha]
 | .iface t p,h=>fun ρ ρ' ha=>by show PV.ren ρ _=PV.ren ρ' _; simp only [PV.ren]; rw [show p.ren ρ=p.ren ρ' from sV p (by simpa only [BK] using h) ρ ρ' ha]
 | .undef,_=>fun _ _ _=>rfl
 | .int _ _,_=>fun _ _ _=>rfl
 | .bool _,_=>fun _ _ _=>rfl
 | .str _,_=>fun _ _ _=>rfl
 | .err _,_=>fun _ _ _=>rfl
theorem qN {nx:Nat}:∀ (l:List PV),H8 nx l=true→∀ ρ ρ',rz nx ρ ρ'→bG ρ l=bG ρ' l
 | [],_,_,_,_=>rfl
 | p :: ps,h,ρ,ρ',ha=>by
  simp only [H8,Bool.and_eq_true] at h; simp only [bG]; rw [show p.ren ρ=p.ren ρ' from sV p h.1 ρ ρ' ha,qN ps h.2 ρ ρ' ha]
theorem zC {nx:Nat}:∀ (l:List (List PV)),BL nx l=true→∀ ρ ρ',rz nx ρ ρ'→dQ ρ l=dQ ρ' l
 | [],_,_,_,_=>rfl
 | p :: ps,h,ρ,ρ',ha=>by
  simp only [BL,Bool.and_eq_true] at h; simp only [dQ]; rw [qN p h.1 ρ ρ' ha,zC ps h.2 ρ ρ' ha]
end
def JE (nx:Nat):aA→Bool
 | .box b cs=>Nat.blt b nx && H8 nx cs
 | .row (.slice (some ⟨b,0,none⟩) 0 0) _ _ _=>Nat.blt b nx
 | .row _ _ _ _=>true
 | .obj b (.mapIter (some m) _ _ _)=>Nat.blt b nx && Nat.blt m nx
 | .obj b _=>Nat.blt b nx
 | .mp b es _=>Nat.blt b nx && es.all fun e=>BK nx e.2.1 && BK nx e.2.2
 | _=>true
theorem JD {nx:Nat} {r:aA} (h:JE nx r=true):Ok nx fun ρ=>r.ren ρ:=fun ρ ρ' ha=>by
 show aA.ren ρ r=aA.ren ρ' r; cases r with
 | box b cs=>
  simp only [JE,Bool.and_eq_true] at h; simp only [aA.ren]; rw [(ha b (nX h.1)).1,qN cs h.2 ρ ρ' ha]
 | row v n sz e=>
  simp only [aA.ren]; congr 1; unfold sN; split
  ·
   rename_i b; exact ((ha b (nX (show Nat.blt b nx=true from h))).2).symm
  · rfl
 | obj b o=>
  have hb:Nat.blt b nx=true:=by
   unfold JE at h; split at h <;> simp_all
  simp only [aA.ren]; rw [(ha b (nX hb)).1]; congr 1; unfold xR; split
  ·
   rename_i m x y z; have:(Nat.blt b nx && Nat.blt m nx)=true:=h; simp only [Bool.and_eq_true] at this; rw [(ha m (nX this.2)).1]
  · rfl
 | mp b es n=>
  simp only [JE,Bool.and_eq_true] at h; simp only [aA.ren]; rw [(ha b (nX h.1)).1]; congr 1; have h2:=h.2; rw [List.all_eq_true] at h2; unfold fQ; refine List.map_congr_left fun e he=>?_; have:=h2 e he; simp only [Bool.and_eq_true] at this; rw [show e.2.1.ren ρ=e.2.1.ren ρ' from sV _ this.1 ρ ρ' ha,show e.2.2.ren ρ=e.2.2.ren ρ' from sV _ this.2 ρ ρ' ha]
 | _=>rfl
def EI (nx:Nat):aA→Bool
 | .box b _=>Nat.blt b nx
 | .row (.slice (some ⟨b,0,none⟩) 0 0) _ _ _=>Nat.blt b nx
 | .obj b _=>Nat.blt b nx
 | .mp b _ _=>Nat.blt b nx
 | _=>true
section
variable {P : Program} {s s1 : List aA} {nx lW : Nat} {v : Operand → PV} {p : PV}
def L6 (P:Program) (s:List aA) (v:Operand→PV):Op→Option PV
 | .load t x=>KY P s t (v x)
 | .build t parts=>match Dx P v t parts with
  | some cs=>some (.agg cs)
  | none=>none
 | .index t x i=>MN P v t x i
 | .indexAddr t x i=>MQ P v t x i
 | .slice t x lo hi none=>Mw P v t x lo hi
 | .binOp op t x y _=>Ki P v op t x y
 | .convert src dst x=>match Kv P src dst (v x) with
  | some (.val p)=>some p
  | _=>none
 | .call c=>match c.callee with
  | .builtin b=>Mf P v b c.args.toList c.argTypes.toList
  | _=>none
 | .field t x f=>M8 P t f (v x)
 | .fieldAddr t x f=>M_ P t f (v x)
 | .nilCheck x=>bif (v x).notNil then some (v x) else none
 | .lookup t x y ok=>MK P s t (v x) (v y) ok
 | .entry x=>Na s (v x)
 | op=>ME v op
theorem F3 {op:Op} (h:L6 P s v op=some p) (hv:∀ x,gL nx (v x)) (hs:gB nx s):aK P s nx v op p s nx:=by
 unfold L6 at h; split at h
 · exact Ir h hv hs
 ·
  split at h
  ·
   rename_i hb; simp only [Option.some.injEq] at h; subst h; exact GQ hb hv hs
  · cases h
 · exact GJ h hs
 · exact zT h hv hs
 · exact GH h hv hs
 ·
  obtain ⟨h1,h2⟩:=GR (s:=s) h; exact aK.pure (gL.free h1) hs fun ρ o ho R S hR=>h2 ρ o ho (by rw [h1] at hR; exact hR)
 ·
  split at h
  ·
   rename_i hc; simp only [Option.some.injEq] at h; subst h; exact Jc hc hs
  · cases h
 ·
  split at h
  ·
   rename_i hc; exact Jd hc h hs
  · cases h
 · exact GK h hv hs
 · exact zU h hv hs
 ·
  rename_i x; cases e:(v x).notNil with
  | false=>rw [e] at h; cases h
  | true=>
   rw [e] at h; simp only [cond_true,Option.some.injEq] at h; subst h; exact Cr e hv hs
 · exact EU h hs
 · exact GL h hs
 · exact LB h hv hs
def opC (P:Program) (s:List aA) (nx:Nat) (v:Operand→PV):Op→Option (PV × List aA × Nat)
 | .store t x y=>match Mv P s t (v x) (v y) with
  | some s1=>some (.undef,s1,nx)
  | none=>none
 | .alloc t=>match KH P t with
  | some cs=>some (.val (.pointer (some ⟨nx,0,none⟩)),.box nx cs :: s,nx + 1)
  | none=>none
 | .box _ x=>match (v x).gu with
  | some cs=>some (.val (.pointer (some ⟨nx,0,none⟩)),.box nx cs :: s,nx + 1)
  | none=>none
 | .buildSlice t len parts=>match Ng P v t len parts with
  | some (l,sz,e)=>some (.own (.slice (some ⟨nx,0,none⟩) 0 0) l,.row (.slice (some ⟨nx,0,none⟩) 0 0) len sz e :: s,nx + 1)
  | none=>none
 | .mapUpdate t x y z=>match MJ P s t (v x) (v y) (v z) with
  | some s1=>some (.undef,s1,nx)
  | none=>none
 | .makeMap _ none=>some (.val (.map (some nx)),.mp nx [] 0 :: s,nx + 1)
 | .range t x=>match MC P s t (v x) with
  | some ob=>some (.val (.pointer (some ⟨nx,0,none⟩)),.obj nx ob :: s,nx + 1)
  | none=>none
 | .next x false=>match v x with
  | .val (.pointer (some ⟨r,0,none⟩))=>match MI s (v x) with
   | some (p,none)=>some (p,s,nx)
   | some (p,some (i,ob))=>match iM s i (.obj r ob) with
    | some s1=>some (p,s1,nx)
    | none=>none
   | none=>none
  | _=>none
 | .convert src dst x=>match Kv P src dst (v x) with
  | some (.val p)=>some (p,s,nx)
  | some (.row e t)=>some (.own (.slice (some ⟨nx,0,none⟩) 0 0) (t.map eU),.row (.slice (some ⟨nx,0,none⟩) 0 0) t.length 1 e :: s,nx + 1)
  | none=>none
 | .call c=>match c.callee with
  | .builtin .append=>match c.args.toList,c.argTypes.toList with
   | [x,y],[t,tx]=>match Nh P s t tx (v x) (v y) with
    | some (.row l sz e)=>some (.own (.slice (some ⟨nx,0,none⟩) 0 0) l,.row (.slice (some ⟨nx,0,none⟩) 0 0) l.length sz e :: s,nx + 1)
    | some (.grow i l sz e)=>match iM s i (.row (.slice (some ⟨nx,0,none⟩) 0 0) l.length sz e) with
     | some s1=>some (.own (.slice (some ⟨nx,0,none⟩) 0 0) l,s1,nx + 1)
     | none=>none
    | _=>none
   | _,_=>none
  | .builtin b=>match Mf P v b c.args.toList c.argTypes.toList with
   | some p=>some (p,s,nx)
   | none=>none
  | _=>none
 | op=>match L6 P s v op with
  | some p=>some (p,s,nx)
  | none=>none
theorem F4 {op:Op} (h:opC P s nx v op=some (p,s1,lW)) (hv:∀ x,gL nx (v x)) (hs:gB nx s):aK P s nx v op p s1 lW:=by
 unfold opC at h; split at h
 ·
  split at h
  ·
   rename_i hb; simp only [Option.some.injEq,Prod.mk.injEq] at h; obtain ⟨rfl,rfl,rfl⟩:=h; exact GD hb hv hs
  · cases h
 ·
  split at h
  ·
   rename_i hb; simp only [Option.some.injEq,Prod.mk.injEq] at h; obtain ⟨rfl,rfl,rfl⟩:=h; exact GU hb hs
  · cases h
 ·
  split at h
  ·
   rename_i hb; simp only [Option.some.injEq,Prod.mk.injEq] at h; obtain ⟨rfl,rfl,rfl⟩:=h; exact J7 hb hv hs
  · cases h
 ·
  split at h
  ·
   rename_i hb; simp only [Option.some.injEq,Prod.mk.injEq] at h; obtain ⟨rfl,rfl,rfl⟩:=h; exact xW hb hv hs
  · cases h
 ·
  split at h
  ·
   rename_i hb; simp only [Option.some.injEq,Prod.mk.injEq] at h; obtain ⟨rfl,rfl,rfl⟩:=h; exact zS hb hv hs
  · cases h
 ·
  simp only [Option.some.injEq,Prod.mk.injEq] at h; obtain ⟨rfl,rfl,rfl⟩:=h; exact Dl hs
 ·
  split at h
  ·
   rename_i hb; simp only [Option.some.injEq,Prod.mk.injEq] at h; obtain ⟨rfl,rfl,rfl⟩:=h; exact GI hb hv hs
  · cases h
 ·
  split at h
  ·
   rename_i r hx; split at h
   ·
    rename_i q hn; simp only [Option.some.injEq,Prod.mk.injEq] at h; obtain ⟨rfl,rfl,rfl⟩:=h; rcases Ee hx hn hv hs with h | ⟨i,ob,h,_⟩
    · exact h.2
    · cases h
   ·
    rename_i q i ob hn; split at h
    ·
     rename_i s2 hset; simp only [Option.some.injEq,Prod.mk.injEq] at h; obtain ⟨rfl,rfl,rfl⟩:=h; rcases Ee hx hn hv hs with h | ⟨i',Oc,h,h2⟩
     · cases h.1
     · cases h; exact h2 _ hset
    · cases h
   · cases h
  · cases h
 ·
  split at h
  ·
   rename_i hb; simp only [Option.some.injEq,Prod.mk.injEq] at h; obtain ⟨rfl,rfl,rfl⟩:=h; exact Jc hb hs
  ·
   rename_i hb; simp only [Option.some.injEq,Prod.mk.injEq] at h; obtain ⟨rfl,rfl,rfl⟩:=h; exact GN hb hs
  · cases h
 ·
  split at h
  ·
   rename_i cK; split at h
   ·
    rename_i x y t tx ha ht; split at h
    ·
     rename_i hap; simp only [Option.some.injEq,Prod.mk.injEq] at h; obtain ⟨rfl,rfl,rfl⟩:=h; exact yZ cK ha ht hap hv hs
    ·
     rename_i hap; split at h
     ·
      rename_i s2 hset; simp only [Option.some.injEq,Prod.mk.injEq] at h; obtain ⟨rfl,rfl,rfl⟩:=h; exact yZ cK ha ht hap hv hs _ hset
     · cases h
    · cases h
   · cases h
  ·
   rename_i cK; split at h
   ·
    rename_i hb; simp only [Option.some.injEq,Prod.mk.injEq] at h; obtain ⟨rfl,rfl,rfl⟩:=h; exact Jd cK hb hs
   · cases h
  · cases h
 ·
  split at h
  ·
   rename_i hb; simp only [Option.some.injEq,Prod.mk.injEq] at h; obtain ⟨rfl,rfl,rfl⟩:=h; exact F3 hb hv hs
  · cases h
end
end Go.Abs
namespace Go.Abs
variable [bX]
open Go
inductive Mg where
 | sq (c:Code)
 | bl (id:Nat)
 | lp (c:Code)
inductive CS where
 | w (c:Code) (k:List Mg) (e:Env)
 | r (all:Array Oper) (l:List Oper) (k:List Mg) (e:Env)
 | x (ax:AX) (k:List Mg) (e:Env)
 | v (all:Array Oper) (l:List Oper) (e:Env)
def qO (P:Program) (QC:Exit→Act→World→Prop) (c:Code) (a:Act) (w:World):Prop:=
 ∀ b k cs,∃ e a' w',QC e a' w'∧Arrives P (lone (b.at a (.code c :: .inLoop c :: k)) cs w) b k cs e a' w'
theorem qO.loop {P:Program} {QC:Exit→Act→World→Prop} {c:Code} {a:Act} {w:World} (h:qO P QC c a w):(Code.loop c).wp P QC a w:=fun b k cs=>by
 obtain ⟨e,a',w',hq,harr⟩:=h b k cs; exact ⟨e,a',w',hq,.of_steps (.one step_loop) harr⟩
theorem qO.step {P:Program} {QC:Exit→Act→World→Prop} {c:Code} {a:Act} {w:World} (h:c.wp P (Exit.then (fun a' w'=>qO P QC c a' w') QC) a w):qO P QC c a w:=fun b k cs=>by
 obtain ⟨e,a₁,w₁,hq,harr⟩:=h b (.inLoop c :: k) cs; cases e with
 | normal=>
  obtain ⟨e₂,a₂,w₂,hq₂,harr₂⟩:=hq b k cs; exact ⟨e₂,a₂,w₂,hq₂,.of_steps (Steps.trans harr (.one step_inLoop)) harr₂⟩
 | exit id=>exact ⟨_,a₁,w₁,hq,.pass (x:=.inLoop c) rfl (fun _ _=>.inl (by simp)) harr⟩
 | goto l=>exact ⟨_,a₁,w₁,hq,.pass (x:=.inLoop c) rfl (fun _ _=>.inl (by simp)) harr⟩
 | ret=>exact ⟨_,a₁,w₁,hq,.pass (x:=.inLoop c) rfl (fun _ _=>.inl (by simp)) harr⟩
 | panic ch=>exact ⟨_,a₁,w₁,hq,.pass (x:=.inLoop c) rfl (fun _ _=>.inl (by simp)) harr⟩
 | outgrown=>exact ⟨_,a₁,w₁,hq,.pass (x:=.inLoop c) rfl (fun _ _=>.inl (by simp)) harr⟩
def Bn (P:Program) (n:Nat) (c:Code) (env:Env) (σ:List aA) (ds:List Deferred) (Q:Post):Prop:=
 ∀ w m a QC,iK w m n env σ ds a→Acc n Q w m σ QC→qO P QC c a w
theorem Bn.loop {P:Program} {n:Nat} {c:Code} {env:Env} {σ:List aA} {ds:List Deferred} {Q:Post} (h:Bn P n c env σ ds Q):AW P n (.loop c) env σ ds Q:=
 fun w m a QC hs ha=>(h w m a QC hs ha).loop
theorem Bn.step {P:Program} {n:Nat} {c:Code} {env:Env} {σ:List aA} {ds:List Deferred} {Q:Post} (h:AW P n c env σ ds (AX.then (fun e s d=>Bn P n c e s d Q) Q)):Bn P n c env σ ds Q:=by
 intro w m a QC hs ha; refine qO.step (h w m a _ hs ?_); intro x ex e1 σ1 d1 a1 w1 m1 hq hx hs1 ht; cases x with
 | normal=>cases hx; exact hq w1 m1 a1 QC hs1 (ha.step ht)
 | exit id=>cases hx; exact ha (.exit id) _ e1 σ1 d1 a1 w1 m1 hq rfl hs1 ht
 | ret=>cases hx; exact ha .ret _ e1 σ1 d1 a1 w1 m1 hq rfl hs1 ht
 | panic p=>obtain ⟨v,rfl,hv⟩:=hx; exact ha (.panic p) _ e1 σ1 d1 a1 w1 m1 hq ⟨v,rfl,hv⟩ hs1 ht
def qz (P:Program) (n:Nat):List Mg→Post→Post
 | [],Q=>Q
 | .sq c :: k,Q=>AX.then (fun e s d=>AW P n c e s d (qz P n k Q)) (qz P n k Q)
 | .bl id :: k,Q=>AX.inBlock id (qz P n k Q)
 | .lp c :: k,Q=>AX.then (fun e s d=>Bn P n c e s d (qz P n k Q)) (qz P n k Q)
def CS.ok (P:Program) (n:Nat) (Q:Post) (ρ:dV) (s:List aA):CS→Prop
 | .w c k e=>AW P n c (eP ρ e) (bT ρ s) [] (qz P n k Q)
 | .r all l k e=>AR P n all l (eP ρ e) (bT ρ s) [] (qz P n k Q)
 | .x ax k e=>qz P n k Q ax (eP ρ e) (bT ρ s) []
 | .v _ _ _=>True
def CS.env :CS→Env
 | .w _ _ e=>e
 | .r _ _ _ e=>e
 | .x _ _ e=>e
 | .v _ _ e=>e
def rJ (P:Program) (e:Env) (s:List aA):ResultVar→Option PV
 | .tmp t=>some (e.get t)
 | .cell a t=>match e.get a,dZ P t with
  | .val (.pointer (some ⟨b,0,none⟩)),some (ag,k)=>match kP s b 0 with
   | some (_,cs)=>dP ag k cs
   | none=>none
  | _,_=>none
def oQ (P:Program) (e:Env) (s:List aA):List ResultVar→Option (List PV)
 | []=>some []
 | r :: rs=>match rJ P e s r with
  | some p=>match oQ P e s rs with
   | some ps=>some (p :: ps)
   | none=>none
  | none=>none
def Gw :AX→Bool
 | .normal=>true
 | .ret=>true
 | _=>false
def EC (P:Program) (fn:Func) (nx:Nat):Option (AX × Env × List aA × Nat)→Option (PV × List aA × Nat)
 | some (ax,e',s',nx')=>bif (Gw ax) then (match oQ P e' s' fn.results.toList with
  | some ps=>bif BK nx (eB ps) && (s'.filter (EI nx)).all (JE nx) then some (eB ps,s'.filter (EI nx),nx) else some (eB ps,s',nx')
  | none=>none) else none
 | none=>none
def mE (v:Operand→PV):Op→Option (Nat × List PV)
 | .call c=>match c.callee with
  | .value tV=>match v tV with
   | .fn f caps=>some (f,c.args.toList.map v ++ caps)
   | _=>none
  | _=>none
 | _=>none
def Nb (P:Program):Op→Bool
 | .store _ _ _ | .alloc _ | .box _ _ | .buildSlice _ _ _ | .mapUpdate _ _ _ _ | .makeMap _ _ | .range _ _ | .next _ _=>true
 | .convert _ dst _=>match P.underlying dst with
  | some (.slice _)=>true
  | _=>false
 | .call c=>match c.callee with
  | .builtin .append=>true
  | _=>false
 | _=>false
def bJ (P:Program):List Oper→Nat
 | []=>0
 | o :: r=>bif Nb P o.op then 0 else bJ P r + 1
def G8 (k:Nat) (l:List Nat):Bool:=(List.range k).all fun j=>l.any fun x=>Nat.beq x j
def lJ (L:List Oper) (k:Nat):Nat→Nat→Nat
 | 0,q=>q
 | f + 1,q=>match L[q]? with
  | some o=>bif G8 k (wY L q (bD o)) then q else lJ L k f (q + 1)
  | none=>q
def kD (L:List Oper) (k:Nat):Nat:=
 match L[k]? with
 | some o=>((List.range k).takeWhile fun j=>(wY L k (bD o)).any fun x=>Nat.beq x j).length
 | none=>0
def JV (P:Program) (n:Nat):List Oper→Env→List aA→Nat→Option (Env × List aA × Nat)
 | [],e,s,nx=>some (e,s,nx)
 | o :: r,e,s,nx=>match o.guard with
  | some _=>none
  | none=>match opC P s nx (u6 e) o.op with
   | some (p,s1,lW)=>match o.dst with
    | some t=>bif Nat.blt t n then JV P n r ((t,p) :: e) s1 lW else none
    | none=>JV P n r e s1 lW
   | none=>none
def LG (s:List aA) (v:Operand→PV):Op→Option Nat
 | .store _ x _=>match v x with
  | .val (.pointer (some ⟨b,_,none⟩))=>match kP s b 0 with
   | some (i,_)=>some i
   | none=>none
  | _=>none
 | _=>none
def ex (P:Program):Nat→Nat→CS→List aA→Nat→Option (AX × Env × List aA × Nat)
 | 0,_,_,_,_=>none
 | f + 1,n,.w c k e,s,nx=>match c with
  | .seq c d=>ex P f n (.w c (.sq d :: k) e) s nx
  | .block id c=>ex P f n (.w c (.bl id :: k) e) s nx
  | .region _ all false=>ex P f n (.r all all.toList k e) s nx
  | .region _ all true=>
   bif rT all.toList (bJ P all.toList) && Nat.ble (bJ P all.toList) all.toList.length then (match ex P f n (.v all (all.toList.take (bJ P all.toList)) e) s nx with
    | some (_,e1,_,_)=>ex P f n (.r all (all.toList.drop (bJ P all.toList)) k e1) s nx
    | none=>none)
   else (match all.toList[bJ P all.toList]? with
    | none=>none
    | some oj=>
     bif sU all.toList (bJ P all.toList) (lJ all.toList (bJ P all.toList) 100 (bJ P all.toList + 1)) && xg all.toList (bJ P all.toList) (lJ all.toList (bJ P all.toList) 100 (bJ P all.toList + 1)) &&
       wX all.toList (kD all.toList (bJ P all.toList)) (bJ P all.toList) (lJ all.toList (bJ P all.toList) 100 (bJ P all.toList + 1)) &&
       Nat.ble (kD all.toList (bJ P all.toList)) (bJ P all.toList) && Nat.ble (bJ P all.toList) (lJ all.toList (bJ P all.toList) 100 (bJ P all.toList + 1)) &&
       Nat.ble (lJ all.toList (bJ P all.toList) 100 (bJ P all.toList + 1)) all.toList.length then
      (match ex P f n (.v all (all.toList.take (kD all.toList (bJ P all.toList))) e) s nx with
      | none=>none
      | some (_,e1,_,_)=>match ex P f n (.v all ((all.toList.drop (kD all.toList (bJ P all.toList))).take (bJ P all.toList - kD all.toList (bJ P all.toList))) e1) s nx with
       | none=>none
       | some (_,e2,_,_)=>match LG s (u6 e2) oj.op with
        | none=>match JV P n ((all.toList.drop (bJ P all.toList)).take (lJ all.toList (bJ P all.toList) 100 (bJ P all.toList + 1) - bJ P all.toList)) e2 [] nx with
         | some (e3,s2,JF)=>ex P f n (.r all (all.toList.drop (lJ all.toList (bJ P all.toList) 100 (bJ P all.toList + 1))) k e3) (s ++ s2) JF
         | none=>none
        | some i=>match s[i]? with
         | none=>none
         | some r=>match ex P f n (.v all ((all.toList.drop (kD all.toList (bJ P all.toList))).take (bJ P all.toList - kD all.toList (bJ P all.toList))) e1) (s.eraseIdx i) nx with
          | none=>none
          | some (_,e2,_,_)=>match JV P n ((all.toList.drop (bJ P all.toList)).take (lJ all.toList (bJ P all.toList) 100 (bJ P all.toList + 1) - bJ P all.toList)) e2 [r] nx with
           | some (e3,s2,JF)=>ex P f n (.r all (all.toList.drop (lJ all.toList (bJ P all.toList) 100 (bJ P all.toList + 1))) k e3) (s.eraseIdx i ++ s2) JF
           | none=>none)
     else none)
  | .skip=>ex P f n (.x .normal k e) s nx
  | .label _=>ex P f n (.x .normal k e) s nx
  | .exit id=>ex P f n (.x (.exit id) k e) s nx
  | .ret=>ex P f n (.x .ret k e) s nx
  | .cond c a b=>match u6 e c with
   | .bool true=>ex P f n (.w a k e) s nx
   | .bool false=>ex P f n (.w b k e) s nx
   | _=>none
  | .loop c=>ex P f n (.w c (.lp c :: k) e) s nx
  | _=>none
 | f + 1,n,.r all l k e,s,nx=>match l with
  | []=>ex P f n (.x .normal k e) s nx
  | o :: rest=>match fu all e o.guard with
   | none=>none
   | some false=>match o.dst with
    | some t=>bif Nat.blt t n then ex P f n (.r all rest k ((t,.val Go.undef) :: e)) s nx else none
    | none=>none
   | some true=>match (match mE (u6 e) o.op with
     | some (g,args)=>match P.funcs[g]? with
      | some fn=>match fn.body with
       | some c=>bif Nat.ble args.length fn.ntmps && aU P g then EC P fn nx (ex P f fn.ntmps (.w c [] (fF 0 args)) s nx) else none
       | none=>none
      | none=>none
     | none=>opC P s nx (u6 e) o.op) with
    | none=>none
    | some (p,s1,lW)=>match o.dst with
     | some t=>bif Nat.blt t n then ex P f n (.r all rest k ((t,p) :: e)) s1 lW else none
     | none=>match o.guard with
      | none=>ex P f n (.r all rest k e) s1 lW
      | some _=>none
 | f + 1,n,.x ax k e,s,nx=>match k with
  | []=>some (ax,e,s,nx)
  | .sq d :: k=>match ax with
   | .normal=>ex P f n (.w d k e) s nx
   | ax=>ex P f n (.x ax k e) s nx
  | .bl id :: k=>match ax with
   | .exit i=>bif Nat.beq i id then ex P f n (.x .normal k e) s nx else ex P f n (.x (.exit i) k e) s nx
   | ax=>ex P f n (.x ax k e) s nx
  | .lp c :: k=>match ax with
   | .normal=>ex P f n (.w c (.lp c :: k) e) s nx
   | ax=>ex P f n (.x ax k e) s nx
 | f + 1,n,.v all l e,s,nx=>match l with
  | []=>some (.normal,e,s,nx)
  | o :: rest=>match o.dst with
   | none=>none
   | some t=>bif Nat.blt t n then (match fu all e o.guard with
    | none=>none
    | some false=>ex P f n (.v all rest ((t,.val Go.undef) :: e)) s nx
    | some true=>match (match mE (u6 e) o.op with
      | some (g,args)=>match P.funcs[g]? with
       | some fn=>match fn.body with
        | some c=>bif Nat.ble args.length fn.ntmps && aU P g then EC P fn nx (ex P f fn.ntmps (.w c [] (fF 0 args)) [] nx) else none
        | none=>none
       | none=>none
      | none=>match L6 P s (u6 e) o.op with
       | some p=>some (p,s,nx)
       | none=>none) with
     | none=>none
     | some (p,_,_)=>bif BK nx p then ex P f n (.v all rest ((t,p) :: e)) s nx else none) else none
end Go.Abs
namespace Go.Abs
variable [bX]
open Go
def G9 (P:Program) (rs:List ResultVar) (R:nH→List aA→Prop):Post
 | .normal,e,s,d | .ret,e,s,d=>d=[]∧∃ ps,xK P e s rs ps∧∃ s',s'.Sublist s∧R (.ret (eB ps)) s'
 | _,_,_,_=>False
theorem AC.F6 {P:Program} {f:FuncId} {fn:Func} {c:Code} {args:List PV} {σ:List aA} {R:nH→List aA→Prop}
  (hf:P.funcs[f]?=some fn) (hb:fn.body=some c) (hl:Nat.ble args.length fn.ntmps=true)
  (h:AW P fn.ntmps c (fF 0 args) σ [] (G9 P fn.results.toList R)):AC P f args σ R:=by
 intro w m vs hc hv; have hl:args.length≤fn.ntmps:=Nat.le_of_ble_eq_true hl; have hvl:=hv.length_eq; refine calls_of_wp hf hb ?_; refine h w m _ _ ⟨?_,rfl,?_,hc⟩ ?_
 · simp [hvl]; omega
 ·
  have:=sK (List.replicate (fn.ntmps - vs.toArray.size) Go.undef) [] hv; rw [show vs.toArray ++ Array.replicate (fn.ntmps - vs.toArray.size) Go.undef=([] ++ vs ++ List.replicate (fn.ntmps - vs.toArray.size) Go.undef).toArray from by simp]; exact this
 ·
  intro x ex env' σ' ds' a' w' m' hq hx hs ht
  have hend:∀ ps s',ds'=[]→xK P env' σ' fn.results.toList ps→s'.Sublist σ'→R (.ret (eB ps)) s'→a'.defers=[]∧∃ v,(results fn a'.tmps).run P w'=.ok v w'∧∃ out σ' m',R out σ'∧Ad w' m' out (.returned v)∧Conc w' m' σ'∧Trans w m σ w' m' σ':=by
   intro ps s' hd h1 hsub h2; obtain ⟨us,k1,k2⟩:=oN hs.env hs.fT h1; have hl2:=k2.length_eq; refine ⟨by rw [hs.ds,hd],?_⟩
   have hrun:(results fn a'.tmps).run P w'=.ok (if h:us.toArray.size=1 then us.toArray[0] else .tuple us.toArray) w':=by
    unfold results; rw [Array.mapM_eq_mapM_toList]; have k1':=k1; simp only [Sem.run_bind,Sem.run_map]
    erw [k1']
    rfl
   have hl2:us.length=ps.length:=by simpa using hl2
   refine ⟨_,hrun,.ret (eB ps),s',m',h2,⟨_,rfl,?_⟩,hs.fT.sub hsub,ht.sub hsub⟩; clear h1 h2
   match ps,us,k2,hl2 with
   | [],us,k2,hl2=>
    simp only [aG] at k2; subst k2; simp only [eB,aN]; exact ⟨[],by simp,aG.nil⟩
   | [p],us,k2,hl2=>
    simp only [aG] at k2; obtain ⟨v,vs',rfl,h3,rfl⟩:=k2; simpa [eB] using h3
   | p :: q :: ps,us,k2,hl2=>
    rw [dif_neg (by simp [hl2])]; simp only [eB,aN]; exact ⟨us,rfl,k2⟩
  cases x with
  | normal=>cases hx; obtain ⟨hd,ps,h1,s',hsub,h2⟩:=hq; exact hend ps s' hd h1 hsub h2
  | ret=>cases hx; obtain ⟨hd,ps,h1,s',hsub,h2⟩:=hq; exact hend ps s' hd h1 hsub h2
  | exit id=>exact hq.elim
  | panic p=>exact hq.elim
section
variable {P : Program} {s : List aA} {nx : Nat}
theorem nY (ρ:dV):∀ (args:List PV) (i:Nat),eP ρ (fF i args)=fF i (bG ρ args)
 | [],_=>rfl
 | p :: ps,i=>by
  have:=nY ρ ps (i + 1); simp only [eP,fF,List.map_cons,bG] at this ⊢; rw [this]
theorem jh.fF {args:List PV} (h:jh nx args) (i:Nat):sH nx (fF i args):=h.via fun ρ ρ' he=>by rw [nY,nY,he]
theorem qL (ρ:dV) (ps:List PV):(eB ps).ren ρ=eB (bG ρ ps):=by
 match ps with
 | []=>rfl
 | [p]=>rfl
 | p :: q :: ps=>rfl
theorem Bw {e:Env} {r:ResultVar} {p:PV} (h:rJ P e s r=some p) (ρ:dV):xJ P (eP ρ e) (bT ρ s) r (p.ren ρ):=by
 unfold rJ at h; cases r with
 | tmp t=>
  simp only [Option.some.injEq] at h; subst h; simp only [xJ,rY,iZ]
 | cell a t=>
  simp only at h; split at h
  ·
   rename_i b ag k hx ht; split at h
   ·
    rename_i i cs hb; have hb:=(lK hb).2; rw [Nat.sub_zero] at hb; exact ⟨ρ.lb b,bG ρ cs,i,ag,k,by rw [rY,hx]; rfl,by rw [fK,hb]; rfl,ht,by rw [lG,h]; rfl⟩
   · cases h
  · cases h
theorem vM {e:Env} (ρ:dV):∀ {rs:List ResultVar} {ps:List PV},oQ P e s rs=some ps→xK P (eP ρ e) (bT ρ s) rs (bG ρ ps)
 | [],ps,h=>by simp only [oQ,Option.some.injEq] at h; subst h; rfl
 | r :: rs,ps,h=>by
  simp only [oQ] at h; split at h
  ·
   rename_i p hp; split at h
   ·
    rename_i qs hq; simp only [Option.some.injEq] at h; subst h; exact ⟨p.ren ρ,bG ρ qs,rfl,Bw hp ρ,vM ρ hq⟩
   · cases h
  · cases h
theorem Bz {e:Env} (he:sH nx e) (hs:gB nx s):∀ {rs:List ResultVar} {ps:List PV},oQ P e s rs=some ps→jh nx ps
 | [],ps,h=>by simp only [oQ,Option.some.injEq] at h; subst h; exact jh.nil
 | r :: rs,ps,h=>by
  simp only [oQ] at h; split at h
  ·
   rename_i p hp; split at h
   ·
    rename_i qs hq; simp only [Option.some.injEq] at h; subst h; refine jh.cons ?_ (Bz he hs hq); unfold rJ at hp; cases r with
    | tmp t=>simp only [Option.some.injEq] at hp; subst hp; exact he.get t
    | cell a t=>
     simp only at hp; split at hp
     ·
      split at hp
      ·
       rename_i i cs hb; have hb:=(lK hb).2; rw [Nat.sub_zero] at hb; exact (hs.box hb).load hp
      · cases hp
     · cases hp
   · cases h
  · cases h
theorem mq (ρ:dV) {all:Array Oper} {e:Env} {g:Option (Nat × Bool)} {r:Bool} (h:fu all e g=some r):fu all (eP ρ e) g=some r:=by
 cases g with
 | none=>exact h
 | some jw=>
  obtain ⟨j,want⟩:=jw; unfold fu at h ⊢; simp only at h ⊢; split at h
  ·
   rename_i oj hj; split at h
   ·
    rename_i u hu; simp only [hj,hu,rY]; split at h
    · rename_i hg; rw [hg]; exact h
    · rename_i hg; rw [hg]; exact h
    · rename_i hg; rw [hg]; exact h
    · cases h
   · cases h
  · cases h
theorem r9 (ρ:dV):∀ (s:List aA) (i:Nat),bT ρ (s.eraseIdx i)=(bT ρ s).eraseIdx i
 | [],_=>rfl
 | _ :: _,0=>rfl
 | x :: s,i + 1=>by
  have:=r9 ρ s i; simp only [bT,List.eraseIdx_cons_succ,List.map_cons] at this ⊢; rw [this]
theorem gB.of {s:List aA} (h:∀ r∈s,Ok nx fun ρ=>r.ren ρ):gB nx s:=fun ρ ρ' ha=>List.map_congr_left fun r hr=>h r hr ρ ρ' ha
theorem gB.mem {s:List aA} (h:gB nx s) {r:aA} (hr:r∈s):Ok nx fun ρ=>r.ren ρ:=by
 obtain ⟨i,hi⟩:=List.getElem?_of_mem hr; exact h.get hi
def Good (P:Program) (n:Nat) (s:List aA) (nx:Nat) (ax:AX) (e':Env) (s':List aA) (nx':Nat):CS→Prop
 | .v all l e=>sH nx e'∧∀ (ρ:dV) (K:Env→Prop),K (eP ρ e')→Ev P n all (bT ρ s) (eP ρ e) l K
 | cs=>nx≤nx'∧sH nx' e'∧gB nx' s'∧∀ (ρ:dV) (Q:Post),(∀ ρ',rz nx ρ ρ'→Q ax (eP ρ' e') (bT ρ' s') [])→cs.ok P n Q ρ s
theorem zW {fn:Func} {g:Nat} {c:Code} {args ps:List PV} {ax:AX} {e':Env} {s':List aA} {nx':Nat} (hf:P.funcs[g]?=some fn) (hb:fn.body=some c) (hl:Nat.ble args.length fn.ntmps=true)
  (good:Good P fn.ntmps s nx ax e' s' nx' (.w c [] (fF 0 args))) (hax:Gw ax=true) (hr:oQ P e' s' fn.results.toList=some ps) (ρ:dV) {R:nH→List aA→Prop}
  (hR:∀ ρ',rz nx ρ ρ'→∃ s2,s2.Sublist (bT ρ' s')∧R (.ret ((eB ps).ren ρ')) s2):AC P g (bG ρ args) (bT ρ s) R:=by
 refine AC.F6 hf hb (by rw [gT]; exact hl) ?_; obtain ⟨_,_,_,h⟩:=good
 have:=h ρ (G9 P fn.results.toList R) fun ρ' ha=>by
  obtain ⟨s2,h1,h2⟩:=hR ρ' ha; rw [qL] at h2; cases ax with
  | normal=>exact ⟨rfl,_,vM ρ' hr,s2,h1,h2⟩
  | ret=>exact ⟨rfl,_,vM ρ' hr,s2,h1,h2⟩
  | exit _=>cases hax
  | panic _=>cases hax
 rw [←nY]; exact this
theorem xu {v:Operand→PV} {op:Op} {g:Nat} {args:List PV} (h:mE v op=some (g,args)):∃ c tV caps,op=.call c∧c.callee=.value tV∧v tV=.fn g caps∧args=c.args.toList.map v ++ caps:=by
 unfold mE at h; split at h
 ·
  rename_i c; split at h
  ·
   rename_i tV cK; split at h
   ·
    rename_i f caps hf; simp only [Option.some.injEq,Prod.mk.injEq] at h; obtain ⟨rfl,rfl⟩:=h; exact ⟨c,tV,caps,rfl,cK,hf,rfl⟩
   · cases h
  · cases h
 · cases h
theorem y5 {v:Operand→PV} {op:Op} {g:Nat} {args:List PV} (h:mE v op=some (g,args)) (hv:∀ x,gL nx (v x)):jh nx args:=by
 obtain ⟨c,tV,caps,_,_,h1,rfl⟩:=xu h; refine jh.append (jh.of fun p hp=>?_) ?_
 · obtain ⟨x,_,rfl⟩:=List.mem_map.1 hp; exact hv x
 · have:=hv tV; rw [h1] at this; exact this.fn
theorem AO.callee {v:Operand→PV} {op:Op} {g:Nat} {args:List PV} (h:mE v op=some (g,args)) (hp:aU P g=true) (ρ:dV) {o:Oper} (ho:o.op=op) {σ:List aA} {R S:PV→List aA→Prop}
  (hc:AC P g (bG ρ args) σ fun out σ'=>match out with | .ret p=>R p σ' | .panic p=>S p σ'):AO P o (fun x=>(v x).ren ρ) σ R S:=by
 obtain ⟨c,tV,caps,rfl,cK,h1,rfl⟩:=xu h; refine AO.LC ho tV cK (caps:=bG ρ caps) (by show (v tV).ren ρ=_; rw [h1]; rfl) hp ?_; have:bG ρ (c.args.toList.map v ++ caps)=c.args.toList.map (fun x=>(v x).ren ρ) ++ bG ρ caps:=by simp only [j5,List.map_append,List.map_map]; rfl
 rw [←this]; exact hc
theorem DV {fn:Func} {r:Option (AX × Env × List aA × Nat)} {p:PV} {s1:List aA} {lW:Nat} (h:EC P fn nx r=some (p,s1,lW)):∃ ax e' s' nx' ps,r=some (ax,e',s',nx')∧Gw ax=true∧
  oQ P e' s' fn.results.toList=some ps∧p=eB ps∧((s1=s'.filter (EI nx)∧lW=nx∧BK nx p=true∧(s'.filter (EI nx)).all (JE nx)=true)∨(s1=s'∧lW=nx')):=by
 unfold EC at h; split at h
 ·
  rename_i ax e' s' nx'; cases hax:Gw ax with
  | false=>rw [hax] at h; cases h
  | true=>
   rw [hax] at h; simp only [cond_true] at h; split at h
   ·
    rename_i ps hr; refine ⟨ax,e',s',nx',ps,rfl,hax,hr,?_⟩; cases hb:(BK nx (eB ps) && (s'.filter (EI nx)).all (JE nx)) with
    | true=>
     rw [hb] at h; simp only [cond_true,Option.some.injEq,Prod.mk.injEq] at h; obtain ⟨rfl,rfl,rfl⟩:=h; simp only [Bool.and_eq_true] at hb; exact ⟨rfl,.inl ⟨rfl,rfl,hb.1,hb.2⟩⟩
    | false=>
     rw [hb] at h; simp only [cond_false,Option.some.injEq,Prod.mk.injEq] at h; obtain ⟨rfl,rfl,rfl⟩:=h; exact ⟨rfl,.inr ⟨rfl,rfl⟩⟩
   · cases h
 · cases h
theorem EY {fn:Func} {g:Nat} {c:Code} {args:List PV} {v:Operand→PV} {op:Op} {r:Option (AX × Env × List aA × Nat)} {p:PV} {s1:List aA} {lW:Nat} (hc:mE v op=some (g,args)) (hf:P.funcs[g]?=some fn) (hb:fn.body=some c)
  (hl:Nat.ble args.length fn.ntmps=true) (hp:aU P g=true) (good:∀ ax e' s' nx',r=some (ax,e',s',nx')→Good P fn.ntmps s nx ax e' s' nx' (.w c [] (fF 0 args))) (h:EC P fn nx r=some (p,s1,lW)):aK P s nx v op p s1 lW:=by
 obtain ⟨ax,e',s',nx',ps,rfl,hax,hr,rfl,h2⟩:=DV h; have gd:=good _ _ _ _ rfl; have Nz:=gd; obtain ⟨g1,g2,g3,_⟩:=gd; rcases h2 with ⟨rfl,rfl,h3,h4⟩ | ⟨rfl,rfl⟩
 ·
  rw [List.all_eq_true] at h4; refine ⟨Nat.le_refl _,sV _ h3,gB.of fun r hr=>JD (h4 r hr),fun ρ o ho R S hR=>AO.callee hc hp ρ ho (zW hf hb hl Nz hax hr ρ fun ρ' ha=>⟨bT ρ' (s'.filter (EI lW)),?_,hR ρ' ha⟩)⟩; exact List.Sublist.map _ List.filter_sublist
 ·
  refine ⟨g1,?_,g3,fun ρ o ho R S hR=>AO.callee hc hp ρ ho (zW hf hb hl Nz hax hr ρ fun ρ' ha=>⟨bT ρ' s1,List.Sublist.refl _,hR ρ' ha⟩)⟩; exact (Bz g2 g3 hr).via fun ρ ρ' he=>by rw [qL,qL,he]
theorem EZ {fn:Func} {g:Nat} {c:Code} {args:List PV} {v:Operand→PV} {op:Op} {r:Option (AX × Env × List aA × Nat)} {p:PV} {s1:List aA} {lW:Nat} (hc:mE v op=some (g,args)) (hf:P.funcs[g]?=some fn) (hb:fn.body=some c)
  (hl:Nat.ble args.length fn.ntmps=true) (hp:aU P g=true) (good:∀ ax e' s' nx',r=some (ax,e',s',nx')→Good P fn.ntmps [] nx ax e' s' nx' (.w c [] (fF 0 args))) (h:EC P fn nx r=some (p,s1,lW)) (hok:gL nx p) (hs:gB nx s):aK P s nx v op p s nx:=by
 obtain ⟨ax,e',s',nx',ps,rfl,hax,hr,rfl,_⟩:=DV h; have gd:=good _ _ _ _ rfl; refine aK.pure hok hs fun ρ o ho R S hR=>AO.callee hc hp ρ ho (AC.none ?_); refine zW (s:=[]) hf hb hl gd hax hr ρ fun ρ' ha=>⟨[],List.nil_sublist _,?_⟩; rw [←show (eB ps).ren ρ=(eB ps).ren ρ' from hok ρ ρ' ha]; exact hR
theorem II {n:Nat} {all:Array Oper} {rest:List Oper} {o:Oper} {t:Nat} {e:Env} {p:PV} {s1:List aA} {lW:Nat} {Q:Post} {ρ:dV} (hst:aK P s nx (u6 e) o.op p s1 lW) (he:sH nx e) (hd:o.dst=some t) (ht:Nat.blt t n=true) (hg:fu all e o.guard=some true)
  (h:∀ ρ1,rz nx ρ ρ1→AR P n all rest (eP ρ1 ((t,p) :: e)) (bT ρ1 s1) [] Q):AR P n all (o :: rest) (eP ρ e) (bT ρ s) [] Q:=by
 obtain ⟨_,_,_,hst⟩:=hst
 have key:∀ o':Oper,o'.op=o.op→AO P o' (eP ρ e).ev (bT ρ s) (fun p σ'=>AR P n all rest ((t,p) :: eP ρ e) σ' [] Q) (fun p σ'=>Q (.panic p) (eP ρ e) σ' []):=fun o' ho'=>
  AO.undef (tN ρ e) (hst ρ o' ho' fun ρ1 ha=>by
   have:=h ρ1 ha; simp only [eP,List.map_cons] at this ⊢; rw [show e.map (fun x=>(x.1,x.2.ren ρ))=e.map (fun x=>(x.1,x.2.ren ρ1)) from he ρ ρ1 ha]
   exact this)
 have hg:=mq ρ hg; cases hgo:o.guard with
 | none=>exact AR.step hgo hd ht (key o rfl)
 | some jw=>
  obtain ⟨j,want⟩:=jw; rw [hgo] at hg; obtain ⟨oj,u,h1,h2,h3⟩:=dN hg; rcases h3 with ⟨_,h3⟩ | ⟨h3,_⟩
  ·
   refine AR.run (b:=want) hgo h1 h2 h3 hd ht rfl ?_; exact AR.step rfl hd ht (key {o with guard:=none} rfl)
  · cases h3
theorem G7 {n:Nat} {all:Array Oper} {rest:List Oper} {o:Oper} {e:Env} {p:PV} {s1:List aA} {lW:Nat} {Q:Post} {ρ:dV} (hst:aK P s nx (u6 e) o.op p s1 lW) (he:sH nx e) (hd:o.dst=none) (hg:o.guard=none)
  (h:∀ ρ1,rz nx ρ ρ1→AR P n all rest (eP ρ1 e) (bT ρ1 s1) [] Q):AR P n all (o :: rest) (eP ρ e) (bT ρ s) [] Q:=by
 obtain ⟨_,_,_,hst⟩:=hst; refine AR.pR hg hd (AO.undef (tN ρ e) (hst ρ o rfl fun ρ1 ha=>?_)); have:=h ρ1 ha; rw [←show eP ρ e=eP ρ1 e from he ρ ρ1 ha] at this; exact this
theorem IJ {n:Nat} {all:Array Oper} {rest:List Oper} {o:Oper} {t:Nat} {e:Env} {Q:Post} {ρ:dV} {σ:List aA} (hd:o.dst=some t) (ht:Nat.blt t n=true) (hg:fu all e o.guard=some false)
  (h:AR P n all rest (eP ρ ((t,.val Go.undef) :: e)) σ [] Q):AR P n all (o :: rest) (eP ρ e) σ [] Q:=by
 have hg:=mq ρ hg; cases hgo:o.guard with
 | none=>rw [hgo] at hg; cases hg
 | some jw=>
  obtain ⟨j,want⟩:=jw; rw [hgo] at hg; obtain ⟨oj,u,h1,h2,h3⟩:=dN hg; rcases h3 with ⟨h3,_⟩ | ⟨_,h3 | h3⟩
  · cases h3
  · exact AR.skip hgo h1 h2 h3 hd ht rfl h
  · exact AR.yE hgo h1 h2 h3 hd ht h
theorem Ij {n:Nat} {all:Array Oper} {rest:List Oper} {o:Oper} {t:Nat} {e:Env} {p:PV} {K:Env→Prop} {ρ:dV} (hst:aK P s nx (u6 e) o.op p s nx) (he:sH nx e) (hp:gL nx p) (hs:gB nx s) (hd:o.dst=some t) (ht:Nat.blt t n=true) (hg:fu all e o.guard=some true)
  (h:Ev P n all (bT ρ s) (eP ρ ((t,p) :: e)) rest K):Ev P n all (bT ρ s) (eP ρ e) (o :: rest) K:=by
 obtain ⟨_,_,_,hst⟩:=hst
 have key:∀ o':Oper,o'.op=o.op→AO P o' (eP ρ e).ev (bT ρ s) (fun p' σ'=>p'=p.ren ρ∧σ'=bT ρ s) (fun _ _=>False):=fun o' ho'=>
  AO.undef (tN ρ e) (hst ρ o' ho' fun ρ1 ha=>⟨(hp ρ ρ1 ha).symm,(hs ρ ρ1 ha).symm⟩)
 have hg:=mq ρ hg; cases hgo:o.guard with
 | none=>exact Ev.cons hgo hd ht (key o rfl) h
 | some jw=>
  obtain ⟨j,want⟩:=jw; rw [hgo] at hg; obtain ⟨oj,u,h1,h2,h3⟩:=dN hg; rcases h3 with ⟨_,h3⟩ | ⟨h3,_⟩
  · exact Ev.run (b:=want) hgo h1 h2 h3 hd ht rfl (key {o with guard:=none} rfl) h
  · cases h3
theorem Ik {n:Nat} {all:Array Oper} {rest:List Oper} {o:Oper} {t:Nat} {e:Env} {K:Env→Prop} {ρ:dV} {σ:List aA} (hd:o.dst=some t) (ht:Nat.blt t n=true) (hg:fu all e o.guard=some false)
  (h:Ev P n all σ (eP ρ ((t,.val Go.undef) :: e)) rest K):Ev P n all σ (eP ρ e) (o :: rest) K:=by
 have hg:=mq ρ hg; cases hgo:o.guard with
 | none=>rw [hgo] at hg; cases hg
 | some jw=>
  obtain ⟨j,want⟩:=jw; rw [hgo] at hg; obtain ⟨oj,u,h1,h2,h3⟩:=dN hg; rcases h3 with ⟨h3,_⟩ | ⟨_,h3 | h3⟩
  · cases h3
  · exact Ev.skip hgo h1 h2 h3 hd ht rfl h
  · exact Ev.yE hgo h1 h2 h3 hd ht h
theorem zN {n:Nat} {Q:Post} {σ1:List aA}:∀ {l:List Oper} {e e':Env} {s s':List aA} {nx nx':Nat},JV P n l e s nx=some (e',s',nx')→sH nx e→gB nx s→
  nx≤nx'∧sH nx' e'∧gB nx' s'∧∀ (ρ:dV) (K:Env→List aA→Prop),(∀ ρ',rz nx ρ ρ'→K (eP ρ' e') (bT ρ' s'))→TF P n [] Q σ1 l (eP ρ e) (bT ρ s) K
 | [],e,e',s,s',nx,nx',h,he,hs=>by
  simp only [JV,Option.some.injEq,Prod.mk.injEq] at h; obtain ⟨rfl,rfl,rfl⟩:=h; exact ⟨Nat.le_refl _,he,hs,fun ρ K hK=>hK ρ (rz.refl _ _)⟩
 | o :: r,e,e',s,s',nx,nx',h,he,hs=>by
  simp only [JV] at h; split at h
  · cases h
  ·
   rename_i hg; split at h
   ·
    rename_i p s1 lW hop; have hst:=F4 hop (fun x=>he.u6 x) hs; obtain ⟨h1,h2,h3,h4⟩:=hst; split at h
    ·
     rename_i t hd; cases ht:Nat.blt t n with
     | false=>rw [ht] at h; cases h
     | true=>
      rw [ht] at h; simp only [cond_true] at h; obtain ⟨k1,k2,k3,k4⟩:=zN (σ1:=σ1) (Q:=Q) h (sH.cons t h2 (he.le h1)) h3; refine ⟨Nat.le_trans h1 k1,k2,k3,fun ρ K hK=>⟨hg,fun t' ht'=>?_,eP ρ e,fun _=>.inr rfl,AO.undef (tN ρ e) (h4 ρ o rfl fun ρ1 ha=>?_)⟩⟩
      · rw [hd] at ht'; cases ht'; exact nX ht
      ·
       have:=k4 ρ1 K fun ρ' ha'=>hK ρ' (ha.trans (ha'.le h1)); simp only [uJ,hd]; simp only [eP,List.map_cons] at this ⊢; rw [show e.map (fun x=>(x.1,x.2.ren ρ))=e.map (fun x=>(x.1,x.2.ren ρ1)) from he ρ ρ1 ha]; exact this
    ·
     rename_i hd; obtain ⟨k1,k2,k3,k4⟩:=zN (σ1:=σ1) (Q:=Q) h (he.le h1) h3; refine ⟨Nat.le_trans h1 k1,k2,k3,fun ρ K hK=>⟨hg,fun t' ht'=>?_,eP ρ e,fun _=>.inr rfl,AO.undef (tN ρ e) (h4 ρ o rfl fun ρ1 ha=>?_)⟩⟩
     · rw [hd] at ht'; cases ht'
     ·
      have:=k4 ρ1 K fun ρ' ha'=>hK ρ' (ha.trans (ha'.le h1)); simp only [uJ,hd]; rw [show eP ρ e=eP ρ1 e from he ρ ρ1 ha]; exact this
   · cases h
end
end Go.Abs
namespace Go.Abs
variable [bX]
open Go
section
variable {P : Program}
theorem Good.mk {n:Nat} {s s1:List aA} {nx lW:Nat} {ax:AX} {e':Env} {s':List aA} {nx':Nat} {cs cs1:CS} (hcs:∀ all l e,cs≠.v all l e) (hcs1:∀ all l e,cs1≠.v all l e) (hn:nx≤lW) (h:Good P n s1 lW ax e' s' nx' cs1)
  (k:∀ (ρ:dV) (Q:Post),(∀ ρ1,rz nx ρ ρ1→cs1.ok P n Q ρ1 s1)→cs.ok P n Q ρ s):Good P n s nx ax e' s' nx' cs:=by
 have h:lW≤nx'∧sH nx' e'∧gB nx' s'∧∀ (ρ:dV) (Q:Post),(∀ ρ',rz lW ρ ρ'→Q ax (eP ρ' e') (bT ρ' s') [])→cs1.ok P n Q ρ s1:=by
  cases cs1 with
  | v all l e=>exact absurd rfl (hcs1 all l e)
  | _=>exact h
 obtain ⟨h1,h2,h3,h4⟩:=h
 have:nx≤nx'∧sH nx' e'∧gB nx' s'∧∀ (ρ:dV) (Q:Post),(∀ ρ',rz nx ρ ρ'→Q ax (eP ρ' e') (bT ρ' s') [])→cs.ok P n Q ρ s:=
  ⟨Nat.le_trans hn h1,h2,h3,fun ρ Q hQ=>k ρ Q fun ρ1 ha=>h4 ρ1 Q fun ρ' ha'=>hQ ρ' (ha.trans (ha'.le hn))⟩
 cases cs with
 | v all l e=>exact absurd rfl (hcs all l e)
 | _=>exact this
theorem Good.same {n:Nat} {s:List aA} {nx:Nat} {ax:AX} {e':Env} {s':List aA} {nx':Nat} {cs cs1:CS} (hcs:∀ all l e,cs≠.v all l e) (hcs1:∀ all l e,cs1≠.v all l e) (h:Good P n s nx ax e' s' nx' cs1)
  (k:∀ (ρ:dV) (Q:Post),cs1.ok P n Q ρ s→cs.ok P n Q ρ s):Good P n s nx ax e' s' nx' cs:=
 Good.mk hcs hcs1 (Nat.le_refl _) h fun ρ Q hQ=>k ρ Q (hQ ρ (rz.refl _ _))
theorem aT (hm:P.follows .mixedOrders=true):∀ (f n:Nat) (cs:CS) (s:List aA) (nx:Nat) (ax:AX) (e':Env) (s':List aA) (nx':Nat),ex P f n cs s nx=some (ax,e',s',nx')→sH nx cs.env→gB nx s→Good P n s nx ax e' s' nx' cs
 | 0,_,cs,_,_,_,_,_,_,h,_,_=>by cases cs <;> cases h
 | f + 1,n,.w c k e,s,nx,ax,e',s',nx',h,he,hs=>by
  have hw:∀ all l e1,CS.w c k e≠.v all l e1:=fun _ _ _ h=>by cases h
  have hw1:∀ {c k e} all l e',CS.w c k e≠.v all l e':=fun _ _ _ h=>by cases h
  have hr1:∀ {a l k e} all l' e',CS.r a l k e≠.v all l' e':=fun _ _ _ h=>by cases h
  have hx1:∀ {a k e} all l' e',CS.x a k e≠.v all l' e':=fun _ _ _ h=>by cases h
  cases c with
  | seq c d=>exact Good.same hw hw1 (aT hm f _ _ _ _ _ _ _ _ h he hs) fun ρ Q h=>AW.seq h
  | block id c=>exact Good.same hw hw1 (aT hm f _ _ _ _ _ _ _ _ h he hs) fun ρ Q h=>AW.block h
  | skip=>exact Good.same hw hx1 (aT hm f _ _ _ _ _ _ _ _ h he hs) fun ρ Q h=>AW.skip h
  | label l=>exact Good.same hw hx1 (aT hm f _ _ _ _ _ _ _ _ h he hs) fun ρ Q h=>AW.label h
  | exit id=>exact Good.same hw hx1 (aT hm f _ _ _ _ _ _ _ _ h he hs) fun ρ Q h=>AW.exit h
  | ret=>exact Good.same hw hx1 (aT hm f _ _ _ _ _ _ _ _ h he hs) fun ρ Q h=>AW.ret h
  | loop c=>exact Good.same hw hw1 (aT hm f _ _ _ _ _ _ _ _ h he hs) fun ρ Q h=>Bn.loop (Bn.step h)
  | cond c a b=>
   simp only [ex] at h
   have hev:∀ (ρ:dV) (x:Bool),u6 e c=.bool x→(eP ρ e).ev c=.bool x:=fun ρ x hx=>by
    rcases tN ρ e c with h | h
    · rw [hx] at h; cases h
    · rw [←h,hx]; rfl
   split at h
   ·
    rename_i hb; exact Good.same hw hw1 (aT hm f _ _ _ _ _ _ _ _ h he hs) fun ρ Q h=>AW.cond (hev ρ true hb) (fun _=>h) (fun h=>by cases h)
   ·
    rename_i hb; exact Good.same hw hw1 (aT hm f _ _ _ _ _ _ _ _ h he hs) fun ρ Q h=>AW.cond (hev ρ false hb) (fun h=>by cases h) (fun _=>h)
   · cases h
  | region id all g=>
   cases g with
   | false=>
    refine Good.same hw hr1 (aT hm f _ _ _ _ _ _ _ _ h he hs) fun ρ Q h=>?_; have:AW P n (.region id all.toList.toArray false) (eP ρ e) (bT ρ s) [] (qz P n k Q):=AW.region (by simpa only [CS.ok,Array.toArray_toList] using h); simpa only [CS.ok,Array.toArray_toList] using this
   | true=>
    simp only [ex] at h; generalize bJ P all.toList=kk at h; cases hb:(rT all.toList kk && Nat.ble kk all.toList.length) with
    | true=>
     rw [hb] at h; simp only [cond_true] at h; simp only [Bool.and_eq_true] at hb; split at h
     ·
      rename_i NZ e1 s1 lW h1; obtain ⟨g1,g2⟩:=aT hm f _ _ _ _ _ _ _ _ h1 he hs; refine Good.same hw hr1 (aT hm f _ (.r all (all.toList.drop kk) k e1) _ _ _ _ _ _ h g1 hs) fun ρ Q h=>?_
      have:AW P n (.region id all.toList.toArray true) (eP ρ e) (bT ρ s) [] (qz P n k Q):=
       AW.draw kk hm hb.1 hb.2 (by simpa only [Array.toArray_toList] using g2 ρ _ (by simpa only [CS.ok] using h))
      simpa only [CS.ok,Array.toArray_toList] using this
     · cases h
    | false=>
     rw [hb] at h; simp only [cond_false] at h; split at h
     · cases h
     ·
      rename_i oj hoj; generalize lJ all.toList kk 100 (kk + 1)=k2 at h; generalize kD all.toList kk=k0 at h; cases hb:(sU all.toList kk k2 && xg all.toList kk k2 && wX all.toList k0 kk k2 && Nat.ble k0 kk && Nat.ble kk k2 && Nat.ble k2 all.toList.length) with
      | false=>rw [hb] at h; cases h
      | true=>
       rw [hb] at h; simp only [cond_true] at h; simp only [Bool.and_eq_true] at hb; obtain ⟨⟨⟨⟨⟨b1,b2⟩,b3⟩,b4⟩,b5⟩,b6⟩:=hb; split at h
       · cases h
       ·
        rename_i NZ e1 s1 lW h1; obtain ⟨g1,g2⟩:=aT hm f _ _ _ _ _ _ _ _ h1 he hs; split at h
        · cases h
        ·
         rename_i Oo e2 s2 Oe h2; split at h
         ·
          
          obtain ⟨q1,q2⟩:=aT hm f _ (.v _ _ e1) _ _ _ _ _ _ h2 g1 hs; split at h
          ·
           rename_i e3 s3 JF h3; have h3':=fun (ρ:dV) (Q:Post)=>zN (σ1:=bT ρ s) (Q:=qz P n k Q) h3 q1 (fun _ _ _=>rfl); obtain ⟨t1,t2,t3,_⟩:=h3' ⟨fun k=>k,fun _=>Go.undef⟩ (fun _ _ _ _=>True)
           have JO:gB JF (s ++ s3):=gB.of fun r hr=>by
            rcases List.mem_append.1 hr with hr | hr
            · exact (hs.mem hr).le t1
            · exact t3.mem hr
           refine Good.mk hw hr1 t1 (aT hm f _ (.r all (all.toList.drop k2) k e3) _ _ _ _ _ _ h t2 JO) fun ρ Q h=>?_; have t4:=(h3' ρ Q).2.2.2
           have:AW P n (.region id all.toList.toArray true) (eP ρ e) (bT ρ s) [] (qz P n k Q):=by
            refine AW.Jb k0 kk k2 (bT ρ s) [] hm b1 b2 b3 b4 b5 b6 (by simp) ?_; rw [Array.toArray_toList]; refine g2 ρ _ (q2 ρ _ (t4 ρ _ fun ρ' ha=>?_)); have:=h ρ' ha; simp only [CS.ok,bT,List.map_append] at this; rw [←show s.map (aA.ren ρ)=s.map (aA.ren ρ') from hs ρ ρ' ha] at this; exact this
           simpa only [CS.ok,Array.toArray_toList] using this
          · cases h
         ·
          rename_i i NS; split at h
          · cases h
          ·
           rename_i r Ns; split at h
           · cases h
           ·
            rename_i Om e4 s4 Od h4; have hse:gB nx (s.eraseIdx i):=gB.of fun r hr=>hs.mem ((List.eraseIdx_sublist s i).subset hr); obtain ⟨q1,q2⟩:=aT hm f _ (.v _ _ e1) _ _ _ _ _ _ h4 g1 hse; split at h
            ·
             rename_i e3 s3 JF h3; have h3':=fun (ρ:dV) (Q:Post)=>zN (σ1:=bT ρ (s.eraseIdx i)) (Q:=qz P n k Q) h3 q1 (gB.cons (hs.get Ns) (fun _ _ _=>rfl)); obtain ⟨t1,t2,t3,_⟩:=h3' ⟨fun k=>k,fun _=>Go.undef⟩ (fun _ _ _ _=>True)
             have JO:gB JF (s.eraseIdx i ++ s3):=gB.of fun r hr=>by
              rcases List.mem_append.1 hr with hr | hr
              · exact (hse.mem hr).le t1
              · exact t3.mem hr
             refine Good.mk hw hr1 t1 (aT hm f _ (.r all (all.toList.drop k2) k e3) _ _ _ _ _ _ h t2 JO) fun ρ Q h=>?_; have t4:=(h3' ρ Q).2.2.2
             have:AW P n (.region id all.toList.toArray true) (eP ρ e) (bT ρ s) [] (qz P n k Q):=by
              refine AW.Jb k0 kk k2 (bT ρ (s.eraseIdx i)) [r.ren ρ] hm b1 b2 b3 b4 b5 b6 ?_ ?_
              ·
               rw [r9]; exact BH (by rw [fK,Ns]; rfl)
              ·
               rw [Array.toArray_toList]; refine g2 ρ _ (q2 ρ _ (t4 ρ _ fun ρ' ha=>?_)); have:=h ρ' ha; simp only [CS.ok] at this; rw [show bT ρ' (s.eraseIdx i ++ s3)=bT ρ' (s.eraseIdx i) ++ bT ρ' s3 from List.map_append,←show bT ρ (s.eraseIdx i)=bT ρ' (s.eraseIdx i) from hse ρ ρ' ha] at this; exact this
             simpa only [CS.ok,Array.toArray_toList] using this
            · cases h
  | _=>cases h
 | f + 1,n,.r all l k e,s,nx,ax,e',s',nx',h,he,hs=>by
  have hw:∀ all' l' e',CS.r all l k e≠.v all' l' e':=fun _ _ _ h=>by cases h
  have hr1:∀ {a l k e} all l' e',CS.r a l k e≠.v all l' e':=fun _ _ _ h=>by cases h
  have hx1:∀ {a k e} all l' e',CS.x a k e≠.v all l' e':=fun _ _ _ h=>by cases h
  cases l with
  | nil=>exact Good.same hw hx1 (aT hm f _ _ _ _ _ _ _ _ h he hs) fun ρ Q h=>AR.nil' h
  | cons o rest=>
   simp only [ex] at h; split at h
   · cases h
   ·
    rename_i hg; split at h
    ·
     rename_i t hd; cases ht:Nat.blt t n with
     | false=>rw [ht] at h; cases h
     | true=>
      rw [ht] at h; simp only [cond_true] at h; exact Good.same hw hr1 (aT hm f _ (.r all rest k ((t,.val Go.undef) :: e)) _ _ _ _ _ _ h (sH.cons t (fun _ _ _=>rfl) he) hs) fun ρ Q h=>IJ hd ht hg h
    · cases h
   ·
    rename_i hg; split at h
    · cases h
    ·
     rename_i p s1 lW hst
     have hst:aK P s nx (u6 e) o.op p s1 lW:=by
      split at hst
      ·
       rename_i g args hc; split at hst
       ·
        rename_i fn hf; split at hst
        ·
         rename_i c hb; cases hb2:(Nat.ble args.length fn.ntmps && aU P g) with
         | false=>rw [hb2] at hst; cases hst
         | true=>
          rw [hb2] at hst; simp only [cond_true] at hst; simp only [Bool.and_eq_true] at hb2; exact EY hc hf hb hb2.1 hb2.2 (fun ax e' s' nx' hr=>aT hm f _ (.w c [] (fF 0 args)) _ _ _ _ _ _ hr ((y5 hc fun x=>sH.u6 he x).fF 0) hs) hst
        · cases hst
       · cases hst
      · exact F4 hst (fun x=>sH.u6 he x) hs
     have K5:=hst; obtain ⟨k1,k2,k3,_⟩:=hst; split at h
     ·
      rename_i t hd; cases ht:Nat.blt t n with
      | false=>rw [ht] at h; cases h
      | true=>
       rw [ht] at h; simp only [cond_true] at h; exact Good.mk hw hr1 k1 (aT hm f _ (.r all rest k ((t,p) :: e)) _ _ _ _ _ _ h (sH.cons t k2 (he.le k1)) k3) fun ρ Q h=>II K5 he hd ht hg h
     ·
      rename_i hd; split at h
      ·
       rename_i hgn; exact Good.mk hw hr1 k1 (aT hm f _ (.r all rest k e) _ _ _ _ _ _ h (he.le k1) k3) fun ρ Q h=>G7 K5 he hd hgn h
      · cases h
 | f + 1,n,.x a k e,s,nx,ax,e',s',nx',h,he,hs=>by
  have hw:∀ all' l' e',CS.x a k e≠.v all' l' e':=fun _ _ _ h=>by cases h
  have hw1:∀ {c k e} all l e',CS.w c k e≠.v all l e':=fun _ _ _ h=>by cases h
  have hx1:∀ {a k e} all l' e',CS.x a k e≠.v all l' e':=fun _ _ _ h=>by cases h
  cases k with
  | nil=>
   simp only [ex,Option.some.injEq,Prod.mk.injEq] at h; obtain ⟨rfl,rfl,rfl,rfl⟩:=h; exact ⟨Nat.le_refl _,he,hs,fun ρ Q hQ=>hQ ρ (rz.refl _ _)⟩
  | cons fr k=>
   cases fr with
   | sq d=>cases a with
    | normal=>exact Good.same hw hw1 (aT hm f _ (.w d k e) _ _ _ _ _ _ h he hs) fun ρ Q h=>h
    | exit i=>exact Good.same hw hx1 (aT hm f _ (.x (.exit i) k e) _ _ _ _ _ _ h he hs) fun ρ Q h=>h
    | ret=>exact Good.same hw hx1 (aT hm f _ (.x .ret k e) _ _ _ _ _ _ h he hs) fun ρ Q h=>h
    | panic p=>exact Good.same hw hx1 (aT hm f _ (.x (.panic p) k e) _ _ _ _ _ _ h he hs) fun ρ Q h=>h
   | bl id=>cases a with
    | exit i=>
     simp only [ex] at h; cases eb:Nat.beq i id with
     | false=>rw [eb] at h; exact Good.same hw hx1 (aT hm f _ (.x (.exit i) k e) _ _ _ _ _ _ h he hs) fun ρ Q h=>by simp only [CS.ok,qz,AX.inBlock,eb,cond_false]; exact h
     | true=>rw [eb] at h; exact Good.same hw hx1 (aT hm f _ (.x .normal k e) _ _ _ _ _ _ h he hs) fun ρ Q h=>by simp only [CS.ok,qz,AX.inBlock,eb,cond_true]; exact h
    | normal=>exact Good.same hw hx1 (aT hm f _ (.x .normal k e) _ _ _ _ _ _ h he hs) fun ρ Q h=>h
    | ret=>exact Good.same hw hx1 (aT hm f _ (.x .ret k e) _ _ _ _ _ _ h he hs) fun ρ Q h=>h
    | panic p=>exact Good.same hw hx1 (aT hm f _ (.x (.panic p) k e) _ _ _ _ _ _ h he hs) fun ρ Q h=>h
   | lp c=>cases a with
    | normal=>exact Good.same hw hw1 (aT hm f _ (.w c (.lp c :: k) e) _ _ _ _ _ _ h he hs) fun ρ Q h=>Bn.step h
    | exit i=>exact Good.same hw hx1 (aT hm f _ (.x (.exit i) k e) _ _ _ _ _ _ h he hs) fun ρ Q h=>h
    | ret=>exact Good.same hw hx1 (aT hm f _ (.x .ret k e) _ _ _ _ _ _ h he hs) fun ρ Q h=>h
    | panic p=>exact Good.same hw hx1 (aT hm f _ (.x (.panic p) k e) _ _ _ _ _ _ h he hs) fun ρ Q h=>h
 | f + 1,n,.v all l e,s,nx,ax,e',s',nx',h,he,hs=>by
  cases l with
  | nil=>
   simp only [ex,Option.some.injEq,Prod.mk.injEq] at h; obtain ⟨rfl,rfl,rfl,rfl⟩:=h; exact ⟨he,fun ρ K hK=>Ev.nil hK⟩
  | cons o rest=>
   simp only [ex] at h; split at h
   · cases h
   ·
    rename_i t hd; cases ht:Nat.blt t n with
    | false=>rw [ht] at h; cases h
    | true=>
     rw [ht] at h; simp only [cond_true] at h; split at h
     · cases h
     ·
      rename_i hg; obtain ⟨g1,g2⟩:=aT hm f _ (.v all rest ((t,.val Go.undef) :: e)) _ _ _ _ _ _ h (sH.cons t (fun _ _ _=>rfl) he) hs; exact ⟨g1,fun ρ K hK=>Ik hd ht hg (g2 ρ K hK)⟩
     ·
      rename_i hg; split at h
      · cases h
      ·
       rename_i p s1 lW hst; cases hok:BK nx p with
       | false=>rw [hok] at h; cases h
       | true=>
        rw [hok] at h; simp only [cond_true] at h; have hp:=sV p hok
        have hst:aK P s nx (u6 e) o.op p s nx:=by
         split at hst
         ·
          rename_i g args hc; split at hst
          ·
           rename_i fn hf; split at hst
           ·
            rename_i c hb; cases hb2:(Nat.ble args.length fn.ntmps && aU P g) with
            | false=>rw [hb2] at hst; cases hst
            | true=>
             rw [hb2] at hst; simp only [cond_true] at hst; simp only [Bool.and_eq_true] at hb2; exact EZ hc hf hb hb2.1 hb2.2 (fun ax e' s' nx' hr=>aT hm f _ (.w c [] (fF 0 args)) _ _ _ _ _ _ hr ((y5 hc fun x=>sH.u6 he x).fF 0) (fun _ _ _=>rfl)) hst hp hs
           · cases hst
          · cases hst
         ·
          split at hst
          ·
           rename_i q hq; simp only [Option.some.injEq,Prod.mk.injEq] at hst; obtain ⟨rfl,rfl,rfl⟩:=hst; exact F3 hq (fun x=>sH.u6 he x) hs
          · cases hst
        obtain ⟨g1,g2⟩:=aT hm f _ (.v all rest ((t,p) :: e)) _ _ _ _ _ _ h (sH.cons t hp he) hs; exact ⟨g1,fun ρ K hK=>Ij hst he hp hs hd ht hg (g2 ρ K hK)⟩
end
def Ed (P:Program) (f g:Nat) (b:Bool):Bool:=
 match P.funcs[g]? with
 | some fn=>match fn.body with
  | some c=>match ex P f fn.ntmps (.w c [] []) [] 1000000 with
   | some (ax,e',s',_)=>Gw ax && (match oQ P e' s' fn.results.toList with
    | some [.bool x]=>x == b
    | _=>false)
   | none=>false
  | none=>false
 | none=>false
theorem Dk {P:Program} (hm:P.follows .mixedOrders=true) {f g:Nat} {b:Bool} (h:Ed P f g b=true) {τ:List aA} {Q:nH→List aA→Prop} (hq:Q (.ret (.bool b)) τ):AC P g [] τ Q:=by
 unfold Ed at h; split at h
 ·
  rename_i fn hf; split at h
  ·
   rename_i c hb; split at h
   ·
    rename_i ax e' s' nx' hex; simp only [Bool.and_eq_true] at h; obtain ⟨h1,h2⟩:=h; split at h2
    ·
     rename_i x hr; have h2:=eq_of_beq h2; subst h2; refine AC.none ?_; have gd:=aT hm f _ _ _ _ _ _ _ _ hex (fun _ _ _=>rfl) (fun _ _ _=>rfl); exact zW (s:=[]) (args:=[]) hf hb rfl gd h1 hr ⟨fun k=>k,fun _=>Go.undef⟩ fun ρ' _=>⟨[],List.nil_sublist _,hq⟩
    · cases h2
   · cases h
  · cases h
 · cases h
end Go.Abs
