/- Proved here: how a functional text stands for a walk of the given code: ranges, maps, sorted lists, library functions. -/
import Derived.Test.YtdgljcpjcgldfaaGreatDoorAgA2
import Derived.RangeFuncRecord
import Derived.RangeFuncIn
import Derived.OrdersIn
import Derived.TacticsIn
import Derived.Test.YtdgljcpjcgldfaaGreatDoorAgA1
import Derived.Lib.LaidTab
import Derived.Stop.LaidErr
import Derived.Lib.ItoaNum
import Derived.Shelf.Vars
import Derived.DeepKeys
set_option linter.unusedVariables false
set_option linter.unusedSimpArgs false
set_option linter.unusedSectionVars false
namespace Go.Abs
variable [cZ]
open Go
def EX (r:Option Nat):Fence:={Fence.wide with round:=r}
def mX (o:Oper):Bool:=match o.op with | .defer _=>false | _=>true
theorem Bv {o:Oper} (h:mX o=true):∀ c,o.op≠.defer c:=by
 intro c hc; unfold mX at h; rw [hc] at h; cases h
section
variable {P : Program} {n : Nat} {r : Option Nat} {env : Env} {σ : List aM} {ds : List Deferred} {Q : Post} {all : Array Oper} {rest : List Oper} {o : Oper}
theorem EM {f:FuncId} {args:Array Value} {w:World} {R:Ending→World→Prop} {n:Nat} (h:Calls P f args w R):CallsIn (EX r) n P f args w R:=by
 have:=(callsIn_wide (n:=n)).2 h; exact this
theorem Fh {row:String} {args:Array Value} {w:World} {R:Value→World→Prop} {n:Nat} (h:Rows P row args w R):RowsIn (EX r) n P row args w R:=
 fun c cs _=>let ⟨v,w',r,s⟩:=h c cs; ⟨v,w',r,stepsIn_wide.2 s⟩
theorem Ce {a:Act} {w:World} {K:Act→World→Prop} {Q:Exit→Act→World→Prop} (hd:mX o=true) (h:o.wp P a w K Q):o.wpIn (EX r) 0 P a w K Q:=by
 refine ⟨fun _ _=>trivial,?_⟩; rw [Oper.semAt_eq _ _ _ (Bv hd)]; unfold Oper.wp at h; generalize (execOp a.eval o).run P w=x at h ⊢; cases x with
 | ok v w'=>
  cases v <;> simp only [Oper.upon,Oper.uponIn] at h ⊢ <;> first
   | exact h
   | exact ⟨fun hh=>by simp [EX,Fence.wide] at hh,EM h⟩
   | exact ⟨fun hh=>by simp [EX,Fence.wide] at hh,Fh h⟩
 | halt v w'=>cases v <;> simp only [Oper.upon,Oper.uponIn] at h ⊢ <;> exact h
theorem tF {Q:Exit→Act→World→Prop} (hno:¬ LetsOut Q):∀ (l:List Oper) (a:Act) (w:World),(∀ o∈l,mX o=true)→wpList P all Q l a w→wpListIn (EX r) 0 P all Q l a w
 | [],a,w,_,h=>h
 | o :: rest,a,w,hd,h=>by
  unfold wpList at h; unfold wpListIn; split
  ·
   rename_i hw; rw [if_pos hw] at h; rcases h with h | ⟨_,h⟩
   · exact Oper.wpIn_mono (fun a w h=>tF hno rest a w (fun o ho=>hd o (by simp [ho])) h) (Ce (hd o (by simp)) h)
   · exact (hno h).elim
  ·
   rename_i hw; rw [if_neg hw] at h; exact ⟨fun _ _=>trivial,tF hno rest _ _ (fun o ho=>hd o (by simp [ho])) h⟩
def q9 (P:Program) (r:Option Nat) (n:Nat) (c:Code) (env:Env) (σ:List aM) (ds:List Deferred) (Q:Post):Prop:=
 ∀ w m a QC,iM w m n env σ ds a→Acc n Q w m σ QC→c.wpIn (EX r) 0 P QC a w
def wM (Q:Exit→Act→World→Prop):Exit→Act→World→Prop:=fun e a w=>e≠.outgrown∧Q e a w
theorem oN (Q:Exit→Act→World→Prop):¬ LetsOut (wM Q):=fun ⟨_,_,h,_⟩=>h rfl
theorem Acc.wM {w:World} {m:dx} {QC:Exit→Act→World→Prop} (h:Acc n Q w m σ QC):Acc n Q w m σ (Abs.wM QC):=by
 intro x ex env' σ' ds' a' w' m' hq hx hs ht; refine ⟨?_,h x ex env' σ' ds' a' w' m' hq hx hs ht⟩; rintro rfl; cases x <;> simp [J6] at hx
theorem q9.region {id:Nat} {l:List Oper} (hd:(l.all mX)=true) (h:AR P n l.toArray l env σ ds Q):q9 P r n (.region id l.toArray false) env σ ds Q:=by
 intro w m a QC hs ha; rw [List.all_eq_true] at hd; refine wpIn_mono (wpIn_region_lit (tF (oN QC) l a w hd (h w m a _ hs ha.wM))) fun e a w h=>h.2
theorem q9.skip (h:Q .normal env σ ds):q9 P r n .skip env σ ds Q:=
 fun w m a _ hs ha=>wpIn_skip (ha .normal .normal env σ ds a w m h rfl hs (Trans.refl ..))
theorem q9.exit {id:Nat} (h:Q (.exit id) env σ ds):q9 P r n (.exit id) env σ ds Q:=
 fun w m a _ hs ha=>wpIn_exit (ha (.exit id) (.exit id) env σ ds a w m h rfl hs (Trans.refl ..))
theorem q9.ret (h:Q .ret env σ ds):q9 P r n .ret env σ ds Q:=
 fun w m a _ hs ha=>wpIn_ret (ha .ret .ret env σ ds a w m h rfl hs (Trans.refl ..))
theorem q9.seq {c d:Code} (h:q9 P r n c env σ ds (AX.then (fun e s ds=>q9 P r n d e s ds Q) Q)):q9 P r n (.seq c d) env σ ds Q:=by
 intro w m a QC hs ha; refine wpIn_seq (h w m a _ hs ?_); intro x ex e1 σ1 d1 a1 w1 m1 hq hx hs1 ht; cases x with
 | normal=>cases hx; exact hq w1 m1 a1 QC hs1 (ha.step ht)
 | exit id=>cases hx; exact ha (.exit id) _ e1 σ1 d1 a1 w1 m1 hq rfl hs1 ht
 | ret=>cases hx; exact ha .ret _ e1 σ1 d1 a1 w1 m1 hq rfl hs1 ht
 | panic p=>obtain ⟨v,rfl,hv⟩:=hx; exact ha (.panic p) _ e1 σ1 d1 a1 w1 m1 hq ⟨v,rfl,hv⟩ hs1 ht
theorem q9.cond {c:Operand} {x y:Code} {b:Bool} (hc:env.ev c=.bool b) (ht:b=true→q9 P r n x env σ ds Q) (hf:b=false→q9 P r n y env σ ds Q):
  q9 P r n (.cond c x y) env σ ds Q:=by
 intro w m a QC hs ha; have he:=hs.env.ev c; rw [hc] at he; simp only [bq] at he; exact wpIn_cond_split he (fun h=>ht h w m a QC hs ha) (fun h=>hf h w m a QC hs ha)
theorem q9.block {id:Nat} {c:Code} (h:q9 P r n c env σ ds (AX.inBlock id Q)):q9 P r n (.block id c) env σ ds Q:=by
 intro w m a QC hs ha; refine wpIn_block (h w m a _ hs ?_); intro x ex e1 σ1 d1 a1 w1 m1 hq hx hs1 ht; cases x with
 | normal=>cases hx; exact ha .normal _ e1 σ1 d1 a1 w1 m1 hq rfl hs1 ht
 | exit id'=>
  cases hx; simp only [Exit.inBlock]; simp only [AX.inBlock] at hq; by_cases e:id'=id
  ·
   subst e; simp only [Nat.beq_refl,cond_true] at hq; rw [if_pos rfl]; exact ha .normal _ e1 σ1 d1 a1 w1 m1 hq rfl hs1 ht
  ·
   have:Nat.beq id' id=false:=iH e; simp only [this,cond_false] at hq; rw [if_neg e]; exact ha (.exit id') _ e1 σ1 d1 a1 w1 m1 hq rfl hs1 ht
 | ret=>cases hx; exact ha .ret _ e1 σ1 d1 a1 w1 m1 hq rfl hs1 ht
 | panic p=>obtain ⟨v,rfl,hv⟩:=hx; exact ha (.panic p) _ e1 σ1 d1 a1 w1 m1 hq ⟨v,rfl,hv⟩ hs1 ht
theorem q9.mono {c:Code} {Q':Post} (h:q9 P r n c env σ ds Q) (hq:∀ x e s d,Q x e s d→Q' x e s d):q9 P r n c env σ ds Q':=
 fun w m a QC hs ha=>h w m a QC hs fun x ex env' σ' ds' a' w' m' h1 h2 h3 h4=>ha x ex env' σ' ds' a' w' m' (hq _ _ _ _ h1) h2 h3 h4
theorem q9.settle {c:Code} {env':Env} (ps:List Nat) (hs:Abs.settle ps env=some env') (h:q9 P r n c env' σ ds Q):q9 P r n c env σ ds Q:=
 fun w m a QC jf ha=>h w m a QC ⟨jf.size,jf.ds,jf.env.settle hs,jf.gq⟩ ha
theorem q9.frame {c:Code} {τ:List aM} (h:q9 P r n c env σ ds Q):q9 P r n c env (σ ++ τ) ds (fun x e s d=>∃ s0,s=s0 ++ τ∧Q x e s0 d):=by
 intro w m a QC hs ha; refine h w m a QC ⟨hs.size,hs.ds,hs.env,hs.gq.left⟩ fun x ex e' σ' ds' a' w' m' hq hx hs' ht=>?_; obtain ⟨k1,k2⟩:=Conc.frame hs.gq hs'.gq ht; exact ha x ex e' (σ' ++ τ) ds' a' w' m' ⟨σ',rfl,hq⟩ hx ⟨hs'.size,hs'.ds,hs'.env,k1⟩ k2
def J8 (P:Program) (r:Option Nat) (n:Nat) (all:Array Oper) (l:List Oper) (env:Env) (σ:List aM) (ds:List Deferred) (Q:Post):Prop:=
 ∀ w m a QC,iM w m n env σ ds a→Acc n Q w m σ QC→wpListIn (EX r) 0 P all QC l a w
theorem J8.of {l:List Oper} (hd:(l.all mX)=true) (h:AR P n all l env σ ds Q):J8 P r n all l env σ ds Q:=by
 intro w m a QC hs ha; rw [List.all_eq_true] at hd; have:=tF (r:=r) (oN QC) l a w hd (h w m a _ hs ha.wM)
 have key:∀ (l:List Oper) (a:Act) (w:World),wpListIn (EX r) 0 P all (wM QC) l a w→wpListIn (EX r) 0 P all QC l a w:=by
  intro l
  induction l with
  | nil=>intro a w h; exact h.2
  | cons o l ih=>
   intro a w h; unfold wpListIn at h ⊢; split
   ·
    rename_i hw; rw [if_pos hw] at h; refine ⟨h.1,?_⟩; have h2:=h.2; generalize (o.semAt (EX r).round a.eval).run P w=x at h2 ⊢; cases x with
    | ok v w'=>
     cases v <;> simp only [Oper.uponIn] at h2 ⊢ <;> first
      | exact ih _ _ h2
      | exact ⟨h2.1,CallsIn.mono h2.2 fun e w'' he=>by
        cases e with
        | returned v=>exact ih _ _ he
        | panicked c=>exact he.2
        | outgrown=>exact (oN QC he).elim⟩
      | exact ⟨h2.1,RowsIn.mono h2.2 fun v w'' he=>ih _ _ he⟩
      | exact ⟨h2.1,RoundIn.mono h2.2 fun e w'' he=>by
        cases e with
        | returned v=>exact ih _ _ he
        | panicked c=>exact he.2
        | outgrown=>exact (oN QC he).elim⟩
    | halt v w'=>
     cases v <;> simp only [Oper.uponIn] at h2 ⊢ <;> exact h2.2
   ·
    rename_i hw; rw [if_neg hw] at h; exact ⟨h.1,ih _ _ h.2⟩
 exact key l a w this
theorem J8.step {t:Nat} (hnd:mX o=true) (hg:o.guard=none) (hd:o.dst=some t) (ht:Nat.blt t n=true)
  (h:AO P o env.ev σ (fun p σ'=>J8 P r n all rest ((t,p) :: env) σ' ds Q) (fun p σ'=>Q (.panic p) env σ' ds)):
  J8 P r n all (o :: rest) env σ ds Q:=by
 intro w m a QC hs ha; have ht:t < n:=Nat.le_of_ble_eq_true ht; refine wpListIn_plain hg fun K hK=>Ce hnd ?_; refine h w m a K QC (fun x _=>hs.env.ev x) hs.gq ?_ ?_
 ·
  intro p σ' v w' m' hr hv hc htr; exact hK _ _ (hr w' m' _ QC (hs.put hd ht hv hc htr.le) (ha.step htr))
 ·
  intro p σ' v w' m' hr hv hc htr; exact ha (.panic p) _ _ _ _ a w' m' hr ⟨v,rfl,hv⟩ ⟨hs.size,hs.ds,hs.env.mono htr.le,hc⟩ htr
end
section
variable {P : Program} {n : Nat} {env : Env} {σ : List aM} {ds : List Deferred} {Q : Post}
end
end Go.Abs
namespace Go.Abs
variable [cZ]
open Go
theorem BU {w:World} {m:dx}:∀ {vs cs:List Value},aN w m (vs.map PV.val) cs→cs=vs
 | [],cs,h=>by simpa [aN] using h
 | v :: vs,cs,h=>by
  simp only [List.map_cons,aN,bq] at h; obtain ⟨u,us,rfl,h1,h2⟩:=h; rw [BU h2,h1]
theorem AR.defer {P:Program} {n:Nat} {env:Env} {σ:List aM} {ds:List Deferred} {Q:Post} {all:Array Oper} {rest:List Oper} {o:Oper} {c:Call} {rW:Operand} {g:FuncId} {vs:List Value}
  (hg:o.guard=Option.none) (hd:o.dst=Option.none) (ho:o.op=.defer c) (cK:c.callee=.value rW) (hargs:c.args=#[]) (hf:env.ev rW=.fn g (vs.map PV.val))
  (h:AR P n all rest env σ ({target:=.fn (.func g) vs.toArray,args:=#[]} :: ds) Q):AR P n all (o :: rest) env σ ds Q:=by
 intro w m a QC hs ha; refine wpList_plain hg fun K hK=>?_; have hcv:=hs.env.ev rW; rw [hf] at hcv; simp only [bq] at hcv; obtain ⟨cs,hcv,hcs⟩:=hcv; have hcs':=BU hcs; subst hcs'
 have hrun:(execOp a.eval o).run P w=.ok (.defer {target:=.fn (.func g) cs.toArray,args:=#[]}) w:=by
  unfold execOp; simp [ho,resolve,cK,hcv,hargs,Deferred.ofValue]
 unfold Oper.wp; rw [hrun]; refine hK _ _ (h w m _ QC ⟨?_,?_,?_,hs.gq⟩ ha)
 · rw [hd]; exact hs.size
 · rw [hd]; simp [Act.put,hs.ds]
 · rw [hd]; exact hs.env
section
variable {P : Program} {n : Nat} {env : Env} {σ : List aM} {ds : List Deferred} {Q : Post} {all : Array Oper} {l : List Oper}
end
section
variable {P : Program} {o : Oper} {ρ : Operand → PV} {σ : List aM} {R S : PV → List aM → Prop}
end
end Go.Abs
namespace Go.Abs
open Go
theorem bV {α:Type} {f:α→List PV} {μ:α→Nat} {p:α→Prop}:∀ {l:List (List PV × Nat)},(∀ x∈l,∃ a,x.1=f a∧μ a≤x.2∧p a)→∃ E8:List α,l.map (·.1)=E8.map f∧(E8.map μ).sum≤(l.map (·.2)).sum∧∀ a∈E8,p a
 | [],_=>⟨[],rfl,Nat.le_refl _,fun _ h=>by cases h⟩
 | x :: l,h=>by
  obtain ⟨a,h1,h2,h3⟩:=h x List.mem_cons_self; obtain ⟨E8,h4,h5,h6⟩:=bV fun y hy=>h y (List.mem_cons_of_mem _ hy)
  exact ⟨a :: E8,by simp [h1,h4],by simp only [List.map_cons,List.sum_cons]; omega,fun b hb=>by
   rcases List.mem_cons.1 hb with rfl | hb
   · exact h3
   · exact h6 b hb⟩
end Go.Abs
namespace Go.Abs
variable [cZ]
open Go
section
variable {P : Program} {n : Nat} {all : Array Oper} {l : List Oper} {env : Env} {σ : List aM} {ds : List Deferred} {Q : Post} {c : Code}
def rT :List aM→Nat→Option (List aM)
 | [],_=>none
 | _ :: σ,0=>some σ
 | r :: σ,i + 1=>match rT σ i with
  | some σ'=>some (r :: σ')
  | none=>none
theorem ni :∀ {σ σ':List aM} {i:Nat},rT σ i=some σ'→σ'.Sublist σ
 | [],_,_,h=>by cases h
 | r :: σ,_,0,h=>by simp only [rT,Option.some.injEq] at h; subst h; exact List.sublist_cons_self _ _
 | r :: σ,σ',i + 1,h=>by
  simp only [rT] at h; split at h
  ·
   rename_i t ht; simp only [Option.some.injEq] at h; subst h; exact (ni ht).cons_cons r
  · cases h
theorem AR.vD (i:Nat) {σ':List aM} (he:rT σ i=some σ') (h:AR P n all l env σ' ds Q):AR P n all l env σ ds Q:=
 fun w m a QC jf ha=>h w m a QC ⟨jf.size,jf.ds,jf.env,jf.gq.sub (ni he)⟩ (ha.step (Trans.sub (Trans.refl w m σ) (ni he)))
theorem AW.vD (i:Nat) {σ':List aM} (he:rT σ i=some σ') (h:AW P n c env σ' ds Q):AW P n c env σ ds Q:=AW.drop _ (ni he) h
end
end Go.Abs
namespace Go.Abs
variable [cZ]
open Go
section
variable {P : Program} {o : Oper} {ρ : Operand → PV} {σ : List aM} {R S : PV → List aM → Prop}
theorem nS (w:World) (t e:TypeId) (a:Option Addr) (l c:Nat) (h:P.underlying t=some (.slice e)):(binOp .eql t (.slice a l c) (.slice none 0 0)).run P w=.ok (.bool a.isNone) w:=by
 have h:∀ d:Nat,(Op.equalIn (d + 1) t (.slice a l c) (.slice none 0 0)).run P w=.ok a.isNone w:=fun d=>by
  cases a <;> simp [Op.equalIn,run_underlying h]
 simp only [binOp]; simp [Op.equal,Op.maxDepth,h 9999]
theorem AO.iK {t e yt:TypeId} {x:Operand} {l:List (List PV)} (ho:o.op=.binOp .eql t x (.const (.slice none 0 0)) yt) (hx:(ρ x).els=some l) (hu:P.underlying t=some (.slice e))
  (hR:∀ b:Bool,(b=true→l=[])→R (.bool b) σ):AO P o ρ σ R S:=by
 intro w m a K QC hr hc hK _; have hv:=hr x (by simp [ho,Op.operands]); obtain ⟨ad,cap,e1,e2,e3⟩:=hv.els hx; have hev:a.eval (.const (.slice none 0 0))=.slice none 0 0:=rfl
 have hrun:(execOp a.eval o).run P w=.ok (.value (.bool ad.isNone)) w:=by
  simp only [execOp,ho,hev,e1,Sem.run_bind]; rw [show eqGuard .eql t x (.const (.slice none 0 0)) (.slice ad l.length cap) (.slice none 0 0)=pure () from rfl]; simp only [Sem.run_pure,Result.andThen_ok,nS w t e ad l.length cap hu]
 unfold Oper.wp; rw [hrun]; refine hK (.bool ad.isNone) σ _ w m (hR _ fun h=>?_) (by simp only [bq]) hc (Trans.refl _ _ _); rcases e3 with rfl | ⟨bk,off,sz,rfl,_⟩
 · rfl
 · cases h
theorem AO.Cc {x:Operand} {v:Value} {l:List (List PV)} (ho:o.op=.assign x) (hx:ρ x=.own v l) (hR:R (.val v) σ):AO P o ρ σ R S:=by
 refine AO.of_same hR fun w m ev hr _=>?_; have h1:=hr x (by simp [ho,Op.operands]); rw [hx] at h1; simp only [bq] at h1; exact ⟨ev x,by simp [execOp,ho],by simp only [bq]; exact h1.1⟩
end
theorem AW.J2 {P:Program} {n:Nat} {c:Code} {env:Env} {σ:List aM} {ds:List Deferred} {Q:Post} (sz e:Nat) (h:AW P n c env (.buf (.slice none 0 0) 0 sz e [] :: σ) ds Q):AW P n c env σ ds Q:=by
 intro w m a QC hs ha
 have hc:Conc w m (.buf (.slice none 0 0) 0 sz e [] :: σ):=by
  refine ⟨fun r hr=>?_,by simpa [fI,aM.fp,Value.ownBlock] using hs.gq.apart,hs.gq.wf,hs.gq.kX⟩; rcases List.mem_cons.1 hr with rfl | hr
  · exact ⟨[],⟨by simp,.inl ⟨rfl,rfl⟩⟩,aN.nil,fun b hb=>by cases hb⟩
  · exact hs.gq.each r hr
 exact h w m a QC ⟨hs.size,hs.ds,hs.env,hc⟩ (ha.step ⟨rfl,rfl,rfl,Nat.le_refl _,Le.refl _ _,fun b _ _=>⟨rfl,fun _ h=>h⟩,fun b hb=>.inl (by simpa [fI,aM.fp,Value.ownBlock] using hb),fun _=>Nat.le_refl _⟩)
theorem AR.freeze {P:Program} {k:Nat} {all:Array Oper} {lo:List Oper} {env:Env} {σ:List aM} {ds:List Deferred} {Q:Post} {v:Value} {n sz e:Nat} {cs:List PV} (t i:Nat) (l:List (List PV)) (ht:env.get t=.val v) (hi:σ[i]?=some (aM.buf v n sz e cs))
  (hl:l.flatten=cs) (hsz:∀ x∈l,x.length=sz) (hn:l.length=n) (h:AR P k all lo ((t,.own v l) :: env) (σ.set i (.row v n sz e)) ds Q):AR P k all lo env σ ds Q:=by
 intro w m a QC hs ha; obtain ⟨m',h1,h2,h3⟩:=hs.gq.freeze hi hl hsz hn; refine h w m' a QC ⟨hs.size,hs.ds,fun u=>?_,h2⟩ (ha.step h3); have hu:=hs.env u; simp only [Env.get]; cases hb:Nat.beq t u with
 | false=>exact bq.mono h3.le _ _ hu
 | true=>
  have:=Nat.eq_of_beq_eq_true hb; subst this; rw [ht] at hu; simp only [bq] at hu; rw [hu]; exact h1
end Go.Abs
namespace Go.Abs
variable [cZ]
open Go
section
variable {P : Program} {o : Oper} {ρ : Operand → PV} {σ : List aM} {R S : PV → List aM → Prop}
theorem AO.uV {t n sz:Nat} {x i:Operand} {k:IntKind} {cs cs':List PV} (j:Nat) (ho:o.op=.indexAddr t x i) (ha:kK P t=some (n,sz)) (hx:ρ x=.ref cs) (hi:ρ i=.int k (j:Int)) (h1:j < n) (hd:fO (j * sz) cs=some cs')
  (hR:R (.ref cs') σ):AO P o ρ σ R S:=by
 obtain ⟨e1,e2⟩:=lq hd; exact AO.wu ho ha hx hi (by omega) (by simpa using h1) (by simpa using e2) (by simpa [←e1] using hR)
theorem AO.uW {t n sz b off:Nat} {x i:Operand} {k:IntKind} (j:Nat) (ho:o.op=.indexAddr t x i) (ha:kK P t=some (n,sz)) (hx:ρ x=.val (.pointer (some ⟨b,off,none⟩))) (hi:ρ i=.int k (j:Int)) (h1:j < n)
  (hR:R (.val (.pointer (some ⟨b,off + j * sz,none⟩))) σ):AO P o ρ σ R S:=
 AO.wz ho ha hx hi (by omega) (by simpa using h1) (by simpa using hR)
end
end Go.Abs
namespace Go.Abs
open Go
@[reducible] def JO (ints errs:List Nat) (tabs:List (Nat × List Value)):cZ where
 G:=fun w m=>(∀ g∈ints,m g 0∧∃ n:Int,w.cell? ⟨g,0,none⟩=some (.int .i64 n))∧(∀ g∈errs,m g 0∧∃ u v,w.cell? ⟨g,0,none⟩=some (.iface u v))∧∀ p∈tabs,∀ off,m p.1 off∧w.cell? ⟨p.1,off,none⟩=p.2[off]?
 mono:=fun {w w' m m'} hle ⟨h1,h2,h3⟩=>⟨fun g hg=>by
   obtain ⟨a,n,b⟩:=h1 g hg; obtain ⟨c,d⟩:=hle g 0 a
   exact ⟨c,n,by rw [d,b]⟩,fun g hg=>by
   obtain ⟨a,u,v,b⟩:=h2 g hg; obtain ⟨c,d⟩:=hle g 0 a
   exact ⟨c,u,v,by rw [d,b]⟩,fun p hp off=>by
   obtain ⟨a,b⟩:=h3 p hp off; obtain ⟨c,d⟩:=hle p.1 off a
   exact ⟨c,by rw [d,b]⟩⟩
 D:=False
end Go.Abs
namespace Go.Abs
variable [cZ]
open Go Go.Ft
section
variable {P : Program}
def JV (P:Program) (g:TypeId→PV→PV→Option Bool) (xs ys:List PV):List Field→Option Bool
 | []=>some true
 | f :: fs=>bif f.name != "_" then (match dA P f.type with
  | some (ag,k)=>match fO f.offset xs,fO f.offset ys with
   | some xs',some ys'=>match dW ag k xs',dW ag k ys' with
    | some p,some q=>match g f.type p q,JV P g xs ys fs with
     | some a,some b=>some (a && b)
     | _,_=>none
    | _,_=>none
   | _,_=>none
  | none=>none) else none
def Et (P:Program):Nat→TypeId→PV→PV→Option Bool
 | 0,_,_,_=>none
 | d + 1,t,p,q=>match P.underlying t with
  | some .bool=>match p,q with
   | .bool a,.bool b=>some (a == b)
   | _,_=>none
  | some (.int _)=>match p,q with
   | .int k a,.int k' b=>bif CY k k' then some (a == b) else none
   | _,_=>none
  | some .string=>match p,q with
   | .str a,.str b=>some (a == b)
   | _,_=>none
  | some (.struct fs)=>match p,q with
   | .agg xs,.agg ys=>bif P.stoodInHeld t then none else JV P (Et P d) xs ys fs.toList
   | _,_=>none
  | _=>none
theorem Ac {t:TypeId} {ag:Bool} {k off:Nat} {cs cs':List PV} {p:PV} {vs:List Value} {w:World} {m:dx} (ht:dA P t=some (ag,k)) (hd:fO off cs=some cs') (hp:dW ag k cs'=some p) (hv:aN w m cs vs):
  ∃ v,(part t vs.toArray off).run P w=.ok v w∧bq w m p v:=by
 obtain ⟨rfl,_⟩:=lq hd; obtain ⟨hA,hS⟩:=oL ht w; have e3:=hv.drop off; unfold dW at hp; cases ag with
 | true=>
  simp only [cond_true] at hp; split at hp
  ·
   rename_i r hr; simp only [Option.some.injEq] at hp; subst hp; obtain ⟨rfl,hk⟩:=nO hr; refine ⟨.agg ((vs.drop off).take k).toArray,?_,by simp only [bq]; exact ⟨_,rfl,e3.take k⟩⟩; simp only [part,Sem.run_bind,hA,Result.andThen_ok,if_true,hS,Sem.run_pure]; congr 3; apply Array.ext'; simp
  · cases hp
 | false=>
  simp only [cond_false] at hp; split at hp
  ·
   rename_i c cs' hd'; have hp:=PV.force_eq hp; subst hp; rw [hd'] at e3; simp only [aN] at e3; obtain ⟨v,vs',e4,e5,e6⟩:=e3; refine ⟨v,?_,e5⟩
   have:vs[off]?=some v:=by
    have:=congrArg (·[0]?) e4; simpa [List.getElem?_drop] using this
   simp [part,hA,this]
  · cases hp
theorem Co {g:TypeId→PV→PV→Option Bool} {d:Nat} {xs ys:List PV} {vs us:List Value} {w:World} {m:dx} (hx:aN w m xs vs) (hy:aN w m ys us)
  (ih:∀ t p q b v u,g t p q=some b→bq w m p v→bq w m q u→(Op.equalIn d t v u).run P w=.ok b w):∀ {fs:List Field} {b:Bool},JV P g xs ys fs=some b→(Op.eqFields d vs.toArray us.toArray fs).run P w=.ok b w
 | [],b,h=>by simp only [JV,Option.some.injEq] at h; subst h; simp [Op.eqFields]
 | f :: fs,b,h=>by
  simp only [JV] at h
  cases hn:(f.name != "_") with
  | false=>rw [hn] at h; cases h
  | true=>
   rw [hn] at h; simp only [cond_true] at h
   have hn:f.name≠ "_" :=by simpa using hn
   split at h
   ·
    rename_i ag k ht; split at h
    ·
     rename_i xs' ys' Mv hdy; split at h
     ·
      rename_i p q hlp hlq; split at h
      ·
       rename_i a b' ha hb; simp only [Option.some.injEq] at h; subst h; obtain ⟨v,p1,p2⟩:=Ac ht Mv hlp hx; obtain ⟨u,q1,q2⟩:=Ac ht hdy hlq hy; have h1:=ih _ _ _ _ _ _ ha p2 q2; have h2:=Co hx hy ih hb; simp only [Op.eqFields,hn,ne_eq,not_false_eq_true,if_true,Sem.run_bind,p1,q1,h1,Result.andThen_ok]; cases a with
       | false=>simp
       | true=>simpa using h2
      · cases h
     · cases h
    · cases h
   · cases h
theorem Cn {w:World} {m:dx}:∀ (d e:Nat) (t:TypeId) (p q:PV) (b:Bool) (v u:Value),Et P d t p q=some b→bq w m p v→bq w m q u→(Op.equalIn (e + d) t v u).run P w=.ok b w
 | 0,_,_,_,_,_,_,_,h,_,_=>by cases h
 | d + 1,e,t,p,q,b,v,u,h,hp,hq=>by
  simp only [Et] at h; split at h
  ·
   rename_i hu; split at h
   ·
    simp only [Option.some.injEq] at h; subst h; simp only [bq] at hp hq; subst hp hq; simp [←Nat.add_assoc,Op.equalIn,run_underlying hu]
   · cases h
  ·
   rename_i k0 hu; split at h
   ·
    rename_i k a k' b'; cases hk:CY k k' with
    | false=>rw [hk] at h; cases h
    | true=>
     cases uT hk; rw [hk] at h; simp only [cond_true,Option.some.injEq] at h; subst h; simp only [bq] at hp hq; subst hp hq; simp [←Nat.add_assoc,Op.equalIn,run_underlying hu]
   · cases h
  ·
   rename_i hu; split at h
   ·
    rename_i a b'; simp only [Option.some.injEq] at h; subst h; simp only [bq] at hp hq; subst hp hq
    have:((⟨a.toArray⟩:ByteArray) == ⟨b'.toArray⟩)=(a == b'):=by
     show (a.toArray == b'.toArray)=(a == b'); simp
    simp [←Nat.add_assoc,Op.equalIn,run_underlying hu,this]
   · cases h
  ·
   rename_i fs hu; split at h
   ·
    rename_i xs ys; cases hs:P.stoodInHeld t with
    | true=>rw [hs] at h; cases h
    | false=>
     rw [hs] at h; simp only [cond_false] at h; simp only [bq] at hp hq; obtain ⟨vs,rfl,hv⟩:=hp; obtain ⟨us,rfl,Mr⟩:=hq; have hfs:P.fieldsOf t=fs:=by simp [Program.fieldsOf,hu]
     rw [←Nat.add_assoc,run_equalIn_struct w (e + d) t vs.toArray us.toArray (by rw [hfs]; exact hu) hs,hfs]; exact Co hv Mr (fun t p q b v u h hp hq=>Cn d e t p q b v u h hp hq) h
   · cases h
  · cases h
end
section
variable {P : Program} {o : Oper} {ρ : Operand → PV} {σ : List aM} {R S : PV → List aM → Prop}
theorem AO.jG {t u:TypeId} {x y:Operand} {xs ys:List PV} {b r:Bool} {op:BinOp} (ho:o.op=.binOp op t x y u) (hg:P.eqGuardType P.depth t=false) (hx:ρ x=.agg xs) (hy:ρ y=.agg ys) (h:Et P 100 t (.agg xs) (.agg ys)=some b)
  (hr:(match op with | .eql=>some b | .neq=>some (!b) | _=>none)=some r) (hR:R (.bool r) σ):AO P o ρ σ R S:=by
 refine AO.of_same hR fun w m ev hrep _=>?_; have h1:=hrep x (by simp [ho,Op.operands]); have h2:=hrep y (by simp [ho,Op.operands]); rw [hx] at h1; rw [hy] at h2; have hrun:=Cn (P:=P) (w:=w) (m:=m) 100 9900 t _ _ b _ _ h h1 h2; simp only [bq] at h1 h2; obtain ⟨vs,e1,_⟩:=h1; obtain ⟨us,e2,_⟩:=h2; rw [e1,e2] at hrun; refine ⟨.bool r,?_,by simp only [bq]⟩; have e4:(Op.equal t (.agg vs.toArray) (.agg us.toArray)).run P w=.ok b w:=hrun; cases op <;> simp only [reduceCtorEq,Option.some.injEq] at hr <;> subst hr
 ·
  have e3:binOp .eql t (.agg vs.toArray) (.agg us.toArray)=(do pure (.bool (←Op.equal t (.agg vs.toArray) (.agg us.toArray)))):=rfl; simp only [execOp,ho,e1,e2,e3,Sem.run_bind,Sem.run_pure]; simp [eqGuard,hg,e4]
 ·
  have e3:binOp .neq t (.agg vs.toArray) (.agg us.toArray)=(do pure (.bool (!(←Op.equal t (.agg vs.toArray) (.agg us.toArray))))):=rfl; simp only [execOp,ho,e1,e2,e3,Sem.run_bind,Sem.run_pure]; simp [eqGuard,hg,e4]
end
end Go.Abs
namespace Go.Abs
variable [cZ]
open Go
structure eF where
 lb:Nat→Nat
 hd:Nat→Value
def ql (nx:Nat) (ρ ρ':eF):Prop:=∀ k,k < nx→ρ'.lb k=ρ.lb k∧ρ'.hd k=ρ.hd k
theorem ql.refl (nx:Nat) (ρ:eF):ql nx ρ ρ:=fun _ _=>⟨rfl,rfl⟩
theorem ql.le {nx lI:Nat} {ρ ρ':eF} (h:ql lI ρ ρ') (hn:nx≤lI):ql nx ρ ρ':=fun k hk=>h k (Nat.lt_of_lt_of_le hk hn)
theorem ql.trans {nx:Nat} {ρ ρ' IC:eF} (h:ql nx ρ ρ') (h':ql nx ρ' IC):ql nx ρ IC:=fun k hk=>⟨(h' k hk).1.trans (h k hk).1,(h' k hk).2.trans (h k hk).2⟩
def uj (ρ:eF):Value→Value
 | .pointer (some ⟨b,off,none⟩)=>.pointer (some ⟨ρ.lb b,off,none⟩)
 | .map (some b)=>.map (some (ρ.lb b))
 | v=>v
def rC (ρ:eF):Value→Value
 | .slice (some ⟨k,0,none⟩) 0 0=>ρ.hd k
 | v=>v
mutual
def PV.ren (ρ:eF):PV→PV
 | .list l=>.list (dY ρ l)
 | .agg cs=>.agg (bO ρ cs)
 | .tuple vs=>.tuple (bO ρ vs)
 | .val v=>.val (uj ρ v)
 | .iface t p=>.iface t (p.ren ρ)
 | .fn f cs=>.fn f (bO ρ cs)
 | .ref cs=>.ref (bO ρ cs)
 | .own v l=>.own (rC ρ v) (dY ρ l)
 | .undef=>.undef
 | .int k n=>.int k n
 | .bool b=>.bool b
 | .str s=>.str s
 | .err e=>.err e
def bO (ρ:eF):List PV→List PV
 | []=>[]
 | p :: ps=>p.ren ρ :: bO ρ ps
def dY (ρ:eF):List (List PV)→List (List PV)
 | []=>[]
 | l :: ls=>bO ρ l :: dY ρ ls
end
section
variable {ρ ρ' : eF}
theorem j3 (ρ:eF):∀ l:List PV,bO ρ l=l.map (PV.ren ρ)
 | []=>rfl
 | p :: ps=>by simp only [bO,List.map_cons,j3 ρ ps]
theorem b_ (ρ:eF):∀ l:List (List PV),dY ρ l=l.map (bO ρ)
 | []=>rfl
 | p :: ps=>by simp only [dY,List.map_cons,b_ ρ ps]
def wm (ρ:eF):Obj→Obj
 | .mapIter (some m) a b c=>.mapIter (some (ρ.lb m)) a b c
 | o=>o
def f_ (ρ:eF) (es:List (Nat × PV × PV)):List (Nat × PV × PV):=es.map fun x=>(x.1,x.2.1.ren ρ,x.2.2.ren ρ)
def aM.ren (ρ:eF):aM→aM
 | .box b cs=>.box (ρ.lb b) (bO ρ cs)
 | .row v n sz e=>.row (rC ρ v) n sz e
 | .obj b o=>.obj (ρ.lb b) (wm ρ o)
 | .mp b es n=>.mp (ρ.lb b) (f_ ρ es) n
 | r=>r
def eZ (ρ:eF) (e:Env):Env:=e.map fun x=>(x.1,x.2.ren ρ)
def cB (ρ:eF) (s:List aM):List aM:=s.map (aM.ren ρ)
def Ok {α:Type} (nx:Nat) (f:eF→α):Prop:=∀ ρ ρ',ql nx ρ ρ'→f ρ=f ρ'
theorem Ok.le {α:Type} {nx lI:Nat} {f:eF→α} (h:Ok nx f) (hn:nx≤lI):Ok lI f:=fun ρ ρ' ha=>h ρ ρ' (ha.le hn)
theorem Ok.via {α β:Type} {nx:Nat} {f:eF→α} {g:eF→β} (h:Ok nx f) (k:∀ ρ ρ',f ρ=f ρ'→g ρ=g ρ'):Ok nx g:=fun ρ ρ' ha=>k ρ ρ' (h ρ ρ' ha)
abbrev gX (nx:Nat) (p:PV):Prop:=Ok nx fun ρ=>p.ren ρ
abbrev jk (nx:Nat) (l:List PV):Prop:=Ok nx fun ρ=>bO ρ l
abbrev q8 (nx:Nat) (e:Env):Prop:=Ok nx fun ρ=>eZ ρ e
abbrev gM (nx:Nat) (s:List aM):Prop:=Ok nx fun ρ=>cB ρ s
theorem qQ (e:Env) (t:Nat):(eZ ρ e).get t=(e.get t).ren ρ:=by
 induction e with
 | nil=>rfl
 | cons x e ih=>
  obtain ⟨u,p⟩:=x; simp only [eZ,List.map_cons,Env.get] at ih ⊢; cases Nat.beq u t with
  | true=>rfl
  | false=>exact ih
theorem q8.get {nx:Nat} {e:Env} (h:q8 nx e) (t:Nat):gX nx (e.get t):=h.via fun ρ ρ' he=>by
 have:=congrArg (fun x=>Env.get x t) he; simpa only [qQ] using this
theorem q8.cons {nx:Nat} {e:Env} {p:PV} (t:Nat) (hp:gX nx p) (h:q8 nx e):q8 nx ((t,p) :: e):=fun ρ ρ' ha=>by
 have h1:=hp ρ ρ' ha; have h2:=h ρ ρ' ha; simp only [eZ,List.map_cons] at h1 h2 ⊢; rw [h1,h2]
theorem jh (p:PV):p.force=some p:=by cases p <;> rfl
theorem jk.cons {nx:Nat} {p:PV} {l:List PV} (hp:gX nx p) (hl:jk nx l):jk nx (p :: l):=fun ρ ρ' ha=>by
 simp only [bO]; rw [show p.ren ρ=p.ren ρ' from hp ρ ρ' ha,show bO ρ l=bO ρ' l from hl ρ ρ' ha]
theorem jk.nil {nx:Nat}:jk nx []:=fun _ _ _=>rfl
theorem jk.of {nx:Nat} {l:List PV} (h:∀ p∈l,gX nx p):jk nx l:=by
 induction l with
 | nil=>exact jk.nil
 | cons p l ih=>exact jk.cons (h p (by simp)) (ih fun q hq=>h q (by simp [hq]))
theorem jk.mem {nx:Nat}:∀ {l:List PV} (_:jk nx l) {p:PV},p∈l→gX nx p
 | q :: l,h,p,hp=>by
  rcases List.mem_cons.1 hp with rfl | hp
  · exact h.via fun ρ ρ' he=>(List.cons.inj he).1
  · exact jk.mem (h.via fun ρ ρ' he=>(List.cons.inj he).2) hp
theorem jk.append {nx:Nat} {l l':List PV} (h:jk nx l) (h':jk nx l'):jk nx (l ++ l'):=fun ρ ρ' ha=>by
 have h1:=h ρ ρ' ha; have h2:=h' ρ ρ' ha; simp only [j3] at h1 h2 ⊢; rw [List.map_append,List.map_append,h1,h2]
theorem h_ (l:List PV):(bO ρ l).length=l.length:=by rw [j3,List.length_map]
theorem ru :∀ (k:Nat) (cs:List PV),lM k (bO ρ cs)=(lM k cs).map (bO ρ)
 | 0,cs=>by simp only [lM,Option.map_some,bO]
 | k + 1,[]=>rfl
 | k + 1,c :: cs=>by
  simp only [bO,lM,jh,ru k cs]; cases lM k cs <;> rfl
theorem jR :∀ (k:Nat) (cs:List PV),fO k (bO ρ cs)=(fO k cs).map (bO ρ)
 | 0,[]=>rfl
 | 0,c :: cs=>rfl
 | k + 1,[]=>rfl
 | k + 1,c :: cs=>by simp only [bO,fO]; exact jR k cs
theorem kV (ag:Bool) (k:Nat) (cs:List PV):dW ag k (bO ρ cs)=(dW ag k cs).map (PV.ren ρ):=by
 unfold dW; cases ag with
 | true=>
  simp only [cond_true,ru]; cases lM k cs <;> rfl
 | false=>
  cases cs with
  | nil=>rfl
  | cons c cs=>simp only [cond_false,bO,jh,Option.map_some]
theorem rE :∀ (cs new:List PV),oh (bO ρ cs) (bO ρ new)=(oh cs new).map (bO ρ)
 | [],[]=>rfl
 | _ :: _,[]=>rfl
 | [],_ :: _=>rfl
 | c :: cs,n :: ns=>by
  simp only [bO,oh,rE cs ns]; cases oh cs ns <;> rfl
theorem n_ :∀ (cs:List PV) (off:Nat) (new:List PV),pq (bO ρ cs) off (bO ρ new)=(pq cs off new).map (bO ρ)
 | [],0,new=>by simpa only [pq,bO] using rE [] new
 | c :: cs,0,new=>by simpa only [pq,bO] using rE (c :: cs) new
 | [],_ + 1,_=>rfl
 | c :: cs,k + 1,new=>by
  simp only [bO,pq,n_ cs k new]; cases pq cs k new <;> rfl
theorem sG (v:Value):(uj ρ v).oneCell'=v.oneCell':=by
 unfold uj; split <;> rfl
theorem Fp (p:PV):(p.ren ρ).one=p.one:=by cases p <;> simp [PV.ren,PV.one,sG]
theorem nu (p:PV):(p.ren ρ).gK=p.gK.map (bO ρ):=by
 cases p <;> simp only [PV.ren,PV.gK,Option.map_some,bO,Option.map_none]; rename_i v; rw [sG]; cases v.oneCell' <;> simp [bO,PV.ren]
theorem sO (l:List PV):(bO ρ l).all PV.one=l.all PV.one:=by
 induction l with
 | nil=>rfl
 | cons p l ih=>simp only [bO,List.all_cons,Fp,ih]
theorem oV (p:PV):(p.ren ρ).els=p.els.map (dY ρ):=by cases p <;> rfl
theorem mK (place:Nat→Option (Nat × Nat)):∀ (ps:List (Nat × PV)) (cells:List PV),iN place (bO ρ cells) (ps.map fun x=>(x.1,x.2.ren ρ))=(iN place cells ps).map (bO ρ)
 | [],cells=>by simp only [List.map_nil,iN,Option.map_some]
 | (i,p) :: r,cells=>by
  simp only [List.map_cons,iN]; cases place i with
  | none=>rfl
  | some os=>
   obtain ⟨off,size⟩:=os; simp only [nu]; cases p.gK with
   | none=>rfl
   | some cs=>
    simp only [Option.map_some,h_]; cases Nat.beq cs.length size with
    | false=>rfl
    | true=>
     simp only [cond_true,n_]; cases pq cells off cs with
     | none=>rfl
     | some c'=>exact mK place r c'
theorem qg (sz:Nat):∀ (n:Nat) (cs:List PV),iO sz n (bO ρ cs)=(iO sz n cs).map (dY ρ)
 | 0,[]=>rfl
 | 0,_ :: _=>rfl
 | n + 1,cs=>by
  simp only [iO,ru]; cases lM sz cs with
  | none=>rfl
  | some e=>
   simp only [Option.map_some,jR]; cases fO sz cs with
   | none=>rfl
   | some r=>
    simp only [Option.map_some,qg sz n r]; cases iO sz n r <;> rfl
theorem nQ :∀ (s:List aM) (i:Nat) (r:aM),gV (cB ρ s) i (r.ren ρ)=(gV s i r).map (cB ρ)
 | [],_,_=>rfl
 | _ :: _,0,_=>rfl
 | x :: s,i + 1,r=>by
  have:=nQ s i r; simp only [cB,List.map_cons,gV] at this ⊢; rw [this]; cases gV s i r <;> rfl
theorem fV (s:List aM) (i:Nat):(cB ρ s)[i]?=(s[i]?).map (aM.ren ρ):=by simp [cB]
theorem gM.cons {nx:Nat} {r:aM} {s:List aM} (hr:Ok nx fun ρ=>r.ren ρ) (hs:gM nx s):gM nx (r :: s):=fun ρ ρ' ha=>by
 have h1:=hr ρ ρ' ha; have h2:=hs ρ ρ' ha; simp only [cB,List.map_cons] at h1 h2 ⊢; rw [h1,h2]
theorem gM.tail {nx:Nat} {r:aM} {s:List aM} (h:gM nx (r :: s)):gM nx s:=h.via fun ρ ρ' he=>by
 simp only [cB,List.map_cons] at he ⊢; exact (List.cons.inj he).2
theorem gM.get {nx:Nat} {s:List aM} (h:gM nx s) {i:Nat} {r:aM} (hi:s[i]?=some r):Ok nx fun ρ=>r.ren ρ:=h.via fun ρ ρ' he=>by
 have:=congrArg (fun x=>x[i]?) he; simpa only [fV,hi,Option.map_some,Option.some.injEq] using this
theorem gM.set {nx:Nat}:∀ {s s':List aM} {i:Nat} {r:aM},gM nx s→Ok nx (fun ρ=>r.ren ρ)→gV s i r=some s'→gM nx s'
 | [],_,_,_,_,_,h=>by simp [gV] at h
 | x :: s,s',0,r,hs,hr,h=>by
  simp only [gV,Option.some.injEq] at h; subst h; exact gM.cons hr hs.tail
 | x :: s,s',i + 1,r,hs,hr,h=>by
  simp only [gV] at h; split at h
  ·
   rename_i t ht; simp only [Option.some.injEq] at h; subst h; exact gM.cons (hs.get (i:=0) rfl) (gM.set hs.tail hr ht)
  · cases h
theorem Ok.BA {α β:Type} {nx:Nat} {x:eF→α} {y:eF→β} (g:α→Option β) (hx:Ok nx x) (h:∀ ρ,g (x ρ)=some (y ρ)):Ok nx y:=hx.via fun ρ ρ' he=>by
 have:=congrArg g he; rw [h,h] at this; exact Option.some.inj this
end
end Go.Abs
namespace Go.Abs
variable [cZ]
open Go
section
variable {P : Program} {o : Oper} {ρ : Operand → PV} {σ : List aM} {R S : PV → List aM → Prop}
theorem AO.undef {ρ1:Operand→PV} (h:∀ x,ρ1 x=.undef∨ρ1 x=ρ x) (k:AO P o ρ1 σ R S):AO P o ρ σ R S:=
 fun w m a K QC hr hc hK hS=>k w m a K QC (fun x hx=>by
  rcases h x with e | e
  · rw [e]; simp only [bq]
  · rw [e]; exact hr x hx) hc hK hS
theorem AO.K3 (sz e:Nat) (h:AO P o ρ (.row (.slice none 0 0) 0 sz e :: σ) R S):AO P o ρ σ R S:=by
 intro w m a K QC hr hc hK hS; obtain ⟨h1,h2⟩:=vF hc sz e; exact h w m a K QC hr h1 (fun p σ' v w' m' k1 k2 k3 k4=>hK p σ' v w' m' k1 k2 k3 (h2.trans k4)) (fun p σ' v w' m' k1 k2 k3 k4=>hS p σ' v w' m' k1 k2 k3 (h2.trans k4))
theorem AO.JZ {c:Call} {f:FuncId} {caps:List PV} (ho:o.op=.call c) (rW:Operand) (cK:c.callee=.value rW) (hf:ρ rW=.fn f caps) (hp:bF P f=true)
  (h:AC P f (c.args.toList.map ρ ++ caps) σ fun out σ'=>match out with | .ret p=>R p σ' | .panic p=>S p σ'):AO P o ρ σ R S:=by
 intro w m a K QC hr hc hK hS; have hcr:=hr rW (by simp [ho,Op.operands,Call.operands,cK]); rw [hf] at hcr; simp only [bq] at hcr; obtain ⟨cs,hcv,hcs⟩:=hcr; have hargs:aN w m (c.args.toList.map ρ) (c.args.toList.map a.eval):=aN.map fun x hx=>hr x (by simp [ho,Op.operands,Call.operands,cK]; exact .inr (by simpa using hx))
 have hrun:(execOp a.eval o).run P w=.ok (.enter f (c.args.toList.map a.eval ++ cs).toArray) w:=by
  unfold execOp; simp only [ho,resolve,cK,hcv,Deferred.ofValue,invoke,Sem.run_bind,Sem.run_pure,Result.andThen_ok]; rw [qA hp]; congr 2; apply Array.ext'; simp
 unfold Oper.wp; rw [hrun,Oper.upon_enter]; refine (h w m _ hc (hargs.append hcs)).mono ?_; rintro e w' ⟨out,σ',m',h1,h2,h3,h4⟩; cases out with
 | ret p=>
  obtain ⟨v,rfl,hv⟩:=h2; exact hK p σ' v w' m' h1 hv h3 h4
 | panic p=>
  obtain ⟨v,rfl,hv⟩:=h2; exact hS p σ' v w' m' h1 hv h3 h4
def yE :PV→Option Bool
 | .own (.slice none 0 0) []=>some true
 | .own _ (_ :: _)=>some false
 | .list (_ :: _)=>some false
 | _=>none
theorem D7 {w:World} {m:dx} {p:PV} {b:Bool} {v:Value} (h:yE p=some b) (hv:bq w m p v):∃ a n c,v=.slice a n c∧a.isNone=b:=by
 unfold yE at h; split at h
 ·
  simp only [Option.some.injEq] at h; subst h; simp only [bq] at hv; exact ⟨none,0,0,hv.1,rfl⟩
 ·
  simp only [Option.some.injEq] at h; subst h; simp only [bq] at hv; obtain ⟨_,a,cap,h1,_,h3⟩:=hv; refine ⟨a,_,cap,h1,?_⟩; rcases h3 with h3 | ⟨bk,off,sz,rfl,_⟩
  · cases h3
  · rfl
 ·
  simp only [Option.some.injEq] at h; subst h; simp only [bq] at hv; obtain ⟨a,cap,h1,_,h3⟩:=hv; refine ⟨a,_,cap,h1,?_⟩; rcases h3 with h3 | ⟨bk,off,sz,rfl,_⟩
  · cases h3
  · rfl
 · cases h
theorem xE (w:World) (t e:TypeId) (a:Option Addr) (l c:Nat) (h:P.underlying t=some (.slice e)):(Op.equal t (.slice a l c) (.slice none 0 0)).run P w=.ok a.isNone w:=by
 have h:∀ d:Nat,(Op.equalIn (d + 1) t (.slice a l c) (.slice none 0 0)).run P w=.ok a.isNone w:=fun d=>by
  cases a <;> simp [Op.equalIn,run_underlying h]
 simp [Op.equal,Op.maxDepth,h 9999]
theorem AO.D8 {t e yt:TypeId} {x:Operand} {b r:Bool} {op:BinOp} (ho:o.op=.binOp op t x (.const (.slice none 0 0)) yt) (hx:yE (ρ x)=some b) (hu:P.underlying t=some (.slice e))
  (hop:(match op with | .eql=>some b | .neq=>some (!b) | _=>none)=some r) (hR:R (.bool r) σ):AO P o ρ σ R S:=by
 intro w m a K QC hr hc hK _; have hv:=hr x (by simp [ho,Op.operands]); obtain ⟨ad,n,c,e1,e2⟩:=D7 hx hv; have hev:a.eval (.const (.slice none 0 0))=.slice none 0 0:=rfl
 have hrun:(execOp a.eval o).run P w=.ok (.value (.bool r)) w:=by
  cases op <;> simp only [reduceCtorEq,Option.some.injEq] at hop <;> subst hop
  ·
   simp only [execOp,ho,hev,e1,Sem.run_bind]; rw [show eqGuard .eql t x (.const (.slice none 0 0)) (.slice ad n c) (.slice none 0 0)=pure () from rfl]; simp only [Sem.run_pure,Result.andThen_ok,nS w t e ad n c hu,e2]
  ·
   simp only [execOp,ho,hev,e1,Sem.run_bind]; rw [show eqGuard .neq t x (.const (.slice none 0 0)) (.slice ad n c) (.slice none 0 0)=pure () from rfl]; simp only [Sem.run_pure,Result.andThen_ok,binOp,Sem.run_bind,xE w t e ad n c hu,e2]
 unfold Oper.wp; rw [hrun]; exact hK _ σ _ w m hR (by simp only [bq]) hc (Trans.refl ..)
theorem AO.AY {t e sz bytes len:Nat} {parts:Array (Nat × Operand)} {cells:List PV} {l:List (List PV)} (ho:o.op=.buildSlice t len parts) (hs:dL P t e sz bytes) (hle:Nat.ble (len * sz) 16777216=true)
  (hf:iN (fun i=>some (i * sz,sz)) (List.replicate (len * sz) .undef) (parts.toList.map fun x=>(x.1,ρ x.2))=some cells) (hl:iO sz len cells=some l) (hlen:Nat.ble len 16777216=true) (hR:∀ v,R (.own v l) (.row v len sz e :: σ)):AO P o ρ σ R S:=by
 refine AO.of_run' fun w m ev hr hc=>?_; obtain ⟨vs,h1,h2,h3⟩:=run_buildSlice (ρ:=ρ) (ev:=ev) hs hle (fun x hx=>hr x.2 (by simp only [ho,Op.operands]; simpa using ⟨x.1,by simpa using hx⟩)) hf (l:=l); obtain ⟨hl1,hl2,hl3⟩:=mM hl; have hlen:=Nat.le_of_ble_eq_true hlen; have hc':=ji hc (.cells vs.toArray e) (fun off=>off < len * sz)
 have hrow:gW (w.alloc (.cells vs.toArray e)) e sz (.slice (some ⟨w.heap.size,0,none⟩) len len) len vs:=
  ⟨h3,.inr ⟨w.heap.size,len,vs.toArray,(0,0),rfl,heap_alloc_new w _,.inl rfl,Nat.le_refl _,by unfold maxLen; omega,by simp [h3],by rw [←h3]; simp⟩⟩
 refine ⟨.own (.slice (some ⟨w.heap.size,0,none⟩) len len) l,_,.slice (some ⟨w.heap.size,0,none⟩) len len,_,_,hR _,by simp only [execOp,ho,Sem.run_bind,h1,Result.andThen_ok,Sem.run_pure],?_,⟨fun r hr'=>?_,?_,hc'.wf,hc'.kX⟩,eX hc _ _ fun b hb=>?_⟩
 ·
  simp only [bq]; refine ⟨trivial,some ⟨w.heap.size,0,none⟩,len,by rw [hl1],by omega,.inr ⟨w.heap.size,0,sz,rfl,fD.2 ⟨hl3,?_⟩⟩⟩; rw [hl2]; refine eH.2 ⟨vs,aN.mono (lF w m _ hc.wf _) _ vs h2,fun i v hv=>⟨.inr ⟨rfl,?_⟩,?_⟩⟩
  ·
   rw [Nat.zero_add,←h3]; rcases Nat.lt_or_ge i vs.length with h | h
   · exact h
   · simp [List.getElem?_eq_none h] at hv
  ·
   rw [Nat.zero_add,World.cell?_alloc_new]; simpa using hv
 ·
  rcases List.mem_cons.1 hr' with rfl | hr'
  ·
   refine ⟨vs,hrow,fun b hb off hm=>?_⟩; have hb:w.heap.size=b:=by simpa [Value.ownBlock] using hb
   rcases hm with hm | ⟨_,hm⟩
   · have:=hc.wf b off hm; omega
   · exact hm
  · exact hc'.each r hr'
 ·
  simp only [fI,List.flatMap_cons,aM.fp,Value.ownBlock,Option.toList_some,List.singleton_append,List.nodup_cons]; refine ⟨fun hm=>?_,hc.apart⟩; have:=hc.rP _ hm; omega
 ·
  simp only [fI,List.flatMap_cons,aM.fp,Value.ownBlock,Option.toList_some,List.singleton_append,List.mem_cons] at hb; rcases hb with hb | hb
  · exact .inr hb
  · exact .inl hb
theorem AO.vY {c:Call} {x y:Operand} {pt it:TypeId} (ho:o.op=.call c) (cK:c.callee=.builtin .unsafeString) (hargs:c.args=#[x,y]) (hty:c.argTypes=#[pt,it])
  (hx:ρ x=.val (.pointer none)) (hy:ρ y=.int .i64 0) (hR:R (.str []) σ):AO P o ρ σ R S:=by
 refine AO.of_same hR fun w m ev hr hc=>?_; have h1:=hr x (by simp [ho,Op.operands,Call.operands,cK,hargs]); have h2:=hr y (by simp [ho,Op.operands,Call.operands,cK,hargs]); rw [hx] at h1; rw [hy] at h2; simp only [bq] at h1 h2; have hrun:=Lib.run_unsafeString_none (P:=P) w pt it o.type none; refine ⟨.string .empty,?_,by simp only [bq]; rfl⟩; simp [execOp,ho,resolve,cK,hargs,hty,invoke,builtin,h1,h2,hrun]
def wR :PV→PV→Option Bool
 | .int k a,.int k' b=>bif CY k k' then some (a == b) else none
 | .str a,.str b=>some (a == b)
 | _,_=>none
def ko (k:PV):List (Nat × PV × PV)→Nat→Option (Option (Nat × PV))
 | [],_=>some none
 | (_,k',v) :: r,i=>match wR k k' with
  | some true=>some (some (i,v))
  | some false=>ko k r (i + 1)
  | none=>none
def Aa (k v:PV):List (Nat × PV × PV)→Nat→List (Nat × PV × PV)
 | [],_=>[]
 | (b,_,_) :: r,0=>(b,k,v) :: r
 | x :: r,i + 1=>x :: Aa k v r i
def uR (P:Program) (t:TypeId):Option (TypeId × TypeId):=
 match P.underlying t with
 | some (.map kt et)=>match P.underlying kt with
  | some (.int _)=>some (kt,et)
  | some .string=>some (kt,et)
  | _=>none
 | _=>none
theorem kW {t kt et:TypeId} (h:uR P t=some (kt,et)):P.underlying t=some (.map kt et)∧((∃ k,P.underlying kt=some (.int k))∨P.underlying kt=some .string):=by
 unfold uR at h; split at h
 ·
  rename_i MU MX hu; split at h
  ·
   rename_i k hk; simp only [Option.some.injEq,Prod.mk.injEq] at h; obtain ⟨rfl,rfl⟩:=h; exact ⟨hu,.inl ⟨k,hk⟩⟩
  ·
   rename_i hk; simp only [Option.some.injEq,Prod.mk.injEq] at h; obtain ⟨rfl,rfl⟩:=h; exact ⟨hu,.inr hk⟩
  · cases h
 · cases h
theorem wQ {w:World} {m:dx} {p q:PV} {u v:Value} {b:Bool} {d:TypeDesc} (h:wR p q=some b) (hu:bq w m p u) (hv:bq w m q v) (hd:((∃ k,d=.int k)∧∃ k n,p=.int k n)∨(d=.string∧∃ s,p=.str s)):
  Instr.sameNow d u v=some b∧(b=true→u=v):=by
 cases p <;> cases q <;> simp only [wR,reduceCtorEq] at h
 ·
  rename_i k n k' n'; cases e:CY k k' with
  | false=>rw [e] at h; cases h
  | true=>
   cases uT e; rw [e] at h; simp only [cond_true,Option.some.injEq] at h; subst h; simp only [bq] at hu hv; subst hu hv; rcases hd with ⟨⟨kk,rfl⟩,_⟩ | ⟨_,s,hs⟩
   · exact ⟨by simp [Instr.sameNow],fun h=>by simp at h; rw [h]⟩
   · cases hs
 ·
  rename_i s s'; simp only [Option.some.injEq] at h; subst h; simp only [bq] at hu hv; subst hu hv; rcases hd with ⟨_,k,n,hs⟩ | ⟨rfl,_⟩
  · cases hs
  · exact ⟨by simp only [Instr.sameNow]; rw [EO],fun h=>by simp at h; rw [h]⟩
theorem fC.length_eq {w:World} {m:dx}:∀ {es:List (Nat × PV × PV)} {ents:List MapEntry},fC w m es ents→ents.length=es.length
 | [],_,h=>by simp only [fC] at h; rw [h]; rfl
 | (_,_,_) :: es,_,h=>by
  simp only [fC] at h; obtain ⟨e,es',rfl,_,_,_,h5⟩:=h; simp [fC.length_eq h5]
theorem rQ {w:World} {m:dx} {kp:PV} {kv:Value} {d:TypeDesc} (hk:bq w m kp kv) (hd:((∃ k,d=.int k)∧∃ k n,kp=.int k n)∨(d=.string∧∃ s,kp=.str s)):
  ∀ {es:List (Nat × PV × PV)} {ents:List MapEntry} (i:Nat) {r:Option (Nat × PV)},fC w m es ents→ko kp es i=some r→
   match r with
   | none=>Instr.findNow d kv ents i=some none
   | some (j,p)=>∃ q v,j=i + q∧Instr.findNow d kv ents i=some (some (j,v))∧bq w m p v∧(∃ e,ents[q]?=some e∧e.key=kv)
 | [],ents,i,r,h,hf=>by
  simp only [fC] at h; subst h; simp only [ko,Option.some.injEq] at hf; subst hf; rfl
 | (b,k',v') :: es,ents,i,r,h,hf=>by
  simp only [fC] at h; obtain ⟨e,es',rfl,h2,h3,h4,h5⟩:=h; simp only [ko] at hf; split at hf
  ·
   rename_i hq; simp only [Option.some.injEq] at hf; subst hf; obtain ⟨g1,g2⟩:=wQ hq hk h3 hd; exact ⟨0,e.val,rfl,by simp only [Instr.findNow,g1],h4,e,rfl,(g2 rfl).symm⟩
  ·
   rename_i hq; obtain ⟨g1,g2⟩:=wQ hq hk h3 hd; have ih:=rQ hk hd (i + 1) h5 hf; cases r with
   | none=>simpa only [Instr.findNow,g1] using ih
   | some jp=>
    obtain ⟨j,p⟩:=jp; obtain ⟨q,v,e1,e2,e3,e4,e5,e6⟩:=ih; exact ⟨q + 1,v,by omega,by simpa only [Instr.findNow,g1] using e2,e3,e4,by simpa using e5,e6⟩
  · cases hf
theorem fC.append {w:World} {m:dx} {i:Nat} {k v:PV} {e:MapEntry} (hb:e.born=i) (hk:bq w m k e.key) (hv:bq w m v e.val):∀ {es:List (Nat × PV × PV)} {ents:List MapEntry},fC w m es ents→fC w m (es ++ [(i,k,v)]) (ents ++ [e])
 | [],_,h=>by simp only [fC] at h; subst h; exact ⟨e,[],rfl,hb,hk,hv,rfl⟩
 | (_,_,_) :: _,_,⟨e',es',h1,h2,h3,h4,h5⟩=>by subst h1; exact ⟨e',es' ++ [e],rfl,h2,h3,h4,fC.append hb hk hv h5⟩
theorem fC.modify {w:World} {m:dx} {k v:PV} {kv vv:Value} (hk:bq w m k kv) (hv:bq w m v vv):∀ {es:List (Nat × PV × PV)} {ents:List MapEntry} (q:Nat),fC w m es ents→fC w m (Aa k v es q) (ents.modify q fun e=>{e with key:=kv,val:=vv})
 | [],_,q,h=>by simp only [fC] at h; subst h; cases q <;> rfl
 | (_,_,_) :: _,_,0,⟨e',es',h1,h2,h3,h4,h5⟩=>by subst h1; exact ⟨_,es',rfl,h2,hk,hv,h5⟩
 | (_,_,_) :: _,_,q + 1,⟨e',es',h1,h2,h3,h4,h5⟩=>by subst h1; exact ⟨e',_,rfl,h2,h3,h4,fC.modify hk hv q h5⟩
theorem Cm {t kt et:TypeId} {y:PV} (ht:uR P t=some (kt,et)) (hk:(match P.underlying kt,y with | some (.int _),.int _ _=>true | some .string,.str _=>true | _,_=>false)=true):
  ∃ d,P.underlying kt=some d∧(((∃ k,d=.int k)∧∃ k n,y=.int k n)∨(d=.string∧∃ s,y=.str s)):=by
 obtain ⟨_,h2⟩:=kW ht; rcases h2 with ⟨k,h2⟩ | h2
 ·
  rw [h2] at hk; cases y <;> simp only [Bool.false_eq_true] at hk; exact ⟨_,h2,.inl ⟨⟨k,rfl⟩,_,_,rfl⟩⟩
 ·
  rw [h2] at hk; cases y <;> simp only [Bool.false_eq_true] at hk; exact ⟨_,h2,.inr ⟨rfl,_,rfl⟩⟩
def qN (P:Program) (kt:TypeId) (y:PV):Bool:=match P.underlying kt,y with | some (.int _),.int _ _=>true | some .string,.str _=>true | _,_=>false
theorem nI {kt:TypeId} {d:TypeDesc} {y:PV} {kv:Value} {w:World} {m:dx} (h:P.underlying kt=some d) (hd:((∃ k,d=.int k)∧∃ k n,y=.int k n)∨(d=.string∧∃ s,y=.str s)) (hy:bq w m y kv) (b:Bool) (n:Nat):
  (Instr.checkKey b (n + 1) kt kv).run P w=.ok () w:=by
 rcases hd with ⟨⟨k,rfl⟩,k',n',rfl⟩ | ⟨rfl,s,rfl⟩
 · simp only [bq] at hy; subst hy; simp [Instr.checkKey,run_underlying h]
 · simp only [bq] at hy; subst hy; simp [Instr.checkKey,run_underlying h]
theorem AO.Ec {t:TypeId} (ho:o.op=.makeMap t none) (hR:∀ b,R (.val (.map (some b))) (.mp b [] 0 :: σ)):AO P o ρ σ R S:=by
 refine AO.of_run' fun w m ev hr hc=>?_; have hal:=rY hc (.map #[] 0); refine ⟨_,_,.map (some w.heap.size),_,_,hR w.heap.size,?_,by simp [bq],⟨fun r hr'=>?_,?_,hal.wf,hal.kX⟩,eX hc _ _ fun b hb=>?_⟩
 · simp [execOp,ho,Instr.makeMap,go_sem]
 ·
  rcases List.mem_cons.1 hr' with rfl | hr'
  ·
   have:=hal.each (.obj w.heap.size (.map #[] 0)) (by simp); exact ⟨⟨[],this.1,rfl⟩,this.2⟩
  · exact hal.each r (by simp [hr'])
 · exact hal.apart
 ·
  simp [fI,aM.fp] at hb ⊢; rcases hb with hb | hb
  · exact .inr hb
  · exact .inl hb
theorem AO.Cj {t kt et:TypeId} {x y:Operand} {ok:Bool} {es:List (Nat × PV × PV)} {n b i:Nat} {r:Option (Nat × PV)} {z p:PV} (ho:o.op=.lookup t x y ok) (hi:σ[i]?=some (.mp b es n)) (hx:ρ x=.val (.map (some b)))
  (ht:uR P t=some (kt,et)) (hk:qN P kt (ρ y)=true) (hr:ko (ρ y) es 0=some r) (hz:∀ w m,r=none→∃ v,(zeroValue et).run P w=.ok v w∧bq w m z v)
  (hp:p=(match r with | some (_,q)=>bif ok then .tuple [q,.bool true] else q | none=>bif ok then .tuple [z,.bool false] else z)) (hR:R p σ):AO P o ρ σ R S:=by
 refine AO.of_same hR fun w m ev Ik hc=>?_; have h1:=Ik x (by simp [ho,Op.operands]); have h2:=Ik y (by simp [ho,Op.operands]); rw [hx] at h1; simp only [bq] at h1; obtain ⟨⟨ents,hb,he⟩,hm⟩:=hc.each _ (List.mem_of_getElem? hi); obtain ⟨d,hd1,hd2⟩:=Cm ht hk; have f1:=rQ h2 hd2 0 he hr; have hg:(getObj b).run P w=.ok (.map ents.toArray n) w:=run_getObj_map hb; have hck:=nI (P:=P) hd1 hd2 h2; cases r with
 | none=>
  obtain ⟨zv,z1,z2⟩:=hz w m rfl; have hf:(Instr.findKey kt (ev y) ents).run P w=.ok none w:=by simp [Instr.findKey,run_underlying hd1,f1]
  refine ⟨if ok then .tuple #[zv,.bool false] else zv,?_,?_⟩
  · simp only [execOp,ho,Instr.lookup,h1,Sem.run_bind,run_underlying (kW ht).1,Result.andThen_ok,hg,Sem.run_pure,hck,List.toList_toArray,hf,z1]
  ·
   subst hp; cases ok
   · exact z2
   ·
    simp only [cond_true,if_true,bq]; exact ⟨_,rfl,aN.cons z2 (aN.cons (by simp only [bq]) aN.nil)⟩
 | some jp=>
  obtain ⟨j,q⟩:=jp; obtain ⟨_,v,_,f2,f3,_⟩:=f1; have hf:(Instr.findKey kt (ev y) ents).run P w=.ok (some (j,v)) w:=by simp [Instr.findKey,run_underlying hd1,f2]
  refine ⟨if ok then .tuple #[v,.bool true] else v,?_,?_⟩
  · simp only [execOp,ho,Instr.lookup,h1,Sem.run_bind,run_underlying (kW ht).1,Result.andThen_ok,hg,Sem.run_pure,hck,List.toList_toArray,hf]
  ·
   subst hp; cases ok
   · exact f3
   ·
    simp only [cond_true,if_true,bq]; exact ⟨_,rfl,aN.cons f3 (aN.cons (by simp only [bq]) aN.nil)⟩
theorem AO.uJ {t kt et:TypeId} {x y z:Operand} {es es':List (Nat × PV × PV)} {n n' b i:Nat} {r:Option (Nat × PV)} {σ':List aM} (ho:o.op=.mapUpdate t x y z) (hi:σ[i]?=some (.mp b es n)) (hx:ρ x=.val (.map (some b)))
  (ht:uR P t=some (kt,et)) (hk:qN P kt (ρ y)=true) (hr:ko (ρ y) es 0=some r)
  (he:(es',n')=(match r with | some (j,_)=>(Aa (ρ y) (ρ z) es j,n) | none=>(es ++ [(n,ρ y,ρ z)],n + 1))) (hset:gV σ i (.mp b es' n')=some σ') (hR:R .undef σ'):AO P o ρ σ R S:=by
 intro w m a K QC Ik hc hK _; have h1:=Ik x (by simp [ho,Op.operands]); have h2:=Ik y (by simp [ho,Op.operands]); have h3:=Ik z (by simp [ho,Op.operands]); rw [hx] at h1; simp only [bq] at h1; obtain ⟨⟨ents,hb,hE⟩,hm⟩:=hc.each _ (List.mem_of_getElem? hi); obtain ⟨d,hd1,hd2⟩:=Cm ht hk; have f1:=rQ h2 hd2 0 hE hr; have hg:(getObj b).run P w=.ok (.map ents.toArray n) w:=run_getObj_map hb; have hck:=nI (P:=P) hd1 hd2 h2
 have hblt:b < w.heap.size:=by
  rcases Nat.lt_or_ge b w.heap.size with h | h
  · exact h
  · simp [Array.getElem?_eq_none h] at hb
 have fin:∀ wW:List MapEntry,fC w m es' wW→(execOp a.eval o).run P w=.ok .skip {w with heap:=w.heap.setIfInBounds b (.map wW.toArray n')}→o.wp P a w K QC:=by
  intro wW hE' hrun; let w':World:={w with heap:=w.heap.setIfInBounds b (.map wW.toArray n')}; have hb':w'.heap[b]?=some (.map wW.toArray n'):=by simp [w',hblt]
  have hother:∀ k,k≠b→w'.heap[k]?=w.heap[k]?:=fun k hk=>by simp [w',Array.getElem?_setIfInBounds_ne (Ne.symm hk)]
  have hle:Le w m w' m:=fun c off hco=>⟨hco,World.cell?_of_block (w:=w) (hother c (fun e=>by subst e; exact hm off hco))⟩; obtain ⟨k1,k2⟩:=Conc.write (w':=w') (r':=.mp b es' n') hc hi rfl rfl hm ⟨⟨wW,hb',hE'.mono hle⟩,hm⟩ ⟨rfl,rfl,rfl⟩ (by simp [w']) hother; rw [←tq hset] at k1 k2; unfold Oper.wp; rw [hrun]; exact hK _ _ _ _ _ hR trivial k1 k2
 have hst:=fun o'=>run_setObj_map (P:=P) (w:=w) (b:=b) (c:=n) (es:=ents.toArray) hb o'; cases r with
 | none=>
  simp only [Prod.mk.injEq] at he; obtain ⟨rfl,rfl⟩:=he; have hf:(Instr.findKey kt (a.eval y) ents).run P w=.ok none w:=by simp [Instr.findKey,run_underlying hd1,f1]
  refine fin (ents ++ [{key:=a.eval y,val:=a.eval z,born:=n}]) (fC.append (e:={key:=a.eval y,val:=a.eval z,born:=n}) rfl h2 h3 hE) ?_; simp only [execOp,ho,Instr.mapUpdate,h1,Sem.run_bind,run_underlying (kW ht).1,Result.andThen_ok,hg,hck,List.toList_toArray,hf]; simp [hst]
 | some jp=>
  obtain ⟨j,q⟩:=jp; simp only [Prod.mk.injEq] at he; obtain ⟨rfl,rfl⟩:=he; obtain ⟨q',v,e1,f2,f3,e,g1,g2⟩:=f1; have e1:j=q':=by omega
  subst e1; have hf:(Instr.findKey kt (a.eval y) ents).run P w=.ok (some (j,v)) w:=by simp [Instr.findKey,run_underlying hd1,f2]
  refine fin (ents.modify j fun e=>{e with key:=a.eval y,val:=a.eval z}) (fC.modify h2 h3 j hE) ?_
  have hsb:Instr.sameBits 10000 (a.eval y) (a.eval y)=true:=by
   rcases hd2 with ⟨_,k',n'',hy⟩ | ⟨_,s',hy⟩ <;> rw [hy] at h2 <;> simp only [bq] at h2 <;> rw [h2] <;> simp [Instr.sameBits,EO]
  simp only [execOp,ho,Instr.mapUpdate,h1,Sem.run_bind,run_underlying (kW ht).1,Result.andThen_ok,hg,hck,List.toList_toArray,hf]; simp [Instr.keyThatStays,g1,g2,hsb,hst]
theorem fC.filter {w:World} {m:dx} (f:Nat→Bool):∀ {es:List (Nat × PV × PV)} {ents:List MapEntry},fC w m es ents→fC w m (es.filter fun e=>f e.1) (ents.filter fun e=>f e.born)
 | [],_,h=>by simp only [fC] at h; subst h; rfl
 | (i,k,v) :: es,_,⟨e,es',h1,h2,h3,h4,h5⟩=>by
  subst h1 h2; simp only [List.filter_cons]; cases f e.born with
  | true=>exact ⟨e,_,rfl,rfl,h3,h4,fC.filter f h5⟩
  | false=>exact fC.filter f h5
theorem fC.any {w:World} {m:dx} (f:Nat→Bool):∀ {es:List (Nat × PV × PV)} {ents:List MapEntry},fC w m es ents→ents.any (fun e=>f e.born)=es.any fun e=>f e.1
 | [],_,h=>by simp only [fC] at h; subst h; rfl
 | (i,k,v) :: es,_,⟨e,es',h1,h2,h3,h4,h5⟩=>by subst h1 h2; simp only [List.any_cons,fC.any f h5]
theorem fC.find {w:World} {m:dx} (f:Nat→Bool):∀ {es:List (Nat × PV × PV)} {ents:List MapEntry} {x:Nat × PV × PV},fC w m es ents→es.find? (fun e=>f e.1)=some x→∃ e,ents.find? (fun e=>f e.born)=some e∧bq w m x.2.1 e.key∧bq w m x.2.2 e.val
 | [],_,_,_,hx=>by cases hx
 | (i,k,v) :: es,_,x,⟨e,es',h1,h2,h3,h4,h5⟩,hx=>by
  subst h1 h2; simp only [List.find?_cons] at hx ⊢; cases hf:f e.born with
  | true=>rw [hf] at hx; cases hx; exact ⟨e,rfl,h3,h4⟩
  | false=>rw [hf] at hx; exact fC.find f h5 hx
theorem AO.DT {t kt et:TypeId} {x:Operand} {es:List (Nat × PV × PV)} {n mb i:Nat} (ho:o.op=.range t x) (hi:σ[i]?=some (.mp mb es n)) (hx:ρ x=.val (.map (some mb))) (ht:P.underlying t=some (.map kt et))
  (hR:∀ b,R (.val (.pointer (some ⟨b,0,none⟩))) (.obj b (.mapIter (some mb) n #[] n) :: σ)):AO P o ρ σ R S:=by
 refine AO.of_run' fun w m ev hr hc=>?_; have h1:=hr x (by simp [ho,Op.operands]); rw [hx] at h1; simp only [bq] at h1; obtain ⟨⟨ents,hb,he⟩,hm⟩:=hc.each _ (List.mem_of_getElem? hi); have hg:(getObj mb).run P w=.ok (.map ents.toArray n) w:=run_getObj_map hb; have:=rY hc (.mapIter (some mb) n #[] n); refine ⟨_,_,.pointer (some ⟨w.heap.size,0,none⟩),_,_,hR w.heap.size,?_,by simp [bq],this,eX hc _ _ fun b hb=>?_⟩
 · simp [execOp,ho,Instr.range,run_underlying ht,h1,hg,go_sem]
 ·
  simp [fI,aM.fp] at hb ⊢; rcases hb with hb | hb
  · exact .inr hb
  · exact .inl hb
theorem lY {w:World} {b:Nat} {mp:Option Nat} {s:Nat} {seen:Array Nat} {l:Nat} (h:w.heap[b]?=some (.mapIter mp s seen l)):(getObj b).run P w=.ok (.mapIter mp s seen l) w:=by simp [getObj,Sem.run,h]
theorem wh {w:World} {b:Nat} {mp:Option Nat} {s:Nat} {seen:Array Nat} {l:Nat} (h:w.heap[b]?=some (.mapIter mp s seen l)) (o:Obj):(setObj b o).run P w=.ok () {w with heap:=w.heap.setIfInBounds b o}:=by simp [setObj,Sem.run,h]
theorem J5 (a b:Nat):(a == b)=Nat.beq a b:=by rw [Bool.eq_iff_iff]; simp [Nat.beq_eq]
theorem Cg (seen:List Nat) (ents:List MapEntry):(ents.toArray.filter fun e=>!seen.toArray.contains e.born)=(ents.filter fun e=>!seen.any (Nat.beq e.born)).toArray:=by
 rw [List.filter_toArray]; congr 2; funext e; rw [List.contains_toArray]; congr 1
 induction seen with
 | nil=>rfl
 | cons a l ih=>simp only [List.contains_cons,List.any_cons,ih,J5]
theorem Aq {w:World} {m:dx} {es:List (Nat × PV × PV)} {ents:List MapEntry} {last:Nat} {seen:List Nat} (he:fC w m es ents) (hg:(seen.isEmpty || es.isEmpty || es.any fun e=>Nat.blt e.1 last)=true):
  (!seen.toArray.isEmpty && !ents.toArray.isEmpty && ents.toArray.all fun e=>decide (e.born ≥ last))=false:=by
 have hl:=he.length_eq; have hany:=fC.any (fun k=>Nat.blt k last) he; simp only [Bool.or_eq_true] at hg; rcases hg with (hg | hg) | hg
 · simp only [List.isEmpty_iff] at hg; subst hg; rfl
 ·
  simp only [List.isEmpty_iff] at hg; subst hg; have:ents=[]:=by simpa using hl
  subst this; simp
 ·
  rw [hg,List.any_eq_true] at hany; obtain ⟨e,h1,h2⟩:=hany; have h3:e.born < last:=Nat.le_of_ble_eq_true h2; simp only [Bool.and_eq_false_iff]; right; rw [List.all_toArray,List.all_eq_false]; exact ⟨e,h1,by simpa using h3⟩
theorem AO.D_ {x:Operand} {es:List (Nat × PV × PV)} {n mb b i j since last:Nat} {seen:List Nat} (ho:o.op=.next x false) (hx:ρ x=.val (.pointer (some ⟨b,0,none⟩))) (hi:σ[i]?=some (.obj b (.mapIter (some mb) since seen.toArray last)))
  (hj:σ[j]?=some (.mp mb es n)) (hl:es.filter (fun e=>!seen.any (Nat.beq e.1))=[]) (hg:(seen.isEmpty || es.isEmpty || es.any fun e=>Nat.blt e.1 last)=true) (hR:R (.tuple [.bool false]) σ):AO P o ρ σ R S:=by
 refine AO.of_same hR fun w m ev hr hc=>?_; have h1:=hr x (by simp [ho,Op.operands]); rw [hx] at h1; simp only [bq] at h1; obtain ⟨hb,_⟩:=hc.each _ (List.mem_of_getElem? hi); obtain ⟨⟨ents,hmb,he⟩,_⟩:=hc.each _ (List.mem_of_getElem? hj); have g1:=lY (P:=P) hb; have g2:(getObj mb).run P w=.ok (.map ents.toArray n) w:=run_getObj_map hmb; have hf:=fC.filter (fun k=>!seen.any (Nat.beq k)) he; rw [hl] at hf; simp only [fC] at hf; have hguard:=Aq he hg; have hleft:=Cg seen ents; rw [hf] at hleft; refine ⟨.tuple #[.bool false],?_,by simp only [bq]; exact ⟨_,rfl,aN.cons rfl aN.nil⟩⟩; simp only [execOp,ho,Instr.next,h1,Sem.run_bind,g1,Result.andThen_ok,g2,hguard,hleft]; simp [Question.forced]
theorem AO.D9 {x:Operand} {es:List (Nat × PV × PV)} {n mb b i j since last born:Nat} {kp vp:PV} {seen:List Nat} {σ':List aM} (ho:o.op=.next x false) (hx:ρ x=.val (.pointer (some ⟨b,0,none⟩))) (hi:σ[i]?=some (.obj b (.mapIter (some mb) since seen.toArray last)))
  (hj:σ[j]?=some (.mp mb es n)) (hl:es.filter (fun e=>!seen.any (Nat.beq e.1))=[(born,kp,vp)]) (hlt:Nat.blt born since=true) (hg:(seen.isEmpty || es.isEmpty || es.any fun e=>Nat.blt e.1 last)=true)
  (hset:gV σ i (.obj b (.mapIter (some mb) since (seen ++ [born]).toArray n))=some σ') (hR:R (.tuple [.bool true,kp,vp]) σ'):AO P o ρ σ R S:=by
 refine AO.of_run' fun w m ev hr hc=>?_; have h1:=hr x (by simp [ho,Op.operands]); rw [hx] at h1; simp only [bq] at h1; obtain ⟨hb,hm⟩:=hc.each _ (List.mem_of_getElem? hi); obtain ⟨⟨ents,hmb,he⟩,_⟩:=hc.each _ (List.mem_of_getElem? hj); have g1:=lY (P:=P) hb; have g2:(getObj mb).run P w=.ok (.map ents.toArray n) w:=run_getObj_map hmb; have g3:=fun o'=>wh (P:=P) hb o'
 have hblt:b < w.heap.size:=by
  rcases Nat.lt_or_ge b w.heap.size with h | h
  · exact h
  · simp [Array.getElem?_eq_none h] at hb
 have hf:=fC.filter (fun k=>!seen.any (Nat.beq k)) he; rw [hl] at hf; simp only [fC] at hf; obtain ⟨e,es2,e1,e2,e3,e4,rfl⟩:=hf; have hguard:=Aq he hg; have hleft:=Cg seen ents; rw [e1] at hleft; subst e2; have hlt2:e.born < since:=Nat.le_of_ble_eq_true hlt; let w':World:={w with heap:=w.heap.setIfInBounds b (.mapIter (some mb) since (seen ++ [e.born]).toArray n)}; have hb':w'.heap[b]?=some (.mapIter (some mb) since (seen ++ [e.born]).toArray n):=by simp [w',hblt]
 obtain ⟨k1,k2⟩:=Conc.write (w':=w') (r':=.obj b (.mapIter (some mb) since (seen ++ [e.born]).toArray n)) hc hi rfl rfl hm ⟨hb',hm⟩ ⟨rfl,rfl,rfl⟩ (by simp [w']) (fun k hk=>by simp [w',Array.getElem?_setIfInBounds_ne (Ne.symm hk)]); rw [←tq hset] at k1 k2; refine ⟨_,_,.tuple #[.bool true,e.key,e.val],w',m,hR,?_,by simp only [bq]; exact ⟨_,rfl,aN.cons (by simp only [bq]) (aN.cons (e3.mono k2.le _ _) (aN.cons (e4.mono k2.le _ _) aN.nil))⟩,k1,k2⟩; simp only [execOp,ho,Instr.next,h1,Sem.run_bind,g1,Result.andThen_ok,g2,hguard,hleft]; have hge:¬ since≤e.born:=by omega
 simp [Question.forced,hlt2,hge,g3,w',List.filter_cons]
theorem AO.Eu {x:Operand} {es:List (Nat × PV × PV)} {n mb b i j since st born:Nat} {kp vp:PV} {seen:List Nat} (ho:o.op=.entry x) (hx:ρ x=.val (.pointer (some ⟨b,0,none⟩))) (hi:σ[i]?=some (.obj b (.mapIter (some mb) since seen.toArray n)))
  (hj:σ[j]?=some (.mp mb es n)) (hs:seen.getLast?=some st) (hl:es.find? (fun e=>Nat.beq e.1 st)=some (born,kp,vp)) (hR:R (.tuple [kp,vp]) σ):AO P o ρ σ R S:=by
 refine AO.of_same hR fun w m ev hr hc=>?_; have h1:=hr x (by simp [ho,Op.operands]); rw [hx] at h1; simp only [bq] at h1; obtain ⟨hb,_⟩:=hc.each _ (List.mem_of_getElem? hi); obtain ⟨⟨ents,hmb,he⟩,_⟩:=hc.each _ (List.mem_of_getElem? hj); have g1:=lY (P:=P) hb; have g2:(getObj mb).run P w=.ok (.map ents.toArray n) w:=run_getObj_map hmb; obtain ⟨e,f1,f2,f3⟩:=fC.find (fun k=>Nat.beq k st) he hl
 have Me:(ents.toArray.find? fun e=>e.born == st)=some e:=by
  rw [List.find?_toArray,←f1]; congr 1; funext e; exact J5 _ _
 have hb2:seen.toArray.back?=some st:=by rw [←hs]; simp
 refine ⟨.tuple #[e.key,e.val],?_,by simp only [bq]; exact ⟨_,rfl,aN.cons f2 (aN.cons f3 aN.nil)⟩⟩; simp only [execOp,ho,Instr.entry,h1,Sem.run_bind,g1,Result.andThen_ok,g2,hb2,Me]; simp [g2,Me]
end
end Go.Abs
namespace Go.Abs
variable [cZ]
open Go
def kI :List aM→Nat→Nat→Option (Nat × List PV)
 | [],_,_=>none
 | .box b cs :: r,k,i=>bif Nat.beq b k then some (i,cs) else kI r k (i + 1)
 | _ :: r,k,i=>kI r k (i + 1)
def xF :aM→Option (Nat × Nat × Nat × Nat)
 | .row (.slice (some ⟨b,0,none⟩) 0 0) n sz e=>some (b,n,sz,e)
 | _=>none
theorem CP {r:aM} {b n sz e:Nat} (h:xF r=some (b,n,sz,e)):r=.row (.slice (some ⟨b,0,none⟩) 0 0) n sz e:=by
 unfold xF at h; split at h
 ·
  simp only [Option.some.injEq,Prod.mk.injEq] at h; obtain ⟨rfl,rfl,rfl,rfl⟩:=h; rfl
 · cases h
def oU :List aM→Nat→Nat→Option (Nat × Nat × Nat × Nat)
 | [],_,_=>none
 | r :: s,k,i=>match xF r with
  | some (b,n,sz,e)=>bif Nat.beq b k then some (i,n,sz,e) else oU s k (i + 1)
  | none=>oU s k (i + 1)
def l5 :List aM→Nat→Nat→Option (Nat × List (Nat × PV × PV) × Nat)
 | [],_,_=>none
 | .mp b es n :: r,k,i=>bif Nat.beq b k then some (i,es,n) else l5 r k (i + 1)
 | _ :: r,k,i=>l5 r k (i + 1)
def ng :List aM→Nat→Nat→Option (Nat × Obj)
 | [],_,_=>none
 | .obj b o :: r,k,i=>bif Nat.beq b k then some (i,o) else ng r k (i + 1)
 | _ :: r,k,i=>ng r k (i + 1)
theorem kZ :∀ {s:List aM} {k i j:Nat} {cs:List PV},kI s k i=some (j,cs)→i≤j∧s[j - i]?=some (.box k cs)
 | [],_,_,_,_,h=>by cases h
 | r :: s,k,i,j,cs,h=>by
  have tl:kI s k (i + 1)=some (j,cs)→i≤j∧(r :: s)[j - i]?=some (.box k cs):=fun h=>by
   obtain ⟨h1,h2⟩:=kZ h; refine ⟨by omega,?_⟩; rw [show j - i=(j - (i + 1)) + 1 from by omega]; exact h2
  cases r with
  | box b cs'=>
   unfold kI at h; cases e:Nat.beq b k with
   | true=>
    rw [e] at h; simp only [cond_true,Option.some.injEq,Prod.mk.injEq] at h; obtain ⟨rfl,rfl⟩:=h; rw [←Nat.eq_of_beq_eq_true e]; exact ⟨Nat.le_refl _,by simp⟩
   | false=>rw [e] at h; exact tl h
  | _=>exact tl h
theorem u7 :∀ {s:List aM} {k i j n sz e:Nat},oU s k i=some (j,n,sz,e)→i≤j∧s[j - i]?=some (.row (.slice (some ⟨k,0,none⟩) 0 0) n sz e)
 | [],_,_,_,_,_,_,h=>by cases h
 | r :: s,k,i,j,n,sz,e,h=>by
  have tl:oU s k (i + 1)=some (j,n,sz,e)→i≤j∧(r :: s)[j - i]?=some (.row (.slice (some ⟨k,0,none⟩) 0 0) n sz e):=fun h=>by
   obtain ⟨h1,h2⟩:=u7 h; refine ⟨by omega,?_⟩; rw [show j - i=(j - (i + 1)) + 1 from by omega]; exact h2
  unfold oU at h; cases hr:xF r with
  | none=>rw [hr] at h; exact tl h
  | some x=>
   obtain ⟨b,n',sz',e'⟩:=x; rw [hr] at h; simp only at h; cases eb:Nat.beq b k with
   | true=>
    rw [eb] at h; simp only [cond_true,Option.some.injEq,Prod.mk.injEq] at h; obtain ⟨rfl,rfl,rfl,rfl⟩:=h; rw [←Nat.eq_of_beq_eq_true eb,CP hr]; exact ⟨Nat.le_refl _,by simp⟩
   | false=>rw [eb] at h; exact tl h
theorem kQ :∀ {s:List aM} {k i j n:Nat} {es:List (Nat × PV × PV)},l5 s k i=some (j,es,n)→i≤j∧s[j - i]?=some (.mp k es n)
 | [],_,_,_,_,_,h=>by cases h
 | r :: s,k,i,j,n,es,h=>by
  have tl:l5 s k (i + 1)=some (j,es,n)→i≤j∧(r :: s)[j - i]?=some (.mp k es n):=fun h=>by
   obtain ⟨h1,h2⟩:=kQ h; refine ⟨by omega,?_⟩; rw [show j - i=(j - (i + 1)) + 1 from by omega]; exact h2
  cases r with
  | mp b es' n'=>
   unfold l5 at h; cases e:Nat.beq b k with
   | true=>
    rw [e] at h; simp only [cond_true,Option.some.injEq,Prod.mk.injEq] at h; obtain ⟨rfl,rfl,rfl⟩:=h; rw [←Nat.eq_of_beq_eq_true e]; exact ⟨Nat.le_refl _,by simp⟩
   | false=>rw [e] at h; exact tl h
  | _=>exact tl h
theorem qc :∀ {s:List aM} {k i j:Nat} {o:Obj},ng s k i=some (j,o)→i≤j∧s[j - i]?=some (.obj k o)
 | [],_,_,_,_,h=>by cases h
 | r :: s,k,i,j,o,h=>by
  have tl:ng s k (i + 1)=some (j,o)→i≤j∧(r :: s)[j - i]?=some (.obj k o):=fun h=>by
   obtain ⟨h1,h2⟩:=qc h; refine ⟨by omega,?_⟩; rw [show j - i=(j - (i + 1)) + 1 from by omega]; exact h2
  cases r with
  | obj b o'=>
   unfold ng at h; cases e:Nat.beq b k with
   | true=>
    rw [e] at h; simp only [cond_true,Option.some.injEq,Prod.mk.injEq] at h; obtain ⟨rfl,rfl⟩:=h; rw [←Nat.eq_of_beq_eq_true e]; exact ⟨Nat.le_refl _,by simp⟩
   | false=>rw [e] at h; exact tl h
  | _=>exact tl h
def rO :Value→Bool
 | .int _ _ | .bool _ | .string _ | .slice none 0 0 | .pointer none | .map none | .nilIface | .nilFunc=>true
 | _=>false
def uZ :Value→Bool
 | .agg cs=>cs.toList.all rO
 | v=>rO v
theorem uh (ρ:eF) {v:Value} (h:rO v=true):(iB v).ren ρ=iB v:=by
 cases v <;> simp only [rO,Bool.false_eq_true] at h <;> try rfl
 · rename_i a; cases a <;> simp_all; rfl
 ·
  rename_i a n c; cases a with
  | some a=>simp at h
  | none=>
   cases n with
   | succ n=>simp at h
   | zero=>cases c with
    | succ c=>simp at h
    | zero=>rfl
 · rename_i a; cases a <;> simp_all; rfl
theorem oM (ρ:eF) {v:Value} (h:uZ v=true):(ofConst v).ren ρ=ofConst v:=by
 cases v with
 | agg cs=>
  have h:cs.toList.all rO=true:=h; simp only [ofConst,PV.ren]; rw [j3,List.map_map]; congr 1; rw [List.all_eq_true] at h; exact List.map_congr_left fun v hv=>uh ρ (h v hv)
 | _=>exact uh ρ (show rO _=true from by simpa only [uZ] using h)
def tH (e:Env):Operand→PV
 | .tmp t=>e.get t
 | .const v=>bif uZ v then ofConst v else .undef
 | .global _=>.undef
 | .func f=>.fn f []
theorem rR (ρ:eF) (e:Env) (x:Operand):(tH e x).ren ρ=.undef∨(tH e x).ren ρ=(eZ ρ e).ev x:=by
 cases x with
 | tmp t=>right; exact (qQ e t).symm
 | const v=>
  simp only [tH,Env.ev]; cases h:uZ v with
  | true=>right; exact oM ρ h
  | false=>left; rfl
 | global g=>left; rfl
 | func f=>right; rfl
theorem q8.tH {nx:Nat} {e:Env} (h:q8 nx e) (x:Operand):gX nx (tH e x):=by
 cases x with
 | tmp t=>exact h.get t
 | const v=>
  simp only [Abs.tH]; cases hv:uZ v with
  | true=>exact fun ρ ρ' _=>by simp only [cond_true]; rw [oM ρ hv,oM ρ' hv]
  | false=>exact fun _ _ _=>rfl
 | global g=>exact fun _ _ _=>rfl
 | func f=>exact fun _ _ _=>rfl
section
variable {P : Program}
def aW (P:Program) (s:List aM) (nx:Nat) (v:Operand→PV) (op:Op) (p:PV) (s1:List aM) (lI:Nat):Prop:=
 nx≤lI∧gX lI p∧gM lI s1∧∀ (ρ:eF) (o:Oper),o.op=op→∀ {R S:PV→List aM→Prop},(∀ ρ1,ql nx ρ ρ1→R (p.ren ρ1) (cB ρ1 s1))→AO P o (fun x=>(v x).ren ρ) (cB ρ s) R S
def sS (ρ:eF) (nx b:Nat):eF:={ρ with lb:=fun k=>bif Nat.beq k nx then b else ρ.lb k}
def setH (ρ:eF) (nx:Nat) (v:Value):eF:={ρ with hd:=fun k=>bif Nat.beq k nx then v else ρ.hd k}
theorem jZ (ρ:eF) (nx b:Nat):ql nx ρ (sS ρ nx b):=fun k hk=>⟨by simp only [sS]; rw [iH (by omega)]; rfl,rfl⟩
theorem mo (ρ:eF) (nx:Nat) (v:Value):ql nx ρ (setH ρ nx v):=fun k hk=>⟨rfl,by simp only [setH]; rw [iH (by omega)]; rfl⟩
theorem xC (ρ:eF) (nx b:Nat):(sS ρ nx b).lb nx=b:=by simp [sS]
theorem xB (ρ:eF) (nx:Nat) (v:Value):(setH ρ nx v).hd nx=v:=by simp [setH]
theorem aW.pure {s:List aM} {nx:Nat} {v:Operand→PV} {op:Op} {p:PV} (hp:gX nx p) (hs:gM nx s)
  (h:∀ (ρ:eF) (o:Oper),o.op=op→∀ {R S:PV→List aM→Prop},R (p.ren ρ) (cB ρ s)→AO P o (fun x=>(v x).ren ρ) (cB ρ s) R S):aW P s nx v op p s nx:=
 ⟨Nat.le_refl _,hp,hs,fun ρ o ho R S hR=>h ρ o ho (hR ρ (ql.refl _ _))⟩
theorem gX.free {nx:Nat} {p:PV} (h:∀ ρ,p.ren ρ=p):gX nx p:=fun ρ ρ' _=>(h ρ).trans (h ρ').symm
theorem Gg {nx off:Nat}:gX (nx + 1) (.val (.pointer (some ⟨nx,off,none⟩))):=fun ρ ρ' ha=>by simp only [PV.ren,uj]; rw [(ha nx (Nat.lt_succ_self _)).1]
theorem aW.box {s:List aM} {nx:Nat} {v:Operand→PV} {op:Op} {cs:List PV} (hc:jk nx cs) (hs:gM nx s)
  (h:∀ (ρ:eF) (o:Oper),o.op=op→∀ {R S:PV→List aM→Prop},(∀ b,R (.val (.pointer (some ⟨b,0,none⟩))) (.box b (bO ρ cs) :: cB ρ s))→AO P o (fun x=>(v x).ren ρ) (cB ρ s) R S):
  aW P s nx v op (.val (.pointer (some ⟨nx,0,none⟩))) (.box nx cs :: s) (nx + 1):=by
 refine ⟨Nat.le_succ _,Gg,gM.cons (fun ρ ρ' ha=>?_) (hs.le (Nat.le_succ _)),fun ρ o ho R S hR=>h ρ o ho fun b=>?_⟩
 ·
  simp only [aM.ren]; rw [(ha nx (Nat.lt_succ_self _)).1,show bO ρ cs=bO ρ' cs from hc ρ ρ' (ha.le (Nat.le_succ _))]
 ·
  have:=hR (sS ρ nx b) (jZ ρ nx b); simp only [PV.ren,uj,xC,cB,List.map_cons,aM.ren] at this; rw [←show bO ρ cs=bO (sS ρ nx b) cs from hc _ _ (jZ ρ nx b),←show s.map (aM.ren ρ)=s.map (aM.ren (sS ρ nx b)) from hs _ _ (jZ ρ nx b)] at this; exact this
theorem aW.row {s:List aM} {nx n sz e:Nat} {v:Operand→PV} {op:Op} {l:List (List PV)} (hl:Ok nx fun ρ=>dY ρ l) (hs:gM nx s)
  (h:∀ (ρ:eF) (o:Oper),o.op=op→∀ {R S:PV→List aM→Prop},(∀ h,R (.own h (dY ρ l)) (.row h n sz e :: cB ρ s))→AO P o (fun x=>(v x).ren ρ) (cB ρ s) R S):
  aW P s nx v op (.own (.slice (some ⟨nx,0,none⟩) 0 0) l) (.row (.slice (some ⟨nx,0,none⟩) 0 0) n sz e :: s) (nx + 1):=by
 refine ⟨Nat.le_succ _,fun ρ ρ' ha=>?_,gM.cons (fun ρ ρ' ha=>?_) (hs.le (Nat.le_succ _)),fun ρ o ho R S hR=>h ρ o ho fun b=>?_⟩
 ·
  simp only [PV.ren,rC]; rw [(ha nx (Nat.lt_succ_self _)).2,show dY ρ l=dY ρ' l from hl ρ ρ' (ha.le (Nat.le_succ _))]
 ·
  simp only [aM.ren,rC]; rw [(ha nx (Nat.lt_succ_self _)).2]
 ·
  have:=hR (setH ρ nx b) (mo ρ nx b); simp only [PV.ren,rC,xB,cB,List.map_cons,aM.ren] at this; rw [←show dY ρ l=dY (setH ρ nx b) l from hl _ _ (mo ρ nx b),←show s.map (aM.ren ρ)=s.map (aM.ren (setH ρ nx b)) from hs _ _ (mo ρ nx b)] at this; exact this
end
end Go.Abs
namespace Go.Abs
variable [cZ]
open Go
section
variable {P : Program} {s s1 : List aM} {nx lI : Nat} {v : Operand → PV} {p : PV}
theorem gX.agg {cs:List PV} (h:gX nx (.agg cs)):jk nx cs:=h.via fun ρ ρ' he=>by simpa only [PV.ren,PV.agg.injEq] using he
theorem gX.IQ {cs:List PV} (h:gX nx (.tuple cs)):jk nx cs:=h.via fun ρ ρ' he=>by simpa only [PV.ren,PV.tuple.injEq] using he
theorem gX.ref {cs:List PV} (h:gX nx (.ref cs)):jk nx cs:=h.via fun ρ ρ' he=>by simpa only [PV.ren,PV.ref.injEq] using he
theorem gX.fn {f:Nat} {cs:List PV} (h:gX nx (.fn f cs)):jk nx cs:=h.via fun ρ ρ' he=>by simpa only [PV.ren,PV.fn.injEq,true_and] using he
theorem jk.agg {cs:List PV} (h:jk nx cs):gX nx (.agg cs):=h.via fun ρ ρ' he=>by simp only [PV.ren,he]
theorem jk.IQ {cs:List PV} (h:jk nx cs):gX nx (.tuple cs):=h.via fun ρ ρ' he=>by simp only [PV.ren,he]
theorem jk.ref {cs:List PV} (h:jk nx cs):gX nx (.ref cs):=h.via fun ρ ρ' he=>by simp only [PV.ren,he]
theorem jk.fn {f:Nat} {cs:List PV} (h:jk nx cs):gX nx (.fn f cs):=h.via fun ρ ρ' he=>by simp only [PV.ren,he]
theorem gX.els {l:List (List PV)} (h:gX nx p) (hl:p.els=some l):Ok nx fun ρ=>dY ρ l:=Ok.BA PV.els h fun ρ=>by rw [oV,hl]; rfl
theorem gX.cells {cs:List PV} (h:gX nx p) (hl:p.gK=some cs):jk nx cs:=Ok.BA PV.gK h fun ρ=>by rw [nu,hl]; rfl
theorem LW.get {l:List (List PV)} {i:Nat} {cs:List PV} (h:Ok nx fun ρ=>dY ρ l) (hi:l[i]?=some cs):jk nx cs:=Ok.BA (fun x:List (List PV)=>x[i]?) h fun ρ=>by rw [b_,List.getElem?_map,hi]; rfl
theorem gM.box {i b:Nat} {cs:List PV} (h:gM nx s) (hi:s[i]?=some (.box b cs)):jk nx cs:=(h.get hi).via fun ρ ρ' he=>by simp only [aM.ren,aM.box.injEq] at he; exact he.2
theorem jk.load {ag:Bool} {k:Nat} {cs:List PV} (h:jk nx cs) (hp:dW ag k cs=some p):gX nx p:=Ok.BA (dW ag k) h fun ρ=>by rw [kV,hp]; rfl
theorem jk.drop {k:Nat} {cs cs':List PV} (h:jk nx cs) (hp:fO k cs=some cs'):jk nx cs':=Ok.BA (fO k) h fun ρ=>by rw [jR,hp]; rfl
def JE (P:Program) (s:List aM) (t:TypeId) (p:PV):Option PV:=
 match dA P t with
 | some (ag,k)=>match p with
  | .ref cs=>dW ag k cs
  | .val (.pointer (some ⟨b,off,none⟩))=>match kI s b 0 with
   | some (_,cs)=>match fO off cs with
    | some cs'=>dW ag k cs'
    | none=>none
   | none=>none
  | _=>none
 | none=>none
theorem Ed {t:TypeId} {q:PV} (h:JE P s t q=some p):∃ (ag:Bool) (k:Nat),dA P t=some (ag,k)∧((∃ cs:List PV,q=.ref cs∧dW ag k cs=some p)∨(∃ (b off i:Nat) (cs cs':List PV),q=.val (.pointer (some ⟨b,off,none⟩))∧s[i]?=some (aM.box b cs)∧fO off cs=some cs'∧dW ag k cs'=some p)):=by
 unfold JE at h; split at h
 ·
  rename_i ag k ht; refine ⟨ag,k,ht,?_⟩; split at h
  ·
   rename_i cs; exact .inl ⟨cs,rfl,h⟩
  ·
   rename_i b off; split at h
   ·
    rename_i i cs hb; split at h
    ·
     rename_i cs' hd; have:=(kZ hb).2; exact .inr ⟨b,off,_,cs,cs',rfl,this,hd,h⟩
    · cases h
   · cases h
  · cases h
 · cases h
theorem GR {t:TypeId} {q:PV} (h:JE P s t q=some p) (hq:gX nx q) (hs:gM nx s):gX nx p:=by
 obtain ⟨ag,k,_,h | h⟩:=Ed h
 · obtain ⟨cs,rfl,h2⟩:=h; exact hq.ref.load h2
 · obtain ⟨b,off,i,cs,cs',rfl,h1,h2,h3⟩:=h; exact ((hs.box h1).drop h2).load h3
theorem FL {t:TypeId} {x:Operand} (h:JE P s t (v x)=some p) (hv:∀ x,gX nx (v x)) (hs:gM nx s):aW P s nx v (.load t x) p s nx:=by
 refine aW.pure (GR h (hv x) hs) hs fun ρ o ho R S hR=>?_; obtain ⟨ag,k,ht,h | h⟩:=Ed h
 ·
  obtain ⟨cs,hx,h⟩:=h; exact AO.uK ho (cs:=bO ρ cs) (by show (v x).ren ρ=_; rw [hx]; rfl) ht (by rw [kV,h]; rfl) hR
 ·
  obtain ⟨b,off,i,cs,cs',hx,h1,h2,h3⟩:=h; exact AO.dH (b:=ρ.lb b) (off:=off) (cs:=bO ρ cs) (cs':=bO ρ cs') ho (by show (v x).ren ρ=_; rw [hx]; rfl) (by rw [fV,h1]; rfl) ht (by rw [jR,h2]; rfl) (by rw [kV,h3]; rfl) hR
def KX (P:Program) (s:List aM) (t:TypeId) (p q:PV):Option (List aM):=
 match dA P t,p,q.gK with
 | some (_,k),.val (.pointer (some ⟨b,off,none⟩)),some new=>match kI s b 0 with
  | some (i,cs)=>bif new.all PV.one && Nat.beq new.length k then (match pq cs off new with
   | some cs'=>gV s i (.box b cs')
   | none=>none) else none
  | none=>none
 | _,_,_=>none
theorem EB {t:TypeId} {x y:Operand} (h:KX P s t (v x) (v y)=some s1) (hv:∀ x,gX nx (v x)) (hs:gM nx s):aW P s nx v (.store t x y) .undef s1 nx:=by
 unfold KX at h; split at h
 ·
  rename_i ag k b off new ht hx hnew; split at h
  ·
   rename_i i cs hb; have hb:=(kZ hb).2; cases e:(new.all PV.one && Nat.beq new.length k) with
   | false=>rw [e] at h; cases h
   | true=>
    rw [e] at h; simp only [cond_true] at h; simp only [Bool.and_eq_true] at e; split at h
    ·
     rename_i cs' hp
     have hcs':jk nx cs':=fun ρ ρ' ha=>by
      have h1:bO ρ cs=bO ρ' cs:=hs.box hb ρ ρ' ha; have h2:bO ρ new=bO ρ' new:=(hv y).cells hnew ρ ρ' ha; have h3:=n_ (ρ:=ρ) cs off new; rw [h1,h2,n_,hp] at h3; exact (Option.some.inj h3).symm
     refine ⟨Nat.le_refl _,gX.free fun _=>rfl,hs.set (fun ρ ρ' ha=>?_) h,fun ρ o ho R S hR=>?_⟩
     ·
      have h1:bO ρ cs'=bO ρ' cs':=hcs' ρ ρ' ha; have h2:Ok nx fun ρ=>(aM.box b cs).ren ρ:=hs.get hb; have h3:=h2 ρ ρ' ha; simp only [aM.ren,aM.box.injEq] at h3 ⊢; exact ⟨h3.1,h1⟩
     ·
      refine AO.jL (b:=ρ.lb b) (off:=off) (cs:=bO ρ cs) (new:=bO ρ new) (cs':=bO ρ cs') (i:=i) ho (by show (v x).ren ρ=_; rw [hx]; rfl) (by rw [fV]; rw [Nat.sub_zero] at hb; rw [hb]; rfl) ht (by show ((v y).ren ρ).gK=_; rw [nu,hnew]; rfl) (by rw [sO]; exact e.1) (by rw [h_]; exact e.2) (by rw [n_,hp]; rfl) (σ':=cB ρ s1) ?_ (hR ρ (ql.refl _ _)); have:=nQ (ρ:=ρ) s i (.box b cs'); rw [h] at this; exact this
    · cases h
  · cases h
 · cases h
def u6 :PV→Bool
 | .int _ _ | .bool _ | .str _ | .undef | .own (.slice none 0 0) [] | .val (.pointer none) | .val (.map none) | .val .nilIface | .val .nilFunc | .list []=>true
 | _=>false
theorem C9 (ρ:eF) {p:PV} (h:u6 p=true):p.ren ρ=p:=by
 unfold u6 at h; split at h <;> first | rfl | cases h
theorem oQ (ρ:eF) {l:List PV} (h:l.all u6=true):bO ρ l=l:=by
 induction l with
 | nil=>rfl
 | cons p l ih=>simp only [List.all_cons,Bool.and_eq_true] at h; simp only [bO,C9 ρ h.1,ih h.2]
theorem Az {l:List PV} (h:l.all u6=true):jk nx l:=fun ρ ρ' _=>(oQ ρ h).trans (oQ ρ' h).symm
def IJ (P:Program) (t:TypeId):Option (List PV):=match iZ P t with | some cs=>bif cs.all u6 then some cs else none | none=>none
theorem Dv {t:TypeId} {cs:List PV} (h:IJ P t=some cs):iZ P t=some cs∧cs.all u6=true:=by
 unfold IJ at h; split at h
 ·
  rename_i cs' hz; cases e:cs'.all u6 with
  | false=>rw [e] at h; cases h
  | true=>rw [e] at h; simp only [cond_true,Option.some.injEq] at h; subst h; exact ⟨hz,e⟩
 · cases h
theorem EL {t:TypeId} {cs:List PV} (h:IJ P t=some cs) (hs:gM nx s):aW P s nx v (.alloc t) (.val (.pointer (some ⟨nx,0,none⟩))) (.box nx cs :: s) (nx + 1):=by
 obtain ⟨h1,h2⟩:=Dv h; exact aW.box (Az h2) hs fun ρ o ho R S hR=>AO.bX ho h1 fun b=>by have:=hR b; rwa [oQ ρ h2] at this
theorem Hu {t:TypeId} {x:Operand} {cs:List PV} (h:(v x).gK=some cs) (hv:∀ x,gX nx (v x)) (hs:gM nx s):aW P s nx v (.box t x) (.val (.pointer (some ⟨nx,0,none⟩))) (.box nx cs :: s) (nx + 1):=
 aW.box ((hv x).cells h) hs fun ρ o ho R S hR=>AO.tJ ho (cs:=bO ρ cs) (by show ((v x).ren ρ).gK=_; rw [nu,h]; rfl) hR
theorem vk (ρ:eF) (l:List (Nat × Operand)):(l.map fun x=>(x.1,(v x.2).ren ρ))=(l.map fun x=>(x.1,v x.2)).map fun x=>(x.1,x.2.ren ρ):=by simp
theorem jk.fill {place:Nat→Option (Nat × Nat)} {l:List (Nat × Operand)} {zc cs:List PV} (hz:jk nx zc) (hv:∀ x,gX nx (v x)) (h:iN place zc (l.map fun x=>(x.1,v x.2))=some cs):jk nx cs:=fun ρ ρ' ha=>by
 have h1:=mK (ρ:=ρ) place (l.map fun x=>(x.1,v x.2)) zc; have h2:=mK (ρ:=ρ') place (l.map fun x=>(x.1,v x.2)) zc; rw [h] at h1 h2; rw [←vk] at h1 h2; have e1:bO ρ zc=bO ρ' zc:=hz ρ ρ' ha; have e2:(l.map fun x=>(x.1,(v x.2).ren ρ))=l.map fun x=>(x.1,(v x.2).ren ρ'):=List.map_congr_left fun x _=>by rw [show (v x.2).ren ρ=(v x.2).ren ρ' from hv x.2 ρ ρ' ha]
 rw [e1,e2,h2] at h1; exact (Option.some.inj h1).symm
def BM (P:Program) (v:Operand→PV) (t:TypeId) (parts:Array (Nat × Operand)):Option (List PV):=
 match IJ P t with
 | some zc=>match qw P t with
  | some pl=>iN (fun i=>pl[i]?) zc (parts.toList.map fun x=>(x.1,v x.2))
  | none=>none
 | none=>none
theorem EJ {t:TypeId} {parts:Array (Nat × Operand)} {cs:List PV} (h:BM P v t parts=some cs) (hv:∀ x,gX nx (v x)) (hs:gM nx s):aW P s nx v (.build t parts) (.agg cs) s nx:=by
 unfold BM at h; split at h
 ·
  rename_i zc hz; obtain ⟨h1,h2⟩:=Dv hz; split at h
  ·
   rename_i pl hpl; refine aW.pure ((Az h2).fill hv h).agg hs fun ρ o ho R S hR=>?_; refine AO.build ho h1 hpl (cs:=bO ρ cs) ?_ hR; have:=mK (ρ:=ρ) (fun i=>pl[i]?) (parts.toList.map fun x=>(x.1,v x.2)) zc; rw [h,←vk,oQ ρ h2] at this; exact this
  · cases h
 · cases h
def oK (P:Program) (t:TypeId):Option (Nat × Nat × Nat):=
 match P.underlying t with
 | some (.slice e)=>match P.info? e with
  | some i=>bif kT P t e i.size i.bytes then some (e,i.size,i.bytes) else none
  | none=>none
 | _=>none
theorem qx {t e sz b:Nat} (h:oK P t=some (e,sz,b)):kT P t e sz b=true:=by
 unfold oK at h; split at h
 ·
  split at h
  ·
   rename_i e' hu _ i hi; cases hb:kT P t e' i.size i.bytes with
   | false=>rw [hb] at h; cases h
   | true=>
    rw [hb] at h; simp only [cond_true,Option.some.injEq,Prod.mk.injEq] at h; obtain ⟨rfl,rfl,rfl⟩:=h; exact hb
  · cases h
 · cases h
def LM (P:Program) (v:Operand→PV) (t len:Nat) (parts:Array (Nat × Operand)):Option (List (List PV) × Nat × Nat):=
 match oK P t with
 | some (e,sz,_)=>bif Nat.ble (len * sz) 16777216 && Nat.ble len 16777216 then (match iN (fun i=>some (i * sz,sz)) (List.replicate (len * sz) .undef) (parts.toList.map fun x=>(x.1,v x.2)) with
  | some cells=>match iO sz len cells with
   | some l=>some (l,sz,e)
   | none=>none
  | none=>none) else none
 | none=>none
theorem rA (ρ:eF) (n:Nat):bO ρ (List.replicate n .undef)=List.replicate n .undef:=by rw [j3,List.map_replicate]; rfl
theorem wB {t len sz e:Nat} {parts:Array (Nat × Operand)} {l:List (List PV)} (h:LM P v t len parts=some (l,sz,e)) (hv:∀ x,gX nx (v x)) (hs:gM nx s):
  aW P s nx v (.buildSlice t len parts) (.own (.slice (some ⟨nx,0,none⟩) 0 0) l) (.row (.slice (some ⟨nx,0,none⟩) 0 0) len sz e :: s) (nx + 1):=by
 unfold LM at h; split at h
 ·
  rename_i e' sz' by' hi
  have hf:=jm (qx hi); cases hb:(Nat.ble (len * sz') 16777216 && Nat.ble len 16777216) with
  | false=>rw [hb] at h; cases h
  | true=>
   rw [hb] at h; simp only [cond_true] at h; simp only [Bool.and_eq_true] at hb; split at h
   ·
    rename_i cells hc; split at h
    ·
     rename_i l' hl; simp only [Option.some.injEq,Prod.mk.injEq] at h; obtain ⟨rfl,rfl,rfl⟩:=h; have hok:jk nx cells:=jk.fill (fun ρ ρ' _=>(rA ρ _).trans (rA ρ' _).symm) hv hc; refine aW.row (Ok.BA (iO sz' len) hok fun ρ=>by rw [qg,hl]; rfl) hs fun ρ o ho R S hR=>?_; refine AO.AY (cells:=bO ρ cells) ho hf hb.1 ?_ (by rw [qg,hl]; rfl) hb.2 hR; have:=mK (ρ:=ρ) (fun i=>some (i * sz',sz')) (parts.toList.map fun x=>(x.1,v x.2)) (List.replicate (len * sz') .undef); rw [hc,←vk,rA] at this; exact this
    · cases h
   · cases h
 · cases h
def La (P:Program) (v:Operand→PV) (t:TypeId) (x i:Operand):Option PV:=
 match P.underlying t,v x,v i with
 | some .string,.str a,.int _ (.ofNat n)=>match a[n]? with
  | some c=>some (.int .u8 (c.toNat:Int))
  | none=>none
 | _,_,_=>none
theorem EF {t:TypeId} {x i:Operand} (h:La P v t x i=some p) (hs:gM nx s):aW P s nx v (.index t x i) p s nx:=by
 unfold La at h; split at h
 ·
  rename_i a k n hu hx hi; split at h
  ·
   rename_i c hc; simp only [Option.some.injEq] at h; subst h; refine aW.pure (gX.free fun _=>rfl) hs fun ρ o ho R S hR=>?_; exact AO.C8 (n:=Int.ofNat n) (s:=a) (k:=k) ho hu (by show (v x).ren ρ=_; rw [hx]; rfl) (by show (v i).ren ρ=_; rw [hi]; rfl) (Int.natCast_nonneg n) hc hR
  · cases h
 · cases h
def Ld (P:Program) (v:Operand→PV) (t:TypeId) (x i:Operand):Option PV:=
 match v i with
 | .int _ (.ofNat n)=>match v x with
  | .ref cs=>match kK P t with
   | some (m,sz)=>bif Nat.blt n m then (match fO (n * sz) cs with
    | some cs'=>some (.ref cs')
    | none=>none) else none
   | none=>none
  | .val (.pointer (some ⟨b,off,none⟩))=>match kK P t with
   | some (m,sz)=>bif Nat.blt n m then some (.val (.pointer (some ⟨b,off + n * sz,none⟩))) else none
   | none=>none
  | q=>match q.els,elemSize P t with
   | some l,some sz=>match l[n]? with
    | some cs=>bif Nat.beq cs.length sz then some (.ref cs) else none
    | none=>none
   | _,_=>none
 | _=>none
theorem yP {t:TypeId} {x i:Operand} (h:Ld P v t x i=some p) (hv:∀ x,gX nx (v x)) (hs:gM nx s):aW P s nx v (.indexAddr t x i) p s nx:=by
 unfold Ld at h; split at h
 ·
  rename_i k n hi; have hix:∀ ρ,(v i).ren ρ=.int k (n:Int):=fun ρ=>by rw [hi]; rfl
  split at h
  ·
   rename_i cs hx; split at h
   ·
    rename_i m sz ha; cases hb:Nat.blt n m with
    | false=>rw [hb] at h; cases h
    | true=>
     rw [hb] at h; simp only [cond_true] at h; split at h
     ·
      rename_i cs' hd; simp only [Option.some.injEq] at h; subst h; have hx':=hv x; rw [hx] at hx'; refine aW.pure (hx'.ref.drop hd).ref hs fun ρ o ho R S hR=>?_; exact AO.uV (cs:=bO ρ cs) (cs':=bO ρ cs') n ho ha (by show (v x).ren ρ=_; rw [hx]; rfl) (hix ρ) (Nat.le_of_ble_eq_true hb) (by rw [jR,hd]; rfl) hR
     · cases h
   · cases h
  ·
   rename_i b off hx; split at h
   ·
    rename_i m sz ha; cases hb:Nat.blt n m with
    | false=>rw [hb] at h; cases h
    | true=>
     rw [hb] at h; simp only [cond_true,Option.some.injEq] at h; subst h; have hx':=hv x; rw [hx] at hx'; refine aW.pure (hx'.via fun ρ ρ' he=>by simp only [PV.ren,uj,PV.val.injEq,Value.pointer.injEq,Option.some.injEq,Addr.mk.injEq,and_true] at he ⊢; exact he) hs fun ρ o ho R S hR=>?_; exact AO.uW n ho ha (by show (v x).ren ρ=_; rw [hx]; rfl) (hix ρ) (Nat.le_of_ble_eq_true hb) hR
   · cases h
  ·
   split at h
   ·
    rename_i l sz hl hsz; split at h
    ·
     rename_i cs hc; cases hb:Nat.beq cs.length sz with
     | false=>rw [hb] at h; cases h
     | true=>
      rw [hb] at h; simp only [cond_true,Option.some.injEq] at h; subst h; refine aW.pure (LW.get ((hv x).els hl) hc).ref hs fun ρ o ho R S hR=>?_; exact AO.indexAddr (l:=dY ρ l) (n:=(n:Int)) (e:=bO ρ cs) ho (by show ((v x).ren ρ).els=_; rw [oV,hl]; rfl) (hix ρ) hsz (Int.natCast_nonneg n) (by rw [Int.toNat_natCast,b_,List.getElem?_map,hc]; rfl) (by rw [h_]; exact Nat.eq_of_beq_eq_true hb) hR
    · cases h
   · cases h
 · cases h
def Iy (v:Operand→PV) (o:Option Operand) (d:Nat):Option Nat:=
 match o with
 | none=>some d
 | some y=>match v y with
  | .int _ (.ofNat a)=>some a
  | _=>none
theorem yV {o:Option Operand} {d a:Nat} (h:Iy v o d=some a) (ρ:eF):bound (fun x=>(v x).ren ρ) o a d:=by
 unfold Iy at h; unfold bound; cases o with
 | none=>simp only [Option.some.injEq] at h ⊢; exact h.symm
 | some y=>
  simp only at h ⊢; split at h
  ·
   rename_i k n hy; simp only [Option.some.injEq] at h; subst h; exact ⟨k,by rw [hy]; rfl⟩
  · cases h
def KY (P:Program) (v:Operand→PV) (t:TypeId) (x:Operand) (lo hi:Option Operand):Option PV:=
 match v x with
 | .str a=>match P.underlying t,Iy v lo 0,Iy v hi a.length with
  | some .string,some l,some h=>bif Nat.ble l h && Nat.ble h a.length then some (.str ((a.take h).drop l)) else none
  | _,_,_=>none
 | q=>match q.els,elemSize P t with
  | some a,some sz=>match Iy v lo 0,Iy v hi a.length with
   | some l,some h=>bif Nat.ble l h && Nat.ble h a.length && a.all (fun e=>Nat.beq e.length sz) then some (.list ((a.take h).drop l)) else none
   | _,_=>none
  | _,_=>none
theorem EC {t:TypeId} {x:Operand} {lo hi:Option Operand} (h:KY P v t x lo hi=some p) (hv:∀ x,gX nx (v x)) (hs:gM nx s):aW P s nx v (.slice t x lo hi none) p s nx:=by
 unfold KY at h; split at h
 ·
  rename_i a hx; split at h
  ·
   rename_i l b hu hlo hhi; cases hb:(Nat.ble l b && Nat.ble b a.length) with
   | false=>rw [hb] at h; cases h
   | true=>
    rw [hb] at h; simp only [cond_true,Option.some.injEq] at h; subst h; simp only [Bool.and_eq_true] at hb; refine aW.pure (gX.free fun _=>rfl) hs fun ρ o ho R S hR=>?_; exact AO.wG ho hu (by show (v x).ren ρ=_; rw [hx]; rfl) (yV hlo ρ) (yV hhi ρ) (Nat.le_of_ble_eq_true hb.1) (Nat.le_of_ble_eq_true hb.2) hR
  · cases h
 ·
  split at h
  ·
   rename_i a sz ha hsz; split at h
   ·
    rename_i l b hlo hhi; cases hb:(Nat.ble l b && Nat.ble b a.length && a.all (fun e=>Nat.beq e.length sz)) with
    | false=>rw [hb] at h; cases h
    | true=>
     rw [hb] at h; simp only [cond_true,Option.some.injEq] at h; subst h; simp only [Bool.and_eq_true] at hb
     have hok:Ok nx fun ρ=>dY ρ ((a.take b).drop l):=((hv x).els ha).via fun ρ ρ' he=>by
      simp only [b_] at he ⊢; rw [List.map_drop,List.map_take,he,←List.map_take,←List.map_drop]
     refine aW.pure (hok.via fun ρ ρ' he=>by simp only [PV.ren,he]) hs fun ρ o ho R S hR=>?_; refine AO.Bl (l:=dY ρ a) ho hsz (by show ((v x).ren ρ).els=_; rw [oV,ha]; rfl) ?_ (yV hlo ρ) ?_ (Nat.le_of_ble_eq_true hb.1.1) ?_ ?_
     ·
      intro e he; rw [b_,List.mem_map] at he; obtain ⟨e',he',rfl⟩:=he; have:=hb.2; rw [List.all_eq_true] at this; rw [h_]; exact Nat.eq_of_beq_eq_true (this e' he')
     · rw [b_,List.length_map]; exact yV hhi ρ
     · rw [b_,List.length_map]; exact Nat.le_of_ble_eq_true hb.1.2
     ·
      simp only [PV.ren,b_] at hR ⊢; rw [List.map_drop,List.map_take] at hR; exact hR
   · cases h
  · cases h
end
end Go.Abs
namespace Go.Abs
variable [cZ]
open Go
section
variable {P : Program} {s s1 : List aM} {nx lI : Nat} {v : Operand → PV} {p : PV}
theorem Ap (ρ:eF) {p:PV} {b:Bool} (h:yE p=some b):yE (p.ren ρ)=some b:=by
 unfold yE at h; split at h
 · exact h
 · simp only [Option.some.injEq] at h; subst h; simp [PV.ren,dY,yE]
 · simp only [Option.some.injEq] at h; subst h; simp [PV.ren,dY,yE]
 · cases h
theorem BP {op:BinOp} {a b:PV} (h:xk op a b=some p):(∀ ρ:eF,p.ren ρ=p)∧(∀ ρ:eF,a.ren ρ=a)∧∀ ρ:eF,b.ren ρ=b:=by
 cases a <;> cases b <;> simp only [xk,reduceCtorEq] at h
 ·
  rename_i k x k' y; cases e:CY k k' with
  | false=>rw [e] at h; cases h
  | true=>
   rw [e] at h; refine ⟨?_,fun _=>rfl,fun _=>rfl⟩; cases op <;> simp only [cond_true,reduceCtorEq,Option.some.injEq] at h <;> subst h <;> intro ρ <;> rfl
 ·
  refine ⟨?_,fun _=>rfl,fun _=>rfl⟩; cases op <;> simp only [reduceCtorEq,Option.some.injEq] at h <;> subst h <;> intro ρ <;> rfl
def yG :Operand→Bool
 | .const (.slice none 0 0)=>true
 | _=>false
theorem CZ {y:Operand} (h:yG y=true):y=.const (.slice none 0 0):=by
 unfold yG at h; split at h
 · rfl
 · cases h
def H9 (P:Program) (v:Operand→PV) (op:BinOp) (t:TypeId) (x y:Operand):Option PV:=
 bif yG y then (match P.underlying t,yE (v x) with
  | some (.slice _),some b=>match op with
   | .eql=>some (.bool b)
   | .neq=>some (.bool (!b))
   | _=>none
  | _,_=>none)
 else match op,v x,v y with
  | .quo,.int k a,.int k' b=>bif CY k k' && !decide (b=0) then some (.int k (k.wrap (a.tdiv b))) else none
  | .rem,.int k a,.int k' b=>bif CY k k' && !decide (b=0) then some (.int k (a.tmod b)) else none
  | .shl,.int k a,.int _ (.ofNat n)=>some (.int k (k.wrap (a * 2 ^ (min n k.bits))))
  | .shr,.int k a,.int _ (.ofNat n)=>some (.int k (a.fdiv (2 ^ (min n k.bits))))
  | .eql,.bool a,.bool b=>match P.underlying t with
   | some .bool=>some (.bool (a == b))
   | _=>none
  | .neq,.bool a,.bool b=>match P.underlying t with
   | some .bool=>some (.bool (!(a == b)))
   | _=>none
  | .add,.str a,.str b=>match Ft.app a b with
   | some r=>some (.str r)
   | none=>none
  | op,a,b=>xk op a b
theorem EK {op:BinOp} {t u:TypeId} {x y:Operand} (h:H9 P v op t x y=some p):
  (∀ ρ:eF,p.ren ρ=p)∧∀ (ρ:eF) (o:Oper),o.op=.binOp op t x y u→∀ {R S:PV→List aM→Prop},R p (cB ρ s)→AO P o (fun x=>(v x).ren ρ) (cB ρ s) R S:=by
 unfold H9 at h; cases hn:yG y with
 | true=>
  rw [hn] at h; simp only [cond_true] at h; have hy:=CZ hn; subst hy; split at h
  ·
   rename_i e b hu hq; split at h
   ·
    rename_i hop; simp only [Option.some.injEq] at h; subst h; exact ⟨fun _=>rfl,fun ρ o ho R S hR=>AO.D8 (b:=b) ho (Ap ρ hq) hu rfl hR⟩
   ·
    simp only [Option.some.injEq] at h; subst h; exact ⟨fun _=>rfl,fun ρ o ho R S hR=>AO.D8 (b:=b) ho (Ap ρ hq) hu rfl hR⟩
   · cases h
  · cases h
 | false=>
  rw [hn] at h; simp only [cond_false] at h; have key:∀ {a:PV} {z:Operand},v z=a→(∀ ρ:eF,a.ren ρ=a)→∀ ρ:eF,(fun x=>(v x).ren ρ) z=a:=fun h1 h2 ρ=>by show (v _).ren ρ=_; rw [h1,h2]
  split at h
  ·
   rename_i k a k' b hx hy; cases e:(CY k k' && !decide (b=0)) with
   | false=>rw [e] at h; cases h
   | true=>
    rw [e] at h; simp only [cond_true,Option.some.injEq] at h; subst h; simp only [Bool.and_eq_true,Bool.not_eq_true',decide_eq_false_iff_not] at e; cases uT e.1; exact ⟨fun _=>rfl,fun ρ o ho R S hR=>AO.quo ho (key hx (fun _=>rfl) ρ) (key hy (fun _=>rfl) ρ) e.2 hR⟩
  ·
   rename_i k a k' b hx hy; cases e:(CY k k' && !decide (b=0)) with
   | false=>rw [e] at h; cases h
   | true=>
    rw [e] at h; simp only [cond_true,Option.some.injEq] at h; subst h; simp only [Bool.and_eq_true,Bool.not_eq_true',decide_eq_false_iff_not] at e; cases uT e.1; exact ⟨fun _=>rfl,fun ρ o ho R S hR=>AO.rem ho (key hx (fun _=>rfl) ρ) (key hy (fun _=>rfl) ρ) e.2 hR⟩
  ·
   rename_i k a k' n hx hy; simp only [Option.some.injEq] at h; subst h; exact ⟨fun _=>rfl,fun ρ o ho R S hR=>AO.shl (b:=(n:Int)) ho (key hx (fun _=>rfl) ρ) (key hy (fun _=>rfl) ρ) (Int.natCast_nonneg n) (by rw [Int.toNat_natCast]; exact hR)⟩
  ·
   rename_i k a k' n hx hy; simp only [Option.some.injEq] at h; subst h; exact ⟨fun _=>rfl,fun ρ o ho R S hR=>AO.shr (b:=(n:Int)) ho (key hx (fun _=>rfl) ρ) (key hy (fun _=>rfl) ρ) (Int.natCast_nonneg n) (by rw [Int.toNat_natCast]; exact hR)⟩
  ·
   rename_i a b hx hy; split at h
   ·
    rename_i hu; simp only [Option.some.injEq] at h; subst h; exact ⟨fun _=>rfl,fun ρ o ho R S hR=>AO.oG ho hu (key hx (fun _=>rfl) ρ) (key hy (fun _=>rfl) ρ) hR⟩
   · cases h
  ·
   rename_i a b hx hy; split at h
   ·
    rename_i hu; simp only [Option.some.injEq] at h; subst h; exact ⟨fun _=>rfl,fun ρ o ho R S hR=>AO.AZ ho hu (key hx (fun _=>rfl) ρ) (key hy (fun _=>rfl) ρ) hR⟩
   · cases h
  ·
   rename_i a b hx hy; split at h
   ·
    rename_i r hr; simp only [Option.some.injEq] at h; subst h; exact ⟨fun _=>rfl,fun ρ o ho R S hR=>AO.LJ hr ho (key hx (fun _=>rfl) ρ) (key hy (fun _=>rfl) ρ) hR⟩
   · cases h
  ·
   obtain ⟨h1,h2,h3⟩:=BP h; refine ⟨h1,fun ρ o ho R S hR=>AO.calc' ?_ hR⟩; rw [ho]; simp only [Fj]; rw [h2,h3]; exact h
theorem Cy {op:UnOp} {a:PV} (h:Cz op a=some p):(∀ ρ:eF,p.ren ρ=p)∧∀ ρ:eF,a.ren ρ=a:=by
 cases a <;> simp only [Cz,reduceCtorEq] at h
 ·
  refine ⟨?_,fun _=>rfl⟩; cases op <;> simp only [reduceCtorEq,Option.some.injEq] at h <;> subst h <;> intro ρ <;> rfl
 ·
  refine ⟨?_,fun _=>rfl⟩; cases op <;> simp only [reduceCtorEq,Option.some.injEq] at h <;> subst h <;> intro ρ <;> rfl
def vP :List (List PV)→Option (List UInt8)
 | []=>some []
 | [.int .u8 (.ofNat n)] :: r=>bif Nat.blt n 256 then (match vP r with | some t=>some (UInt8.ofNat n :: t) | none=>none) else none
 | _=>none
theorem xg :∀ {l:List (List PV)} {t:List UInt8},vP l=some t→l=t.map gP
 | [],t,h=>by simp only [vP,Option.some.injEq] at h; subst h; rfl
 | x :: r,t,h=>by
  unfold vP at h; split at h
  · cases h; rename_i heq; cases heq
  ·
   rename_i n r' heq; simp only [List.cons.injEq] at heq; obtain ⟨rfl,rfl⟩:=heq; cases e:Nat.blt n 256 with
   | false=>rw [e] at h; cases h
   | true=>
    rw [e] at h; simp only [cond_true] at h; split at h
    ·
     rename_i t' ht; simp only [Option.some.injEq] at h; subst h; have hn:n < 256:=Nat.le_of_ble_eq_true e; have ih:=xg ht; simp only [List.map_cons,gP,←ih]; congr 3; simp [UInt8.toNat_ofNat,Nat.mod_eq_of_lt hn]
    · cases h
  · cases h
theorem oZ (ρ:eF) (t:List UInt8):dY ρ (t.map gP)=t.map gP:=by
 rw [b_,List.map_map]; exact List.map_congr_left fun _ _=>rfl
inductive J7 where
 | val (p:PV)
 | row (e:Nat) (t:List UInt8)
def Il (P:Program) (src dst:TypeId) (q:PV):Option J7:=
 match P.underlying src,P.underlying dst with
 | some _,some (.int k)=>match q with
  | .int _ n=>some (.val (.int k (k.wrap n)))
  | _=>none
 | some (.slice e),some .string=>match P.underlying e,q.els with
  | some (.int .u8),some l=>match vP l with
   | some t=>some (.val (.str t))
   | none=>none
  | _,_=>none
 | some _,some .string=>match q with
  | .str a=>some (.val (.str a))
  | _=>none
 | some _,some (.slice e)=>match P.underlying e,q with
  | some (.int .u8),.str a=>bif Nat.ble a.length 4294967296 then some (.row e a) else none
  | _,_=>none
 | _,_=>none
theorem Gt {src dst:TypeId} {x:Operand} (h:Il P src dst (v x)=some (.val p)) (hs:gM nx s):aW P s nx v (.convert src dst x) p s nx:=by
 unfold Il at h; have key:∀ {a:PV} {z:Operand},v z=a→(∀ ρ:eF,a.ren ρ=a)→∀ ρ:eF,(fun x=>(v x).ren ρ) z=a:=fun h1 h2 ρ=>by show (v _).ren ρ=_; rw [h1,h2]
 split at h
 ·
  rename_i d k hs1 hd; split at h
  ·
   rename_i kk n hx; simp only [Option.some.injEq,J7.val.injEq] at h; subst h; exact aW.pure (gX.free fun _=>rfl) hs fun ρ o ho R S hR=>AO.EA ho hs1 hd (key hx (fun _=>rfl) ρ) hR
  · cases h
 ·
  rename_i e hs1 hd; split at h
  ·
   rename_i l he hl; split at h
   ·
    rename_i t ht; simp only [Option.some.injEq,J7.val.injEq] at h; subst h; refine aW.pure (gX.free fun _=>rfl) hs fun ρ o ho R S hR=>AO.Dm (l:=t.map gP) ho hs1 he hd ?_ rfl hR; show ((v x).ren ρ).els=_; rw [oV,hl,Option.map_some,xg ht,oZ]
   · cases h
  · cases h
 ·
  rename_i d hs1 hd; split at h
  ·
   rename_i a hx; simp only [Option.some.injEq,J7.val.injEq] at h; subst h; exact aW.pure (gX.free fun _=>rfl) hs fun ρ o ho R S hR=>AO.Ez ho hs1 hd (key hx (fun _=>rfl) ρ) hR
  · cases h
 ·
  split at h
  ·
   rename_i a he hx; cases e:Nat.ble a.length 4294967296 with
   | false=>rw [e] at h; cases h
   | true=>rw [e] at h; cases h
  · cases h
 · cases h
theorem EI {src dst:TypeId} {x:Operand} {e:Nat} {t:List UInt8} (h:Il P src dst (v x)=some (.row e t)) (hs:gM nx s):
  aW P s nx v (.convert src dst x) (.own (.slice (some ⟨nx,0,none⟩) 0 0) (t.map gP)) (.row (.slice (some ⟨nx,0,none⟩) 0 0) t.length 1 e :: s) (nx + 1):=by
 unfold Il at h; split at h
 · split at h <;> cases h
 ·
  split at h
  · split at h <;> cases h
  · cases h
 · split at h <;> cases h
 ·
  rename_i e' hs1 hd; split at h
  ·
   rename_i a he hx; cases hb:Nat.ble a.length 4294967296 with
   | false=>rw [hb] at h; cases h
   | true=>
    rw [hb] at h; simp only [cond_true,Option.some.injEq,J7.row.injEq] at h; obtain ⟨rfl,rfl⟩:=h; refine aW.row (fun ρ ρ' _=>(oZ ρ _).trans (oZ ρ' _).symm) hs fun ρ o ho R S hR=>?_; refine AO.vZ ho hs1 hd he (s:=a) (by show (v x).ren ρ=_; rw [hx]; rfl) (Nat.le_trans (Nat.le_of_ble_eq_true hb) (by decide)) fun h=>?_; have:=hR h
    rwa [oZ] at this
  · cases h
 · cases h
def GU (P:Program) (t:TypeId) (q:PV):Option PV:=
 match q with
 | .str a=>match P.underlying t with
  | some .string=>some (.int .i64 (a.length:Int))
  | _=>none
 | q=>match q.els,elemSize P t with
  | some l,some _=>some (.int .i64 (l.length:Int))
  | _,_=>none
theorem EP {α:Type} {a:Array α} {x:α} (h:a.toList=[x]):a=#[x]:=by apply Array.ext'; simpa using h
theorem Dr {α:Type} {a:Array α} {x y:α} (h:a.toList=[x,y]):a=#[x,y]:=by apply Array.ext'; simpa using h
inductive Mj where
 | val (p:PV)
 | row (l:List (List PV)) (sz e:Nat)
 | grow (i:Nat) (l:List (List PV)) (sz e:Nat)
def LU (P:Program) (s:List aM) (t tx:TypeId) (p q:PV):Option Mj:=
 match p,q.els,oK P t,elemSize P tx with
 | .own h l,some l2,some (e,sz,Kh),some sz'=>
  bif Nat.beq sz sz' && l.all (fun y=>Nat.beq y.length sz) && l2.all (fun y=>Nat.beq y.length sz && y.all PV.one) && Nat.ble (l.length + l2.length) 4294967296 && Nat.ble Kh 32768 then (match h with
   | .slice none 0 0=>match l with
    | []=>some (.row l2 sz e)
    | _=>none
   | .slice (some ⟨b,0,none⟩) 0 0=>match oU s b 0 with
    | some (i,n,J9,e2)=>bif Nat.beq n l.length && Nat.beq J9 sz && Nat.beq e2 e then some (.grow i (l ++ l2) sz e) else none
    | none=>none
   | _=>none) else none
 | _,_,_,_=>none
theorem wY {c:Call} {x y:Operand} {t tx:TypeId} {r:Mj} (cK:c.callee=.builtin .append) (ha:c.args.toList=[x,y]) (ht:c.argTypes.toList=[t,tx]) (h:LU P s t tx (v x) (v y)=some r) (hv:∀ x,gX nx (v x)) (hs:gM nx s):
  match r with
  | .val _=>False
  | .row l sz e=>aW P s nx v (.call c) (.own (.slice (some ⟨nx,0,none⟩) 0 0) l) (.row (.slice (some ⟨nx,0,none⟩) 0 0) l.length sz e :: s) (nx + 1)
  | .grow i l sz e=>∀ s1,gV s i (.row (.slice (some ⟨nx,0,none⟩) 0 0) l.length sz e)=some s1→aW P s nx v (.call c) (.own (.slice (some ⟨nx,0,none⟩) 0 0) l) s1 (nx + 1):=by
 unfold LU at h; split at h
 ·
  rename_i hd l l2 e sz Kh sz' hx hl2 hsi hes; cases hb:(Nat.beq sz sz' && l.all (fun y=>Nat.beq y.length sz) && l2.all (fun y=>Nat.beq y.length sz && y.all PV.one) && Nat.ble (l.length + l2.length) 4294967296 && Nat.ble Kh 32768) with
  | false=>rw [hb] at h; cases h
  | true=>
   rw [hb] at h; simp only [cond_true] at h; simp only [Bool.and_eq_true] at hb; obtain ⟨⟨⟨⟨b1,b2⟩,b3⟩,b4⟩,b5⟩:=hb; have b1:=Nat.eq_of_beq_eq_true b1; subst b1; have b4:=Nat.le_of_ble_eq_true b4; have b5:=Nat.le_of_ble_eq_true b5; rw [List.all_eq_true] at b2 b3; have hf:=jm (qx hsi); have JK:=(hv y).els hl2; have hol:Ok nx fun ρ=>dY ρ l:=(hv x).els (by rw [hx]; rfl); have hmul:(l.length + l2.length) * Kh≤4294967296 * 32768:=Nat.mul_le_mul b4 b5
   have hrow:∀ (ρ:eF) (o:Oper),o.op=.call c→∀ {R S:PV→List aM→Prop} (σ:List aM) (i:Nat),σ[i]?=some (.row (rC ρ hd) l.length sz e)→(∀ v' σ',gV σ i (.row v' (l.length + l2.length) sz e)=some σ'→R (.own v' (dY ρ l ++ dY ρ l2)) σ')→AO P o (fun x=>(v x).ren ρ) σ R S:=by
    intro ρ o ho R S σ i hi hR; refine AO.append ho cK (Dr ha) (Dr ht) (v:=rC ρ hd) (l:=dY ρ l) (l2:=dY ρ l2) (n:=l.length) (by show (v x).ren ρ=_; rw [hx]; rfl) (by show ((v y).ren ρ).els=_; rw [oV,hl2]; rfl) hi hf hes (by rw [b_,List.length_map]) ?_ ?_ ?_ ?_ ?_ ?_
    ·
     intro z hz; rw [b_,List.mem_map] at hz; obtain ⟨z,hz,rfl⟩:=hz; rw [h_]; exact Nat.eq_of_beq_eq_true (b2 z hz)
    ·
     intro z hz; rw [b_,List.mem_map] at hz; obtain ⟨z,hz,rfl⟩:=hz; have:=b3 z hz; simp only [Bool.and_eq_true] at this; rw [h_]; exact Nat.eq_of_beq_eq_true this.1
    ·
     intro z hz; rw [b_,List.mem_map] at hz; obtain ⟨z,hz,rfl⟩:=hz; have:=b3 z hz; simp only [Bool.and_eq_true] at this; rw [sO]; exact this.2
    · simp only [b_,List.length_map]; unfold maxLen; omega
    · simp only [b_,List.length_map]; omega
    ·
     intro v' σ' h; exact hR v' σ' (by simpa only [b_,List.length_map] using h)
   split at h
   ·
    split at h
    ·
     simp only [Option.some.injEq] at h; subst h; refine aW.row JK hs fun ρ o ho R S hR=>?_; refine AO.K3 sz e (hrow ρ o ho _ 0 rfl fun v' σ' h=>?_); simp only [gV,Option.some.injEq] at h; subst h; have:=hR v'; simpa only [dY,List.nil_append,List.length_nil,Nat.zero_add] using this
    · cases h
   ·
    rename_i bb; split at h
    ·
     rename_i i n J9 e2 hfr; cases hq:(Nat.beq n l.length && Nat.beq J9 sz && Nat.beq e2 e) with
     | false=>rw [hq] at h; cases h
     | true=>
      rw [hq] at h; simp only [cond_true,Option.some.injEq] at h; subst h; simp only [Bool.and_eq_true] at hq; have q1:=Nat.eq_of_beq_eq_true hq.1.1; have q2:=Nat.eq_of_beq_eq_true hq.1.2; have q3:=Nat.eq_of_beq_eq_true hq.2; subst q1 q2 q3; have hfr:=(u7 hfr).2; rw [Nat.sub_zero] at hfr; intro s1 hset
      have hoa:Ok nx fun ρ=>dY ρ (l ++ l2):=fun ρ ρ' ha=>by
       have h1:=hol ρ ρ' ha; have h2:=JK ρ ρ' ha; simp only [b_] at h1 h2 ⊢; rw [List.map_append,List.map_append,h1,h2]
      refine ⟨Nat.le_succ _,fun ρ ρ' ha=>?_,gM.set (hs.le (Nat.le_succ _)) (fun ρ ρ' ha=>?_) hset,fun ρ o ho R S hR=>?_⟩
      ·
       show PV.ren ρ _=PV.ren ρ' _; simp only [PV.ren,rC]; rw [(ha nx (Nat.lt_succ_self _)).2,show dY ρ (l ++ l2)=dY ρ' (l ++ l2) from hoa ρ ρ' (ha.le (Nat.le_succ _))]
      ·
       show aM.ren ρ _=aM.ren ρ' _; simp only [aM.ren,rC]; rw [(ha nx (Nat.lt_succ_self _)).2]
      ·
       refine hrow ρ o ho (cB ρ s) i (by rw [fV,hfr]; rfl) fun v' σ' h=>?_; have:=hR (setH ρ nx v') (mo ρ nx v')
       have hs1:cB (setH ρ nx v') s1=σ':=by
        have h2:=nQ (ρ:=setH ρ nx v') s i (.row (.slice (some ⟨nx,0,none⟩) 0 0) (l ++ l2).length J9 e2); rw [hset,←show cB ρ s=cB (setH ρ nx v') s from hs _ _ (mo ρ nx v')] at h2; simp only [aM.ren,rC,xB,List.length_append,Option.map_some] at h2; rw [h] at h2; exact (Option.some.inj h2).symm
       rw [hs1] at this; simp only [PV.ren,rC,xB] at this; rw [←show dY ρ (l ++ l2)=dY (setH ρ nx v') (l ++ l2) from hoa _ _ (mo ρ nx v'),b_,List.map_append,←b_,←b_] at this; exact this
    · cases h
   · cases h
 · cases h
end
end Go.Abs
namespace Go.Abs
variable [cZ]
open Go
section
variable {P : Program} {s s1 : List aM} {nx lI : Nat} {v : Operand → PV} {p : PV}
theorem Ht {c:Call} {x:Operand} {t:TypeId} (cK:c.callee=.builtin .len) (ha:c.args.toList=[x]) (ht:c.argTypes.toList=[t]) (h:GU P t (v x)=some p) (hs:gM nx s):aW P s nx v (.call c) p s nx:=by
 unfold GU at h; split at h
 ·
  rename_i a hx; split at h
  ·
   rename_i hu; simp only [Option.some.injEq] at h; subst h; exact aW.pure (gX.free fun _=>rfl) hs fun ρ o ho R S hR=>AO.fG ho cK (EP ha) (EP ht) hu (by show (v x).ren ρ=_; rw [hx]; rfl) hR
  · cases h
 ·
  split at h
  ·
   rename_i l sz hl hz; simp only [Option.some.injEq] at h; subst h; exact aW.pure (gX.free fun _=>rfl) hs fun ρ o ho R S hR=>AO.wO (l:=dY ρ l) ho cK (EP ha) (EP ht) hz (by show ((v x).ren ρ).els=_; rw [oV,hl]; rfl) (by rw [b_,List.length_map]; exact hR)
  · cases h
def Ki (P:Program) (v:Operand→PV) (b:Builtin) (args:List Operand) (tys:List TypeId):Option PV:=
 match args,tys with
 | [x],[t]=>match b with
  | .len=>GU P t (v x)
  | .unsafeSliceData=>match v x with
   | .own (.slice none 0 0) []=>some (.val (.pointer none))
   | _=>none
  | _=>none
 | [x,y],[t,u]=>match b,v x,v y with
  | .min,.int k a,.int _ b=>some (.int k (if b < a then b else a))
  | .max,.int k a,.int _ b=>some (.int k (if a < b then b else a))
  | .unsafeString,.val (.pointer none),.int .i64 n=>bif decide (n=0) then (match P.underlying t with
   | some _=>some (.str [])
   | none=>none) else none
  | _,_,_=>none
 | _,_=>none
theorem Gu {c:Call} {b:Builtin} (cK:c.callee=.builtin b) (h:Ki P v b c.args.toList c.argTypes.toList=some p) (hs:gM nx s):aW P s nx v (.call c) p s nx:=by
 have key:∀ {a:PV} {z:Operand},v z=a→(∀ ρ:eF,a.ren ρ=a)→∀ ρ:eF,(fun x=>(v x).ren ρ) z=a:=fun h1 h2 ρ=>by show (v _).ren ρ=_; rw [h1,h2]
 unfold Ki at h; split at h
 ·
  rename_i x t ha ht; split at h
  · exact Ht cK ha ht h hs
  ·
   split at h
   ·
    rename_i hx; simp only [Option.some.injEq] at h; subst h; exact aW.pure (gX.free fun _=>rfl) hs fun ρ o ho R S hR=>AO.sliceData ho cK (EP ha) (key hx (fun _=>rfl) ρ) rfl hR
   · cases h
  · cases h
 ·
  rename_i x y t u ha ht; split at h
  ·
   rename_i k a k' b' hx hy; simp only [Option.some.injEq] at h; subst h; exact aW.pure (gX.free fun _=>rfl) hs fun ρ o ho R S hR=>AO.min2 ho cK (Dr ha) (key hx (fun _=>rfl) ρ) (key hy (fun _=>rfl) ρ) hR
  ·
   rename_i k a k' b' hx hy; simp only [Option.some.injEq] at h; subst h; exact aW.pure (gX.free fun _=>rfl) hs fun ρ o ho R S hR=>AO.max2 ho cK (Dr ha) (key hx (fun _=>rfl) ρ) (key hy (fun _=>rfl) ρ) hR
  ·
   rename_i n hx hy; cases e:decide (n=0) with
   | false=>rw [e] at h; cases h
   | true=>
    rw [e] at h; simp only [cond_true] at h; have e:=of_decide_eq_true e; subst e; split at h
    ·
     simp only [Option.some.injEq] at h; subst h; exact aW.pure (gX.free fun _=>rfl) hs fun ρ o ho R S hR=>AO.vY ho cK (Dr ha) (Dr ht) (key hx (fun _=>rfl) ρ) (key hy (fun _=>rfl) ρ) hR
    · cases h
  · cases h
 · cases h
def Lx (P:Program) (t f:Nat) (q:PV):Option PV:=
 match P.underlying t with
 | some (.struct fs)=>match fs[f]? with
  | some fl=>match dA P fl.type,q with
   | some (ag,k),.agg cs=>match fO fl.offset cs with
    | some r=>dW ag k r
    | none=>none
   | _,_=>none
  | none=>none
 | _=>none
theorem EG {t f:Nat} {x:Operand} (h:Lx P t f (v x)=some p) (hv:∀ x,gX nx (v x)) (hs:gM nx s):aW P s nx v (.field t x f) p s nx:=by
 unfold Lx at h; split at h
 ·
  rename_i fs hu; split at h
  ·
   rename_i fl hfl; split at h
   ·
    rename_i ag k cs ht hx; split at h
    ·
     rename_i r hd; have hx':=hv x; rw [hx] at hx'; refine aW.pure ((hx'.agg.drop hd).load h) hs fun ρ o ho R S hR=>?_; exact AO.field (cs:=bO ρ cs) (cs':=bO ρ r) ho hu hfl rfl ht (by show (v x).ren ρ=_; rw [hx]; rfl) (by rw [jR,hd]; rfl) (by rw [kV,h]; rfl) hR
    · cases h
   · cases h
  · cases h
 · cases h
def LB (P:Program) (t f:Nat) (q:PV):Option PV:=
 match iW P t f with
 | some off=>match q with
  | .ref cs=>match fO off cs with
   | some r=>some (.ref r)
   | none=>none
  | .val (.pointer (some ⟨b,k,none⟩))=>some (.val (.pointer (some ⟨b,k + off,none⟩)))
  | _=>none
 | none=>none
theorem yQ {t f:Nat} {x:Operand} (h:LB P t f (v x)=some p) (hv:∀ x,gX nx (v x)) (hs:gM nx s):aW P s nx v (.fieldAddr t x f) p s nx:=by
 unfold LB at h; split at h
 ·
  rename_i off ho; split at h
  ·
   rename_i cs hx; split at h
   ·
    rename_i r hd; simp only [Option.some.injEq] at h; subst h; have hx':=hv x; rw [hx] at hx'; exact aW.pure (hx'.ref.drop hd).ref hs fun ρ o ho' R S hR=>AO.pI (cs:=bO ρ cs) (cs':=bO ρ r) ho' (by show (v x).ren ρ=_; rw [hx]; rfl) ho (by rw [jR,hd]; rfl) hR
   · cases h
  ·
   rename_i b k hx; simp only [Option.some.injEq] at h; subst h; have hx':=hv x; rw [hx] at hx'; refine aW.pure (hx'.via fun ρ ρ' he=>by simp only [PV.ren,uj,PV.val.injEq,Value.pointer.injEq,Option.some.injEq,Addr.mk.injEq,and_true] at he ⊢; exact he) hs fun ρ o ho' R S hR=>?_; exact AO.l6 ho' (by show (v x).ren ρ=_; rw [hx]; rfl) ho hR
  · cases h
 · cases h
theorem Bu (ρ:eF) (h:p.notNil=true):(p.ren ρ).notNil=true:=by
 unfold PV.notNil at h; split at h
 · rfl
 · rfl
 ·
  rename_i a; obtain ⟨b,off,x⟩:=a; cases x <;> rfl
 · cases h
theorem AL {x:Operand} (h:(v x).notNil=true) (hv:∀ x,gX nx (v x)) (hs:gM nx s):aW P s nx v (.nilCheck x) (v x) s nx:=
 aW.pure (hv x) hs fun ρ o ho R S hR=>AO.nilCheck ho (Bu ρ h) hR
theorem Aj (g:Bool) (a b:PV):uo g a b=some (bif g then a else b):=by
 unfold uo; split
 · cases g <;> rfl
 · rw [jh]
def K5 (v:Operand→PV):Op→Option PV
 | .move x | .assign x=>some (v x)
 | .pick c a b=>match v c with
  | .bool g=>some (bif g then v a else v b)
  | _=>none
 | .unOp op _ x=>Cz op (v x)
 | .makeFunc (.func f) first captured=>bif first.isEmpty then some (.fn f (captured.toList.map v)) else none
 | .extract x i=>match v x with
  | .tuple vs=>vs[i]?
  | _=>none
 | _=>none
theorem JY {op:Op} (h:K5 v op=some p) (hv:∀ x,gX nx (v x)) (hs:gM nx s):aW P s nx v op p s nx:=by
 unfold K5 at h; split at h
 ·
  rename_i x; simp only [Option.some.injEq] at h; subst h; exact aW.pure (hv x) hs fun ρ o ho R S hR=>AO.calc' (by rw [ho]; exact jh _) hR
 ·
  rename_i x; simp only [Option.some.injEq] at h; subst h; exact aW.pure (hv x) hs fun ρ o ho R S hR=>AO.calc' (by rw [ho]; exact jh _) hR
 ·
  rename_i c a b; split at h
  ·
   rename_i g hg; simp only [Option.some.injEq] at h; subst h; refine aW.pure (by cases g; exact hv b; exact hv a) hs fun ρ o ho R S hR=>AO.calc' (p:=(bif g then v a else v b).ren ρ) ?_ hR; rw [ho]; simp only [Fj,hg,PV.ren,Aj]; cases g <;> rfl
  · cases h
 ·
  rename_i op t x; obtain ⟨h1,h2⟩:=Cy h; refine aW.pure (gX.free h1) hs fun ρ o ho R S hR=>AO.calc' (p:=p) ?_ (by rw [h1] at hR; exact hR); rw [ho]; simp only [Fj,h2]; exact h
 ·
  rename_i f first captured; cases e:first.isEmpty with
  | false=>rw [e] at h; cases h
  | true=>
   rw [e] at h; simp only [cond_true,Option.some.injEq] at h; subst h; refine aW.pure (jk.of fun q hq=>?_).fn hs fun ρ o ho R S hR=>AO.calc' (p:=.fn f (captured.toList.map fun x=>(v x).ren ρ)) ?_ ?_
   ·
    obtain ⟨x,_,rfl⟩:=List.mem_map.1 hq; exact hv x
   · rw [ho]; simp only [Fj,e,cond_true]
   · simp only [PV.ren,j3,List.map_map] at hR; exact hR
 ·
  rename_i x i; split at h
  ·
   rename_i vs hx; have hx':=hv x; rw [hx] at hx'; refine aW.pure (hx'.IQ.mem (List.mem_of_getElem? h)) hs fun ρ o ho R S hR=>AO.calc' (p:=p.ren ρ) ?_ hR; rw [ho]; simp only [Fj,hx,PV.ren,j3,List.getElem?_map,h,Option.map_some,jh]
  · cases h
 · cases h
theorem uS {a b:PV} {r:Bool} (h:wR a b=some r) (ρ:eF):wR (a.ren ρ) (b.ren ρ)=some r:=by
 cases a <;> cases b <;> simp only [wR,reduceCtorEq] at h <;> exact h
theorem kR (ρ:eF) (k:PV):∀ (es:List (Nat × PV × PV)) (i:Nat) {r:Option (Nat × PV)},ko k es i=some r→ko (k.ren ρ) (f_ ρ es) i=some (r.map fun x=>(x.1,x.2.ren ρ))
 | [],i,r,h=>by simp only [ko,Option.some.injEq] at h; subst h; rfl
 | (b,k',v') :: es,i,r,h=>by
  simp only [f_,List.map_cons,ko] at h ⊢; split at h
  ·
   rename_i hq; simp only [Option.some.injEq] at h; subst h; rw [uS hq]; rfl
  ·
   rename_i hq; rw [uS hq]; exact kR ρ k es (i + 1) h
  · cases h
theorem wS {k:PV}:∀ {es:List (Nat × PV × PV)} {i j:Nat} {q:PV},ko k es i=some (some (j,q))→∃ b k',(b,k',q)∈es
 | [],i,j,q,h=>by simp [ko] at h
 | (b,k',v') :: es,i,j,q,h=>by
  simp only [ko] at h; split at h
  ·
   simp only [Option.some.injEq,Prod.mk.injEq] at h; obtain ⟨_,rfl⟩:=h; exact ⟨b,k',by simp⟩
  ·
   obtain ⟨b,k2,h⟩:=wS h; exact ⟨b,k2,by simp [h]⟩
  · cases h
theorem gM.mp {i b n:Nat} {es:List (Nat × PV × PV)} (h:gM nx s) (hi:s[i]?=some (.mp b es n)):Ok nx (fun ρ=>f_ ρ es):=(h.get hi).via fun ρ ρ' he=>by simp only [aM.ren,aM.mp.injEq] at he; exact he.2.1
theorem LV.mem {es:List (Nat × PV × PV)} (h:Ok nx fun ρ=>f_ ρ es) {x:Nat × PV × PV} (hx:x∈es):gX nx x.2.1∧gX nx x.2.2:=by
 obtain ⟨i,hi⟩:=List.getElem?_of_mem hx; have:Ok nx fun ρ=>(x.1,x.2.1.ren ρ,x.2.2.ren ρ):=Ok.BA (fun l:List (Nat × PV × PV)=>l[i]?) h fun ρ=>by simp only [f_,List.getElem?_map,hi,Option.map_some]
 exact ⟨this.via fun ρ ρ' he=>(Prod.mk.inj (Prod.mk.inj he).2).1,this.via fun ρ ρ' he=>(Prod.mk.inj (Prod.mk.inj he).2).2⟩
theorem oP (ρ:eF) {kt:TypeId} {y:PV} (h:qN P kt y=true):qN P kt (y.ren ρ)=true:=by
 unfold qN at h ⊢; cases y <;> simp_all [PV.ren]
def Dx (P:Program) (t:TypeId):Option PV:=
 match P.info? t with
 | some i=>match i.zero with
  | some z=>bif uZ z then some (ofConst z) else none
  | none=>none
 | none=>none
theorem Dw {t:TypeId} {z:PV} (h:Dx P t=some z):(∀ ρ:eF,z.ren ρ=z)∧∀ w m,∃ v,(zeroValue t).run P w=.ok v w∧bq w m z v:=by
 unfold Dx at h; split at h
 ·
  rename_i i hi; split at h
  ·
   rename_i zv hz; cases e:uZ zv with
   | false=>rw [e] at h; cases h
   | true=>
    rw [e] at h; simp only [cond_true,Option.some.injEq] at h; subst h; exact ⟨fun ρ=>oM ρ e,fun w m=>⟨zv,by simp [zeroValue,run_typeInfo hi,hz],sD w m zv⟩⟩
  · cases h
 · cases h
def K_ (P:Program) (s:List aM) (t:TypeId) (q y:PV) (ok:Bool):Option PV:=
 match uR P t,q with
 | some (kt,et),.val (.map (some b))=>bif qN P kt y then (match l5 s b 0 with
  | some (_,es,_)=>match ko y es 0 with
   | some (some (_,p))=>some (bif ok then .tuple [p,.bool true] else p)
   | some none=>match Dx P et with
    | some z=>some (bif ok then .tuple [z,.bool false] else z)
    | none=>none
   | none=>none
  | none=>none) else none
 | _,_=>none
theorem Dc {t:TypeId} {x y:Operand} {ok:Bool} (h:K_ P s t (v x) (v y) ok=some p) (hs:gM nx s):aW P s nx v (.lookup t x y ok) p s nx:=by
 unfold K_ at h; split at h
 ·
  rename_i kt et b hk hx; cases hko:qN P kt (v y) with
  | false=>rw [hko] at h; cases h
  | true=>
   rw [hko] at h; simp only [cond_true] at h; split at h
   ·
    rename_i i es n hm; have hm:=(kQ hm).2; rw [Nat.sub_zero] at hm; have hi:∀ ρ:eF,(cB ρ s)[i]?=some (.mp (ρ.lb b) (f_ ρ es) n):=fun ρ=>by rw [fV,hm]; rfl
    have Gl:∀ ρ:eF,(v x).ren ρ=.val (.map (some (ρ.lb b))):=fun ρ=>by rw [hx]; rfl
    split at h
    ·
     rename_i j q hf; simp only [Option.some.injEq] at h; obtain ⟨bb,kk,hmem⟩:=wS hf; have hq:gX nx q:=(LV.mem (hs.mp hm) hmem).2
     have hp:gX nx p:=by
      subst h; cases ok
      · exact hq
      · exact (jk.cons hq (jk.cons (gX.free fun _=>rfl) jk.nil)).IQ
     refine aW.pure hp hs fun ρ o ho R S hR=>AO.Cj (z:=.undef) ho (hi ρ) (Gl ρ) hk (oP ρ hko) (kR ρ _ es 0 hf) (fun _ _ h=>by cases h) ?_ hR; subst h; cases ok <;> rfl
    ·
     rename_i hf; split at h
     ·
      rename_i z hz; obtain ⟨z1,z2⟩:=Dw hz; simp only [Option.some.injEq] at h
      have hp:∀ ρ:eF,p.ren ρ=p:=by
       subst h; intro ρ; cases ok
       · exact z1 ρ
       · simp only [cond_true,PV.ren,bO,z1]
      refine aW.pure (gX.free hp) hs fun ρ o ho R S hR=>AO.Cj (z:=z) ho (hi ρ) (Gl ρ) hk (oP ρ hko) (kR ρ _ es 0 hf) (fun w m _=>z2 w m) ?_ hR; rw [hp,←h]; rfl
     · cases h
    · cases h
   · cases h
 · cases h
def K9 (P:Program) (s:List aM) (t:TypeId) (q y z:PV):Option (List aM):=
 match uR P t,q with
 | some (kt,_),.val (.map (some b))=>bif qN P kt y then (match l5 s b 0 with
  | some (i,es,n)=>match ko y es 0 with
   | some (some (j,_))=>gV s i (.mp b (Aa y z es j) n)
   | some none=>gV s i (.mp b (es ++ [(n,y,z)]) (n + 1))
   | none=>none
  | none=>none) else none
 | _,_=>none
theorem qz (ρ:eF) (k v:PV):∀ (es:List (Nat × PV × PV)) (j:Nat),f_ ρ (Aa k v es j)=Aa (k.ren ρ) (v.ren ρ) (f_ ρ es) j
 | [],_=>rfl
 | (_,_,_) :: _,0=>rfl
 | x :: es,j + 1=>by
  have:=qz ρ k v es j; simp only [f_,List.map_cons,Aa] at this ⊢; rw [this]
theorem yO {t:TypeId} {x y z:Operand} (h:K9 P s t (v x) (v y) (v z)=some s1) (hv:∀ x,gX nx (v x)) (hs:gM nx s):aW P s nx v (.mapUpdate t x y z) .undef s1 nx:=by
 unfold K9 at h; split at h
 ·
  rename_i kt et b hk hx; cases hko:qN P kt (v y) with
  | false=>rw [hko] at h; cases h
  | true=>
   rw [hko] at h; simp only [cond_true] at h; split at h
   ·
    rename_i i es n hm; have hm:=(kQ hm).2; rw [Nat.sub_zero] at hm; have hi:∀ ρ:eF,(cB ρ s)[i]?=some (.mp (ρ.lb b) (f_ ρ es) n):=fun ρ=>by rw [fV,hm]; rfl
    have Gl:∀ ρ:eF,(v x).ren ρ=.val (.map (some (ρ.lb b))):=fun ρ=>by rw [hx]; rfl
    have hlb:Ok nx fun ρ=>ρ.lb b:=(hs.get hm).via fun ρ ρ' he=>by simp only [aM.ren,aM.mp.injEq] at he; exact he.1
    have fin:∀ es' n',Ok nx (fun ρ=>f_ ρ es')→gV s i (.mp b es' n')=some s1→(∀ ρ:eF,(f_ ρ es',n')=(match (ko ((v y).ren ρ) (f_ ρ es) 0).getD none with | some (j,_)=>(Aa ((v y).ren ρ) ((v z).ren ρ) (f_ ρ es) j,n) | none=>(f_ ρ es ++ [(n,(v y).ren ρ,(v z).ren ρ)],n + 1)))→
      (∃ r,ko (v y) es 0=some r)→aW P s nx v (.mapUpdate t x y z) .undef s1 nx:=by
     intro es' n' hes hset heq ⟨r,hr⟩; refine ⟨Nat.le_refl _,gX.free fun _=>rfl,gM.set hs (fun ρ ρ' ha=>?_) hset,fun ρ o ho R S hR=>?_⟩
     ·
      show aM.ren ρ _=aM.ren ρ' _; simp only [aM.ren,aM.mp.injEq,and_true]; exact ⟨hlb ρ ρ' ha,hes ρ ρ' ha⟩
     ·
      have h1:=kR ρ _ es 0 hr; have h2:=heq ρ; rw [h1] at h2; have h3:=nQ (ρ:=ρ) s i (.mp b es' n'); rw [hset] at h3; cases r with
      | none=>exact AO.uJ ho (hi ρ) (Gl ρ) hk (oP ρ hko) h1 h2 h3 (hR ρ (ql.refl _ _))
      | some x=>exact AO.uJ ho (hi ρ) (Gl ρ) hk (oP ρ hko) h1 h2 h3 (hR ρ (ql.refl _ _))
    split at h
    ·
     rename_i j q hf; refine fin _ _ (fun ρ ρ' ha=>?_) h (fun ρ=>?_) ⟨_,hf⟩
     ·
      show f_ ρ _=f_ ρ' _; rw [qz,qz,show (v y).ren ρ=(v y).ren ρ' from hv y ρ ρ' ha,show (v z).ren ρ=(v z).ren ρ' from hv z ρ ρ' ha,show f_ ρ es=f_ ρ' es from hs.mp hm ρ ρ' ha]
     · rw [kR ρ _ es 0 hf,qz]; rfl
    ·
     rename_i hf; refine fin _ _ (fun ρ ρ' ha=>?_) h (fun ρ=>?_) ⟨_,hf⟩
     ·
      have h1:f_ ρ es=f_ ρ' es:=hs.mp hm ρ ρ' ha; show f_ ρ _=f_ ρ' _; simp only [f_] at h1 ⊢; rw [List.map_append,List.map_append,h1]; simp only [List.map_cons,List.map_nil]; rw [show (v y).ren ρ=(v y).ren ρ' from hv y ρ ρ' ha,show (v z).ren ρ=(v z).ren ρ' from hv z ρ ρ' ha]
     ·
      rw [kR ρ _ es 0 hf]; simp only [f_,List.map_append,List.map_cons,List.map_nil,Option.map_none,Option.getD_some]
    · cases h
   · cases h
 · cases h
def K4 (P:Program) (s:List aM) (t:TypeId) (q:PV):Option Obj:=
 match P.underlying t,q with
 | some .string,.str a=>some (.stringIter ⟨a.toArray⟩ 0)
 | some (.map _ _),.val (.map (some b))=>match l5 s b 0 with
  | some (_,_,n)=>some (.mapIter (some b) n #[] n)
  | none=>none
 | _,_=>none
theorem aW.obj {op:Op} {ob:Obj} (hc:Ok nx fun ρ=>wm ρ ob) (hs:gM nx s)
  (h:∀ (ρ:eF) (o:Oper),o.op=op→∀ {R S:PV→List aM→Prop},(∀ b,R (.val (.pointer (some ⟨b,0,none⟩))) (.obj b (wm ρ ob) :: cB ρ s))→AO P o (fun x=>(v x).ren ρ) (cB ρ s) R S):
  aW P s nx v op (.val (.pointer (some ⟨nx,0,none⟩))) (.obj nx ob :: s) (nx + 1):=by
 refine ⟨Nat.le_succ _,Gg,gM.cons (fun ρ ρ' ha=>?_) (hs.le (Nat.le_succ _)),fun ρ o ho R S hR=>h ρ o ho fun b=>?_⟩
 ·
  show aM.ren ρ _=aM.ren ρ' _; simp only [aM.ren]; rw [(ha nx (Nat.lt_succ_self _)).1,show wm ρ ob=wm ρ' ob from hc ρ ρ' (ha.le (Nat.le_succ _))]
 ·
  have:=hR (sS ρ nx b) (jZ ρ nx b); simp only [PV.ren,uj,xC,cB,List.map_cons,aM.ren] at this; rw [←show wm ρ ob=wm (sS ρ nx b) ob from hc _ _ (jZ ρ nx b),←show s.map (aM.ren ρ)=s.map (aM.ren (sS ρ nx b)) from hs _ _ (jZ ρ nx b)] at this; exact this
theorem ED {t:TypeId} {x:Operand} {ob:Obj} (h:K4 P s t (v x)=some ob) (hv:∀ x,gX nx (v x)) (hs:gM nx s):aW P s nx v (.range t x) (.val (.pointer (some ⟨nx,0,none⟩))) (.obj nx ob :: s) (nx + 1):=by
 unfold K4 at h; split at h
 ·
  rename_i a hu hx; simp only [Option.some.injEq] at h; subst h; exact aW.obj (fun _ _ _=>rfl) hs fun ρ o ho R S hR=>AO.CR ho hu (by show (v x).ren ρ=_; rw [hx]; rfl) hR
 ·
  rename_i kt et b hu hx; split at h
  ·
   rename_i i es n hm; simp only [Option.some.injEq] at h; subst h; have hm:=(kQ hm).2; rw [Nat.sub_zero] at hm; have hlb:Ok nx fun ρ=>ρ.lb b:=(hs.get hm).via fun ρ ρ' he=>by simp only [aM.ren,aM.mp.injEq] at he; exact he.1
   exact aW.obj (hlb.via fun ρ ρ' he=>by simp only [wm,he]) hs fun ρ o ho R S hR=>AO.DT ho (es:=f_ ρ es) (i:=i) (by rw [fV,hm]; rfl) (by show (v x).ren ρ=_; rw [hx]; rfl) hu hR
  · cases h
 · cases h
def K8 (s:List aM) (q:PV):Option (PV × Option (Nat × Obj)):=
 match q with
 | .val (.pointer (some ⟨r,0,none⟩))=>match ng s r 0 with
  | some (i,.mapIter (some m) since ⟨seen⟩ last)=>match l5 s m 0 with
   | some (_,es,n)=>bif seen.isEmpty || es.isEmpty || es.any (fun e=>Nat.blt e.1 last) then (match es.filter (fun e=>!seen.any (Nat.beq e.1)) with
    | []=>some (.tuple [.bool false],none)
    | [(born,k,w)]=>bif Nat.blt born since then some (.tuple [.bool true,k,w],some (i,.mapIter (some m) since ⟨seen ++ [born]⟩ n)) else none
    | _=>none) else none
   | none=>none
  | _=>none
 | _=>none
theorem vg (ρ:eF) (f:Nat→Bool) (es:List (Nat × PV × PV)):(f_ ρ es).filter (fun e=>f e.1)=f_ ρ (es.filter fun e=>f e.1):=by
 induction es with
 | nil=>rfl
 | cons x es ih=>
  simp only [f_,List.map_cons,List.filter_cons] at ih ⊢; cases f x.1 <;> simp [ih]
theorem F3 (ρ:eF) (f:Nat→Bool) (es:List (Nat × PV × PV)):(f_ ρ es).any (fun e=>f e.1)=es.any fun e=>f e.1:=by
 induction es with
 | nil=>rfl
 | cons x es ih=>simp only [f_,List.map_cons,List.any_cons] at ih ⊢; rw [ih]
theorem Av (ρ:eF) (es:List (Nat × PV × PV)):(f_ ρ es).isEmpty=es.isEmpty:=by cases es <;> rfl
theorem Cr {x:Operand} {r:Nat} {u:Option (Nat × Obj)} (hx:v x=.val (.pointer (some ⟨r,0,none⟩))) (h:K8 s (v x)=some (p,u)) (hv:∀ x,gX nx (v x)) (hs:gM nx s):
  (u=none∧aW P s nx v (.next x false) p s nx)∨∃ i ob,u=some (i,ob)∧∀ s1,gV s i (.obj r ob)=some s1→aW P s nx v (.next x false) p s1 nx:=by
 rw [hx] at h; have Gl:∀ ρ:eF,(v x).ren ρ=.val (.pointer (some ⟨ρ.lb r,0,none⟩)):=fun ρ=>by rw [hx]; rfl
 unfold K8 at h; simp only at h; split at h
 ·
  rename_i i m since seen last ho1; have ho1:=(qc ho1).2; rw [Nat.sub_zero] at ho1; have hi:∀ ρ:eF,(cB ρ s)[i]?=some (.obj (ρ.lb r) (.mapIter (some (ρ.lb m)) since seen.toArray last)):=fun ρ=>by rw [fV,ho1]; rfl
  split at h
  ·
   rename_i j es n hm; have hm:=(kQ hm).2; rw [Nat.sub_zero] at hm; have hj:∀ ρ:eF,(cB ρ s)[j]?=some (.mp (ρ.lb m) (f_ ρ es) n):=fun ρ=>by rw [fV,hm]; rfl
   cases hg:(seen.isEmpty || es.isEmpty || es.any (fun e=>Nat.blt e.1 last)) with
   | false=>rw [hg] at h; cases h
   | true=>
    rw [hg] at h; simp only [cond_true] at h; have hgr:∀ ρ:eF,(seen.isEmpty || (f_ ρ es).isEmpty || (f_ ρ es).any (fun e=>Nat.blt e.1 last))=true:=fun ρ=>by rw [Av,F3 ρ (fun k=>Nat.blt k last)]; exact hg
    split at h
    ·
     rename_i hl; simp only [Option.some.injEq,Prod.mk.injEq] at h; obtain ⟨rfl,rfl⟩:=h; left; refine ⟨rfl,aW.pure (gX.free fun _=>rfl) hs fun ρ o ho R S hR=>?_⟩; exact AO.D_ ho (Gl ρ) (hi ρ) (hj ρ) (by rw [vg ρ (fun k=>!seen.any (Nat.beq k)),hl]; rfl) (hgr ρ) hR
    ·
     rename_i born k w hl; cases hb:Nat.blt born since with
     | false=>rw [hb] at h; cases h
     | true=>
      rw [hb] at h; simp only [cond_true,Option.some.injEq,Prod.mk.injEq] at h; obtain ⟨rfl,rfl⟩:=h; right; refine ⟨i,_,rfl,fun s1 hset=>⟨Nat.le_refl _,?_,?_,fun ρ o ho R S hR=>?_⟩⟩
      ·
       have hmem:(born,k,w)∈es:=(List.mem_filter.1 (show (born,k,w)∈es.filter (fun e=>!seen.any (Nat.beq e.1)) from by rw [hl]; simp)).1; have:=LV.mem (hs.mp hm) hmem; exact (jk.cons (gX.free fun _=>rfl) (jk.cons this.1 (jk.cons this.2 jk.nil))).IQ
      ·
       have hlb:Ok nx fun ρ=>ρ.lb m:=(hs.get hm).via fun ρ ρ' he=>by simp only [aM.ren,aM.mp.injEq] at he; exact he.1
       have hlr:Ok nx fun ρ=>ρ.lb r:=(hs.get ho1).via fun ρ ρ' he=>by simp only [aM.ren,aM.obj.injEq] at he; exact he.1
       exact gM.set hs (fun ρ ρ' ha=>by show aM.ren ρ _=aM.ren ρ' _; simp only [aM.ren,wm]; rw [show ρ.lb m=ρ'.lb m from hlb ρ ρ' ha,show ρ.lb r=ρ'.lb r from hlr ρ ρ' ha]) hset
      ·
       have h3:=nQ (ρ:=ρ) s i (.obj r (.mapIter (some m) since ⟨seen ++ [born]⟩ n)); rw [hset] at h3; exact AO.D9 ho (Gl ρ) (hi ρ) (hj ρ) (by rw [vg ρ (fun k=>!seen.any (Nat.beq k)),hl]; rfl) hb (hgr ρ) h3 (hR ρ (ql.refl _ _))
    · cases h
  · cases h
 · cases h
def LD (s:List aM) (q:PV):Option PV:=
 match q with
 | .val (.pointer (some ⟨r,0,none⟩))=>match ng s r 0 with
  | some (_,.mapIter (some m) _ ⟨seen⟩ last)=>match l5 s m 0,seen.getLast? with
   | some (_,es,n),some st=>bif Nat.beq n last then (match es.find? (fun e=>Nat.beq e.1 st) with
    | some e=>some (.tuple [e.2.1,e.2.2])
    | none=>none) else none
   | _,_=>none
  | _=>none
 | _=>none
theorem Ej (ρ:eF) (f:Nat→Bool) (es:List (Nat × PV × PV)):(f_ ρ es).find? (fun e=>f e.1)=(es.find? fun e=>f e.1).map fun x=>(x.1,x.2.1.ren ρ,x.2.2.ren ρ):=by
 induction es with
 | nil=>rfl
 | cons x es ih=>
  simp only [f_,List.map_cons,List.find?_cons] at ih ⊢; cases f x.1 <;> simp [ih]
theorem EH {x:Operand} (h:LD s (v x)=some p) (hs:gM nx s):aW P s nx v (.entry x) p s nx:=by
 unfold LD at h; split at h
 ·
  rename_i r hx; split at h
  ·
   rename_i i m since seen last ho1; have ho1:=(qc ho1).2; rw [Nat.sub_zero] at ho1; split at h
   ·
    rename_i j es n st hm hst; have hm:=(kQ hm).2; rw [Nat.sub_zero] at hm; cases hb:Nat.beq n last with
    | false=>rw [hb] at h; cases h
    | true=>
     rw [hb] at h; have hb:=Nat.eq_of_beq_eq_true hb; subst hb; simp only [cond_true] at h; split at h
     ·
      rename_i e he; simp only [Option.some.injEq] at h; subst h; have:=LV.mem (hs.mp hm) (List.mem_of_find?_eq_some he); refine aW.pure (jk.cons this.1 (jk.cons this.2 jk.nil)).IQ hs fun ρ o ho R S hR=>?_; refine AO.Eu (b:=ρ.lb r) (mb:=ρ.lb m) (es:=f_ ρ es) (seen:=seen) (since:=since) (n:=n) (i:=i) (j:=j) (born:=e.1) (kp:=e.2.1.ren ρ) (vp:=e.2.2.ren ρ) ho (by show (v x).ren ρ=_; rw [hx]; rfl) (by rw [fV,ho1]; rfl) (by rw [fV,hm]; rfl) hst ?_ hR; rw [Ej ρ (fun k=>Nat.beq k st),he]; rfl
     · cases h
   · cases h
  · cases h
 · cases h
theorem BG {t:TypeId} (hs:gM nx s):aW P s nx v (.makeMap t none) (.val (.map (some nx))) (.mp nx [] 0 :: s) (nx + 1):=by
 refine ⟨Nat.le_succ _,fun ρ ρ' ha=>?_,gM.cons (fun ρ ρ' ha=>?_) (hs.le (Nat.le_succ _)),fun ρ o ho R S hR=>AO.Ec ho fun b=>?_⟩
 ·
  show PV.ren ρ _=PV.ren ρ' _; simp only [PV.ren,uj]; rw [(ha nx (Nat.lt_succ_self _)).1]
 ·
  show aM.ren ρ _=aM.ren ρ' _; simp only [aM.ren]; rw [(ha nx (Nat.lt_succ_self _)).1]; rfl
 ·
  have:=hR (sS ρ nx b) (jZ ρ nx b); simp only [PV.ren,uj,xC,cB,List.map_cons,aM.ren] at this; rw [←show s.map (aM.ren ρ)=s.map (aM.ren (sS ρ nx b)) from hs _ _ (jZ ρ nx b)] at this; exact this
end
end Go.Abs
namespace Go.Abs
variable [cZ]
open Go
mutual
def Am (nx:Nat):PV→Bool
 | .val (.pointer (some ⟨b,_,none⟩))=>Nat.blt b nx
 | .val (.map (some b))=>Nat.blt b nx
 | .own (.slice (some ⟨b,0,none⟩) 0 0) l=>Nat.blt b nx && Ao nx l
 | .own _ l=>Ao nx l
 | .list l=>Ao nx l
 | .agg cs=>Fq nx cs
 | .tuple vs=>Fq nx vs
 | .iface _ p=>Am nx p
 | .fn _ cs=>Fq nx cs
 | .ref cs=>Fq nx cs
 | _=>true
def Fq (nx:Nat):List PV→Bool
 | []=>true
 | p :: ps=>Am nx p && Fq nx ps
def Ao (nx:Nat):List (List PV)→Bool
 | []=>true
 | l :: ls=>Fq nx l && Ao nx ls
end
theorem nC {a b:Nat} (h:Nat.blt a b=true):a < b:=Nat.le_of_ble_eq_true h
mutual
theorem rG {nx:Nat}:∀ (p:PV),Am nx p=true→gX nx p
 | .val v,h=>fun ρ ρ' ha=>by
  show PV.ren ρ _=PV.ren ρ' _; simp only [PV.ren]; unfold uj; split
  ·
   rename_i b off; have:=nC (show Nat.blt b nx=true from h); simp only [(ha b this).1]
  ·
   rename_i b; have:=nC (show Nat.blt b nx=true from h); simp only [(ha b this).1]
  · rfl
 | .own v l,h=>fun ρ ρ' ha=>by
  have hl:Ao nx l=true:=by
   unfold Am at h; split at h <;> simp_all
  show PV.ren ρ _=PV.ren ρ' _; simp only [PV.ren]; rw [yB l hl ρ ρ' ha]; congr 1; unfold rC; split
  ·
   rename_i b; have:(Nat.blt b nx && Ao nx l)=true:=h; simp only [Bool.and_eq_true] at this; exact ((ha b (nC this.1)).2).symm
  · rfl
 | .list l,h=>fun ρ ρ' ha=>by show PV.ren ρ _=PV.ren ρ' _; simp only [PV.ren]; rw [yB l (by simpa only [Am] using h) ρ ρ' ha]
 | .agg l,h=>fun ρ ρ' ha=>by show PV.ren ρ _=PV.ren ρ' _; simp only [PV.ren]; rw [pV l (by simpa only [Am] using h) ρ ρ' ha]
 | .tuple l,h=>fun ρ ρ' ha=>by show PV.ren ρ _=PV.ren ρ' _; simp only [PV.ren]; rw [pV l (by simpa only [Am] using h) ρ ρ' ha]
 | .fn f l,h=>fun ρ ρ' ha=>by show PV.ren ρ _=PV.ren ρ' _; simp only [PV.ren]; rw [pV l (by simpa only [Am] using h) ρ ρ' ha]
 | .ref l,h=>fun ρ ρ' ha=>by show PV.ren ρ _=PV.ren ρ' _; simp only [PV.ren]; rw [pV l (by simpa only [Am] using h) ρ ρ' ha]
 | .iface t p,h=>fun ρ ρ' ha=>by show PV.ren ρ _=PV.ren ρ' _; simp only [PV.ren]; rw [show p.ren ρ=p.ren ρ' from rG p (by simpa only [Am] using h) ρ ρ' ha]
 | .undef,_=>fun _ _ _=>rfl
 | .int _ _,_=>fun _ _ _=>rfl
 | .bool _,_=>fun _ _ _=>rfl
 | .str _,_=>fun _ _ _=>rfl
 | .err _,_=>fun _ _ _=>rfl
theorem pV {nx:Nat}:∀ (l:List PV),Fq nx l=true→∀ ρ ρ',ql nx ρ ρ'→bO ρ l=bO ρ' l
 | [],_,_,_,_=>rfl
 | p :: ps,h,ρ,ρ',ha=>by
  simp only [Fq,Bool.and_eq_true] at h; simp only [bO]; rw [show p.ren ρ=p.ren ρ' from rG p h.1 ρ ρ' ha,pV ps h.2 ρ ρ' ha]
theorem yB {nx:Nat}:∀ (l:List (List PV)),Ao nx l=true→∀ ρ ρ',ql nx ρ ρ'→dY ρ l=dY ρ' l
 | [],_,_,_,_=>rfl
 | p :: ps,h,ρ,ρ',ha=>by
  simp only [Ao,Bool.and_eq_true] at h; simp only [dY]; rw [pV p h.1 ρ ρ' ha,yB ps h.2 ρ ρ' ha]
end
def GN (nx:Nat):aM→Bool
 | .box b cs=>Nat.blt b nx && Fq nx cs
 | .row (.slice (some ⟨b,0,none⟩) 0 0) _ _ _=>Nat.blt b nx
 | .row _ _ _ _=>true
 | .obj b (.mapIter (some m) _ _ _)=>Nat.blt b nx && Nat.blt m nx
 | .obj b _=>Nat.blt b nx
 | .mp b es _=>Nat.blt b nx && es.all fun e=>Am nx e.2.1 && Am nx e.2.2
 | _=>true
theorem GL {nx:Nat} {r:aM} (h:GN nx r=true):Ok nx fun ρ=>r.ren ρ:=fun ρ ρ' ha=>by
 show aM.ren ρ r=aM.ren ρ' r; cases r with
 | box b cs=>
  simp only [GN,Bool.and_eq_true] at h; simp only [aM.ren]; rw [(ha b (nC h.1)).1,pV cs h.2 ρ ρ' ha]
 | row v n sz e=>
  simp only [aM.ren]; congr 1; unfold rC; split
  ·
   rename_i b; exact ((ha b (nC (show Nat.blt b nx=true from h))).2).symm
  · rfl
 | obj b o=>
  have hb:Nat.blt b nx=true:=by
   unfold GN at h; split at h <;> simp_all
  simp only [aM.ren]; rw [(ha b (nC hb)).1]; congr 1; unfold wm; split
  ·
   rename_i m x y z; have:(Nat.blt b nx && Nat.blt m nx)=true:=h; simp only [Bool.and_eq_true] at this; rw [(ha m (nC this.2)).1]
  · rfl
 | mp b es n=>
  simp only [GN,Bool.and_eq_true] at h; simp only [aM.ren]; rw [(ha b (nC h.1)).1]; congr 1; have h2:=h.2; rw [List.all_eq_true] at h2; unfold f_; refine List.map_congr_left fun e he=>?_; have:=h2 e he; simp only [Bool.and_eq_true] at this; rw [show e.2.1.ren ρ=e.2.1.ren ρ' from rG _ this.1 ρ ρ' ha,show e.2.2.ren ρ=e.2.2.ren ρ' from rG _ this.2 ρ ρ' ha]
 | _=>rfl
def CX (nx:Nat):aM→Bool
 | .box b _=>Nat.blt b nx
 | .row (.slice (some ⟨b,0,none⟩) 0 0) _ _ _=>Nat.blt b nx
 | .obj b _=>Nat.blt b nx
 | .mp b _ _=>Nat.blt b nx
 | _=>true
section
variable {P : Program} {s s1 : List aM} {nx lI : Nat} {v : Operand → PV} {p : PV}
def J_ (P:Program) (s:List aM) (v:Operand→PV):Op→Option PV
 | .load t x=>JE P s t (v x)
 | .build t parts=>match BM P v t parts with
  | some cs=>some (.agg cs)
  | none=>none
 | .index t x i=>La P v t x i
 | .indexAddr t x i=>Ld P v t x i
 | .slice t x lo hi none=>KY P v t x lo hi
 | .binOp op t x y _=>H9 P v op t x y
 | .convert src dst x=>match Il P src dst (v x) with
  | some (.val p)=>some p
  | _=>none
 | .call c=>match c.callee with
  | .builtin b=>Ki P v b c.args.toList c.argTypes.toList
  | _=>none
 | .field t x f=>Lx P t f (v x)
 | .fieldAddr t x f=>LB P t f (v x)
 | .nilCheck x=>bif (v x).notNil then some (v x) else none
 | .lookup t x y ok=>K_ P s t (v x) (v y) ok
 | .entry x=>LD s (v x)
 | op=>K5 v op
theorem DZ {op:Op} (h:J_ P s v op=some p) (hv:∀ x,gX nx (v x)) (hs:gM nx s):aW P s nx v op p s nx:=by
 unfold J_ at h; split at h
 · exact FL h hv hs
 ·
  split at h
  ·
   rename_i hb; simp only [Option.some.injEq] at h; subst h; exact EJ hb hv hs
  · cases h
 · exact EF h hs
 · exact yP h hv hs
 · exact EC h hv hs
 ·
  obtain ⟨h1,h2⟩:=EK (s:=s) h; exact aW.pure (gX.free h1) hs fun ρ o ho R S hR=>h2 ρ o ho (by rw [h1] at hR; exact hR)
 ·
  split at h
  ·
   rename_i hc; simp only [Option.some.injEq] at h; subst h; exact Gt hc hs
  · cases h
 ·
  split at h
  ·
   rename_i hc; exact Gu hc h hs
  · cases h
 · exact EG h hv hs
 · exact yQ h hv hs
 ·
  rename_i x; cases e:(v x).notNil with
  | false=>rw [e] at h; cases h
  | true=>
   rw [e] at h; simp only [cond_true,Option.some.injEq] at h; subst h; exact AL e hv hs
 · exact Dc h hs
 · exact EH h hs
 · exact JY h hv hs
def opC (P:Program) (s:List aM) (nx:Nat) (v:Operand→PV):Op→Option (PV × List aM × Nat)
 | .store t x y=>match KX P s t (v x) (v y) with
  | some s1=>some (.undef,s1,nx)
  | none=>none
 | .alloc t=>match IJ P t with
  | some cs=>some (.val (.pointer (some ⟨nx,0,none⟩)),.box nx cs :: s,nx + 1)
  | none=>none
 | .box _ x=>match (v x).gK with
  | some cs=>some (.val (.pointer (some ⟨nx,0,none⟩)),.box nx cs :: s,nx + 1)
  | none=>none
 | .buildSlice t len parts=>match LM P v t len parts with
  | some (l,sz,e)=>some (.own (.slice (some ⟨nx,0,none⟩) 0 0) l,.row (.slice (some ⟨nx,0,none⟩) 0 0) len sz e :: s,nx + 1)
  | none=>none
 | .mapUpdate t x y z=>match K9 P s t (v x) (v y) (v z) with
  | some s1=>some (.undef,s1,nx)
  | none=>none
 | .makeMap _ none=>some (.val (.map (some nx)),.mp nx [] 0 :: s,nx + 1)
 | .range t x=>match K4 P s t (v x) with
  | some ob=>some (.val (.pointer (some ⟨nx,0,none⟩)),.obj nx ob :: s,nx + 1)
  | none=>none
 | .next x false=>match v x with
  | .val (.pointer (some ⟨r,0,none⟩))=>match K8 s (v x) with
   | some (p,none)=>some (p,s,nx)
   | some (p,some (i,ob))=>match gV s i (.obj r ob) with
    | some s1=>some (p,s1,nx)
    | none=>none
   | none=>none
  | _=>none
 | .convert src dst x=>match Il P src dst (v x) with
  | some (.val p)=>some (p,s,nx)
  | some (.row e t)=>some (.own (.slice (some ⟨nx,0,none⟩) 0 0) (t.map gP),.row (.slice (some ⟨nx,0,none⟩) 0 0) t.length 1 e :: s,nx + 1)
  | none=>none
 | .call c=>match c.callee with
  | .builtin .append=>match c.args.toList,c.argTypes.toList with
   | [x,y],[t,tx]=>match LU P s t tx (v x) (v y) with
    | some (.row l sz e)=>some (.own (.slice (some ⟨nx,0,none⟩) 0 0) l,.row (.slice (some ⟨nx,0,none⟩) 0 0) l.length sz e :: s,nx + 1)
    | some (.grow i l sz e)=>match gV s i (.row (.slice (some ⟨nx,0,none⟩) 0 0) l.length sz e) with
     | some s1=>some (.own (.slice (some ⟨nx,0,none⟩) 0 0) l,s1,nx + 1)
     | none=>none
    | _=>none
   | _,_=>none
  | .builtin b=>match Ki P v b c.args.toList c.argTypes.toList with
   | some p=>some (p,s,nx)
   | none=>none
  | _=>none
 | op=>match J_ P s v op with
  | some p=>some (p,s,nx)
  | none=>none
theorem D5 {op:Op} (h:opC P s nx v op=some (p,s1,lI)) (hv:∀ x,gX nx (v x)) (hs:gM nx s):aW P s nx v op p s1 lI:=by
 unfold opC at h; split at h
 ·
  split at h
  ·
   rename_i hb; simp only [Option.some.injEq,Prod.mk.injEq] at h; obtain ⟨rfl,rfl,rfl⟩:=h; exact EB hb hv hs
  · cases h
 ·
  split at h
  ·
   rename_i hb; simp only [Option.some.injEq,Prod.mk.injEq] at h; obtain ⟨rfl,rfl,rfl⟩:=h; exact EL hb hs
  · cases h
 ·
  split at h
  ·
   rename_i hb; simp only [Option.some.injEq,Prod.mk.injEq] at h; obtain ⟨rfl,rfl,rfl⟩:=h; exact Hu hb hv hs
  · cases h
 ·
  split at h
  ·
   rename_i hb; simp only [Option.some.injEq,Prod.mk.injEq] at h; obtain ⟨rfl,rfl,rfl⟩:=h; exact wB hb hv hs
  · cases h
 ·
  split at h
  ·
   rename_i hb; simp only [Option.some.injEq,Prod.mk.injEq] at h; obtain ⟨rfl,rfl,rfl⟩:=h; exact yO hb hv hs
  · cases h
 ·
  simp only [Option.some.injEq,Prod.mk.injEq] at h; obtain ⟨rfl,rfl,rfl⟩:=h; exact BG hs
 ·
  split at h
  ·
   rename_i hb; simp only [Option.some.injEq,Prod.mk.injEq] at h; obtain ⟨rfl,rfl,rfl⟩:=h; exact ED hb hv hs
  · cases h
 ·
  split at h
  ·
   rename_i r hx; split at h
   ·
    rename_i q hn; simp only [Option.some.injEq,Prod.mk.injEq] at h; obtain ⟨rfl,rfl,rfl⟩:=h; rcases Cr hx hn hv hs with h | ⟨i,ob,h,_⟩
    · exact h.2
    · cases h
   ·
    rename_i q i ob hn; split at h
    ·
     rename_i s2 hset; simp only [Option.some.injEq,Prod.mk.injEq] at h; obtain ⟨rfl,rfl,rfl⟩:=h; rcases Cr hx hn hv hs with h | ⟨i',MQ,h,h2⟩
     · cases h.1
     · cases h; exact h2 _ hset
    · cases h
   · cases h
  · cases h
 ·
  split at h
  ·
   rename_i hb; simp only [Option.some.injEq,Prod.mk.injEq] at h; obtain ⟨rfl,rfl,rfl⟩:=h; exact Gt hb hs
  ·
   rename_i hb; simp only [Option.some.injEq,Prod.mk.injEq] at h; obtain ⟨rfl,rfl,rfl⟩:=h; exact EI hb hs
  · cases h
 ·
  split at h
  ·
   rename_i cK; split at h
   ·
    rename_i x y t tx ha ht; split at h
    ·
     rename_i hap; simp only [Option.some.injEq,Prod.mk.injEq] at h; obtain ⟨rfl,rfl,rfl⟩:=h; exact wY cK ha ht hap hv hs
    ·
     rename_i hap; split at h
     ·
      rename_i s2 hset; simp only [Option.some.injEq,Prod.mk.injEq] at h; obtain ⟨rfl,rfl,rfl⟩:=h; exact wY cK ha ht hap hv hs _ hset
     · cases h
    · cases h
   · cases h
  ·
   rename_i cK; split at h
   ·
    rename_i hb; simp only [Option.some.injEq,Prod.mk.injEq] at h; obtain ⟨rfl,rfl,rfl⟩:=h; exact Gu cK hb hs
   · cases h
  · cases h
 ·
  split at h
  ·
   rename_i hb; simp only [Option.some.injEq,Prod.mk.injEq] at h; obtain ⟨rfl,rfl,rfl⟩:=h; exact DZ hb hv hs
  · cases h
end
end Go.Abs
namespace Go.Abs
variable [cZ]
open Go
inductive Kk where
 | sq (c:Code)
 | bl (id:Nat)
 | lp (c:Code)
inductive CS where
 | w (c:Code) (k:List Kk) (e:Env)
 | r (all:Array Oper) (l:List Oper) (k:List Kk) (e:Env)
 | x (ax:AX) (k:List Kk) (e:Env)
 | v (all:Array Oper) (l:List Oper) (e:Env)
def pW (P:Program) (QC:Exit→Act→World→Prop) (c:Code) (a:Act) (w:World):Prop:=
 ∀ b k cs,∃ e a' w',QC e a' w'∧Arrives P (lone (b.at a (.code c :: .inLoop c :: k)) cs w) b k cs e a' w'
theorem pW.loop {P:Program} {QC:Exit→Act→World→Prop} {c:Code} {a:Act} {w:World} (h:pW P QC c a w):(Code.loop c).wp P QC a w:=fun b k cs=>by
 obtain ⟨e,a',w',hq,harr⟩:=h b k cs; exact ⟨e,a',w',hq,.of_steps (.one step_loop) harr⟩
theorem pW.step {P:Program} {QC:Exit→Act→World→Prop} {c:Code} {a:Act} {w:World} (h:c.wp P (Exit.then (fun a' w'=>pW P QC c a' w') QC) a w):pW P QC c a w:=fun b k cs=>by
 obtain ⟨e,a₁,w₁,hq,harr⟩:=h b (.inLoop c :: k) cs; cases e with
 | normal=>
  obtain ⟨e₂,a₂,w₂,hq₂,harr₂⟩:=hq b k cs; exact ⟨e₂,a₂,w₂,hq₂,.of_steps (Steps.trans harr (.one step_inLoop)) harr₂⟩
 | exit id=>exact ⟨_,a₁,w₁,hq,.pass (x:=.inLoop c) rfl (fun _ _=>.inl (by simp)) harr⟩
 | goto l=>exact ⟨_,a₁,w₁,hq,.pass (x:=.inLoop c) rfl (fun _ _=>.inl (by simp)) harr⟩
 | ret=>exact ⟨_,a₁,w₁,hq,.pass (x:=.inLoop c) rfl (fun _ _=>.inl (by simp)) harr⟩
 | panic ch=>exact ⟨_,a₁,w₁,hq,.pass (x:=.inLoop c) rfl (fun _ _=>.inl (by simp)) harr⟩
 | outgrown=>exact ⟨_,a₁,w₁,hq,.pass (x:=.inLoop c) rfl (fun _ _=>.inl (by simp)) harr⟩
def zY (P:Program) (n:Nat) (c:Code) (env:Env) (σ:List aM) (ds:List Deferred) (Q:Post):Prop:=
 ∀ w m a QC,iM w m n env σ ds a→Acc n Q w m σ QC→pW P QC c a w
theorem zY.loop {P:Program} {n:Nat} {c:Code} {env:Env} {σ:List aM} {ds:List Deferred} {Q:Post} (h:zY P n c env σ ds Q):AW P n (.loop c) env σ ds Q:=
 fun w m a QC hs ha=>(h w m a QC hs ha).loop
theorem zY.step {P:Program} {n:Nat} {c:Code} {env:Env} {σ:List aM} {ds:List Deferred} {Q:Post} (h:AW P n c env σ ds (AX.then (fun e s d=>zY P n c e s d Q) Q)):zY P n c env σ ds Q:=by
 intro w m a QC hs ha; refine pW.step (h w m a _ hs ?_); intro x ex e1 σ1 d1 a1 w1 m1 hq hx hs1 ht; cases x with
 | normal=>cases hx; exact hq w1 m1 a1 QC hs1 (ha.step ht)
 | exit id=>cases hx; exact ha (.exit id) _ e1 σ1 d1 a1 w1 m1 hq rfl hs1 ht
 | ret=>cases hx; exact ha .ret _ e1 σ1 d1 a1 w1 m1 hq rfl hs1 ht
 | panic p=>obtain ⟨v,rfl,hv⟩:=hx; exact ha (.panic p) _ e1 σ1 d1 a1 w1 m1 hq ⟨v,rfl,hv⟩ hs1 ht
def pE (P:Program) (n:Nat):List Kk→Post→Post
 | [],Q=>Q
 | .sq c :: k,Q=>AX.then (fun e s d=>AW P n c e s d (pE P n k Q)) (pE P n k Q)
 | .bl id :: k,Q=>AX.inBlock id (pE P n k Q)
 | .lp c :: k,Q=>AX.then (fun e s d=>zY P n c e s d (pE P n k Q)) (pE P n k Q)
def CS.ok (P:Program) (n:Nat) (Q:Post) (ρ:eF) (s:List aM):CS→Prop
 | .w c k e=>AW P n c (eZ ρ e) (cB ρ s) [] (pE P n k Q)
 | .r all l k e=>AR P n all l (eZ ρ e) (cB ρ s) [] (pE P n k Q)
 | .x ax k e=>pE P n k Q ax (eZ ρ e) (cB ρ s) []
 | .v _ _ _=>True
def CS.env :CS→Env
 | .w _ _ e=>e
 | .r _ _ _ e=>e
 | .x _ _ e=>e
 | .v _ _ e=>e
def qB (P:Program) (e:Env) (s:List aM):ResultVar→Option PV
 | .tmp t=>some (e.get t)
 | .cell a t=>match e.get a,dA P t with
  | .val (.pointer (some ⟨b,0,none⟩)),some (ag,k)=>match kI s b 0 with
   | some (_,cs)=>dW ag k cs
   | none=>none
  | _,_=>none
def nU (P:Program) (e:Env) (s:List aM):List ResultVar→Option (List PV)
 | []=>some []
 | r :: rs=>match qB P e s r with
  | some p=>match nU P e s rs with
   | some ps=>some (p :: ps)
   | none=>none
  | none=>none
def Ew :AX→Bool
 | .normal=>true
 | .ret=>true
 | _=>false
def CQ (P:Program) (fn:Func) (nx:Nat):Option (AX × Env × List aM × Nat)→Option (PV × List aM × Nat)
 | some (ax,e',s',nx')=>bif (Ew ax) then (match nU P e' s' fn.results.toList with
  | some ps=>bif Am nx (eU ps) && (s'.filter (CX nx)).all (GN nx) then some (eU ps,s'.filter (CX nx),nx) else some (eU ps,s',nx')
  | none=>none) else none
 | none=>none
def lV (v:Operand→PV):Op→Option (Nat × List PV)
 | .call c=>match c.callee with
  | .value rW=>match v rW with
   | .fn f caps=>some (f,c.args.toList.map v ++ caps)
   | _=>none
  | _=>none
 | _=>none
def LH (P:Program):Op→Bool
 | .store _ _ _ | .alloc _ | .box _ _ | .buildSlice _ _ _ | .mapUpdate _ _ _ _ | .makeMap _ _ | .range _ _ | .next _ _=>true
 | .convert _ dst _=>match P.underlying dst with
  | some (.slice _)=>true
  | _=>false
 | .call c=>match c.callee with
  | .builtin .append=>true
  | _=>false
 | _=>false
def bS (P:Program):List Oper→Nat
 | []=>0
 | o :: r=>bif LH P o.op then 0 else bS P r + 1
def ET (k:Nat) (l:List Nat):Bool:=(List.range k).all fun j=>l.any fun x=>Nat.beq x j
def kY (L:List Oper) (k:Nat):Nat→Nat→Nat
 | 0,q=>q
 | f + 1,q=>match L[q]? with
  | some o=>bif ET k (vE L q (bL o)) then q else kY L k f (q + 1)
  | none=>q
def ku (L:List Oper) (k:Nat):Nat:=
 match L[k]? with
 | some o=>((List.range k).takeWhile fun j=>(vE L k (bL o)).any fun x=>Nat.beq x j).length
 | none=>0
def Hf (P:Program) (n:Nat):List Oper→Env→List aM→Nat→Option (Env × List aM × Nat)
 | [],e,s,nx=>some (e,s,nx)
 | o :: r,e,s,nx=>match o.guard with
  | some _=>none
  | none=>match opC P s nx (tH e) o.op with
   | some (p,s1,lI)=>match o.dst with
    | some t=>bif Nat.blt t n then Hf P n r ((t,p) :: e) s1 lI else none
    | none=>Hf P n r e s1 lI
   | none=>none
def J3 (s:List aM) (v:Operand→PV):Op→Option Nat
 | .store _ x _=>match v x with
  | .val (.pointer (some ⟨b,_,none⟩))=>match kI s b 0 with
   | some (i,_)=>some i
   | none=>none
  | _=>none
 | _=>none
def ex (P:Program):Nat→Nat→CS→List aM→Nat→Option (AX × Env × List aM × Nat)
 | 0,_,_,_,_=>none
 | f + 1,n,.w c k e,s,nx=>match c with
  | .seq c d=>ex P f n (.w c (.sq d :: k) e) s nx
  | .block id c=>ex P f n (.w c (.bl id :: k) e) s nx
  | .region _ all false=>ex P f n (.r all all.toList k e) s nx
  | .region _ all true=>
   bif qF all.toList (bS P all.toList) && Nat.ble (bS P all.toList) all.toList.length then (match ex P f n (.v all (all.toList.take (bS P all.toList)) e) s nx with
    | some (_,e1,_,_)=>ex P f n (.r all (all.toList.drop (bS P all.toList)) k e1) s nx
    | none=>none)
   else (match all.toList[bS P all.toList]? with
    | none=>none
    | some oj=>
     bif rF all.toList (bS P all.toList) (kY all.toList (bS P all.toList) 100 (bS P all.toList + 1)) && rV all.toList (bS P all.toList) (kY all.toList (bS P all.toList) 100 (bS P all.toList + 1)) &&
       rU all.toList (ku all.toList (bS P all.toList)) (bS P all.toList) (kY all.toList (bS P all.toList) 100 (bS P all.toList + 1)) &&
       Nat.ble (ku all.toList (bS P all.toList)) (bS P all.toList) && Nat.ble (bS P all.toList) (kY all.toList (bS P all.toList) 100 (bS P all.toList + 1)) &&
       Nat.ble (kY all.toList (bS P all.toList) 100 (bS P all.toList + 1)) all.toList.length then
      (match ex P f n (.v all (all.toList.take (ku all.toList (bS P all.toList))) e) s nx with
      | none=>none
      | some (_,e1,_,_)=>match ex P f n (.v all ((all.toList.drop (ku all.toList (bS P all.toList))).take (bS P all.toList - ku all.toList (bS P all.toList))) e1) s nx with
       | none=>none
       | some (_,e2,_,_)=>match J3 s (tH e2) oj.op with
        | none=>match Hf P n ((all.toList.drop (bS P all.toList)).take (kY all.toList (bS P all.toList) 100 (bS P all.toList + 1) - bS P all.toList)) e2 [] nx with
         | some (e3,s2,GQ)=>ex P f n (.r all (all.toList.drop (kY all.toList (bS P all.toList) 100 (bS P all.toList + 1))) k e3) (s ++ s2) GQ
         | none=>none
        | some i=>match s[i]? with
         | none=>none
         | some r=>match ex P f n (.v all ((all.toList.drop (ku all.toList (bS P all.toList))).take (bS P all.toList - ku all.toList (bS P all.toList))) e1) (s.eraseIdx i) nx with
          | none=>none
          | some (_,e2,_,_)=>match Hf P n ((all.toList.drop (bS P all.toList)).take (kY all.toList (bS P all.toList) 100 (bS P all.toList + 1) - bS P all.toList)) e2 [r] nx with
           | some (e3,s2,GQ)=>ex P f n (.r all (all.toList.drop (kY all.toList (bS P all.toList) 100 (bS P all.toList + 1))) k e3) (s.eraseIdx i ++ s2) GQ
           | none=>none)
     else none)
  | .skip=>ex P f n (.x .normal k e) s nx
  | .label _=>ex P f n (.x .normal k e) s nx
  | .exit id=>ex P f n (.x (.exit id) k e) s nx
  | .ret=>ex P f n (.x .ret k e) s nx
  | .cond c a b=>match tH e c with
   | .bool true=>ex P f n (.w a k e) s nx
   | .bool false=>ex P f n (.w b k e) s nx
   | _=>none
  | .loop c=>ex P f n (.w c (.lp c :: k) e) s nx
  | _=>none
 | f + 1,n,.r all l k e,s,nx=>match l with
  | []=>ex P f n (.x .normal k e) s nx
  | o :: rest=>match fH all e o.guard with
   | none=>none
   | some false=>match o.dst with
    | some t=>bif Nat.blt t n then ex P f n (.r all rest k ((t,.val Go.undef) :: e)) s nx else none
    | none=>none
   | some true=>match (match lV (tH e) o.op with
     | some (g,args)=>match P.funcs[g]? with
      | some fn=>match fn.body with
       | some c=>bif Nat.ble args.length fn.ntmps && bF P g then CQ P fn nx (ex P f fn.ntmps (.w c [] (fM 0 args)) s nx) else none
       | none=>none
      | none=>none
     | none=>opC P s nx (tH e) o.op) with
    | none=>none
    | some (p,s1,lI)=>match o.dst with
     | some t=>bif Nat.blt t n then ex P f n (.r all rest k ((t,p) :: e)) s1 lI else none
     | none=>match o.guard with
      | none=>ex P f n (.r all rest k e) s1 lI
      | some _=>none
 | f + 1,n,.x ax k e,s,nx=>match k with
  | []=>some (ax,e,s,nx)
  | .sq d :: k=>match ax with
   | .normal=>ex P f n (.w d k e) s nx
   | ax=>ex P f n (.x ax k e) s nx
  | .bl id :: k=>match ax with
   | .exit i=>bif Nat.beq i id then ex P f n (.x .normal k e) s nx else ex P f n (.x (.exit i) k e) s nx
   | ax=>ex P f n (.x ax k e) s nx
  | .lp c :: k=>match ax with
   | .normal=>ex P f n (.w c (.lp c :: k) e) s nx
   | ax=>ex P f n (.x ax k e) s nx
 | f + 1,n,.v all l e,s,nx=>match l with
  | []=>some (.normal,e,s,nx)
  | o :: rest=>match o.dst with
   | none=>none
   | some t=>bif Nat.blt t n then (match fH all e o.guard with
    | none=>none
    | some false=>ex P f n (.v all rest ((t,.val Go.undef) :: e)) s nx
    | some true=>match (match lV (tH e) o.op with
      | some (g,args)=>match P.funcs[g]? with
       | some fn=>match fn.body with
        | some c=>bif Nat.ble args.length fn.ntmps && bF P g then CQ P fn nx (ex P f fn.ntmps (.w c [] (fM 0 args)) [] nx) else none
        | none=>none
       | none=>none
      | none=>match J_ P s (tH e) o.op with
       | some p=>some (p,s,nx)
       | none=>none) with
     | none=>none
     | some (p,_,_)=>bif Am nx p then ex P f n (.v all rest ((t,p) :: e)) s nx else none) else none
end Go.Abs
namespace Go.Abs
variable [cZ]
open Go
def EU (P:Program) (rs:List ResultVar) (R:lK→List aM→Prop):Post
 | .normal,e,s,d | .ret,e,s,d=>d=[]∧∃ ps,vW P e s rs ps∧∃ s',s'.Sublist s∧R (.ret (eU ps)) s'
 | _,_,_,_=>False
theorem AC.D6 {P:Program} {f:FuncId} {fn:Func} {c:Code} {args:List PV} {σ:List aM} {R:lK→List aM→Prop}
  (hf:P.funcs[f]?=some fn) (hb:fn.body=some c) (hl:Nat.ble args.length fn.ntmps=true)
  (h:AW P fn.ntmps c (fM 0 args) σ [] (EU P fn.results.toList R)):AC P f args σ R:=by
 intro w m vs hc hv; have hl:args.length≤fn.ntmps:=Nat.le_of_ble_eq_true hl; have hvl:=hv.length_eq; refine calls_of_wp hf hb ?_; refine h w m _ _ ⟨?_,rfl,?_,hc⟩ ?_
 · simp [hvl]; omega
 ·
  have:=rz (List.replicate (fn.ntmps - vs.toArray.size) Go.undef) [] hv; rw [show vs.toArray ++ Array.replicate (fn.ntmps - vs.toArray.size) Go.undef=([] ++ vs ++ List.replicate (fn.ntmps - vs.toArray.size) Go.undef).toArray from by simp]; exact this
 ·
  intro x ex env' σ' ds' a' w' m' hq hx hs ht
  have hend:∀ ps s',ds'=[]→vW P env' σ' fn.results.toList ps→s'.Sublist σ'→R (.ret (eU ps)) s'→a'.defers=[]∧∃ v,(results fn a'.tmps).run P w'=.ok v w'∧∃ out σ' m',R out σ'∧yY w' m' out (.returned v)∧Conc w' m' σ'∧Trans w m σ w' m' σ':=by
   intro ps s' hd h1 hsub h2; obtain ⟨us,k1,k2⟩:=nR hs.env hs.gq h1; have hl2:=k2.length_eq; refine ⟨by rw [hs.ds,hd],?_⟩
   have hrun:(results fn a'.tmps).run P w'=.ok (if h:us.toArray.size=1 then us.toArray[0] else .tuple us.toArray) w':=by
    unfold results; rw [Array.mapM_eq_mapM_toList]; have k1':=k1; simp only [Sem.run_bind,Sem.run_map]
    erw [k1']
    rfl
   have hl2:us.length=ps.length:=by simpa using hl2
   refine ⟨_,hrun,.ret (eU ps),s',m',h2,⟨_,rfl,?_⟩,hs.gq.sub hsub,ht.sub hsub⟩; clear h1 h2
   match ps,us,k2,hl2 with
   | [],us,k2,hl2=>
    simp only [aN] at k2; subst k2; simp only [eU,bq]; exact ⟨[],by simp,aN.nil⟩
   | [p],us,k2,hl2=>
    simp only [aN] at k2; obtain ⟨v,vs',rfl,h3,rfl⟩:=k2; simpa [eU] using h3
   | p :: q :: ps,us,k2,hl2=>
    rw [dif_neg (by simp [hl2])]; simp only [eU,bq]; exact ⟨us,rfl,k2⟩
  cases x with
  | normal=>cases hx; obtain ⟨hd,ps,h1,s',hsub,h2⟩:=hq; exact hend ps s' hd h1 hsub h2
  | ret=>cases hx; obtain ⟨hd,ps,h1,s',hsub,h2⟩:=hq; exact hend ps s' hd h1 hsub h2
  | exit id=>exact hq.elim
  | panic p=>exact hq.elim
section
variable {P : Program} {s : List aM} {nx : Nat}
theorem nD (ρ:eF):∀ (args:List PV) (i:Nat),eZ ρ (fM i args)=fM i (bO ρ args)
 | [],_=>rfl
 | p :: ps,i=>by
  have:=nD ρ ps (i + 1); simp only [eZ,fM,List.map_cons,bO] at this ⊢; rw [this]
theorem jk.fM {args:List PV} (h:jk nx args) (i:Nat):q8 nx (fM i args):=h.via fun ρ ρ' he=>by rw [nD,nD,he]
theorem pR (ρ:eF) (ps:List PV):(eU ps).ren ρ=eU (bO ρ ps):=by
 match ps with
 | []=>rfl
 | [p]=>rfl
 | p :: q :: ps=>rfl
theorem Ae {e:Env} {r:ResultVar} {p:PV} (h:qB P e s r=some p) (ρ:eF):vV P (eZ ρ e) (cB ρ s) r (p.ren ρ):=by
 unfold qB at h; cases r with
 | tmp t=>
  simp only [Option.some.injEq] at h; subst h; simp only [vV,qQ,jh]
 | cell a t=>
  simp only at h; split at h
  ·
   rename_i b ag k hx ht; split at h
   ·
    rename_i i cs hb; have hb:=(kZ hb).2; rw [Nat.sub_zero] at hb; exact ⟨ρ.lb b,bO ρ cs,i,ag,k,by rw [qQ,hx]; rfl,by rw [fV,hb]; rfl,ht,by rw [kV,h]; rfl⟩
   · cases h
  · cases h
theorem tZ {e:Env} (ρ:eF):∀ {rs:List ResultVar} {ps:List PV},nU P e s rs=some ps→vW P (eZ ρ e) (cB ρ s) rs (bO ρ ps)
 | [],ps,h=>by simp only [nU,Option.some.injEq] at h; subst h; rfl
 | r :: rs,ps,h=>by
  simp only [nU] at h; split at h
  ·
   rename_i p hp; split at h
   ·
    rename_i qs hq; simp only [Option.some.injEq] at h; subst h; exact ⟨p.ren ρ,bO ρ qs,rfl,Ae hp ρ,tZ ρ hq⟩
   · cases h
  · cases h
theorem Af {e:Env} (he:q8 nx e) (hs:gM nx s):∀ {rs:List ResultVar} {ps:List PV},nU P e s rs=some ps→jk nx ps
 | [],ps,h=>by simp only [nU,Option.some.injEq] at h; subst h; exact jk.nil
 | r :: rs,ps,h=>by
  simp only [nU] at h; split at h
  ·
   rename_i p hp; split at h
   ·
    rename_i qs hq; simp only [Option.some.injEq] at h; subst h; refine jk.cons ?_ (Af he hs hq); unfold qB at hp; cases r with
    | tmp t=>simp only [Option.some.injEq] at hp; subst hp; exact he.get t
    | cell a t=>
     simp only at hp; split at hp
     ·
      split at hp
      ·
       rename_i i cs hb; have hb:=(kZ hb).2; rw [Nat.sub_zero] at hb; exact (hs.box hb).load hp
      · cases hp
     · cases hp
   · cases h
  · cases h
theorem lU (ρ:eF) {all:Array Oper} {e:Env} {g:Option (Nat × Bool)} {r:Bool} (h:fH all e g=some r):fH all (eZ ρ e) g=some r:=by
 cases g with
 | none=>exact h
 | some jw=>
  obtain ⟨j,want⟩:=jw; unfold fH at h ⊢; simp only at h ⊢; split at h
  ·
   rename_i oj hj; split at h
   ·
    rename_i u hu; simp only [hj,hu,qQ]; split at h
    · rename_i hg; rw [hg]; exact h
    · rename_i hg; rw [hg]; exact h
    · rename_i hg; rw [hg]; exact h
    · cases h
   · cases h
  · cases h
theorem qU (ρ:eF):∀ (s:List aM) (i:Nat),cB ρ (s.eraseIdx i)=(cB ρ s).eraseIdx i
 | [],_=>rfl
 | _ :: _,0=>rfl
 | x :: s,i + 1=>by
  have:=qU ρ s i; simp only [cB,List.eraseIdx_cons_succ,List.map_cons] at this ⊢; rw [this]
theorem gM.of {s:List aM} (h:∀ r∈s,Ok nx fun ρ=>r.ren ρ):gM nx s:=fun ρ ρ' ha=>List.map_congr_left fun r hr=>h r hr ρ ρ' ha
theorem gM.mem {s:List aM} (h:gM nx s) {r:aM} (hr:r∈s):Ok nx fun ρ=>r.ren ρ:=by
 obtain ⟨i,hi⟩:=List.getElem?_of_mem hr; exact h.get hi
def Good (P:Program) (n:Nat) (s:List aM) (nx:Nat) (ax:AX) (e':Env) (s':List aM) (nx':Nat):CS→Prop
 | .v all l e=>q8 nx e'∧∀ (ρ:eF) (K:Env→Prop),K (eZ ρ e')→Ev P n all (cB ρ s) (eZ ρ e) l K
 | cs=>nx≤nx'∧q8 nx' e'∧gM nx' s'∧∀ (ρ:eF) (Q:Post),(∀ ρ',ql nx ρ ρ'→Q ax (eZ ρ' e') (cB ρ' s') [])→cs.ok P n Q ρ s
theorem yS {fn:Func} {g:Nat} {c:Code} {args ps:List PV} {ax:AX} {e':Env} {s':List aM} {nx':Nat} (hf:P.funcs[g]?=some fn) (hb:fn.body=some c) (hl:Nat.ble args.length fn.ntmps=true)
  (good:Good P fn.ntmps s nx ax e' s' nx' (.w c [] (fM 0 args))) (hax:Ew ax=true) (hr:nU P e' s' fn.results.toList=some ps) (ρ:eF) {R:lK→List aM→Prop}
  (hR:∀ ρ',ql nx ρ ρ'→∃ s2,s2.Sublist (cB ρ' s')∧R (.ret ((eU ps).ren ρ')) s2):AC P g (bO ρ args) (cB ρ s) R:=by
 refine AC.D6 hf hb (by rw [h_]; exact hl) ?_; obtain ⟨_,_,_,h⟩:=good
 have:=h ρ (EU P fn.results.toList R) fun ρ' ha=>by
  obtain ⟨s2,h1,h2⟩:=hR ρ' ha; rw [pR] at h2; cases ax with
  | normal=>exact ⟨rfl,_,tZ ρ' hr,s2,h1,h2⟩
  | ret=>exact ⟨rfl,_,tZ ρ' hr,s2,h1,h2⟩
  | exit _=>cases hax
  | panic _=>cases hax
 rw [←nD]; exact this
theorem vH {v:Operand→PV} {op:Op} {g:Nat} {args:List PV} (h:lV v op=some (g,args)):∃ c rW caps,op=.call c∧c.callee=.value rW∧v rW=.fn g caps∧args=c.args.toList.map v ++ caps:=by
 unfold lV at h; split at h
 ·
  rename_i c; split at h
  ·
   rename_i rW cK; split at h
   ·
    rename_i f caps hf; simp only [Option.some.injEq,Prod.mk.injEq] at h; obtain ⟨rfl,rfl⟩:=h; exact ⟨c,rW,caps,rfl,cK,hf,rfl⟩
   · cases h
  · cases h
 · cases h
theorem wZ {v:Operand→PV} {op:Op} {g:Nat} {args:List PV} (h:lV v op=some (g,args)) (hv:∀ x,gX nx (v x)):jk nx args:=by
 obtain ⟨c,rW,caps,_,_,h1,rfl⟩:=vH h; refine jk.append (jk.of fun p hp=>?_) ?_
 · obtain ⟨x,_,rfl⟩:=List.mem_map.1 hp; exact hv x
 · have:=hv rW; rw [h1] at this; exact this.fn
theorem AO.callee {v:Operand→PV} {op:Op} {g:Nat} {args:List PV} (h:lV v op=some (g,args)) (hp:bF P g=true) (ρ:eF) {o:Oper} (ho:o.op=op) {σ:List aM} {R S:PV→List aM→Prop}
  (hc:AC P g (bO ρ args) σ fun out σ'=>match out with | .ret p=>R p σ' | .panic p=>S p σ'):AO P o (fun x=>(v x).ren ρ) σ R S:=by
 obtain ⟨c,rW,caps,rfl,cK,h1,rfl⟩:=vH h; refine AO.JZ ho rW cK (caps:=bO ρ caps) (by show (v rW).ren ρ=_; rw [h1]; rfl) hp ?_; have:bO ρ (c.args.toList.map v ++ caps)=c.args.toList.map (fun x=>(v x).ren ρ) ++ bO ρ caps:=by simp only [j3,List.map_append,List.map_map]; rfl
 rw [←this]; exact hc
theorem Ca {fn:Func} {r:Option (AX × Env × List aM × Nat)} {p:PV} {s1:List aM} {lI:Nat} (h:CQ P fn nx r=some (p,s1,lI)):∃ ax e' s' nx' ps,r=some (ax,e',s',nx')∧Ew ax=true∧
  nU P e' s' fn.results.toList=some ps∧p=eU ps∧((s1=s'.filter (CX nx)∧lI=nx∧Am nx p=true∧(s'.filter (CX nx)).all (GN nx)=true)∨(s1=s'∧lI=nx')):=by
 unfold CQ at h; split at h
 ·
  rename_i ax e' s' nx'; cases hax:Ew ax with
  | false=>rw [hax] at h; cases h
  | true=>
   rw [hax] at h; simp only [cond_true] at h; split at h
   ·
    rename_i ps hr; refine ⟨ax,e',s',nx',ps,rfl,hax,hr,?_⟩; cases hb:(Am nx (eU ps) && (s'.filter (CX nx)).all (GN nx)) with
    | true=>
     rw [hb] at h; simp only [cond_true,Option.some.injEq,Prod.mk.injEq] at h; obtain ⟨rfl,rfl,rfl⟩:=h; simp only [Bool.and_eq_true] at hb; exact ⟨rfl,.inl ⟨rfl,rfl,hb.1,hb.2⟩⟩
    | false=>
     rw [hb] at h; simp only [cond_false,Option.some.injEq,Prod.mk.injEq] at h; obtain ⟨rfl,rfl,rfl⟩:=h; exact ⟨rfl,.inr ⟨rfl,rfl⟩⟩
   · cases h
 · cases h
theorem Dh {fn:Func} {g:Nat} {c:Code} {args:List PV} {v:Operand→PV} {op:Op} {r:Option (AX × Env × List aM × Nat)} {p:PV} {s1:List aM} {lI:Nat} (hc:lV v op=some (g,args)) (hf:P.funcs[g]?=some fn) (hb:fn.body=some c)
  (hl:Nat.ble args.length fn.ntmps=true) (hp:bF P g=true) (good:∀ ax e' s' nx',r=some (ax,e',s',nx')→Good P fn.ntmps s nx ax e' s' nx' (.w c [] (fM 0 args))) (h:CQ P fn nx r=some (p,s1,lI)):aW P s nx v op p s1 lI:=by
 obtain ⟨ax,e',s',nx',ps,rfl,hax,hr,rfl,h2⟩:=Ca h; have gd:=good _ _ _ _ rfl; have Md:=gd; obtain ⟨g1,g2,g3,_⟩:=gd; rcases h2 with ⟨rfl,rfl,h3,h4⟩ | ⟨rfl,rfl⟩
 ·
  rw [List.all_eq_true] at h4; refine ⟨Nat.le_refl _,rG _ h3,gM.of fun r hr=>GL (h4 r hr),fun ρ o ho R S hR=>AO.callee hc hp ρ ho (yS hf hb hl Md hax hr ρ fun ρ' ha=>⟨cB ρ' (s'.filter (CX lI)),?_,hR ρ' ha⟩)⟩; exact List.Sublist.map _ List.filter_sublist
 ·
  refine ⟨g1,?_,g3,fun ρ o ho R S hR=>AO.callee hc hp ρ ho (yS hf hb hl Md hax hr ρ fun ρ' ha=>⟨cB ρ' s1,List.Sublist.refl _,hR ρ' ha⟩)⟩; exact (Af g2 g3 hr).via fun ρ ρ' he=>by rw [pR,pR,he]
theorem Di {fn:Func} {g:Nat} {c:Code} {args:List PV} {v:Operand→PV} {op:Op} {r:Option (AX × Env × List aM × Nat)} {p:PV} {s1:List aM} {lI:Nat} (hc:lV v op=some (g,args)) (hf:P.funcs[g]?=some fn) (hb:fn.body=some c)
  (hl:Nat.ble args.length fn.ntmps=true) (hp:bF P g=true) (good:∀ ax e' s' nx',r=some (ax,e',s',nx')→Good P fn.ntmps [] nx ax e' s' nx' (.w c [] (fM 0 args))) (h:CQ P fn nx r=some (p,s1,lI)) (hok:gX nx p) (hs:gM nx s):aW P s nx v op p s nx:=by
 obtain ⟨ax,e',s',nx',ps,rfl,hax,hr,rfl,_⟩:=Ca h; have gd:=good _ _ _ _ rfl; refine aW.pure hok hs fun ρ o ho R S hR=>AO.callee hc hp ρ ho (AC.none ?_); refine yS (s:=[]) hf hb hl gd hax hr ρ fun ρ' ha=>⟨[],List.nil_sublist _,?_⟩; rw [←show (eU ps).ren ρ=(eU ps).ren ρ' from hok ρ ρ' ha]; exact hR
theorem FV {n:Nat} {all:Array Oper} {rest:List Oper} {o:Oper} {t:Nat} {e:Env} {p:PV} {s1:List aM} {lI:Nat} {Q:Post} {ρ:eF} (hst:aW P s nx (tH e) o.op p s1 lI) (he:q8 nx e) (hd:o.dst=some t) (ht:Nat.blt t n=true) (hg:fH all e o.guard=some true)
  (h:∀ ρ1,ql nx ρ ρ1→AR P n all rest (eZ ρ1 ((t,p) :: e)) (cB ρ1 s1) [] Q):AR P n all (o :: rest) (eZ ρ e) (cB ρ s) [] Q:=by
 obtain ⟨_,_,_,hst⟩:=hst
 have key:∀ o':Oper,o'.op=o.op→AO P o' (eZ ρ e).ev (cB ρ s) (fun p σ'=>AR P n all rest ((t,p) :: eZ ρ e) σ' [] Q) (fun p σ'=>Q (.panic p) (eZ ρ e) σ' []):=fun o' ho'=>
  AO.undef (rR ρ e) (hst ρ o' ho' fun ρ1 ha=>by
   have:=h ρ1 ha; simp only [eZ,List.map_cons] at this ⊢; rw [show e.map (fun x=>(x.1,x.2.ren ρ))=e.map (fun x=>(x.1,x.2.ren ρ1)) from he ρ ρ1 ha]
   exact this)
 have hg:=lU ρ hg; cases hgo:o.guard with
 | none=>exact AR.step hgo hd ht (key o rfl)
 | some jw=>
  obtain ⟨j,want⟩:=jw; rw [hgo] at hg; obtain ⟨oj,u,h1,h2,h3⟩:=dP hg; rcases h3 with ⟨_,h3⟩ | ⟨h3,_⟩
  ·
   refine AR.run (b:=want) hgo h1 h2 h3 hd ht rfl ?_; exact AR.step rfl hd ht (key {o with guard:=none} rfl)
  · cases h3
theorem ER {n:Nat} {all:Array Oper} {rest:List Oper} {o:Oper} {e:Env} {p:PV} {s1:List aM} {lI:Nat} {Q:Post} {ρ:eF} (hst:aW P s nx (tH e) o.op p s1 lI) (he:q8 nx e) (hd:o.dst=none) (hg:o.guard=none)
  (h:∀ ρ1,ql nx ρ ρ1→AR P n all rest (eZ ρ1 e) (cB ρ1 s1) [] Q):AR P n all (o :: rest) (eZ ρ e) (cB ρ s) [] Q:=by
 obtain ⟨_,_,_,hst⟩:=hst; refine AR.jl hg hd (AO.undef (rR ρ e) (hst ρ o rfl fun ρ1 ha=>?_)); have:=h ρ1 ha; rw [←show eZ ρ e=eZ ρ1 e from he ρ ρ1 ha] at this; exact this
theorem FW {n:Nat} {all:Array Oper} {rest:List Oper} {o:Oper} {t:Nat} {e:Env} {Q:Post} {ρ:eF} {σ:List aM} (hd:o.dst=some t) (ht:Nat.blt t n=true) (hg:fH all e o.guard=some false)
  (h:AR P n all rest (eZ ρ ((t,.val Go.undef) :: e)) σ [] Q):AR P n all (o :: rest) (eZ ρ e) σ [] Q:=by
 have hg:=lU ρ hg; cases hgo:o.guard with
 | none=>rw [hgo] at hg; cases hg
 | some jw=>
  obtain ⟨j,want⟩:=jw; rw [hgo] at hg; obtain ⟨oj,u,h1,h2,h3⟩:=dP hg; rcases h3 with ⟨h3,_⟩ | ⟨_,h3 | h3⟩
  · cases h3
  · exact AR.skip hgo h1 h2 h3 hd ht rfl h
  · exact AR.wH hgo h1 h2 h3 hd ht h
theorem FC {n:Nat} {all:Array Oper} {rest:List Oper} {o:Oper} {t:Nat} {e:Env} {p:PV} {K:Env→Prop} {ρ:eF} (hst:aW P s nx (tH e) o.op p s nx) (he:q8 nx e) (hp:gX nx p) (hs:gM nx s) (hd:o.dst=some t) (ht:Nat.blt t n=true) (hg:fH all e o.guard=some true)
  (h:Ev P n all (cB ρ s) (eZ ρ ((t,p) :: e)) rest K):Ev P n all (cB ρ s) (eZ ρ e) (o :: rest) K:=by
 obtain ⟨_,_,_,hst⟩:=hst
 have key:∀ o':Oper,o'.op=o.op→AO P o' (eZ ρ e).ev (cB ρ s) (fun p' σ'=>p'=p.ren ρ∧σ'=cB ρ s) (fun _ _=>False):=fun o' ho'=>
  AO.undef (rR ρ e) (hst ρ o' ho' fun ρ1 ha=>⟨(hp ρ ρ1 ha).symm,(hs ρ ρ1 ha).symm⟩)
 have hg:=lU ρ hg; cases hgo:o.guard with
 | none=>exact Ev.cons hgo hd ht (key o rfl) h
 | some jw=>
  obtain ⟨j,want⟩:=jw; rw [hgo] at hg; obtain ⟨oj,u,h1,h2,h3⟩:=dP hg; rcases h3 with ⟨_,h3⟩ | ⟨h3,_⟩
  · exact Ev.run (b:=want) hgo h1 h2 h3 hd ht rfl (key {o with guard:=none} rfl) h
  · cases h3
theorem FD {n:Nat} {all:Array Oper} {rest:List Oper} {o:Oper} {t:Nat} {e:Env} {K:Env→Prop} {ρ:eF} {σ:List aM} (hd:o.dst=some t) (ht:Nat.blt t n=true) (hg:fH all e o.guard=some false)
  (h:Ev P n all σ (eZ ρ ((t,.val Go.undef) :: e)) rest K):Ev P n all σ (eZ ρ e) (o :: rest) K:=by
 have hg:=lU ρ hg; cases hgo:o.guard with
 | none=>rw [hgo] at hg; cases hg
 | some jw=>
  obtain ⟨j,want⟩:=jw; rw [hgo] at hg; obtain ⟨oj,u,h1,h2,h3⟩:=dP hg; rcases h3 with ⟨h3,_⟩ | ⟨_,h3 | h3⟩
  · cases h3
  · exact Ev.skip hgo h1 h2 h3 hd ht rfl h
  · exact Ev.wH hgo h1 h2 h3 hd ht h
theorem yM {n:Nat} {Q:Post} {σ1:List aM}:∀ {l:List Oper} {e e':Env} {s s':List aM} {nx nx':Nat},Hf P n l e s nx=some (e',s',nx')→q8 nx e→gM nx s→
  nx≤nx'∧q8 nx' e'∧gM nx' s'∧∀ (ρ:eF) (K:Env→List aM→Prop),(∀ ρ',ql nx ρ ρ'→K (eZ ρ' e') (cB ρ' s'))→TF P n [] Q σ1 l (eZ ρ e) (cB ρ s) K
 | [],e,e',s,s',nx,nx',h,he,hs=>by
  simp only [Hf,Option.some.injEq,Prod.mk.injEq] at h; obtain ⟨rfl,rfl,rfl⟩:=h; exact ⟨Nat.le_refl _,he,hs,fun ρ K hK=>hK ρ (ql.refl _ _)⟩
 | o :: r,e,e',s,s',nx,nx',h,he,hs=>by
  simp only [Hf] at h; split at h
  · cases h
  ·
   rename_i hg; split at h
   ·
    rename_i p s1 lI hop; have hst:=D5 hop (fun x=>he.tH x) hs; obtain ⟨h1,h2,h3,h4⟩:=hst; split at h
    ·
     rename_i t hd; cases ht:Nat.blt t n with
     | false=>rw [ht] at h; cases h
     | true=>
      rw [ht] at h; simp only [cond_true] at h; obtain ⟨k1,k2,k3,k4⟩:=yM (σ1:=σ1) (Q:=Q) h (q8.cons t h2 (he.le h1)) h3; refine ⟨Nat.le_trans h1 k1,k2,k3,fun ρ K hK=>⟨hg,fun t' ht'=>?_,eZ ρ e,fun _=>.inr rfl,AO.undef (rR ρ e) (h4 ρ o rfl fun ρ1 ha=>?_)⟩⟩
      · rw [hd] at ht'; cases ht'; exact nC ht
      ·
       have:=k4 ρ1 K fun ρ' ha'=>hK ρ' (ha.trans (ha'.le h1)); simp only [um,hd]; simp only [eZ,List.map_cons] at this ⊢; rw [show e.map (fun x=>(x.1,x.2.ren ρ))=e.map (fun x=>(x.1,x.2.ren ρ1)) from he ρ ρ1 ha]; exact this
    ·
     rename_i hd; obtain ⟨k1,k2,k3,k4⟩:=yM (σ1:=σ1) (Q:=Q) h (he.le h1) h3; refine ⟨Nat.le_trans h1 k1,k2,k3,fun ρ K hK=>⟨hg,fun t' ht'=>?_,eZ ρ e,fun _=>.inr rfl,AO.undef (rR ρ e) (h4 ρ o rfl fun ρ1 ha=>?_)⟩⟩
     · rw [hd] at ht'; cases ht'
     ·
      have:=k4 ρ1 K fun ρ' ha'=>hK ρ' (ha.trans (ha'.le h1)); simp only [um,hd]; rw [show eZ ρ e=eZ ρ1 e from he ρ ρ1 ha]; exact this
   · cases h
end
end Go.Abs
namespace Go.Abs
variable [cZ]
open Go
section
variable {P : Program}
theorem Good.mk {n:Nat} {s s1:List aM} {nx lI:Nat} {ax:AX} {e':Env} {s':List aM} {nx':Nat} {cs cs1:CS} (hcs:∀ all l e,cs≠.v all l e) (hcs1:∀ all l e,cs1≠.v all l e) (hn:nx≤lI) (h:Good P n s1 lI ax e' s' nx' cs1)
  (k:∀ (ρ:eF) (Q:Post),(∀ ρ1,ql nx ρ ρ1→cs1.ok P n Q ρ1 s1)→cs.ok P n Q ρ s):Good P n s nx ax e' s' nx' cs:=by
 have h:lI≤nx'∧q8 nx' e'∧gM nx' s'∧∀ (ρ:eF) (Q:Post),(∀ ρ',ql lI ρ ρ'→Q ax (eZ ρ' e') (cB ρ' s') [])→cs1.ok P n Q ρ s1:=by
  cases cs1 with
  | v all l e=>exact absurd rfl (hcs1 all l e)
  | _=>exact h
 obtain ⟨h1,h2,h3,h4⟩:=h
 have:nx≤nx'∧q8 nx' e'∧gM nx' s'∧∀ (ρ:eF) (Q:Post),(∀ ρ',ql nx ρ ρ'→Q ax (eZ ρ' e') (cB ρ' s') [])→cs.ok P n Q ρ s:=
  ⟨Nat.le_trans hn h1,h2,h3,fun ρ Q hQ=>k ρ Q fun ρ1 ha=>h4 ρ1 Q fun ρ' ha'=>hQ ρ' (ha.trans (ha'.le hn))⟩
 cases cs with
 | v all l e=>exact absurd rfl (hcs all l e)
 | _=>exact this
theorem Good.same {n:Nat} {s:List aM} {nx:Nat} {ax:AX} {e':Env} {s':List aM} {nx':Nat} {cs cs1:CS} (hcs:∀ all l e,cs≠.v all l e) (hcs1:∀ all l e,cs1≠.v all l e) (h:Good P n s nx ax e' s' nx' cs1)
  (k:∀ (ρ:eF) (Q:Post),cs1.ok P n Q ρ s→cs.ok P n Q ρ s):Good P n s nx ax e' s' nx' cs:=
 Good.mk hcs hcs1 (Nat.le_refl _) h fun ρ Q hQ=>k ρ Q (hQ ρ (ql.refl _ _))
theorem bG (hm:P.follows .mixedOrders=true):∀ (f n:Nat) (cs:CS) (s:List aM) (nx:Nat) (ax:AX) (e':Env) (s':List aM) (nx':Nat),ex P f n cs s nx=some (ax,e',s',nx')→q8 nx cs.env→gM nx s→Good P n s nx ax e' s' nx' cs
 | 0,_,cs,_,_,_,_,_,_,h,_,_=>by cases cs <;> cases h
 | f + 1,n,.w c k e,s,nx,ax,e',s',nx',h,he,hs=>by
  have hw:∀ all l e1,CS.w c k e≠.v all l e1:=fun _ _ _ h=>by cases h
  have hw1:∀ {c k e} all l e',CS.w c k e≠.v all l e':=fun _ _ _ h=>by cases h
  have hr1:∀ {a l k e} all l' e',CS.r a l k e≠.v all l' e':=fun _ _ _ h=>by cases h
  have hx1:∀ {a k e} all l' e',CS.x a k e≠.v all l' e':=fun _ _ _ h=>by cases h
  cases c with
  | seq c d=>exact Good.same hw hw1 (bG hm f _ _ _ _ _ _ _ _ h he hs) fun ρ Q h=>AW.seq h
  | block id c=>exact Good.same hw hw1 (bG hm f _ _ _ _ _ _ _ _ h he hs) fun ρ Q h=>AW.block h
  | skip=>exact Good.same hw hx1 (bG hm f _ _ _ _ _ _ _ _ h he hs) fun ρ Q h=>AW.skip h
  | label l=>exact Good.same hw hx1 (bG hm f _ _ _ _ _ _ _ _ h he hs) fun ρ Q h=>AW.label h
  | exit id=>exact Good.same hw hx1 (bG hm f _ _ _ _ _ _ _ _ h he hs) fun ρ Q h=>AW.exit h
  | ret=>exact Good.same hw hx1 (bG hm f _ _ _ _ _ _ _ _ h he hs) fun ρ Q h=>AW.ret h
  | loop c=>exact Good.same hw hw1 (bG hm f _ _ _ _ _ _ _ _ h he hs) fun ρ Q h=>zY.loop (zY.step h)
  | cond c a b=>
   simp only [ex] at h
   have hev:∀ (ρ:eF) (x:Bool),tH e c=.bool x→(eZ ρ e).ev c=.bool x:=fun ρ x hx=>by
    rcases rR ρ e c with h | h
    · rw [hx] at h; cases h
    · rw [←h,hx]; rfl
   split at h
   ·
    rename_i hb; exact Good.same hw hw1 (bG hm f _ _ _ _ _ _ _ _ h he hs) fun ρ Q h=>AW.cond (hev ρ true hb) (fun _=>h) (fun h=>by cases h)
   ·
    rename_i hb; exact Good.same hw hw1 (bG hm f _ _ _ _ _ _ _ _ h he hs) fun ρ Q h=>AW.cond (hev ρ false hb) (fun h=>by cases h) (fun _=>h)
   · cases h
  | region id all g=>
   cases g with
   | false=>
    refine Good.same hw hr1 (bG hm f _ _ _ _ _ _ _ _ h he hs) fun ρ Q h=>?_; have:AW P n (.region id all.toList.toArray false) (eZ ρ e) (cB ρ s) [] (pE P n k Q):=AW.region (by simpa only [CS.ok,Array.toArray_toList] using h); simpa only [CS.ok,Array.toArray_toList] using this
   | true=>
    simp only [ex] at h; generalize bS P all.toList=kk at h; cases hb:(qF all.toList kk && Nat.ble kk all.toList.length) with
    | true=>
     rw [hb] at h; simp only [cond_true] at h; simp only [Bool.and_eq_true] at hb; split at h
     ·
      rename_i MP e1 s1 lI h1; obtain ⟨g1,g2⟩:=bG hm f _ _ _ _ _ _ _ _ h1 he hs; refine Good.same hw hr1 (bG hm f _ (.r all (all.toList.drop kk) k e1) _ _ _ _ _ _ h g1 hs) fun ρ Q h=>?_
      have:AW P n (.region id all.toList.toArray true) (eZ ρ e) (cB ρ s) [] (pE P n k Q):=
       AW.draw kk hm hb.1 hb.2 (by simpa only [Array.toArray_toList] using g2 ρ _ (by simpa only [CS.ok] using h))
      simpa only [CS.ok,Array.toArray_toList] using this
     · cases h
    | false=>
     rw [hb] at h; simp only [cond_false] at h; split at h
     · cases h
     ·
      rename_i oj hoj; generalize kY all.toList kk 100 (kk + 1)=k2 at h; generalize ku all.toList kk=k0 at h; cases hb:(rF all.toList kk k2 && rV all.toList kk k2 && rU all.toList k0 kk k2 && Nat.ble k0 kk && Nat.ble kk k2 && Nat.ble k2 all.toList.length) with
      | false=>rw [hb] at h; cases h
      | true=>
       rw [hb] at h; simp only [cond_true] at h; simp only [Bool.and_eq_true] at hb; obtain ⟨⟨⟨⟨⟨b1,b2⟩,b3⟩,b4⟩,b5⟩,b6⟩:=hb; split at h
       · cases h
       ·
        rename_i MP e1 s1 lI h1; obtain ⟨g1,g2⟩:=bG hm f _ _ _ _ _ _ _ _ h1 he hs; split at h
        · cases h
        ·
         rename_i M0 e2 s2 MS h2; split at h
         ·
          
          obtain ⟨q1,q2⟩:=bG hm f _ (.v _ _ e1) _ _ _ _ _ _ h2 g1 hs; split at h
          ·
           rename_i e3 s3 GQ h3; have h3':=fun (ρ:eF) (Q:Post)=>yM (σ1:=cB ρ s) (Q:=pE P n k Q) h3 q1 (fun _ _ _=>rfl); obtain ⟨t1,t2,t3,_⟩:=h3' ⟨fun k=>k,fun _=>Go.undef⟩ (fun _ _ _ _=>True)
           have G_:gM GQ (s ++ s3):=gM.of fun r hr=>by
            rcases List.mem_append.1 hr with hr | hr
            · exact (hs.mem hr).le t1
            · exact t3.mem hr
           refine Good.mk hw hr1 t1 (bG hm f _ (.r all (all.toList.drop k2) k e3) _ _ _ _ _ _ h t2 G_) fun ρ Q h=>?_; have t4:=(h3' ρ Q).2.2.2
           have:AW P n (.region id all.toList.toArray true) (eZ ρ e) (cB ρ s) [] (pE P n k Q):=by
            refine AW.AJ k0 kk k2 (cB ρ s) [] hm b1 b2 b3 b4 b5 b6 (by simp) ?_; rw [Array.toArray_toList]; refine g2 ρ _ (q2 ρ _ (t4 ρ _ fun ρ' ha=>?_)); have:=h ρ' ha; simp only [CS.ok,cB,List.map_append] at this; rw [←show s.map (aM.ren ρ)=s.map (aM.ren ρ') from hs ρ ρ' ha] at this; exact this
           simpa only [CS.ok,Array.toArray_toList] using this
          · cases h
         ·
          rename_i i Mw; split at h
          · cases h
          ·
           rename_i r L9; split at h
           · cases h
           ·
            rename_i MZ e4 s4 MR h4; have hse:gM nx (s.eraseIdx i):=gM.of fun r hr=>hs.mem ((List.eraseIdx_sublist s i).subset hr); obtain ⟨q1,q2⟩:=bG hm f _ (.v _ _ e1) _ _ _ _ _ _ h4 g1 hse; split at h
            ·
             rename_i e3 s3 GQ h3; have h3':=fun (ρ:eF) (Q:Post)=>yM (σ1:=cB ρ (s.eraseIdx i)) (Q:=pE P n k Q) h3 q1 (gM.cons (hs.get L9) (fun _ _ _=>rfl)); obtain ⟨t1,t2,t3,_⟩:=h3' ⟨fun k=>k,fun _=>Go.undef⟩ (fun _ _ _ _=>True)
             have G_:gM GQ (s.eraseIdx i ++ s3):=gM.of fun r hr=>by
              rcases List.mem_append.1 hr with hr | hr
              · exact (hse.mem hr).le t1
              · exact t3.mem hr
             refine Good.mk hw hr1 t1 (bG hm f _ (.r all (all.toList.drop k2) k e3) _ _ _ _ _ _ h t2 G_) fun ρ Q h=>?_; have t4:=(h3' ρ Q).2.2.2
             have:AW P n (.region id all.toList.toArray true) (eZ ρ e) (cB ρ s) [] (pE P n k Q):=by
              refine AW.AJ k0 kk k2 (cB ρ (s.eraseIdx i)) [r.ren ρ] hm b1 b2 b3 b4 b5 b6 ?_ ?_
              ·
               rw [qU]; exact sF (by rw [fV,L9]; rfl)
              ·
               rw [Array.toArray_toList]; refine g2 ρ _ (q2 ρ _ (t4 ρ _ fun ρ' ha=>?_)); have:=h ρ' ha; simp only [CS.ok] at this; rw [show cB ρ' (s.eraseIdx i ++ s3)=cB ρ' (s.eraseIdx i) ++ cB ρ' s3 from List.map_append,←show cB ρ (s.eraseIdx i)=cB ρ' (s.eraseIdx i) from hse ρ ρ' ha] at this; exact this
             simpa only [CS.ok,Array.toArray_toList] using this
            · cases h
  | _=>cases h
 | f + 1,n,.r all l k e,s,nx,ax,e',s',nx',h,he,hs=>by
  have hw:∀ all' l' e',CS.r all l k e≠.v all' l' e':=fun _ _ _ h=>by cases h
  have hr1:∀ {a l k e} all l' e',CS.r a l k e≠.v all l' e':=fun _ _ _ h=>by cases h
  have hx1:∀ {a k e} all l' e',CS.x a k e≠.v all l' e':=fun _ _ _ h=>by cases h
  cases l with
  | nil=>exact Good.same hw hx1 (bG hm f _ _ _ _ _ _ _ _ h he hs) fun ρ Q h=>AR.nil' h
  | cons o rest=>
   simp only [ex] at h; split at h
   · cases h
   ·
    rename_i hg; split at h
    ·
     rename_i t hd; cases ht:Nat.blt t n with
     | false=>rw [ht] at h; cases h
     | true=>
      rw [ht] at h; simp only [cond_true] at h; exact Good.same hw hr1 (bG hm f _ (.r all rest k ((t,.val Go.undef) :: e)) _ _ _ _ _ _ h (q8.cons t (fun _ _ _=>rfl) he) hs) fun ρ Q h=>FW hd ht hg h
    · cases h
   ·
    rename_i hg; split at h
    · cases h
    ·
     rename_i p s1 lI hst
     have hst:aW P s nx (tH e) o.op p s1 lI:=by
      split at hst
      ·
       rename_i g args hc; split at hst
       ·
        rename_i fn hf; split at hst
        ·
         rename_i c hb; cases hb2:(Nat.ble args.length fn.ntmps && bF P g) with
         | false=>rw [hb2] at hst; cases hst
         | true=>
          rw [hb2] at hst; simp only [cond_true] at hst; simp only [Bool.and_eq_true] at hb2; exact Dh hc hf hb hb2.1 hb2.2 (fun ax e' s' nx' hr=>bG hm f _ (.w c [] (fM 0 args)) _ _ _ _ _ _ hr ((wZ hc fun x=>q8.tH he x).fM 0) hs) hst
        · cases hst
       · cases hst
      · exact D5 hst (fun x=>q8.tH he x) hs
     have JI:=hst; obtain ⟨k1,k2,k3,_⟩:=hst; split at h
     ·
      rename_i t hd; cases ht:Nat.blt t n with
      | false=>rw [ht] at h; cases h
      | true=>
       rw [ht] at h; simp only [cond_true] at h; exact Good.mk hw hr1 k1 (bG hm f _ (.r all rest k ((t,p) :: e)) _ _ _ _ _ _ h (q8.cons t k2 (he.le k1)) k3) fun ρ Q h=>FV JI he hd ht hg h
     ·
      rename_i hd; split at h
      ·
       rename_i hgn; exact Good.mk hw hr1 k1 (bG hm f _ (.r all rest k e) _ _ _ _ _ _ h (he.le k1) k3) fun ρ Q h=>ER JI he hd hgn h
      · cases h
 | f + 1,n,.x a k e,s,nx,ax,e',s',nx',h,he,hs=>by
  have hw:∀ all' l' e',CS.x a k e≠.v all' l' e':=fun _ _ _ h=>by cases h
  have hw1:∀ {c k e} all l e',CS.w c k e≠.v all l e':=fun _ _ _ h=>by cases h
  have hx1:∀ {a k e} all l' e',CS.x a k e≠.v all l' e':=fun _ _ _ h=>by cases h
  cases k with
  | nil=>
   simp only [ex,Option.some.injEq,Prod.mk.injEq] at h; obtain ⟨rfl,rfl,rfl,rfl⟩:=h; exact ⟨Nat.le_refl _,he,hs,fun ρ Q hQ=>hQ ρ (ql.refl _ _)⟩
  | cons fr k=>
   cases fr with
   | sq d=>cases a with
    | normal=>exact Good.same hw hw1 (bG hm f _ (.w d k e) _ _ _ _ _ _ h he hs) fun ρ Q h=>h
    | exit i=>exact Good.same hw hx1 (bG hm f _ (.x (.exit i) k e) _ _ _ _ _ _ h he hs) fun ρ Q h=>h
    | ret=>exact Good.same hw hx1 (bG hm f _ (.x .ret k e) _ _ _ _ _ _ h he hs) fun ρ Q h=>h
    | panic p=>exact Good.same hw hx1 (bG hm f _ (.x (.panic p) k e) _ _ _ _ _ _ h he hs) fun ρ Q h=>h
   | bl id=>cases a with
    | exit i=>
     simp only [ex] at h; cases eb:Nat.beq i id with
     | false=>rw [eb] at h; exact Good.same hw hx1 (bG hm f _ (.x (.exit i) k e) _ _ _ _ _ _ h he hs) fun ρ Q h=>by simp only [CS.ok,pE,AX.inBlock,eb,cond_false]; exact h
     | true=>rw [eb] at h; exact Good.same hw hx1 (bG hm f _ (.x .normal k e) _ _ _ _ _ _ h he hs) fun ρ Q h=>by simp only [CS.ok,pE,AX.inBlock,eb,cond_true]; exact h
    | normal=>exact Good.same hw hx1 (bG hm f _ (.x .normal k e) _ _ _ _ _ _ h he hs) fun ρ Q h=>h
    | ret=>exact Good.same hw hx1 (bG hm f _ (.x .ret k e) _ _ _ _ _ _ h he hs) fun ρ Q h=>h
    | panic p=>exact Good.same hw hx1 (bG hm f _ (.x (.panic p) k e) _ _ _ _ _ _ h he hs) fun ρ Q h=>h
   | lp c=>cases a with
    | normal=>exact Good.same hw hw1 (bG hm f _ (.w c (.lp c :: k) e) _ _ _ _ _ _ h he hs) fun ρ Q h=>zY.step h
    | exit i=>exact Good.same hw hx1 (bG hm f _ (.x (.exit i) k e) _ _ _ _ _ _ h he hs) fun ρ Q h=>h
    | ret=>exact Good.same hw hx1 (bG hm f _ (.x .ret k e) _ _ _ _ _ _ h he hs) fun ρ Q h=>h
    | panic p=>exact Good.same hw hx1 (bG hm f _ (.x (.panic p) k e) _ _ _ _ _ _ h he hs) fun ρ Q h=>h
 | f + 1,n,.v all l e,s,nx,ax,e',s',nx',h,he,hs=>by
  cases l with
  | nil=>
   simp only [ex,Option.some.injEq,Prod.mk.injEq] at h; obtain ⟨rfl,rfl,rfl,rfl⟩:=h; exact ⟨he,fun ρ K hK=>Ev.nil hK⟩
  | cons o rest=>
   simp only [ex] at h; split at h
   · cases h
   ·
    rename_i t hd; cases ht:Nat.blt t n with
    | false=>rw [ht] at h; cases h
    | true=>
     rw [ht] at h; simp only [cond_true] at h; split at h
     · cases h
     ·
      rename_i hg; obtain ⟨g1,g2⟩:=bG hm f _ (.v all rest ((t,.val Go.undef) :: e)) _ _ _ _ _ _ h (q8.cons t (fun _ _ _=>rfl) he) hs; exact ⟨g1,fun ρ K hK=>FD hd ht hg (g2 ρ K hK)⟩
     ·
      rename_i hg; split at h
      · cases h
      ·
       rename_i p s1 lI hst; cases hok:Am nx p with
       | false=>rw [hok] at h; cases h
       | true=>
        rw [hok] at h; simp only [cond_true] at h; have hp:=rG p hok
        have hst:aW P s nx (tH e) o.op p s nx:=by
         split at hst
         ·
          rename_i g args hc; split at hst
          ·
           rename_i fn hf; split at hst
           ·
            rename_i c hb; cases hb2:(Nat.ble args.length fn.ntmps && bF P g) with
            | false=>rw [hb2] at hst; cases hst
            | true=>
             rw [hb2] at hst; simp only [cond_true] at hst; simp only [Bool.and_eq_true] at hb2; exact Di hc hf hb hb2.1 hb2.2 (fun ax e' s' nx' hr=>bG hm f _ (.w c [] (fM 0 args)) _ _ _ _ _ _ hr ((wZ hc fun x=>q8.tH he x).fM 0) (fun _ _ _=>rfl)) hst hp hs
           · cases hst
          · cases hst
         ·
          split at hst
          ·
           rename_i q hq; simp only [Option.some.injEq,Prod.mk.injEq] at hst; obtain ⟨rfl,rfl,rfl⟩:=hst; exact DZ hq (fun x=>q8.tH he x) hs
          · cases hst
        obtain ⟨g1,g2⟩:=bG hm f _ (.v all rest ((t,p) :: e)) _ _ _ _ _ _ h (q8.cons t hp he) hs; exact ⟨g1,fun ρ K hK=>FC hst he hp hs hd ht hg (g2 ρ K hK)⟩
end
def Cq (P:Program) (f g:Nat) (b:Bool):Bool:=
 match P.funcs[g]? with
 | some fn=>match fn.body with
  | some c=>match ex P f fn.ntmps (.w c [] []) [] 1000000 with
   | some (ax,e',s',_)=>Ew ax && (match nU P e' s' fn.results.toList with
    | some [.bool x]=>x == b
    | _=>false)
   | none=>false
  | none=>false
 | none=>false
theorem BF {P:Program} (hm:P.follows .mixedOrders=true) {f g:Nat} {b:Bool} (h:Cq P f g b=true) {τ:List aM} {Q:lK→List aM→Prop} (hq:Q (.ret (.bool b)) τ):AC P g [] τ Q:=by
 unfold Cq at h; split at h
 ·
  rename_i fn hf; split at h
  ·
   rename_i c hb; split at h
   ·
    rename_i ax e' s' nx' hex; simp only [Bool.and_eq_true] at h; obtain ⟨h1,h2⟩:=h; split at h2
    ·
     rename_i x hr; have h2:=eq_of_beq h2; subst h2; refine AC.none ?_; have gd:=bG hm f _ _ _ _ _ _ _ _ hex (fun _ _ _=>rfl) (fun _ _ _=>rfl); exact yS (s:=[]) (args:=[]) hf hb rfl gd h1 hr ⟨fun k=>k,fun _=>Go.undef⟩ fun ρ' _=>⟨[],List.nil_sublist _,hq⟩
    · cases h2
   · cases h
  · cases h
 · cases h
end Go.Abs
