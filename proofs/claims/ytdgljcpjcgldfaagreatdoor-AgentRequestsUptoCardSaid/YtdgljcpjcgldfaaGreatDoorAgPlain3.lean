/- Proved here: plain facts on the functional texts. -/
import Derived.Test.YtdgljcpjcgldfaaGreatDoorAgPlain1
import Derived.Test.YtdgljcpjcgldfaaGreatDoorAgFt1
import Derived.Test.YtdgljcpjcgldfaaGreatDoorAgFt3
set_option linter.unusedVariables false
set_option linter.unusedSimpArgs false
set_option linter.unusedSectionVars false
set_option maxHeartbeats 2000000
namespace Go.Ft
open Go
attribute [local congr] yF
def oo (x:au):Prop:=x.worker.labels.length≤1048576∧x.worker.tokens.length≤1048576∧x.secret.refs.length≤1048576∧x.secret.environments.length≤1048576∧
 x.result.inputs.length≤1048576∧x.result.outputs.length≤1048576∧x.result.tests.length≤1048576
theorem xH {x:au} (h:oo x):j4 x x=some true:=by
 obtain ⟨h1,h2,h3,h4,h5,h6,h7⟩:=h; unfold j4; simp [r9 (a:=x.worker) (by omega) (by omega),sj (a:=x.secret) (by omega) (by omega),sw (a:=x.result) (by omega) (by omega) (by omega),aK.oC,aG.oC,av.oC]
theorem BQ {l:List au} (hl:l.length≤1048577) (h:∀ x∈l,oo x):mE l l=some true:=by
 unfold mE; simp only [bne_self_eq_false,Bool.false_eq_true,if_false]; refine iU (F:=gF l l) (l:=l) (by omega) (fun k i hi=>?_) fun k i hi=>?_
 · rw [gF]; simp; omega
 · rw [gF,lZ hi]; simp [hi,xH (h l[i] (List.getElem_mem hi))]
theorem app0 {α:Type} {l:List α} (h:l.length≤1048577):app [] l=some l:=by rw [ES (by simp only [List.length_nil,E9]; omega),List.nil_append]
def named (id:Str) (x:au):au:=au.mk x.kind id x.ref x.n x.token x.bU x.text x.origin x.args x.worker x.secret x.entry x.result
theorem Ey {t:aF} {id:Str} {now:Int} (hb:aF.bulk t≤1048576) (h1:0≤t.sent) (h2:0≤t.saved) (h3:t.sent≤(t.effect.log.length:Int)) (h4:t.saved≤(t.effect.saves.length:Int)) (h5:t.effect.log.length≤5000):
  ∃ x y ok,iL t now=some (x,ok)∧kH t id now=some (y,ok)∧(ok=true→named id x=y∧oo y):=by
 have g0:∀ (w:au),w.worker=aI.mk ([]:Str) [] 0 0 false 0 0 0 []→w.secret=ak.mk ([]:Str) ([]:Str) 0 [] []→w.result=aJ.mk 0 0 [] [] [] ([]:Str)→oo w:=fun w e1 e2 e3=>by
  unfold oo; rw [e1,e2,e3]; simp
 have s0:(if t.sent < 0 then 0 else t.sent)=t.sent:=if_neg (by omega); have v0:(if t.saved < 0 then 0 else t.saved)=t.saved:=if_neg (by omega); unfold iL kH; rw [s0,v0]; by_cases c1:decide (t.sent < (t.effect.log.length:Int))=true
 ·
  rw [if_pos c1,if_pos c1]; have c1:t.sent < (t.effect.log.length:Int):=by simpa using c1
  have hw:fU (t.sent + 512)=t.sent + 512:=zZ (by omega); rw [hw]
  have hs:∃ r,sl t.effect.log t.sent (if t.sent + 512 < (t.effect.log.length:Int) then t.sent + 512 else (t.effect.log.length:Int))=some r:=by
   refine ⟨_,IZ h1 ?_ ?_⟩ <;> split <;> omega
  obtain ⟨r,hr⟩:=hs; rw [hr]; exact ⟨_,_,true,rfl,rfl,fun _=>⟨rfl,g0 _ rfl rfl rfl⟩⟩
 ·
  rw [if_neg c1,if_neg c1]; by_cases c2:decide (now < t.done)=true
  ·
   rw [if_pos c2,if_pos c2]; exact ⟨_,_,false,rfl,rfl,fun h=>by cases h⟩
  ·
   rw [if_neg c2,if_neg c2]; by_cases c3:decide (t.saved < (t.effect.saves.length:Int))=true
   ·
    rw [if_pos c3,if_pos c3]; have c3:t.saved < (t.effect.saves.length:Int):=by simpa using c3
    rw [G6 h2 c3]; exact ⟨_,_,true,rfl,rfl,fun _=>⟨rfl,g0 _ rfl rfl rfl⟩⟩
   ·
    rw [if_neg c3,if_neg c3]; unfold aF.bulk aU.bulk aJ.bulk at hb; have k1:=dU (f:=fun z:aj=>aj.bulk z) (fun a=>by unfold aj.bulk; omega) t.effect.result.inputs; have k2:=dU (f:=fun z:aj=>aj.bulk z) (fun a=>by unfold aj.bulk; omega) t.effect.result.outputs; have k3:=dU (f:=fun z:ah=>ah.bulk z) (fun a=>by unfold ah.bulk; omega) t.effect.result.tests
    have hr:jH t.effect.result=some t.effect.result:=by
     unfold jH bA bg; rw [app0 (by omega),app0 (by omega),app0 (by omega)]; rfl
    rw [hr]; refine ⟨_,_,true,rfl,rfl,fun _=>⟨rfl,?_⟩⟩; refine ⟨by simp,by simp,by simp,by simp,?_,?_,?_⟩
    · show t.effect.result.inputs.length≤_; omega
    · show t.effect.result.outputs.length≤_; omega
    · show t.effect.result.tests.length≤_; omega
theorem qC {a:aH} {now:Int} (hl:a.tasks.length≤1048576)
  (hd:∀ i (hi:i < a.tasks.length),∃ x y ok,iL a.tasks[i] now=some (x,ok)∧kH a.tasks[i] a.worker.iD now=some (y,ok)∧(ok=true→named a.worker.iD x=y∧oo y))
  {F G:Nat→List au→Int→Option (List au)}
  (hF:∀ k out (i:Int),F (k + 1) out i=if decide (i < (a.tasks.length:Int)) then aV (idx a.tasks i) fun e=>nK (iL e now) fun x ok=>if ok then aV (app out [named a.worker.iD x]) fun out'=>F k out' (fU (i + 1)) else F k out (fU (i + 1)) else some out)
  (hG:∀ k out (i:Int),G (k + 1) out i=if decide (i < (a.tasks.length:Int)) then aV (idx a.tasks i) fun e=>nK (kH e a.worker.iD now) fun x ok=>if ok then aV (app out [x]) fun out'=>G k out' (fU (i + 1)) else G k out (fU (i + 1)) else some out):
  ∀ (k i:Nat) (out:List au),a.tasks.length < k + i→i≤a.tasks.length→out.length≤i + 1→(∀ x∈out,oo x)→∃ l,F k out (i:Int)=some l∧G k out (i:Int)=some l∧(∀ x∈l,oo x)∧l.length≤a.tasks.length + 1
 | 0,i,out,h,h',_,_=>by omega
 | k + 1,i,out,h,h',ho,hg=>by
  rw [hF,hG]; by_cases hi:i < a.tasks.length
  ·
   obtain ⟨x,y,ok,e1,e2,e3⟩:=hd i hi; rw [lZ hi]; simp only [show decide ((i:Int) < (a.tasks.length:Int))=true from by simpa using hi,if_true,bK,e1,e2,BO]; rw [Gz (by omega)]; cases ok with
   | false=>
    simp only [Bool.false_eq_true,if_false]; exact qC hl hd hF hG k (i + 1) out (by omega) (by omega) (by omega) hg
   | true=>
    obtain ⟨e3,e4⟩:=e3 rfl; simp only [if_true]; rw [e3,ES (by simp only [List.length_cons,List.length_nil,E9]; omega),bK,bK]; refine qC hl hd hF hG k (i + 1) (out ++ [y]) (by omega) (by omega) (by simp; omega) fun z hz=>?_; rcases List.mem_append.1 hz with hz | hz
    · exact hg z hz
    · rw [List.mem_singleton.1 hz]; exact e4
  ·
   rw [if_neg (by simpa using hi),if_neg (by simpa using hi)]; exact ⟨out,rfl,rfl,hg,by omega⟩
theorem qL (a1:aH) (bM:Int) (h:aH.bulk a1 + 1≤1048576) (hw:aH.wf a1) (hn:-9223372036854775808≤bM∧bM≤9223372036854775807):gY a1 bM=some true:=by
 obtain ⟨b,hb,hbp⟩:=wF (a:=a1) (by omega); have hlv:jP=some true:=rfl; unfold aH.bulk at h; unfold gY; rw [hb,bK]; cases b with
 | false=>simp [hlv]
 | true=>
  have hbp:=hbp rfl; have hsum:(a1.tasks.map fun z:aF=>aF.bulk z).sum≤1048576:=by omega
  have hl:=Nat.le_trans (dU (f:=fun z:aF=>aF.bulk z) (fun a=>by unfold aF.bulk; omega) a1.tasks) hsum
  have hd:∀ i (hi:i < a1.tasks.length),∃ x y ok,iL a1.tasks[i] bM=some (x,ok)∧kH a1.tasks[i] a1.worker.iD bM=some (y,ok)∧(ok=true→named a1.worker.iD x=y∧oo y):=fun i hi=>by
   have hm:=Nat.le_trans (oO (f:=fun z:aF=>aF.bulk z) (List.getElem_mem hi)) hsum; obtain ⟨p1,p2,p3,p4,p5⟩:=hbp i hi; exact Ey hm p1 p2 p3 p4 p5
  have hq:∃ l,iI a1 bM=some l∧jC a1 bM=some l∧(∀ x∈l,oo x)∧l.length≤1048577:=by
   have hwk:aI.bulk a1.worker≤1048576:=by omega
   unfold aI.bulk at hwk; have k1:=iX (l:=a1.worker.labels) (n:=1048576) (by omega); have k2:=dU (f:=fun z:Int=>1) (fun _=>Nat.le_refl _) a1.worker.tokens; unfold iI jC; by_cases c1:(!a1.up)=true
   ·
    rw [if_pos c1,if_pos c1]; exact ⟨[],rfl,rfl,fun x hx=>absurd hx (by simp),Nat.zero_le _⟩
   ·
    rw [if_neg c1,if_neg c1]; by_cases c2:(!a1.joined)=true
    ·
     rw [if_pos c2,if_pos c2]; unfold dh eT; rw [app0 (by omega),app0 (by omega),bK,bK]; refine ⟨_,rfl,rfl,fun x hx=>?_,by simp⟩; rw [List.mem_singleton.1 hx]; refine ⟨?_,?_,by simp,by simp,by simp,by simp,by simp⟩
     · show a1.worker.labels.length≤_; omega
     · show a1.worker.tokens.length≤_; omega
    ·
     rw [if_neg c2,if_neg c2]; by_cases c3:decide (a1.gu≤bM)=true
     ·
      rw [if_pos c3,if_pos c3,app0 (by simp),bK,bK]; obtain ⟨l,e1,e2,e3,e4⟩:=qC (a:=a1) (now:=bM) (by omega) hd (F:=dR a1 bM) (G:=eP a1 bM) (fun k out i=>by rw [dR]; rfl) (fun k out i=>by rw [eP]) BIG 0 [(au.mk 6 a1.worker.iD (aK.mk ([]:Str) ([]:Str)) 0 0 0 ([]:Str) (aG.mk ([]:Str) ([]:Str) false) [] (aI.mk ([]:Str) [] 0 0 false 0 0 0 []) (ak.mk ([]:Str) ([]:Str) 0 [] []) (av.mk (aT.mk ([]:Str) 0 ([]:Str)) ([]:Str) 0 0 0 0) (aJ.mk 0 0 [] [] [] ([]:Str)))] (by have:=y5; omega) (by omega) (by simp) (fun x hx=>by rw [List.mem_singleton.1 hx]; simp [oo]); exact ⟨l,e1,e2,e3,by omega⟩
     ·
      rw [if_neg c3,if_neg c3]; obtain ⟨l,e1,e2,e3,e4⟩:=qC (a:=a1) (now:=bM) (by omega) hd (F:=dQ a1 bM) (G:=eO a1 bM) (fun k out i=>by rw [dQ]; rfl) (fun k out i=>by rw [eO]) BIG 0 [] (by have:=y5; omega) (by omega) (by simp) (fun x hx=>absurd hx (by simp)); exact ⟨l,e1,e2,e3,by omega⟩
  obtain ⟨l,e1,e2,e3,e4⟩:=hq; rw [e1,e2]; simp [BQ e4 e3,hlv]
end Go.Ft
