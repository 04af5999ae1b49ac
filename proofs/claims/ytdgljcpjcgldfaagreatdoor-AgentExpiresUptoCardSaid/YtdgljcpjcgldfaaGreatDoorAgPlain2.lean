/- Proved here: plain facts on the functional texts. -/
import Derived.Test.YtdgljcpjcgldfaaGreatDoorAgPlain1
import Derived.Test.YtdgljcpjcgldfaaGreatDoorAgFt1
import Derived.Test.YtdgljcpjcgldfaaGreatDoorAgFt2
set_option linter.unusedVariables false
set_option linter.unusedSimpArgs false
set_option linter.unusedSectionVars false
set_option maxHeartbeats 2000000
namespace Go.Ft
open Go
attribute [local congr] yF
theorem qV {a:List av} (h:a.length < 4611686018427387904):jq a a=some true:=by
 unfold jq; simp only [bne_self_eq_false,Bool.false_eq_true,if_false]; refine iU (F:=fu a a) h (fun k i hi=>?_) fun k i hi=>?_
 · rw [fu]; simp; omega
 · rw [fu,lZ hi]; simp [hi,av.oC]
theorem xw {a:List aA} (h:a.length < 4611686018427387904):j6 a a=some true:=by
 unfold j6; simp only [bne_self_eq_false,Bool.false_eq_true,if_false]; refine iU (F:=fA a a) h (fun k i hi=>?_) fun k i hi=>?_
 · rw [fA]; simp; omega
 · rw [fA,lZ hi]; simp [hi,aA.oC]
theorem xD {a:List ak} (h:(a.map fun z:ak=>ak.bulk z).sum≤1048576):nY a a=some true:=by
 have hl:=Nat.le_trans (dU (f:=fun z:ak=>ak.bulk z) (fun a=>by unfold ak.bulk; omega) a) h; unfold nY; simp only [bne_self_eq_false,Bool.false_eq_true,if_false]; refine iU (F:=iq a a) (l:=a) (by omega) (fun k i hi=>?_) fun k i hi=>?_
 · rw [iq]; simp; omega
 ·
  have hm:=Nat.le_trans (oO (f:=fun z:ak=>ak.bulk z) (List.getElem_mem hi)) h; simp only [ak.bulk] at hm; have h1:=iX (l:=a[i].refs) (n:=1048576) (by omega); have h2:=iX (l:=a[i].environments) (n:=1048576) (by omega); rw [iq,lZ hi]; simp [hi,sj (a:=a[i]) (by omega) (by omega)]
theorem pU {l:List aj} {n:Nat} (h:(l.map fun z:aj=>aj.bulk z).sum≤n):l.length≤n:=Nat.le_trans (dU (f:=fun z:aj=>aj.bulk z) (fun a=>by unfold aj.bulk; omega) l) h
theorem vC {l:List av} {n:Nat} (h:(l.map fun z:av=>av.bulk z).sum≤n):l.length≤n:=Nat.le_trans (dU (f:=fun z:av=>av.bulk z) (fun a=>by unfold av.bulk; omega) l) h
theorem Bg {l:List aA} {n:Nat} (h:(l.map fun z:aA=>aA.bulk z).sum≤n):l.length≤n:=Nat.le_trans (dU (f:=fun z:aA=>aA.bulk z) (fun a=>by unfold aA.bulk; omega) l) h
theorem DI {l:List ah} {n:Nat} (h:(l.map fun z:ah=>ah.bulk z).sum≤n):l.length≤n:=Nat.le_trans (dU (f:=fun z:ah=>ah.bulk z) (fun a=>by unfold ah.bulk; omega) l) h
theorem Cx {w:aC} (h:aC.bulk w≤1048576):nV w w=some true:=by
 unfold aC.bulk at h; have h1:=xD (a:=w.bB) (by omega); have h2:=mV (a:=w.artifacts) (by have:=pU (l:=w.artifacts) (n:=1048576) (by omega); omega); have h3:=qV (a:=w.entries) (by have:=vC (l:=w.entries) (n:=1048576) (by omega); omega); have h4:=oJ (a:=w.tests) (by have:=iX (l:=w.tests) (n:=1048576) (by omega); omega); have h5:=xw (a:=w.times) (by have:=Bg (l:=w.times) (n:=1048576) (by omega); omega); have h6:=oJ (a:=w.ignored) (by have:=iX (l:=w.ignored) (n:=1048576) (by omega); omega); unfold nV; simp [h1,h2,h3,h4,h5,h6,bn.oC,aG.oC]
theorem AB {e:aU} (h:aU.bulk e≤1048576):nX e e=some true:=by
 unfold aU.bulk aJ.bulk at h; have h3:=qV (a:=e.saves) (by have:=vC (l:=e.saves) (n:=1048576) (by omega); omega); have h4:=sw (a:=e.result) (by have:=pU (l:=e.result.inputs) (n:=1048576) (by omega); omega) (by have:=pU (l:=e.result.outputs) (n:=1048576) (by omega); omega) (by have:=DI (l:=e.result.tests) (n:=1048576) (by omega); omega); unfold nX; simp [h3,h4]
theorem CG {t:aF} (h:aF.bulk t≤1048576):nW t t=some true:=by
 unfold aF.bulk at h; unfold nW; simp [Cx (w:=t.work) (by omega),AB (e:=t.effect) (by omega)]
theorem Bj {a:List aF} (h:(a.map fun z:aF=>aF.bulk z).sum≤1048576):mq a a=some true:=by
 have hl:=Nat.le_trans (dU (f:=fun z:aF=>aF.bulk z) (fun a=>by unfold aF.bulk; omega) a) h; unfold mq; simp only [bne_self_eq_false,Bool.false_eq_true,if_false]; refine iU (F:=gB a a) (l:=a) (by omega) (fun k i hi=>?_) fun k i hi=>?_
 · rw [gB]; simp; omega
 ·
  have hm:=Nat.le_trans (oO (f:=fun z:aF=>aF.bulk z) (List.getElem_mem hi)) h; rw [gB,lZ hi]; simp [hi,CG (t:=a[i]) hm]
theorem lG {a:aH} (h:aI.bulk a.worker≤1048576) (ht:(a.tasks.map fun z:aF=>aF.bulk z).sum≤1048576):j5 a a=some true:=by
 unfold aI.bulk at h; have h1:=r9 (a:=a.worker) (by have:=iX (l:=a.worker.labels) (n:=1048576) (by omega); omega) (by have:=dU (f:=fun z:Int=>1) (fun _=>Nat.le_refl _) a.worker.tokens; omega); unfold j5; simp [h1,Bj ht]
theorem add_same {a:Int} (h1:-9223372036854775808≤a) (h2:a≤9223372036854775807):qK a 30000=mR a 30000:=by
 unfold qK mR tC; by_cases ha:a < 0
 ·
  rw [zZ (n:=a + 30000) (by omega)]; have e1:¬ (0 < a):=by omega
  have e2:¬ ((30000:Int) < fU (-9223372036854775808 - a)):=by rw [zZ (by omega)]; omega
  simp [ha,e1,e2]
 ·
  by_cases hb:a + 30000≤9223372036854775807
  ·
   rw [zZ (n:=a + 30000) (by omega)]; have e2:¬ (fU (9223372036854775807 - a) < (30000:Int)):=by rw [zZ (by omega)]; omega
   have e3:¬ (a + 30000 < 0):=by omega
   simp [ha,e2,e3]
  ·
   have e0:fU (a + 30000)=a + 30000 - 18446744073709551616:=by
    unfold fU IntKind.wrap; simp [IntKind.signed,IntKind.bits,Int.bmod]; omega
   have e2:fU (9223372036854775807 - a) < (30000:Int):=by rw [zZ (by omega)]; omega
   have e3:a + 30000 - 18446744073709551616 < 0:=by omega
   have e4:0 < a:=by omega
   rw [e0]; simp [ha,e2,e3,e4]
theorem rH (a1:aH) (bM:Int) (h:aH.bulk a1 + 1≤1048576) (hw:aH.wf a1) (hn:-9223372036854775808≤bM∧bM≤9223372036854775807):iJ a1 bM=some true:=by
 obtain ⟨b,hb,_⟩:=wF (a:=a1) (by omega); have hlv:jP=some true:=rfl; unfold aH.bulk at h; have hheard:-9223372036854775808≤a1.heard∧a1.heard≤9223372036854775807:=hw.2.2.2.2.1; have hk:lH a1=mD a1:=rfl
 have he:jI a1 bM=jd a1 bM:=by
  unfold jI jd; rw [add_same hheard.1 hheard.2,hk]; rfl
 have hsum:(a1.tasks.map fun z:aF=>aF.bulk z).sum≤1048576:=by omega
 have hx:∃ x,jd a1 bM=some x∧j5 x x=some true:=by
  unfold jd; split
  · exact ⟨a1,rfl,lG (by omega) hsum⟩
  ·
   split
   · exact ⟨_,rfl,lG (by show aI.bulk a1.worker≤_; omega) (by simp)⟩
   ·
    have:∃ y,mR a1.heard 30000=some y:=by
     unfold mR; split
     · exact ⟨_,rfl⟩
     · split <;> exact ⟨_,rfl⟩
    obtain ⟨y,hy⟩:=this; rw [hy,bK]; split
    · exact ⟨_,rfl,lG (by show aI.bulk a1.worker≤_; omega) (by simp)⟩
    · exact ⟨a1,rfl,lG (by omega) hsum⟩
 obtain ⟨x,hx1,hx2⟩:=hx; have hks:∃ y,mD a1=some y∧j5 y y=some true:=⟨_,rfl,lG (by show aI.bulk a1.worker≤_; omega) (by simp)⟩; obtain ⟨y,hy1,hy2⟩:=hks; unfold iJ; rw [hb,he,hk,hx1,hy1]; simp [hx2,hy2,hlv]
end Go.Ft
