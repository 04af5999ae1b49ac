/- Proved here: plain facts on the functional texts. -/
import Derived.Test.YtdgljcpjcgldfaaGreatDoorAgFt1
set_option linter.unusedVariables false
set_option linter.unusedSimpArgs false
set_option linter.unusedSectionVars false
set_option maxHeartbeats 2000000
namespace Go.Ft
open Go
attribute [local congr] yF
theorem zZ {n:Int} (h:-9223372036854775808≤n∧n < 9223372036854775808):fU n=n:=E_ (by omega) (by omega)
theorem Gz {i:Nat} (h:i < 4611686018427387904):fU ((i:Int) + 1)=((i + 1:Nat):Int):=by rw [zZ (by omega)]; omega
theorem lZ {α:Type} {l:List α} {i:Nat} (h:i < l.length):idx l (i:Int)=some (l[i]):=by rw [Fx,List.getElem?_eq_getElem h]
theorem y5 :9223372036854775808 < BIG:=by decide
theorem Au {α:Type} {F:Nat→Int→Option Bool} {l:List α} (hl:l.length < 4611686018427387904) (P:Nat→α→Prop) (hfin:∀ k (i:Nat),¬ i < l.length→F (k + 1) i=some true)
  (hF:∀ k (i:Nat) (h:i < l.length),F (k + 1) i=F k (fU ((i:Int) + 1))):∀ (k i:Nat),l.length < k + i→i≤l.length→F k (i:Int)=some true
 | 0,i,h,h'=>by omega
 | k + 1,i,h,h'=>by
  by_cases hi:i < l.length
  ·
   rw [hF k i hi,Gz (by omega)]; exact Au hl P hfin hF k (i + 1) (by omega) (by omega)
  · exact hfin k i hi
theorem iU {α:Type} {F:Nat→Int→Option Bool} {l:List α} (hl:l.length < 4611686018427387904) (hfin:∀ k (i:Nat),¬ i < l.length→F (k + 1) i=some true)
  (hF:∀ k (i:Nat) (h:i < l.length),F (k + 1) i=F k (fU ((i:Int) + 1))):F BIG 0=some true:=by
 have:=Au hl (fun _ _=>True) hfin hF BIG 0 (by have:=y5; omega) (by omega); simpa using this
theorem Bh {a:List Str} (h:a.length < 4611686018427387904):mG a a=some true:=by
 unfold mG; simp only [bne_self_eq_false,Bool.false_eq_true,if_false]; refine iU (F:=gJ a a) h (fun k i hi=>?_) fun k i hi=>?_
 · rw [gJ]; simp; omega
 · rw [gJ,lZ hi]; simp [hi]
theorem yD {a:List Int} (h:a.length < 4611686018427387904):j_ a a=some true:=by
 unfold j_; simp only [bne_self_eq_false,Bool.false_eq_true,if_false]; refine iU (F:=fB a a) h (fun k i hi=>?_) fun k i hi=>?_
 · rw [fB]; simp; omega
 · rw [fB,lZ hi]; simp [hi]
theorem oJ {a:List Str} (h:a.length < 4611686018427387904):kg a a=some true:=by
 unfold kg; simp only [bne_self_eq_false,Bool.false_eq_true,if_false]; refine iU (F:=iy a a) h (fun k i hi=>?_) fun k i hi=>?_
 · rw [iy]; simp; omega
 · rw [iy,lZ hi]; simp [hi]
theorem mV {a:List aj} (h:a.length < 4611686018427387904):ig a a=some true:=by
 unfold ig; simp only [bne_self_eq_false,Bool.false_eq_true,if_false]; refine iU (F:=fq a a) h (fun k i hi=>?_) fun k i hi=>?_
 · rw [fq]; simp; omega
 · rw [fq,lZ hi]; simp [hi,aj.oC]
theorem tY {a:List ah} (h:a.length < 4611686018427387904):nZ a a=some true:=by
 unfold nZ; simp only [bne_self_eq_false,Bool.false_eq_true,if_false]; refine iU (F:=iw a a) h (fun k i hi=>?_) fun k i hi=>?_
 · rw [iw]; simp; omega
 · rw [iw,lZ hi]; simp [hi,ah.oC]
theorem r9 {a:aI} (h1:a.labels.length < 4611686018427387904) (h2:a.tokens.length < 4611686018427387904):mH a a=some true:=by
 unfold mH; simp [Bh h1,yD h2]
theorem sj {a:ak} (h1:a.refs.length < 4611686018427387904) (h2:a.environments.length < 4611686018427387904):kP a a=some true:=by
 unfold kP; simp [oJ h1,oJ h2]
theorem sw {a:aJ} (h1:a.inputs.length < 4611686018427387904) (h2:a.outputs.length < 4611686018427387904) (h3:a.tests.length < 4611686018427387904):jo a a=some true:=by
 unfold jo; simp [mV h1,mV h2,tY h3]
theorem dU {α:Type} {f:α→Nat} (hf:∀ a,1≤f a):∀ (l:List α),l.length≤(l.map f).sum
 | []=>Nat.le_refl _
 | x :: l=>by have:=dU hf l; have:=hf x; simp only [List.length_cons,List.map_cons,List.sum_cons]; omega
theorem oO {α:Type} {f:α→Nat}:∀ {l:List α} {x:α},x∈l→f x≤(l.map f).sum
 | y :: l,x,h=>by
  simp only [List.map_cons,List.sum_cons]; rcases List.mem_cons.1 h with rfl | h
  · omega
  · have:=oO (f:=f) h; omega
end Go.Ft
namespace Go.Ft
open Go
attribute [local congr] yF
theorem wN {α:Type} {F:Nat→Int→Option Bool} {l:List α} (hl:l.length < 4611686018427387904) (P:Nat→Prop) (hfin:∀ k (i:Nat),¬ i < l.length→∃ b,F (k + 1) i=some b)
  (hF:∀ k (i:Nat) (h:i < l.length),F (k + 1) i=some false∨(F (k + 1) i=F k (fU ((i:Int) + 1))∧P i)):∀ (k i:Nat),l.length < k + i→i≤l.length→(∀ j,j < i→P j)→∃ b,F k (i:Int)=some b∧(b=true→∀ j,j < l.length→P j)
 | 0,i,h,h',_=>by omega
 | k + 1,i,h,h',hp=>by
  by_cases hi:i < l.length
  ·
   rcases hF k i hi with e | ⟨e,hpi⟩
   · exact ⟨false,e,fun h=>by cases h⟩
   ·
    rw [e,Gz (by omega)]; refine wN hl P hfin hF k (i + 1) (by omega) (by omega) fun j hj=>?_; by_cases hji:j=i
    · rw [hji]; exact hpi
    · exact hp j (by omega)
  ·
   obtain ⟨b,hb⟩:=hfin k i hi; exact ⟨b,hb,fun _ j hj=>hp j (by omega)⟩
theorem jE {α:Type} {F:Nat→Int→Option Bool} {l:List α} (hl:l.length < 4611686018427387904) (P:Nat→Prop) (hfin:∀ k (i:Nat),¬ i < l.length→∃ b,F (k + 1) i=some b)
  (hF:∀ k (i:Nat) (h:i < l.length),F (k + 1) i=some false∨(F (k + 1) i=F k (fU ((i:Int) + 1))∧P i)):∃ b,F BIG 0=some b∧(b=true→∀ j,j < l.length→P j):=by
 have:=wN hl P hfin hF BIG 0 (by have:=y5; omega) (by omega) (fun j hj=>by omega); simpa using this
theorem jM {l:List Str} {m s:Int} (h:l.length < 4611686018427387904):∃ b,fZ l m s=some b:=by
 unfold fZ; split
 · exact ⟨_,rfl⟩
 ·
  obtain ⟨b,hb,_⟩:=jE (F:=gG l s) h (fun _=>True) (fun k i hi=>⟨true,by rw [gG]; simp; omega⟩) fun k i hi=>by
   rw [gG,lZ hi]; simp only [show decide ((i:Int) < (l.length:Int))=true from by simpa using hi,if_true,bK]; split
   · exact .inl rfl
   · exact .inr ⟨rfl,trivial⟩
  exact ⟨b,hb⟩
theorem r_ {l:List Str} (h:l.length < 4611686018427387904):∃ b,kN l=some b:=by
 unfold kN
 obtain ⟨b,hb,_⟩:=jE (F:=gH l) h (fun _=>True) (fun k i hi=>⟨_,by rw [gH,if_neg (by simpa using hi)]⟩) fun k i hi=>by
  rw [gH,lZ hi]; simp only [show decide ((i:Int) < (l.length:Int))=true from by simpa using hi,if_true,bK]; split
  · exact .inl rfl
  · exact .inr ⟨rfl,trivial⟩
 exact ⟨b,hb⟩
theorem Ab {l:List ak} (h:(l.map ak.bulk).sum≤1048576):∃ b,mF l=some b:=by
 have hl:l.length≤1048576:=Nat.le_trans (dU (fun a=>by unfold ak.bulk; omega) l) h; unfold mF; split
 · exact ⟨_,rfl⟩
 ·
  obtain ⟨b,hb,_⟩:=jE (F:=gI l) (l:=l) (by omega) (fun _=>True) (fun k i hi=>⟨true,by rw [gI]; simp; omega⟩) fun k i hi=>by
   have hm:=Nat.le_trans (oO (f:=ak.bulk) (List.getElem_mem hi)) h; have h1:=dU (f:=fun z:Str=>z.length + 1) (fun a=>by omega) l[i].refs; have h2:=dU (f:=fun z:Str=>z.length + 1) (fun a=>by omega) l[i].environments; unfold ak.bulk at hm; obtain ⟨x1,e1⟩:=r_ (l:=l[i].refs) (by omega); obtain ⟨x2,e2⟩:=r_ (l:=l[i].environments) (by omega); rw [gI,lZ hi]; simp only [show decide ((i:Int) < (l.length:Int))=true from by simpa using hi,if_true,bK,e1,e2]; generalize decide (1000 < (List.length l[i].name:Int))=c1; generalize decide (1000 < (List.length l[i].text:Int))=c2; cases c1 <;> cases c2 <;> cases x1 <;> cases x2 <;> simp
  exact ⟨b,hb⟩
theorem Dz {v:dn} (h1:v.files.length < 4611686018427387904) (h2:v.artifacts.length < 4611686018427387904) (h3:(v.bB.map ak.bulk).sum≤1048576) (h4:v.keys.length < 4611686018427387904) (h5:v.tests.length < 4611686018427387904) (h6:v.ignored.length < 4611686018427387904):∃ b,iR v=some b:=by
 obtain ⟨x1,e1⟩:=Ab h3; obtain ⟨y1,f1⟩:=jM (m:=12) (s:=600) h4; obtain ⟨y2,f2⟩:=jM (m:=40) (s:=300) h5; obtain ⟨y3,f3⟩:=jM (m:=40) (s:=300) h6
 have hl2:∃ b,dF v BIG 0=some b:=by
  obtain ⟨b,hb,_⟩:=jE (F:=dF v) (l:=v.artifacts) h2 (fun _=>True) (fun k i hi=>by
   rw [dF,if_neg (by simpa using hi),f1,bK]; cases y1 <;> simp only [if_true,Bool.false_eq_true,if_false,f2,bK]
   · exact ⟨_,rfl⟩
   ·
    cases y2 <;> simp only [if_true,Bool.false_eq_true,if_false]
    · exact ⟨_,rfl⟩
    · exact ⟨_,f3⟩) fun k i hi=>by
   rw [dF,lZ hi]; simp only [show decide ((i:Int) < (v.artifacts.length:Int))=true from by simpa using hi,if_true,bK]; split
   · exact .inl rfl
   · exact .inr ⟨rfl,trivial⟩
  exact ⟨b,hb⟩
 obtain ⟨z2,g2⟩:=hl2
 have hl1:∃ b,dG v BIG 0=some b:=by
  obtain ⟨b,hb,_⟩:=jE (F:=dG v) (l:=v.files) h1 (fun _=>True) (fun k i hi=>⟨z2,by rw [dG,if_neg (by simpa using hi),g2]⟩) fun k i hi=>by
   rw [dG,lZ hi]; simp only [show decide ((i:Int) < (v.files.length:Int))=true from by simpa using hi,if_true,bK]; split
   · exact .inl rfl
   · exact .inr ⟨rfl,trivial⟩
  exact ⟨b,hb⟩
 obtain ⟨z1,g1⟩:=hl1; unfold iR; rw [e1,g1]; simp only [bK]; split <;> simp only [bK] <;> split <;> exact ⟨_,rfl⟩
theorem Fw {j:bN} (h0:j.steps.length < 4611686018427387904) (h1:j.inputs.length < 4611686018427387904) (h2:j.uses.length < 4611686018427387904) (h3:j.bB.length < 4611686018427387904) (h4:j.outputs.length < 4611686018427387904):∃ b,jD j=some b:=by
 obtain ⟨y1,f1⟩:=jM (m:=6) (s:=100) h1; obtain ⟨y2,f2⟩:=jM (m:=20) (s:=300) h2; obtain ⟨y3,f3⟩:=jM (m:=20) (s:=300) h3; obtain ⟨y4,f4⟩:=jM (m:=20) (s:=300) h4
 have hl1:∃ b,dS j BIG 0=some b:=by
  obtain ⟨b,hb,_⟩:=jE (F:=dS j) (l:=j.steps) h0 (fun _=>True) (fun k i hi=>by
   rw [dS,if_neg (by simpa using hi),f1,f2,f3,f4]
   cases y1 <;> cases y2 <;> cases y3 <;> exact ⟨_,rfl⟩) fun k i hi=>by
   rw [dS,lZ hi]; simp only [show decide ((i:Int) < (j.steps.length:Int))=true from by simpa using hi,if_true,bK]; split <;> simp only [bK] <;> split
   all_goals first | exact .inl rfl | exact .inr ⟨rfl,trivial⟩
  exact ⟨b,hb⟩
 unfold jD; split
 · exact ⟨_,rfl⟩
 · exact hl1
theorem iX {l:List Str} {n:Nat} (h:(List.map (fun z:Str=>(z.length + 1)) l).sum≤n):l.length≤n:=Nat.le_trans (dU (f:=fun z:Str=>z.length + 1) (fun a=>by omega) l) h
theorem Dy {w:aC} (h:aC.bulk w≤1048576):∃ b,iQ w=some b:=by
 unfold aC.bulk bN.bulk at h; have hsteps:=dU (f:=fun z:aQ=>aQ.bulk z) (fun a=>by unfold aQ.bulk; omega) w.job.steps; have Kc:=dU (f:=fun z:aB=>aB.bulk z) (fun a=>by unfold aB.bulk; omega) w.job.caches; have Mx:=dU (f:=fun z:aj=>aj.bulk z) (fun a=>by unfold aj.bulk; omega) w.artifacts; have hent:=dU (f:=fun z:av=>av.bulk z) (fun a=>by unfold av.bulk; omega) w.entries; have i1:=iX (l:=w.job.inputs) (n:=1048576) (by omega); have i2:=iX (l:=w.job.uses) (n:=1048576) (by omega); have i3:=iX (l:=w.job.bB) (n:=1048576) (by omega); have i4:=iX (l:=w.job.outputs) (n:=1048576) (by omega); have i5:=iX (l:=w.tests) (n:=1048576) (by omega); have i6:=iX (l:=w.ignored) (n:=1048576) (by omega)
 have Li:(w.bB.map ak.bulk).sum≤1048576:=by
  have:(List.map (fun z:ak=>(ak.bulk z)) w.bB).sum≤1048576:=by omega
  exact this
 obtain ⟨x1,e1⟩:=Fw (j:=w.job) (by omega) (by omega) (by omega) (by omega) (by omega); obtain ⟨x2,e2⟩:=Dz (v:=dn.mk [] w.artifacts w.bB [] [] w.tests w.times w.ignored 0) (by simp) (show w.artifacts.length < _ by omega) Li (by simp) (show w.tests.length < _ by omega) (show w.ignored.length < _ by omega)
 have hl2:∃ b,dB w BIG 0=some b:=by
  obtain ⟨b,hb,_⟩:=jE (F:=dB w) (l:=w.job.caches) (by omega) (fun _=>True) (fun k i hi=>⟨true,by rw [dB,if_neg (by simpa using hi)]⟩) fun k i hi=>by
   rw [dB,lZ hi]; simp only [show decide ((i:Int) < (w.job.caches.length:Int))=true from by simpa using hi,if_true,bK]; split
   · exact .inl rfl
   · exact .inr ⟨rfl,trivial⟩
  exact ⟨b,hb⟩
 obtain ⟨z2,g2⟩:=hl2
 have hl1:∃ b,dD w BIG 0=some b:=by
  obtain ⟨b,hb,_⟩:=jE (F:=dD w) (l:=w.entries) (by omega) (fun _=>True) (fun k i hi=>⟨z2,by rw [dD,if_neg (by simpa using hi),g2]⟩) fun k i hi=>by
   rw [dD,lZ hi]; simp only [show decide ((i:Int) < (w.entries.length:Int))=true from by simpa using hi,if_true,bK]; split
   · exact .inl rfl
   · exact .inr ⟨rfl,trivial⟩
  exact ⟨b,hb⟩
 obtain ⟨z1,g1⟩:=hl1; unfold iQ; rw [e1,e2,g1]; simp only [bK]; cases x1 <;> simp only [Bool.not_true,Bool.not_false,Bool.false_eq_true,if_true,if_false,bK] <;> split <;> exact ⟨_,rfl⟩
theorem wF {a:aH} (h:aH.bulk a≤1048576):∃ b,kM a=some b∧(b=true→∀ i (hi:i < a.tasks.length),0≤a.tasks[i].sent∧0≤a.tasks[i].saved∧a.tasks[i].sent≤(a.tasks[i].effect.log.length:Int)∧a.tasks[i].saved≤(a.tasks[i].effect.saves.length:Int)∧a.tasks[i].effect.log.length≤5000):=by
 unfold aH.bulk at h
 have hts:(a.tasks.map aF.bulk).sum≤1048576:=by
  have:(List.map (fun z:aF=>(aF.bulk z)) a.tasks).sum≤1048576:=by omega
  exact this
 have hl:=Nat.le_trans (dU (f:=fun z:aF=>aF.bulk z) (fun a=>by unfold aF.bulk; omega) a.tasks) hts; unfold kM; split
 · exact ⟨false,rfl,fun h=>by cases h⟩
 ·
  obtain ⟨b,hb,hp⟩:=jE (F:=gD a) (l:=a.tasks) (by omega)
   (fun i=>∀ hi:i < a.tasks.length,0≤a.tasks[i].sent∧0≤a.tasks[i].saved∧a.tasks[i].sent≤(a.tasks[i].effect.log.length:Int)∧a.tasks[i].saved≤(a.tasks[i].effect.saves.length:Int)∧a.tasks[i].effect.log.length≤5000)
   (fun k i hi=>⟨true,by rw [gD,if_neg (by simpa using hi)]⟩) fun k i hi=>by
   have hm:=Nat.le_trans (oO (f:=aF.bulk) (List.getElem_mem hi)) hts; unfold aF.bulk at hm; obtain ⟨x1,e1⟩:=Dy (w:=a.tasks[i].work) (by omega); rw [gD,lZ hi]; simp only [show decide ((i:Int) < (a.tasks.length:Int))=true from by simpa using hi,if_true,bK,e1]; by_cases hc:((((((((!x1) || (decide (5000 < (a.tasks[i].effect.log.length:Int)))) || (decide (80 < (a.tasks[i].effect.saves.length:Int)))) || (decide (a.tasks[i].sent < 0))) || (decide (a.tasks[i].saved < 0))) || (decide ((a.tasks[i].effect.log.length:Int) < a.tasks[i].sent))) || (decide ((a.tasks[i].effect.saves.length:Int) < a.tasks[i].saved)))=true)
   · rw [if_pos hc]; exact .inl rfl
   ·
    rw [if_neg hc]; simp only [Bool.or_eq_true,Bool.not_eq_true',decide_eq_true_eq,not_or,Bool.not_eq_false] at hc; by_cases h0:decide (0 < (i:Int))=true
    ·
     rw [if_pos h0]; have h0:0 < i:=by simpa using h0
     rw [zZ (by omega),show (i:Int) - 1=((i - 1:Nat):Int) from by omega,lZ (show i - 1 < a.tasks.length from by omega)]; simp only [bK]; split
     · exact .inl rfl
     · exact .inr ⟨rfl,fun _=>by omega⟩
    ·
     rw [if_neg h0]; exact .inr ⟨rfl,fun _=>by omega⟩
  exact ⟨b,hb,fun h i hi=>hp h i hi hi⟩
end Go.Ft
