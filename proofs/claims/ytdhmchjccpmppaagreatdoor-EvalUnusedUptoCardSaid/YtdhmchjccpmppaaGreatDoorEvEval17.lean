/- Proved here: plain facts on the functional texts. -/
import Derived.Test.YtdhmchjccpmppaaGreatDoorEvPlain2
import Derived.Test.YtdhmchjccpmppaaGreatDoorEvUnused1
set_option linter.unusedVariables false
set_option linter.unusedSimpArgs false
set_option linter.unusedSectionVars false
set_option maxHeartbeats 2000000
namespace Go.Ft
open Go
attribute [local congr] jE
theorem Rm {env:List av} {x:av}:∀ (n:Nat) (e:aj),e.bulk≤n→x.name∉SN e→iJ (x :: env) e=iJ env e
 | 0,e,h,_=>by have:=e.gF; omega
 | n + 1,e,h,hx=>by
  rw [rU,rU]
  have ha:e.args.map (iJ (x :: env))=e.args.map (iJ env):=List.map_congr_left fun y hy=>Rm n y (by have:=fF hy; omega) (afS hy hx)
  rw [ha]
  by_cases h2:e.kind=2
  ·
   have:=afR (by simpa using h2) hx
   have hne:x.name≠e.name:=by simpa using this
   have hf:qB (x :: env) e.name=qB env e.name:=by rw [qB,if_neg hne]
   rw [hf]
  · simp only [h2,if_false]
theorem Rq :∀ (r:List av) (seen seen':List Str),(∀ s∈seen',s∈seen)→EL seen r=0→EL seen' r=0
 | [],_,_,_,_=>rfl
 | d :: r,seen,seen',h,hz=>by
  rw [EL] at hz ⊢
  split at hz
  · simp at hz
  ·
   rename_i c1
   rw [if_neg c1]
   split at hz
   ·
    rename_i c2
    simp [hz] at c2
   ·
    rename_i c2
    rw [if_neg c2]
    split at hz
    · simp at hz
    ·
     rename_i c3
     have c3':¬ seen'.contains d.name=true:=fun hc=>c3 (by
      rw [List.contains_iff_mem] at hc ⊢
      exact h _ hc)
     rw [if_neg c3']
     exact Rq r _ _ (by
      intro s hs
      simp only [List.mem_append,List.mem_cons] at hs ⊢
      rcases hs with hs | hs
      · first | exact .inl (h _ hs) | exact .inl hs
      · first | exact .inr hs | exact .inr (h _ hs)) hz
theorem Rp {x:av} {env:List av} (hv:qC (x :: env)=0):qC env=0:=by
 unfold qC at hv ⊢
 split at hv
 · simp at hv
 ·
  rename_i hle
  simp only [List.length_cons] at hle
  rw [if_neg (by omega)]
  rw [EL] at hv
  split at hv
  · simp at hv
  ·
   split at hv
   · rename_i c2; simp [hv] at c2
   ·
    split at hv
    · simp at hv
    · exact Rq env _ [] (by simp) hv
theorem Ql {l:List Str} {s:Str} {r:Option Bool} (hr:r=some true) (hl:s∉l→∀ K:Option Bool,K=some true→K=some true) {K:Unit→Option Bool} (hK:s∉l→K ()=some true):∀ (t:List Str) (i:Nat),(∀ y,y∈l→y∉t→(y == s)=false)→
  dQ (fun _ e2 (_:Unit) k=>if e2 == s then r else k ()) K i t ()=some true
 | [],i,h2=>by
  rw [dQ]
  refine hK fun hn=>?_
  have:=h2 s hn (by simp)
  simp at this
 | x :: t,i,h2=>by
  rw [dQ]
  cases hx:(x == s) with
  | true=>exact hr
  | false=>
   simp only [Bool.false_eq_true,if_false]
   refine Ql hr hl hK t (i + 1) fun y hy hyt=>?_
   by_cases hyx:y=x
   · rw [hyx]; exact hx
   · exact h2 y hy (by simp [hyx,hyt])
theorem QY (e1:aj) (bK:List av) (x1:av) (h:aj.bulk e1 + ((List.map (fun z:av=>(av.bulk z)) bK).sum + 1) + av.bulk x1≤1048576):zh e1 bK x1=some true:=by
 have hE:(bK.map av.bulk).sum≤1048576:=by
  have h':(List.map (fun z:av=>(av.bulk z)) bK).sum≤1048576:=by omega
  exact h'
 have hM:((x1 :: bK).map av.bulk).sum≤1048576:=by
  have h':(List.map (fun z:av=>(av.bulk z)) (x1 :: bK)).sum≤1048576:=by
   simp only [List.map_cons,List.sum_cons]; omega
  exact h'
 obtain ⟨s1,s2⟩:=uh hE
 obtain ⟨t1,t2⟩:=uh hM
 have hcnt:=Ba _ e1 (Nat.le_refl _)
 have hlen:=Pw _ e1 (Nat.le_refl _)
 have hsl:=Z4 (SN e1)
 unfold zh
 rw [JW (by omega),ay]
 split
 · exact nG
 ·
  rw [q8 (by simp [rC]),ay,q8 (by simp [rC]; omega),ay]
  simp only [List.nil_append,List.singleton_append]
  obtain ⟨v1,_⟩:=J9 (env:=x1 :: bK) (by omega) (fun d hd=>by have:=t2 d hd; omega)
  rw [v1,ay]
  split
  · exact nG
  ·
   rename_i hv
   simp only [bne_iff_ne,ne_eq,Decidable.not_not] at hv
   rw [ab6 (by omega),ay]
   rw [dP (F:=fun k (_:Unit) i=>p9 e1 bK x1 (x1 :: bK) (I9 (SN e1)) k i) (l:=I9 (SN e1)) (body:=fun _ e2 _ r=>if e2 == x1.name then iI else r ())
    (fin:=fun _=>fG (nD e1 bK) fun x7 f1=>fG (nD e1 (x1 :: bK)) fun x8 g1=>au (if f1 == g1 then r9 x7 x8 else some false) fun b1=>if b1 then iI else some false) (by omega) (fun k s i=>rfl) ()]
   refine Ql nG (fun _ _ h=>h) (fun hn=>?_) _ 0 (fun y hy hy2=>absurd hy hy2)
   have hn:x1.name∉SN e1:=fun hm=>hn (QN.2 hm)
   obtain ⟨p,_,g⟩:=xW (e:=e1) (env:=bK) (by omega) hE
   obtain ⟨q,_,_⟩:=xW (e:=e1) (env:=x1 :: bK) (by omega) hM
   have he:wJ e1 (x1 :: bK)=wJ e1 bK:=by
    unfold wJ
    rw [hv,Rp hv,Rm e1.bulk e1 (Nat.le_refl _) hn]
   obtain ⟨a,b⟩:=Mw g
   rw [p,q,he,mD,mD,if_pos (by simp),aaZ (by omega),ay]
   exact nG
end Go.Ft
