/- Proved here: plain facts on the functional texts. -/
import Derived.Test.YtangbjfgdmopoaaGreatDoorCsPlain2
set_option linter.unusedVariables false
set_option linter.unusedSimpArgs false
set_option linter.unusedSectionVars false
set_option maxHeartbeats 2000000
namespace Go.Ft
open Go
attribute [local congr] jE
theorem amS {t:Ty} {k:Int} (h:t.wf) (hk:t.kind=k) (h5:k≠5∧k≠6):t=sc k:=by
 cases t with
 | leaf x=>simp only [Ty.kind] at hk; subst hk; rfl
 | nest x s=>simp only [Ty.kind] at hk; have:=h.1; omega
theorem alz {v:ah} {t:Ty} (hv:afM v t) (h:t.wf) (hf:ac2 t=true):tX t=false:=by
 cases hl:tX t with
 | false=>rfl
 | true=>
  exfalso
  obtain ⟨e,h07⟩:=alV h hl
  rcases h07 with h0 | h7
  · rw [e,h0] at hf; cases hf
  · rw [e,h7] at hv; exact anJ hv
theorem aox {a b:Ty} (ha:tX a=false) (hb:tX b=false) {k:Int} (hk:0≤k) (h:kxT a b=k):a.kind=k∧b.kind=k:=by
 unfold kxT at h
 rw [ha,hb] at h
 simp only [Bool.false_eq_true,if_false,Bool.false_or,beq_iff_eq] at h
 split at h
 · rename_i e; exact ⟨h,e ▸ h⟩
 · omega
theorem asG {a b:ah} {s t:Ty} {r:Bool} (hs:s.wf) (ht:t.wf) (ha:afM a s) (hb:afM b t) (hc:(((tX s && tX t) || (kxT s t == 3)) || (kxT s t == 4))=true):SND (O1 a b r) (sc 2) (ac2 s=true∧ac2 t=true):=by
 unfold O1
 by_cases h:(a.kind=2∧b.kind=2)∨(a.kind=3∧b.kind=3)
 · rw [if_pos h]; exact SND.ok (alq rfl)
 ·
  rw [if_neg h]
  refine SND.nine fun hf=>h ?_
  have l1:=alz ha hs hf.1
  have l2:=alz hb ht hf.2
  rw [l1,l2] at hc
  simp only [Bool.and_self,Bool.false_or,Bool.or_eq_true,beq_iff_eq] at hc
  rcases hc with hc | hc
  ·
   obtain ⟨k1,k2⟩:=aox l1 l2 (by omega) hc
   rw [amS hs k1 (by omega)] at ha
   rw [amS ht k2 (by omega)] at hb
   exact .inl ⟨akF (by omega) ha,akF (by omega) hb⟩
  ·
   obtain ⟨k1,k2⟩:=aox l1 l2 (by omega) hc
   rw [amS hs k1 (by omega)] at ha
   rw [amS ht k2 (by omega)] at hb
   exact .inr ⟨akF (by omega) ha,akF (by omega) hb⟩
end Go.Ft

namespace Go.Ft
open Go
attribute [local congr] jE
theorem anW {a b:Ty} (ha:a.wf) (hb:b.wf):agU a (agY a b)=true:=by
 have h:=amZ a b (agY a b) ha hb (ajF a b ha hb)
 rw [al6] at h
 exact (Bool.and_eq_true _ _ ▸ h.symm).1
theorem aoy {a b:Ty} (ha:a.wf) (hb:b.wf):agU b (agY a b)=true:=by
 have h:=amZ a b (agY a b) ha hb (ajF a b ha hb)
 rw [al6] at h
 exact (Bool.and_eq_true _ _ ▸ h.symm).2
theorem ar4 {v:ah} {t:Ty} (hv:afM v t) (h4:v.kind=4) (ht:t.wf) (hk:tX t=true∨t.kind=5):(elT t).wf∧∀ x∈v.aI,afM x (elT t):=by
 cases t with
 | leaf k=>
  have hl:tX (.leaf k)=true:=by
   rcases hk with h | h
   · exact h
   · simp only [Ty.kind] at h; exact absurd h ht.2.2.1
  obtain ⟨e,h07⟩:=alV ht hl
  rcases h07 with h0 | h7
  ·
   simp only [Ty.kind] at h0
   subst h0
   exact ⟨by simpa [elT] using ht,fun x _=>anL x⟩
  · rw [e,h7] at hv; exact (anJ hv).elim
 | nest k s=>
  have h5:k=5:=by
   rcases hk with h | h
   · unfold tX at h; simp [Ty.kind] at h; have:=ht.1; omega
   · exact h
  subst h5
  exact ⟨by simpa [elT] using ht.2,by simpa [elT] using (amL h4 ht.2).1 hv⟩
theorem aqk {a b:Ty} (h:(tX a && tX b)=false) {k:Int} (hk:0≤k) (hx:kxT a b=k):a.kind=k∧(tX b=true∨b.kind=k)∨b.kind=k∧(tX a=true∨a.kind=k):=by
 unfold kxT at hx
 cases ha:tX a with
 | true=>rw [ha] at hx; exact .inr ⟨by simpa using hx,.inl rfl⟩
 | false=>
  rw [ha] at hx
  simp only [Bool.false_eq_true,if_false] at hx
  cases hb:tX b with
  | true=>rw [hb] at hx; exact .inl ⟨by simpa using hx,.inl rfl⟩
  | false=>
   rw [hb] at hx
   simp only [Bool.false_or,beq_iff_eq] at hx
   split at hx
   · rename_i e; exact .inl ⟨hx,.inr (e ▸ hx)⟩
   · omega
theorem asF {a b:ah} {s t:Ty} (hs:s.wf) (ht:t.wf) (ha:afM a s) (hb:afM b t) (ka:0≤a.kind∧a.kind≤5) (kb:0≤b.kind∧b.kind≤5) (hl:(tX s && tX t)=false) {k:Int} (hk:k=3∨k=4∨k=5) (hx:kxT s t=k):
  SND (XA a b) (if k=5 then .nest 5 (agY (elT s) (elT t)) else sc k) (ac2 s=true∧ac2 t=true):=by
 have one:=aqk hl (by omega) hx
 have kind:∀ {v:ah} {u:Ty},u.wf→afM v u→(0≤v.kind∧v.kind≤5)→u.kind=k→v.kind=k - 1:=by
  intro v u hu hv kv hk2
  rcases hk with h | h | h
  · rw [amS hu hk2 (by omega)] at hv; exact akF (by omega) hv
  · rw [amS hu hk2 (by omega)] at hv; exact akF (by omega) hv
  ·
   cases u with
   | leaf x=>simp only [Ty.kind] at hk2; have:=hu.2.2.1; omega
   | nest x w=>simp only [Ty.kind] at hk2; exact (amv kv hu.1 hv).trans (by rw [hk2])
 have hab:a.kind=k - 1∨b.kind=k - 1:=by
  rcases one with ⟨h,_⟩ | ⟨h,_⟩
  · exact .inl (kind hs ha ka h)
  · exact .inr (kind ht hb kb h)
 unfold XA
 by_cases c1:a.kind=2∧b.kind=2
 ·
  have:k=3:=by omega
  subst this
  rw [if_pos c1,if_neg (by omega)]; exact anw
 ·
  rw [if_neg c1]
  by_cases c2:a.kind=3∧b.kind=3
  ·
   have:k=4:=by omega
   subst this
   rw [if_pos c2,if_neg (c:=(4:Int)=5) (by omega)]
   split
   · exact SND.ok (amK rfl)
   · exact SND.code (by decide) (by unfold ak4; omega) (by decide)
  ·
   rw [if_neg c2]
   by_cases c3:a.kind=4∧b.kind=4
   ·
    have:k=5:=by omega
    subst this
    rw [if_pos c3,if_pos (c:=(5:Int)=5) rfl]
    split
    ·
     have hks:tX s=true∨s.kind=5:=by rcases one with ⟨h,_⟩ | ⟨_,h⟩; exact .inr h; exact h
     have hkt:tX t=true∨t.kind=5:=by rcases one with ⟨_,h⟩ | ⟨h,_⟩; exact h; exact .inr h
     obtain ⟨w1,e1⟩:=ar4 ha c3.1 hs hks
     obtain ⟨w2,e2⟩:=ar4 hb c3.2 ht hkt
     have wj:=ajF _ _ w1 w2
     refine SND.ok ((amL (v:=Ct (a.aI ++ b.aI)) rfl wj).2 fun x hx'=>?_)
     rcases List.mem_append.1 hx' with h | h
     · exact anm w1 wj (e1 x h) (anW w1 w2)
     · exact anm w2 wj (e2 x h) (aoy w1 w2)
    · exact SND.code (by decide) (by unfold ak4; omega) (by decide)
   ·
    rw [if_neg c3]
    refine SND.nine fun hf=>?_
    have l1:=alz ha hs hf.1
    have l2:=alz hb ht hf.2
    obtain ⟨k1,k2⟩:=aox l1 l2 (by omega) hx
    have m1:=kind hs ha ka k1
    have m2:=kind ht hb kb k2
    omega
end Go.Ft

namespace Go.Ft
open Go
attribute [local congr] jE
theorem asW {v:ah} {k:Int} {t:Ty} (h0:0≤v.kind∧v.kind≤5) (hk:k=5∨k=6) (ht:t.wf) (hv:afM v (.nest k t)):∀ x∈v.aI,afM x t:=by
 have hkk:=amv h0 hk hv
 rcases hk with h | h
 · subst h; exact (amL (by omega) ht).1 hv
 · subst h; exact (aqP (by omega) ht).1 hv
def partT :Ty→Ty
 | .leaf k=>.leaf k
 | .nest _ t=>t
theorem arY {v:ah} {t:Ty} (ht:t.wf) (hv:afM v t) (h0:0≤v.kind∧v.kind≤5) (hk:tX t=true∨t.kind=5∨t.kind=6):∀ x∈v.aI,afM x (partT t):=by
 cases t with
 | leaf k=>
  have hl:tX (.leaf k)=true:=by
   rcases hk with h | h | h
   · exact h
   · simp only [Ty.kind] at h; exact absurd h ht.2.2.1
   · simp only [Ty.kind] at h; exact absurd h ht.2.2.2
  obtain ⟨e,h07⟩:=alV ht hl
  rcases h07 with h | h
  · simp only [Ty.kind] at h; subst h; exact fun x _=>anL x
  · rw [e,h] at hv; exact (anJ hv).elim
 | nest k s=>exact asW h0 ht.1 ht.2 hv
theorem aqK {o:Option ah} {T:Ty} {F:Prop} (h:∀ x,o=some x→afM x T):SND (okO o 8) T F:=by
 cases o with
 | none=>exact SND.code (by decide) (by unfold ak4; omega) (by decide)
 | some x=>exact SND.ok (h x rfl)
theorem aqH {a b:ah} {s:Ty} {F:Prop} (hs:s.wf) (ha:afM a s) (ka:0≤a.kind∧a.kind≤5) (hk:tX s=true∨s.kind=5∨s.kind=6) (h9:F→(a.kind=4∧b.kind=2)∨(a.kind=5∧b.kind=3)):SND (O7 a b) (partT s) F:=by
 have hp:=arY hs ha ka hk
 unfold O7
 by_cases c1:a.kind=4∧b.kind=2
 ·
  rw [if_pos c1]
  split
  · exact aqK fun x hx=>hp x (List.mem_of_getElem? hx)
  · exact SND.code (by decide) (by unfold ak4; omega) (by decide)
 ·
  rw [if_neg c1]
  by_cases c2:a.kind=5∧b.kind=3
  ·
   rw [if_pos c2]
   refine aqK fun x hx=>hp x ?_
   unfold Ny at hx
   rw [if_pos c2.1] at hx
   exact Yw hx
  ·
   rw [if_neg c2]
   exact SND.nine fun hF=>by rcases h9 hF with h | h; exact c1 h; exact c2 h
end Go.Ft

namespace Go.Ft
open Go
attribute [local congr] jE
theorem ao3 :∀ (l:List Ty) (t c:Ty),t.wf→c.wf→(∀ x∈l,x.wf)→agU (alH t l) c=(agU t c && l.all fun x=>agU x c)
 | [],t,c,_,_,_=>by rw [alH]; simp
 | x :: r,t,c,ht,hc,h=>by
  have hx:=h x (by simp)
  rw [alH,ao3 r _ c (ajF t x ht hx) hc (fun y hy=>h y (by simp [hy])),amZ t x c ht hx hc,List.all_cons,Bool.and_assoc]
theorem amJ :∀ (l:List Ty) (t:Ty),t.wf→(∀ x∈l,x.wf)→(alH t l).wf
 | [],t,h,_=>by rw [alH]; exact h
 | x :: r,t,h,hl=>by rw [alH]; exact amJ r _ (ajF t x h (hl x (by simp))) fun y hy=>hl y (by simp [hy])
theorem apZ {l:List Ty} (h:∀ x∈l,x.wf):∀ x∈l,agU x (alH (sc 7) l)=true:=by
 have w:=amJ l (sc 7) (scw (by omega)) h
 have e:=ao3 l (sc 7) (alH (sc 7) l) (scw (by omega)) w h
 rw [al6,al7] at e
 simp only [Bool.true_and] at e
 exact List.all_eq_true.1 e.symm
def fits (vs:List ah) (ts:List Ty):Prop:=vs.length=ts.length∧∀ i (h1:i < vs.length) (h2:i < ts.length),afM vs[i] ts[i]
theorem ao8 {vs:List ah} {ts:List Ty} (h:fits vs ts) (hw:∀ x∈ts,x.wf):∀ v∈vs,afM v (alH (sc 7) ts):=by
 intro v hv
 obtain ⟨i,hi,rfl⟩:=List.getElem_of_mem hv
 have h2:i < ts.length:=by rw [←h.1]; exact hi
 exact anm (hw _ (List.getElem_mem h2)) (amJ ts (sc 7) (scw (by omega)) hw) (h.2 i hi h2) (apZ hw _ (List.getElem_mem h2))
theorem arD {vs:List ah} {ts:List Ty} {F:Prop} (h:fits vs ts) (hw:∀ x∈ts,x.wf):SND (if wS (Ct vs)≤16 then okV (Ct vs) else nu 13) (.nest 5 (alH (sc 7) ts)) F:=by
 split
 · exact SND.ok ((amL (v:=Ct vs) rfl (amJ ts (sc 7) (scw (by omega)) hw)).2 (ao8 h hw))
 · exact SND.code (by decide) (by unfold ak4; omega) (by decide)
theorem SND.up {p:ah × Int} {S T:Ty} {F G:Prop} (hs:S.wf) (ht:T.wf) (h:SND p S F) (hst:agU S T=true) (hF:G→F):SND p T G:=
 ⟨fun h0=>anm hs ht (h.1 h0) hst,h.2.1,fun h9 hg=>h.2.2 h9 (hF hg)⟩
theorem SND.err {p:ah × Int} {S T:Ty} {F G:Prop} (h:SND p S F) (h0:p.2≠0) (hF:G→F):SND (nu p.2) T G:=
 SND.er h0 (h.2.1 h0) fun h9 hg=>h.2.2 h9 (hF hg)
theorem arH {a b c:ah × Int} {s t u:Ty} {F1 F2 F3:Prop} (hs:s.wf) (ht:t.wf) (hu:u.wf) (ha:SND a s F1) (hb:SND b t F2) (hc:SND c u F3) (hk:xX s (sc 2)=true):
  SND (Ox a b c) (agY t u) ((F1∧ac2 s=true)∧F2∧F3):=by
 unfold Ox
 by_cases h0:a.2=0
 ·
  rw [if_neg (by simpa using h0)]
  by_cases h1:a.1.kind=1
  ·
   rw [if_neg (by simpa using h1)]
   split
   · exact hb.up ht (ajF t u ht hu) (anW ht hu) fun h=>h.2.1
   · exact hc.up hu (ajF t u ht hu) (aoy ht hu) fun h=>h.2.2
  ·
   rw [if_pos (by simpa using h1)]
   exact SND.nine fun hf=>h1 (by have:=agv hs (ha.1 h0) hk (by omega) hf.1.2; omega)
 ·
  rw [if_pos (by simpa using h0)]
  exact ha.err h0 fun h=>h.1.1
theorem arI {b:ah × Int} {t:Ty} {F:Prop} (ht:t.wf) (hb:SND b t F) (hk:xX t (sc 2)=true):SND (zA b) (sc 2) (F∧ac2 t=true):=by
 unfold zA
 by_cases h0:b.2=0
 ·
  rw [if_neg (by simpa using h0)]
  by_cases h1:b.1.kind=1
  ·
   rw [if_neg (by simpa using h1)]
   exact ⟨fun _=>alq h1,fun h=>absurd h0 h,fun h=>by rw [h0] at h; cases h⟩
  ·
   rw [if_pos (by simpa using h1)]
   exact SND.nine fun hf=>h1 (by have:=agv ht (hb.1 h0) hk (by omega) hf.2; omega)
 ·
  rw [if_pos (by simpa using h0)]
  exact hb.err h0 fun h=>h.1
theorem aqZ {n:Str} {a b:ah × Int} {s t:Ty} {F1 F2:Prop} (hs:s.wf) (ht:t.wf) (ha:SND a s F1) (hb:SND b t F2) (h1:xX s (sc 2)=true) (h2:xX t (sc 2)=true):
  SND (uo n a b) (sc 2) ((F1∧ac2 s=true)∧F2∧ac2 t=true):=by
 unfold uo
 by_cases h0:a.2=0
 ·
  rw [if_neg (by simpa using h0)]
  by_cases hk:a.1.kind=1
  ·
   rw [if_neg (by simpa using hk)]
   split
   · exact ⟨fun _=>alq hk,fun h=>absurd h0 h,fun h=>by rw [h0] at h; cases h⟩
   · exact (arI ht hb h2).up (scw (by omega)) (scw (by omega)) (al6 _) fun h=>h.2
  ·
   rw [if_pos (by simpa using hk)]
   exact SND.nine fun hf=>hk (by have:=agv hs (ha.1 h0) h1 (by omega) hf.1.2; omega)
 ·
  rw [if_pos (by simpa using h0)]
  exact ha.err h0 fun h=>h.1.1
end Go.Ft

namespace Go.Ft
open Go
attribute [local congr] jE
theorem amI {v:ah} {t:Ty} {k:Int} (ht:t.wf) (hv:afM v t) (kv:0≤v.kind∧v.kind≤5) (hk:k=5∨k=6) (hc:xX t (.nest k (sc 0))=true) (hf:ac2 t=true):v.kind=k - 1:=by
 have w:(Ty.nest k (sc 0)).wf:=⟨hk,scw (by omega)⟩
 exact amv kv hk (anm ht w hv (anH ht w hf hc))
theorem asL {v:ah} {t:Ty} (ht:t.wf) (hv:afM v t) (kv:0≤v.kind∧v.kind≤5) (hc:xX t (sc 4)=true∨xX t (.nest 5 (sc 0))=true∨xX t (.nest 6 (sc 0))=true):SND (VW [108,101,110] v) (sc 3) (ac2 t=true):=by
 unfold VW
 rw [if_pos rfl]
 by_cases h:v.kind=3∨v.kind=4∨v.kind=5
 · rw [if_pos h]; exact SND.ok (anK rfl)
 ·
  rw [if_neg h]
  refine SND.nine fun hf=>h ?_
  rcases hc with hc | hc | hc
  · have:=agv ht hv hc (by omega) hf; omega
  · have:=amI ht hv kv (.inl rfl) hc hf; omega
  · have:=amI ht hv kv (.inr rfl) hc hf; omega
theorem ao9 (l:List Str):afM (Ct (l.map mkS)) (.nest 5 (sc 4)):=by
 refine (amL (v:=Ct (l.map mkS)) rfl (scw (by omega))).2 fun x hx=>?_
 obtain ⟨s,_,rfl⟩:=List.mem_map.1 hx
 exact amK rfl
theorem arE {v:ah} {t:Ty} (ht:t.wf) (hv:afM v t) (kv:0≤v.kind∧v.kind≤5) (hc:xX t (.nest 6 (sc 0))=true):SND (VW [107,101,121,115] v) (.nest 5 (sc 4)) (ac2 t=true):=by
 unfold VW
 rw [if_neg (by decide),if_pos rfl]
 by_cases h:v.kind=5
 · rw [if_pos h]; exact SND.ok (ao9 _)
 · rw [if_neg h]; exact SND.nine fun hf=>h (by have:=amI ht hv kv (.inr rfl) hc hf; omega)
theorem ap_ {v:ah} {t:Ty} (ht:t.wf) (hv:afM v t) (hc:t.kind≠5∧t.kind≠6):SND (VW [115,116,114,105,110,103] v) (sc 4) (ac2 t=true):=by
 unfold VW
 rw [if_neg (by decide),if_neg (by decide),if_pos rfl]
 by_cases h:v.kind=4∨v.kind=5
 ·
  rw [if_pos h]
  refine SND.nine fun hf=>?_
  have hl:=alz hv ht hf
  cases t with
  | leaf k=>
   unfold tX at hl
   simp only [Ty.kind,Bool.or_eq_false_iff,beq_eq_false_iff_ne] at hl
   have:=akF (v:=v) (k:=k) (by have:=ht.1; have:=ht.2.1; have:=ht.2.2; omega) hv
   have:=ht.2; omega
  | nest k s=>have:=ht.1; simp only [Ty.kind] at hc; omega
 · rw [if_neg h]; exact SND.ok (amK rfl)
theorem apI {n:Str} {v:ah} {t:Ty} (ht:t.wf) (hv:afM v t) (hc:xX t (sc 4)=true) (hn:n=[108,111,119,101,114]∨n=[117,112,112,101,114]):SND (VW n v) (sc 4) (ac2 t=true):=by
 unfold VW
 have n1:n≠[108,101,110]:=by rcases hn with rfl | rfl <;> decide
 have n2:n≠[107,101,121,115]:=by rcases hn with rfl | rfl <;> decide
 have n3:n≠[115,116,114,105,110,103]:=by rcases hn with rfl | rfl <;> decide
 rw [if_neg n1,if_neg n2,if_neg n3]
 by_cases h:v.kind=3
 ·
  rw [if_neg (by simpa using h)]
  rcases hn with rfl | rfl
  · rw [if_pos rfl]; exact SND.ok (amK rfl)
  · rw [if_neg (by decide),if_pos rfl]; exact SND.ok (amK rfl)
 · rw [if_pos h]; exact SND.nine fun hf=>h (by have:=agv ht hv hc (by omega) hf; omega)
theorem aqa {v:ah} {t:Ty} (ht:t.wf) (hv:afM v t) (hc:xX t (sc 4)=true):SND (VW [105,110,116] v) (sc 3) (ac2 t=true):=by
 unfold VW
 rw [if_neg (by decide),if_neg (by decide),if_neg (by decide)]
 by_cases h:v.kind=3
 ·
  rw [if_neg (by simpa using h),if_neg (by decide),if_neg (by decide)]
  unfold ad3
  split
  · exact SND.ok (anK rfl)
  · exact SND.code (by decide) (by unfold ak4; omega) (by decide)
 · rw [if_pos h]; exact SND.nine fun hf=>h (by have:=agv ht hv hc (by omega) hf; omega)
end Go.Ft

namespace Go.Ft
open Go
attribute [local congr] jE
theorem apf {a b:ah} {s t:Ty} (hs:s.wf) (ht:t.wf) (ha:afM a s) (hb:afM b t) (ka:0≤a.kind∧a.kind≤5)
  (hc:xX s (.nest 5 (sc 0))=true∨(xX t (sc 4)=true∧(xX s (sc 4)=true∨xX s (.nest 6 (sc 0))=true))):SND (Ru a b) (sc 2) (ac2 s=true∧ac2 t=true):=by
 unfold Ru
 by_cases c1:a.kind=4
 · rw [if_pos c1]; exact SND.ok (alq rfl)
 ·
  rw [if_neg c1]
  by_cases c2:a.kind=3∧b.kind=3
  · rw [if_pos c2]; exact SND.ok (alq rfl)
  ·
   rw [if_neg c2]
   by_cases c3:a.kind=5∧b.kind=3
   · rw [if_pos c3]; exact SND.ok (alq rfl)
   ·
    rw [if_neg c3]
    refine SND.nine fun hf=>?_
    rcases hc with hc | ⟨h1,hc | hc⟩
    · have:=amI hs ha ka (.inl rfl) hc hf.1; omega
    ·
     have:=agv hs ha hc (by omega) hf.1
     have:=agv ht hb h1 (by omega) hf.2; omega
    ·
     have:=amI hs ha ka (.inr rfl) hc hf.1
     have:=agv ht hb h1 (by omega) hf.2; omega
theorem arF {a b:ah} {s t:Ty} (hs:s.wf) (ht:t.wf) (ha:afM a s) (hb:afM b t) (ka:0≤a.kind∧a.kind≤5) (h1:xX s (.nest 5 (sc 4))=true) (h2:xX t (sc 4)=true):SND (Ov a b) (sc 4) (ac2 s=true∧ac2 t=true):=by
 have w:(Ty.nest 5 (sc 4)).wf:=⟨.inl rfl,scw (by omega)⟩
 have key:ac2 s=true∧ac2 t=true→a.kind=4∧b.kind=3∧(a.aI.all fun x=>x.kind == 3)=true:=by
  intro hf
  have hfit:=anm hs w ha (anH hs w hf.1 h1)
  have k4:a.kind=4:=amv ka (.inl rfl) hfit
  refine ⟨k4,by have:=agv ht hb h2 (by omega) hf.2; omega,List.all_eq_true.2 fun x hx=>?_⟩
  have:=akF (by omega) ((amL k4 (scw (by omega))).1 hfit x hx)
  simpa using this
 unfold Ov
 by_cases c1:a.kind=4∧b.kind=3
 ·
  rw [if_pos c1]
  by_cases c2:(a.aI.all fun x=>x.kind == 3)=true
  ·
   rw [if_pos c2]
   split
   · exact SND.ok (amK rfl)
   · exact SND.code (by decide) (by unfold ak4; omega) (by decide)
  · rw [if_neg c2]; exact SND.nine fun hf=>c2 (key hf).2.2
 · rw [if_neg c1]; exact SND.nine fun hf=>c1 ⟨(key hf).1,(key hf).2.1⟩
theorem aqY {s t:Str} {F:Prop}:SND (ZF s t) (.nest 5 (sc 4)) F:=by
 unfold ZF
 split
 · exact SND.code (by decide) (by unfold ak4; omega) (by decide)
 ·
  split
  · exact SND.ok (ao9 _)
  · exact SND.code (by decide) (by unfold ak4; omega) (by decide)
theorem apH {a b:ah} {s t:Ty} {F:Prop} (hs:s.wf) (ha:afM a s) (hb:afM b t):SND (if a.kind=0 then okV b else okV a) (if s.kind=1 then t else s) F:=by
 by_cases h0:a.kind=0
 ·
  rw [if_pos h0]
  by_cases h1:s.kind=1
  · rw [if_pos h1]; exact SND.ok hb
  ·
   rw [if_neg h1]
   have e:ofT a=sc 1:=by rw [amr,if_pos h0]
   have hsub:agU (sc 1) s=true:=by have:=ha; unfold afM at this; rwa [e] at this
   have:s=sc 0:=by
    cases s with
    | leaf k=>
     simp only [sc,agU,Bool.or_eq_true,beq_iff_eq] at hsub
     simp only [Ty.kind] at h1
     have:k=0:=by omega
     subst this; rfl
    | nest k u=>simp only [sc,agU,beq_iff_eq] at hsub; omega
   rw [this]; exact SND.ok (anL b)
 ·
  rw [if_neg h0]
  by_cases h1:s.kind=1
  ·
   rw [amS hs h1 (by omega)] at ha
   have:=akF (by omega) ha
   omega
  · rw [if_neg h1]; exact SND.ok ha
end Go.Ft

namespace Go.Ft
open Go
attribute [local congr] jE
theorem ao1 :∀ {ks:List Str} {vs:List ah} {x:av},x∈List.zipWith av.mk ks vs→x.value∈vs
 | [],_,_,h=>by simp at h
 | _ :: _,[],_,h=>by simp at h
 | k :: ks,v :: vs,x,h=>by
  rw [List.zipWith_cons_cons,List.mem_cons] at h
  rcases h with rfl | h
  · simp
  · exact List.mem_cons_of_mem _ (ao1 h)
theorem asK {keys:List Str} {vs:List ah} {ts:List Ty} {F:Prop} (h:fits vs ts) (hw:∀ x∈ts,x.wf):SND (Yg (List.zipWith av.mk keys vs)) (.nest 6 (alH (sc 7) ts)) F:=by
 unfold Yg
 split
 · exact SND.code (c:=13) (by decide) (by unfold ak4; omega) (by decide)
 ·
  refine SND.ok ((aqP (v:=xV (jW (List.zipWith av.mk keys vs))) rfl (amJ ts (sc 7) (scw (by omega)) hw)).2 fun x hx=>?_)
  obtain ⟨y,hy,rfl⟩:=List.mem_map.1 hx
  exact ao8 h hw _ (ao1 ((u6 _).mem_iff.1 hy))
theorem arG {a b:ah} {op:Str} {F:Prop} (h:op=[61,61]∨op=[33,61]):SND (JF op a b) (sc 2) F:=by
 unfold JF
 rcases h with rfl | rfl
 · rw [if_pos rfl]; exact SND.ok (alq rfl)
 · rw [if_neg (by decide),if_pos rfl]; exact SND.ok (alq rfl)
theorem apG {a b:ah} {s t:Ty} {r:Bool} (hs:s.wf) (ht:t.wf) (ha:afM a s) (hb:afM b t) (h1:xX s (sc 4)=true) (h2:xX t (sc 4)=true):SND (if ¬ (a.kind=3∧b.kind=3) then nu 9 else okV (Cu r)) (sc 2) (ac2 s=true∧ac2 t=true):=by
 by_cases c:a.kind=3∧b.kind=3
 · rw [if_neg (by simpa using c)]; exact SND.ok (alq rfl)
 ·
  rw [if_pos c]
  exact SND.nine fun hf=>c ⟨by have:=agv hs ha h1 (by omega) hf.1; omega,by have:=agv ht hb h2 (by omega) hf.2; omega⟩
end Go.Ft

namespace Go.Ft
open Go
attribute [local congr] jE
theorem aoj :∀ {a b:Ty},a.api=b.api→a=b
 | .leaf a,.leaf b,h=>by simp only [Ty.api,b_.mk.injEq] at h; rw [h.1]
 | .leaf a,.nest b t,h=>by simp [Ty.api] at h
 | .nest a s,.leaf b,h=>by simp [Ty.api] at h
 | .nest a s,.nest b t,h=>by
  simp only [Ty.api,b_.mk.injEq,List.cons.injEq,and_true] at h
  rw [h.1,aoj h.2]
theorem alp {a b:Ty} {p:Bool} {x:Option (b_ × Bool)} (h:x=some (a.api,p)) (hx:x=some (b.api,true)):b=a∧p=true:=by
 rw [h] at hx
 simp only [Option.some.injEq,Prod.mk.injEq] at hx
 exact ⟨aoj hx.1.symm,hx.2⟩
theorem avv {t T:Ty} (h:t.wf) {e:aj} (he:e.kind=3) (hn:aaG e [t.api]=some (T.api,true)):T=partT t∧(tX t=true∨t.kind=6):=by
 have i0:idx [t.api] 0=some t.api:=rfl
 unfold aaG at hn
 simp only [he,i0,ay,(agu t).2,Ty.ajO] at hn
 cases t with
 | leaf k=>
  have h6:(k == 6)=false:=by simp; exact h.2.2.2
  obtain ⟨q1,q2⟩:=alp (a:=.leaf k) (p:=tX (.leaf k)) (by simp [Ty.kind,h6]) hn
  exact ⟨q1,.inl q2⟩
 | nest k s=>
  have hl:tX (.nest k s)=false:=by unfold tX; simp [Ty.kind]; rcases h.1 with h | h <;> omega
  by_cases h6:k=6
  ·
   subst h6
   obtain ⟨q1,q2⟩:=alp (a:=s) (p:=true) (by simp [Ty.kind,Ty.api,idx]) hn
   exact ⟨q1,.inr rfl⟩
  ·
   obtain ⟨q1,q2⟩:=alp (a:=.nest k s) (p:=false) (by simp [Ty.kind,h6,hl]) hn
   cases q2
theorem avu {t i T:Ty} (h:t.wf) (hi:i.wf) (hid:i.dep≤16) {e:aj} (he:e.kind=4) (hn:aaG e [t.api,i.api]=some (T.api,true)):
  T=partT t∧((t.kind=5∧xX i (sc 3)=true)∨(t.kind=6∧xX i (sc 4)=true)∨tX t=true):=by
 have i0:idx [t.api,i.api] 0=some t.api:=rfl
 have i1:idx [t.api,i.api] 1=some i.api:=rfl
 unfold aaG amF at hn
 simp only [he,i0,i1,ay,(agu t).2,Ty.ajO,akn hi (by omega) (akQ (k:=3) (by omega)),akn hi (by omega) (akQ (k:=4) (by omega))] at hn
 generalize xX i (sc 3)=n3 at *
 generalize xX i (sc 4)=n4 at *
 cases t with
 | leaf k=>
  have h5:(k == 5)=false:=by simp; exact h.2.2.1
  have h6:(k == 6)=false:=by simp; exact h.2.2.2
  obtain ⟨q1,q2⟩:=alp (a:=.leaf k) (p:=tX (.leaf k) && (n3 || n4)) (by
   simp only [Ty.kind,h5,h6,Bool.false_eq_true,if_false]
   cases tX (.leaf k) <;> cases n3 <;> cases n4 <;> simp) hn
  simp only [Bool.and_eq_true] at q2
  exact ⟨q1,.inr (.inr q2.1)⟩
 | nest k s=>
  rcases h.1 with h5 | h6
  ·
   subst h5
   obtain ⟨q1,q2⟩:=alp (a:=s) (p:=n3) (by simp [Ty.kind,Ty.api,idx]) hn
   exact ⟨q1,.inl ⟨rfl,q2⟩⟩
  ·
   subst h6
   obtain ⟨q1,q2⟩:=alp (a:=s) (p:=n4) (by simp [Ty.kind,Ty.api,idx]) hn
   exact ⟨q1,.inr (.inl ⟨rfl,q2⟩)⟩
theorem avt {t T:Ty} (h:t.wf) (hd:t.dep≤16) {e:aj} (he:e.kind=6) (hn:aaG e [t.api]=some (T.api,true)):T=(if e.name=[33] then sc 2 else sc 3)∧xX t T=true:=by
 have i0:idx [t.api] 0=some t.api:=rfl
 unfold aaG at hn
 simp only [he,i0,ay,(of_eq _).2.1,akn h (by omega) (akQ (k:=3) (by omega)),akn h (by omega) (akQ (k:=2) (by omega))] at hn
 by_cases hop:e.name=[33]
 ·
  obtain ⟨q1,q2⟩:=alp (a:=sc 2) (p:=xX t (sc 2)) (by simp [hop]) hn
  rw [if_pos hop,q1]; exact ⟨rfl,q2⟩
 ·
  obtain ⟨q1,q2⟩:=alp (a:=sc 3) (p:=xX t (sc 3)) (by simp [hop]) hn
  rw [if_neg hop,q1]; exact ⟨rfl,q2⟩
theorem avs {a b c T:Ty} (ha:a.wf) (had:a.dep≤16) (hb:b.wf) (hbd:b.dep≤16) (hc:c.wf) (hcd:c.dep≤16) {e:aj} (he:e.kind=8) (hn:aaG e [a.api,b.api,c.api]=some (T.api,true)):T=agY b c∧xX a (sc 2)=true:=by
 have i0:idx [a.api,b.api,c.api] 0=some a.api:=rfl
 have i1:idx [a.api,b.api,c.api] 1=some b.api:=rfl
 have i2:idx [a.api,b.api,c.api] 2=some c.api:=rfl
 have j:=amB hb hc hbd hcd
 refine alp (a:=agY b c) (p:=xX a (sc 2)) ?_ hn
 unfold aaG
 simp [he,i0,i1,i2,j.2,akn ha (by omega) (akQ (k:=2) (by omega))]
theorem auT {a b T:Ty} {e:aj} (he:e.kind=7) (hn:aaG e [a.api,b.api]=some (T.api,true)):aiV e.name a.api b.api=some (T.api,true):=by
 have aoA:aaG e [a.api,b.api]=aiV e.name a.api b.api:=by unfold aaG; simp [he,idx]
 rwa [aoA] at hn
theorem aul {a b:Ty} (ha:a.wf) (had:a.dep≤16) (hb:b.wf) (hbd:b.dep≤16) {op:Str} (h:op=[38,38]∨op=[124,124]):aiV op a.api b.api=some ((sc 2).api,xX a (sc 2) && xX b (sc 2)):=by
 have e:aiV op a.api b.api=(au (aaA 2) fun x1=>au (abH a.api 2) fun x2=>au (if x2 then abH b.api 2 else some false) fun b2=>some (x1,b2)):=by rcases h with rfl | rfl <;> rfl
 rw [e,akn ha (by omega) (akQ (k:=2) (by omega)),akn hb (by omega) (akQ (k:=2) (by omega)),(of_eq 2).2.1]
 simp only [ay,PD]
theorem aum {a b:Ty} (ha:a.wf) (had:a.dep≤16) (hb:b.wf) (hbd:b.dep≤16) {op:Str} (h:op=[45]∨op=[42]∨op=[47]∨op=[37]):aiV op a.api b.api=some ((sc 3).api,xX a (sc 3) && xX b (sc 3)):=by
 have e:aiV op a.api b.api=(au (aaA 3) fun x1=>au (abH a.api 3) fun x2=>au (if x2 then abH b.api 3 else some false) fun b2=>some (x1,b2)):=by rcases h with rfl | rfl | rfl | rfl <;> rfl
 rw [e,akn ha (by omega) (akQ (k:=3) (by omega)),akn hb (by omega) (akQ (k:=3) (by omega)),(of_eq 3).2.1]
 simp only [ay,PD]
theorem asf {a b:Ty} {op:Str} (h:op=[61,61]∨op=[33,61]):aiV op a.api b.api=some ((sc 2).api,true):=by rcases h with rfl | rfl <;> rfl
theorem asZ {a b:Ty} {op:Str} (h:op=[60]∨op=[60,61]∨op=[62]∨op=[62,61]):aiV op a.api b.api=some ((sc 2).api,((tX a && tX b) || (kxT a b == 3)) || (kxT a b == 4)):=by
 have e:aiV op a.api b.api=(au (aku a.api b.api) fun xO=>au (aaA 2) fun x9=>au (abJ a.api) fun CO=>au (if CO then abJ b.api else some false) fun b4=>some (x9,((b4 || (xO == 3)) || (xO == 4)))):=by rcases h with rfl | rfl | rfl | rfl <;> rfl
 rw [e,(agu a).2,(agu b).2,amQ,(of_eq 2).2.1]
 simp only [ay,PD]
theorem asB {a b T:Ty} (ha:a.wf) (had:a.dep≤16) (hb:b.wf) (hbd:b.dep≤16) (hn:amy a.api b.api=some (T.api,true)):
  ((tX a && tX b)=true∧T=(if a.kind=0 then a else b))∨((tX a && tX b)=false∧∃ k,(k=3∨k=4∨k=5)∧kxT a b=k∧T=if k=5 then .nest 5 (agY (elT a) (elT b)) else sc k):=by
 unfold amy at hn
 rw [(agu a).2,(agu b).2,Ty.ajO] at hn
 simp only [ay,PD] at hn
 cases hl:(tX a && tX b) with
 | true=>
  left
  refine ⟨rfl,?_⟩
  rw [hl] at hn
  by_cases h0:a.kind=0
  ·
   rw [if_pos h0]
   exact (alp (a:=a) (p:=true) (by simp [h0]) hn).1
  ·
   rw [if_neg h0]
   exact (alp (a:=b) (p:=true) (by simp [h0]) hn).1
 | false=>
  right
  refine ⟨rfl,?_⟩
  rw [hl] at hn
  simp only [Bool.false_eq_true,if_false,amQ,ay] at hn
  by_cases k5:kxT a b=5
  ·
   have ea:tX a=true∨a.kind=5:=by
    rcases aqk hl (by omega) k5 with ⟨h,_⟩ | ⟨_,h⟩
    · exact .inr h
    · exact h
   have eb:tX b=true∨b.kind=5:=by
    rcases aqk hl (by omega) k5 with ⟨_,h⟩ | ⟨h,_⟩
    · exact h
    · exact .inr h
   obtain ⟨x1,x2,x3,x4⟩:=aqQ ea ha had
   obtain ⟨y1,y2,y3,y4⟩:=aqQ eb hb hbd
   have j:=amB x3 y3 (by omega) (by omega)
   obtain ⟨q1,q2⟩:=alp (a:=.nest 5 (agY (elT a) (elT b))) (p:=true) (by simp [k5,x2,y2,j.2,af3,Ty.api]) hn
   exact ⟨5,by omega,k5,by rw [if_pos rfl]; exact q1⟩
  ·
   obtain ⟨q1,q2⟩:=alp (a:=sc (kxT a b)) (p:=(kxT a b == 3) || (kxT a b == 4)) (by simp [k5,aaA,aij,sc,Ty.api]) hn
   simp only [Bool.or_eq_true,beq_iff_eq] at q2
   exact ⟨kxT a b,by omega,rfl,by rw [if_neg k5]; exact q1⟩
theorem atC {a:Ty} (h:a.wf) (hd:a.dep≤16):abb [108,101,110] [a.api]=some ((sc 3).api,xX a (sc 4) || xX a (.nest 5 (sc 0)) || xX a (.nest 6 (sc 0))):=by
 have i4:=akn h (by omega) (akQ (k:=4) (by omega))
 have l5:=(aiW h (ak5 (k:=5) (j:=0) (by omega) (by omega)).1 (by omega)).2
 have l6:=(aiW h (ak5 (k:=6) (j:=0) (by omega) (by omega)).1 (by omega)).2
 rw [show abb [108,101,110] [a.api]=au (abH a.api 4) fun x3=>au (if x3 then some true else CU a.api (Ty.nest 5 (sc 0)).api) fun b1=>au (if b1 then some true else CU a.api (Ty.nest 6 (sc 0)).api) fun b2=>some ((sc 3).api,b2) from rfl,i4,l5,l6]
 simp only [ay,aeg]
theorem aoq {name:Str} {X a:Ty} (h:a.wf) (hd:a.dep≤16) (hr:abb name [a.api]=au (abH a.api 4) fun b=>some (X.api,b)):abb name [a.api]=some (X.api,xX a (sc 4)):=by
 rw [hr,akn h (by omega) (akQ (k:=4) (by omega))]; rfl
theorem aq2 (a:Ty):abb [115,116,114,105,110,103] [a.api]=some ((sc 4).api,(a.kind != 5) && (a.kind != 6)):=by
 rw [show abb [115,116,114,105,110,103] [a.api]=au (if a.api.kind != 5 then some (a.api.kind != 6) else some false) fun b10=>some ((sc 4).api,b10) from rfl,Ty.ajO]
 cases (a.kind != 5) <;> rfl
theorem asN {a:Ty} (h:a.wf) (hd:a.dep≤16):abb [107,101,121,115] [a.api]=some ((Ty.nest 5 (sc 4)).api,xX a (.nest 6 (sc 0))):=by
 have l6:=(aiW h (ak5 (k:=6) (j:=0) (by omega) (by omega)).1 (by omega)).2
 rw [show abb [107,101,121,115] [a.api]=au (CU a.api (Ty.nest 6 (sc 0)).api) fun x33=>some ((Ty.nest 5 (sc 4)).api,x33) from rfl,l6]
 rfl
theorem apL {a b:Ty} (h:a.wf) (hd:a.dep≤16) (hb:b.wf) (hbd:b.dep≤16):abb [99,111,110,116,97,105,110,115] [a.api,b.api]=some ((sc 2).api,xX a (.nest 5 (sc 0)) || (xX b (sc 4) && (xX a (sc 4) || xX a (.nest 6 (sc 0))))):=by
 have ia:=akn h (by omega) (akQ (k:=4) (by omega))
 have ib:=akn hb (by omega) (akQ (k:=4) (by omega))
 have l5:=(aiW h (ak5 (k:=5) (j:=0) (by omega) (by omega)).1 (by omega)).2
 have l6:=(aiW h (ak5 (k:=6) (j:=0) (by omega) (by omega)).1 (by omega)).2
 rw [show abb [99,111,110,116,97,105,110,115] [a.api,b.api]=au (CU a.api (Ty.nest 5 (sc 0)).api) fun CO=>au (if CO then some true else au (abH b.api 4) fun KP=>if KP then
   (au (abH a.api 4) fun TU=>if TU then some true else CU a.api (Ty.nest 6 (sc 0)).api) else some false) fun b3=>some ((sc 2).api,b3) from rfl,l5,l6,ia,ib]
 simp only [ay]
 cases xX a (Ty.nest 5 (sc 0)) <;> cases xX b (sc 4) <;> cases xX a (sc 4) <;> cases xX a (Ty.nest 6 (sc 0)) <;> rfl
theorem asO {a b:Ty} (h:a.wf) (hd:a.dep≤16) (hb:b.wf) (hbd:b.dep≤16):abb [106,111,105,110] [a.api,b.api]=some ((sc 4).api,xX a (.nest 5 (sc 4)) && xX b (sc 4)):=by
 have ib:=akn hb (by omega) (akQ (k:=4) (by omega))
 have l5:=(aiW h (ak5 (k:=5) (j:=4) (by omega) (by omega)).1 (by omega)).2
 rw [show abb [106,111,105,110] [a.api,b.api]=au (CU a.api (Ty.nest 5 (sc 4)).api) fun Xh=>au (if Xh then abH b.api 4 else some false) fun b6=>some ((sc 4).api,b6) from rfl,l5,ib]
 simp only [ay,PD]
theorem aop {name:Str} {X a b:Ty} (h:a.wf) (hd:a.dep≤16) (hb:b.wf) (hbd:b.dep≤16) (hr:abb name [a.api,b.api]=au (abH a.api 4) fun x=>au (if x then abH b.api 4 else some false) fun b=>some (X.api,b)):
  abb name [a.api,b.api]=some (X.api,xX a (sc 4) && xX b (sc 4)):=by
 rw [hr,akn h (by omega) (akQ (k:=4) (by omega)),akn hb (by omega) (akQ (k:=4) (by omega))]
 simp only [ay,PD]
theorem aqb (a b:Ty):abb [100,101,102,97,117,108,116] [a.api,b.api]=some ((if a.kind=1 then b else a).api,true):=by
 rw [show abb [100,101,102,97,117,108,116] [a.api,b.api]=(if a.api.kind == 1 then some (b.api,true) else some (a.api,true)) from rfl,Ty.ajO]
 by_cases h:a.kind=1 <;> simp [h]
theorem asH {n:Str} {v:ah} {t T:Ty} (hc:BM n=1) (ht:t.wf) (hd:t.dep≤16) (hv:afM v t) (kv:0≤v.kind∧v.kind≤5) (hn:abb n [t.api]=some (T.api,true)):SND (VW n v) T (ac2 t=true):=by
 by_cases h1:n=[108,101,110]
 ·
  subst h1
  obtain ⟨rfl,h⟩:=alp (atC ht hd) hn
  simp only [Bool.or_eq_true] at h
  exact asL ht hv kv (by rcases h with (h | h) | h; exact .inl h; exact .inr (.inl h); exact .inr (.inr h))
 by_cases h2:n=[108,111,119,101,114]
 ·
  subst h2
  obtain ⟨rfl,h⟩:=alp (aoq (X:=sc 4) ht hd rfl) hn
  exact apI ht hv h (.inl rfl)
 by_cases h3:n=[117,112,112,101,114]
 ·
  subst h3
  obtain ⟨rfl,h⟩:=alp (aoq (X:=sc 4) ht hd rfl) hn
  exact apI ht hv h (.inr rfl)
 by_cases h4:n=[115,116,114,105,110,103]
 ·
  subst h4
  obtain ⟨rfl,h⟩:=alp (aq2 t) hn
  simp only [Bool.and_eq_true,bne_iff_ne] at h
  exact ap_ ht hv h
 by_cases h5:n=[105,110,116]
 ·
  subst h5
  obtain ⟨rfl,h⟩:=alp (aoq (X:=sc 3) ht hd rfl) hn
  exact aqa ht hv h
 by_cases h6:n=[107,101,121,115]
 ·
  subst h6
  obtain ⟨rfl,h⟩:=alp (asN ht hd) hn
  exact arE ht hv kv h
 exfalso
 unfold BM Ai at hc
 by_cases h7:n=[99,111,110,116,97,105,110,115]
 · simp [h7] at hc
 by_cases h8:n=[106,111,105,110]
 · simp [h8] at hc
 by_cases h9:n=[115,112,108,105,116]
 · simp [h9] at hc
 by_cases h10:n=[115,116,97,114,116,115,119,105,116,104]
 · simp [h10] at hc
 by_cases h11:n=[101,110,100,115,119,105,116,104]
 · simp [h11] at hc
 by_cases h12:n=[100,101,102,97,117,108,116]
 · simp [h12] at hc
 simp [h1,h2,h3,h4,h5,h6,h7,h8,h9,h10,h11,h12] at hc
theorem arB {a b:ah} {s t:Ty} (hs:s.wf) (ht:t.wf) (ha:afM a s) (hb:afM b t) (h1:xX s (sc 4)=true) (h2:xX t (sc 4)=true):SND (if ¬ (a.kind=3∧b.kind=3) then nu 9 else ZF a.bI b.bI) (.nest 5 (sc 4)) (ac2 s=true∧ac2 t=true):=by
 by_cases c:a.kind=3∧b.kind=3
 · rw [if_neg (by simpa using c)]; exact aqY
 ·
  rw [if_pos c]
  exact SND.nine fun hf=>c ⟨by have:=agv hs ha h1 (by omega) hf.1; omega,by have:=agv ht hb h2 (by omega) hf.2; omega⟩
theorem asE {n:Str} {a b:ah} {s t T:Ty} (hc:n∈ajj) (hs:s.wf) (hsd:s.dep≤16) (ht:t.wf) (htd:t.dep≤16) (ha:afM a s) (hb:afM b t) (ka:0≤a.kind∧a.kind≤5)
  (hn:abb n [s.api,t.api]=some (T.api,true)):SND (OZ n a b) T (ac2 s=true∧ac2 t=true):=by
 simp only [ajj,List.mem_cons,List.not_mem_nil,or_false] at hc
 rcases hc with rfl | rfl | rfl | rfl | rfl | rfl
 ·
  obtain ⟨rfl,h⟩:=alp (apL hs hsd ht htd) hn
  simp only [Bool.or_eq_true,Bool.and_eq_true] at h
  have e:OZ [99,111,110,116,97,105,110,115] a b=Ru a b:=by unfold OZ; rw [if_neg (by decide),if_pos rfl]
  rw [e]; exact apf hs ht ha hb ka h
 ·
  obtain ⟨rfl,h⟩:=alp (asO hs hsd ht htd) hn
  simp only [Bool.and_eq_true] at h
  have e:OZ [106,111,105,110] a b=Ov a b:=by unfold OZ; rw [if_neg (by decide),if_neg (by decide),if_pos rfl]
  rw [e]; exact arF hs ht ha hb ka h.1 h.2
 ·
  obtain ⟨rfl,h⟩:=alp (aop (X:=.nest 5 (sc 4)) hs hsd ht htd rfl) hn
  simp only [Bool.and_eq_true] at h
  have e:OZ [115,112,108,105,116] a b=(if ¬ (a.kind=3∧b.kind=3) then nu 9 else ZF a.bI b.bI):=by
   unfold OZ
   rw [if_neg (by decide),if_neg (by decide),if_neg (by decide),if_neg (c:=([115,112,108,105,116]:Str)=[115,116,97,114,116,115,119,105,116,104]) (by decide),if_neg (c:=([115,112,108,105,116]:Str)=[101,110,100,115,119,105,116,104]) (by decide)]
  rw [e]; exact arB hs ht ha hb h.1 h.2
 ·
  obtain ⟨rfl,h⟩:=alp (aop (X:=sc 2) hs hsd ht htd rfl) hn
  simp only [Bool.and_eq_true] at h
  have e:OZ [115,116,97,114,116,115,119,105,116,104] a b=(if ¬ (a.kind=3∧b.kind=3) then nu 9 else okV (Cu (preS a.bI b.bI))):=by
   unfold OZ
   rw [if_neg (by decide),if_neg (by decide),if_neg (by decide),if_pos (c:=([115,116,97,114,116,115,119,105,116,104]:Str)=[115,116,97,114,116,115,119,105,116,104]) rfl]
  rw [e]; exact apG hs ht ha hb h.1 h.2
 ·
  obtain ⟨rfl,h⟩:=alp (aop (X:=sc 2) hs hsd ht htd rfl) hn
  simp only [Bool.and_eq_true] at h
  have e:OZ [101,110,100,115,119,105,116,104] a b=(if ¬ (a.kind=3∧b.kind=3) then nu 9 else okV (Cu (afx a.bI b.bI))):=by
   unfold OZ
   rw [if_neg (by decide),if_neg (by decide),if_neg (by decide),if_neg (c:=([101,110,100,115,119,105,116,104]:Str)=[115,116,97,114,116,115,119,105,116,104]) (by decide),if_pos (c:=([101,110,100,115,119,105,116,104]:Str)=[101,110,100,115,119,105,116,104]) rfl]
  rw [e]; exact apG hs ht ha hb h.1 h.2
 ·
  obtain ⟨rfl,h⟩:=alp (aqb s t) hn
  have e:OZ [100,101,102,97,117,108,116] a b=(if a.kind=0 then okV b else okV a):=by unfold OZ; rw [if_pos rfl]
  rw [e]; exact apH hs ha hb
end Go.Ft

namespace Go.Ft
open Go
attribute [local congr] jE
theorem atq {go:aj→Option (b_ × Int)} {K:List b_→Option (b_ × Int)}:∀ (l:List aj) (out:List Ty) (i:Nat),(∀ x∈l,∃ (T:Ty) (c:Int),T.wf∧T.dep≤16∧go x=some (T.api,c))→out.length + l.length≤4000→
  (∃ c,c≠0∧dQ (an9 go) K i l (out.map Ty.api)=some (ZT,c))∨
  (∃ Ts:List Ty,Ts.length=l.length∧(∀ t∈Ts,t.wf∧t.dep≤16)∧(∀ j (h1:j < l.length) (h2:j < Ts.length),go l[j]=some (Ts[j].api,0))∧dQ (an9 go) K i l (out.map Ty.api)=K ((out ++ Ts).map Ty.api))
 | [],out,i,_,_=>.inr ⟨[],rfl,fun t ht=>(by cases ht),fun j h1=>by simp at h1,by simp [dQ]⟩
 | x :: r,out,i,h,hn=>by
  simp only [List.length_cons] at hn
  obtain ⟨T,c,w,d,e1⟩:=h x (by simp)
  rw [dQ,an9]
  simp only [e1,dH]
  by_cases hc:c=0
  ·
   subst hc
   have ha:app (out.map Ty.api) [T.api]=some ((out ++ [T]).map Ty.api):=by
    rw [q8 (by simp [rC]; omega)]; simp
   simp only [bne_self_eq_false,Bool.false_eq_true,if_false,ha,ay]
   rcases atq (K:=K) r (out ++ [T]) (i + 1) (fun y hy=>h y (by simp [hy])) (by simp; omega) with ⟨c,c1,c2⟩ | ⟨Ts,c1,c2,c3,c4⟩
   · exact .inl ⟨c,c1,c2⟩
   ·
    refine .inr ⟨T :: Ts,by simp [c1],?_,?_,?_⟩
    ·
     intro t ht
     rcases List.mem_cons.1 ht with rfl | ht
     · exact ⟨w,d⟩
     · exact c2 t ht
    ·
     intro j h1 h2
     cases j with
     | zero=>simpa using e1
     | succ j=>simpa using c3 j (by simpa using h1) (by simpa using h2)
    · have:=c4; rw [List.append_assoc] at this; exact this
  · exact .inl ⟨c,hc,by simp [hc]⟩
theorem asX {x:Option (b_ × Bool)} {t:b_} (h:aj6 x=some (t,0)):x=some (t,true):=by
 unfold aj6 at h
 cases x with
 | none=>cases h
 | some p=>
  obtain ⟨a,b⟩:=p
  simp only [dH] at h
  cases b with
  | false=>simp at h
  | true=>
   simp only [Bool.not_true,Bool.false_eq_true,if_false,(afq a).2.1,ay] at h
   split at h
   · simp at h
   · simp at h; rw [h]
theorem apn {env:List qE} (hW:apz env) (hl:env.length < 4611686018427387904) {e:aj} {level m:Nat} (hB:e.bulk≤1099511627776) (hx:zG e level=0) (hm:e.bulk + 1≤m):
  ∃ (T:Ty) (c:Int),T.wf∧T.dep≤16∧adX m e env=some (T.api,c)∧ajd e env=some (T.api,c):=by
 have hb:=j_
 obtain ⟨T,c,w,d,z,r1,r2⟩:=anM hW hl e.bulk e level BIG m (Nat.le_refl _) (by omega) hx (by omega) hm
 obtain ⟨T',c',w',d',z',r1',r2'⟩:=anM hW hl e.bulk e level BIG BIG (Nat.le_refl _) (by omega) hx (by omega) (by omega)
 rw [r1] at r1'
 refine ⟨T,c,w,d,r2,?_⟩
 unfold ajd
 rw [r2',←r1']
theorem ar5 {env:List qE} (hW:apz env) (hl:env.length < 4611686018427387904) {e:aj} {level:Nat} (hB:e.bulk≤1099511627776) (hx:zG e level=0) (hk:e.kind≠1∧e.kind≠2) {T:Ty} (ht:ajd e env=some (T.api,0)):
  ∃ Ts:List Ty,Ts.length=e.args.length∧(∀ t∈Ts,t.wf∧t.dep≤16)∧(∀ j (h1:j < e.args.length) (h2:j < Ts.length),ajd e.args[j] env=some (Ts[j].api,0))∧aaG e (Ts.map Ty.api)=some (T.api,true)∧
   (e.kind=5→BM e.name≠0∧BM e.name=e.args.length):=by
 obtain ⟨n,hn,hn2⟩:=ru
 obtain ⟨F,x2⟩:=Sr hx
 have hal:=Am e
 have hlen:=F.len
 unfold ajd at ht
 rw [hn,adX,alv] at ht
 have k12:((e.kind == 1) || (e.kind == 2))=false:=by simp [hk.1,hk.2]
 rw [k12] at ht
 simp only [Bool.false_eq_true,if_false] at ht
 have s2:=dP (F:=fun k s i=>akw (adX n) e env k s i) (l:=e.args) (body:=an9 fun x=>adX n x env) (fin:=fun l1=>aj6 (aaG e l1)) (by omega) (fun k s i=>rfl) []
 have key:=atq (K:=fun l1=>aj6 (aaG e l1)) (go:=fun x=>adX n x env) e.args [] 0 (fun x hx'=>by
  have:=fF hx'
  obtain ⟨T,c,w,d,r,_⟩:=apn hW hl (m:=n) (by omega) (x2 x hx') (by omega)
  exact ⟨T,c,w,d,r⟩) (by simp; omega)
 rw [List.map_nil] at key
 rw [←s2] at key
 have fin:akw (adX n) e env BIG [] 0=some (T.api,0)→∃ Ts:List Ty,Ts.length=e.args.length∧(∀ t∈Ts,t.wf∧t.dep≤16)∧(∀ j (h1:j < e.args.length) (h2:j < Ts.length),ajd e.args[j] env=some (Ts[j].api,0))∧aaG e (Ts.map Ty.api)=some (T.api,true):=by
  intro h
  rcases key with ⟨c,c1,c2⟩ | ⟨Ts,c1,c2,c3,c4⟩
  · rw [c2] at h; simp only [Option.some.injEq,Prod.mk.injEq] at h; exact absurd h.2 c1
  ·
   refine ⟨Ts,c1,c2,fun j h1 h2=>?_,?_⟩
   ·
    have hm:=List.getElem_mem h1
    have:=fF hm
    obtain ⟨T',c',w,d,r,r'⟩:=apn hW hl (m:=n) (by omega) (x2 _ hm) (by omega)
    rw [r',←r]; exact c3 j h1 h2
   ·
    rw [c4,List.nil_append] at h
    exact asX h
 by_cases h5:e.kind=5
 ·
  have n5:(e.kind == 5)=true:=by simpa using h5
  obtain ⟨c1,c2,c3⟩:=aak e.name
  rw [n5,c2] at ht
  simp only [if_true,ay] at ht
  by_cases hc0:BM e.name=0
  · rw [hc0] at ht; simp at ht
  ·
   by_cases hcl:BM e.name=(e.args.length:Int)
   ·
    have e1:decide ((if BM e.name=0 then -1 else BM e.name) < 0)=false:=by rw [if_neg hc0]; simp; omega
    have e2:((if BM e.name=0 then -1 else BM e.name) != (e.args.length:Int))=false:=by rw [if_neg hc0]; simp [hcl]
    rw [e1,e2] at ht
    simp only [Bool.false_eq_true,if_false] at ht
    obtain ⟨Ts,t1,t2,t3,t4⟩:=fin ht
    exact ⟨Ts,t1,t2,t3,t4,fun _=>⟨hc0,hcl⟩⟩
   ·
    have e1:decide ((if BM e.name=0 then -1 else BM e.name) < 0)=false:=by rw [if_neg hc0]; simp; omega
    have e2:((if BM e.name=0 then -1 else BM e.name) != (e.args.length:Int))=true:=by rw [if_neg hc0]; simpa using hcl
    rw [e1,e2] at ht
    simp at ht
 ·
  have n5:(e.kind == 5)=false:=by simpa using h5
  rw [n5] at ht
  simp only [Bool.false_eq_true,if_false,ay] at ht
  obtain ⟨Ts,t1,t2,t3,t4⟩:=fin ht
  exact ⟨Ts,t1,t2,t3,t4,fun h=>absurd h h5⟩
def okF (o:Option (b_ × Int)):Bool:=match o with
 | some (t,c)=>(c == 0) && (anx t).getD false
 | none=>false
mutual
def akD (env:List qE):aj→Bool
 | ⟨k,n,v,args,keys⟩=>okF (ajd ⟨k,n,v,args,keys⟩ env) && asC env args
def asC (env:List qE):List aj→Bool
 | []=>true
 | x :: r=>akD env x && asC env r
end
theorem apF (env:List qE):∀ l:List aj,asC env l=l.all (akD env)
 | []=>rfl
 | x :: r=>by rw [asC,apF env r,List.all_cons]
theorem ape (env:List qE) (e:aj):akD env e=(okF (ajd e env) && e.args.all (akD env)):=by
 cases e; rw [akD,apF]
theorem free_eq {T:Ty} (h:T.wf) (hd:T.dep≤1000):anx T.api=some (ac2 T):=ar2 BIG T h (by have:=j_; omega)
theorem arz {env:List qE} {e:aj} {T:Ty} {c:Int} (h:T.wf) (hd:T.dep≤1000) (hr:ajd e env=some (T.api,c)) (hs:akD env e=true):ac2 T=true:=by
 rw [ape,Bool.and_eq_true] at hs
 have:=hs.1
 rw [hr] at this
 simp only [okF,free_eq h hd,Option.getD_some,Bool.and_eq_true] at this
 exact this.2
theorem aoh {env:List qE} {e:aj} (hs:akD env e=true):∀ x∈e.args,akD env x=true:=by
 rw [ape,Bool.and_eq_true] at hs
 exact List.all_eq_true.1 hs.2
inductive DC :List av→List qE→Prop
 | nil:DC [] []
 | cons {x:av} {d:qE} {xs:List av} {ds:List qE} (T:Ty) (hn:d.name=x.name) (ht:d.LK=T.api) (hw:T.wf) (hd:T.dep≤16) (hf:afM x.value T) (h:DC xs ds):DC (x :: xs) (d :: ds)
theorem DC.W :∀ {vars:List av} {env:List qE},DC vars env→apz env
 | _,_,.nil=>fun d hd=>by cases hd
 | _,_,.cons T hn ht hw hd hf h=>fun d hm=>by
  rcases List.mem_cons.1 hm with rfl | hm
  · exact ⟨T,hw,hd,ht⟩
  · exact h.W d hm
theorem DC.len :∀ {vars:List av} {env:List qE},DC vars env→env.length=vars.length
 | _,_,.nil=>rfl
 | _,_,.cons T hn ht hw hd hf h=>by simp [h.len]
theorem DC.leaf {Rs:List qE} {n:Str} {T:Ty}:∀ {vars:List av} {env:List qE} (i:Nat),DC vars env→env=Rs.drop i→
  dQ (R:=b_ × Int) (fun (i:Nat) e1 (_:Unit) r=>if e1.name == n then au (idx Rs (i:Int)) fun e3=>some (e3.LK,0) else r ()) (fun _=>some (ZT,10)) i env ()=some (T.api,0)→∃ v,qB vars n=okV v∧afM v T
 | _,_,i,.nil,_,h=>by simp [dQ] at h
 | x :: xs,d :: ds,i,.cons S hn ht hw hd hf hr,he,h=>by
  have hi:i < Rs.length:=by
   rcases Nat.lt_or_ge i Rs.length with h | h
   · exact h
   · rw [List.drop_eq_nil_of_le h] at he; cases he
  have hc:=List.drop_eq_getElem_cons hi
  rw [←he] at hc
  have e1:d=Rs[i]:=(List.cons.inj hc).1
  have e2:=(List.cons.inj hc).2
  rw [dQ,rA hi,←e1] at h
  simp only [ay] at h
  rw [qB]
  by_cases hx:d.name=n
  ·
   rw [if_pos (by simpa using hx)] at h
   rw [if_pos (by rw [←hn]; exact hx)]
   simp only [Option.some.injEq,Prod.mk.injEq,and_true] at h
   rw [ht] at h
   exact ⟨x.value,rfl,(aoj h) ▸ hf⟩
  ·
   rw [if_neg (by simpa using hx)] at h
   rw [if_neg (by rw [←hn]; exact hx)]
   exact DC.leaf (i + 1) hr e2 h
theorem aqj {vars:List av} {env:List qE} (hD:DC vars env) (hl:env.length < 4611686018427387904) {e:aj} {T:Ty} (he:e.kind=2) (h:alJ e env=some (T.api,0)):∃ v,qB vars e.name=okV v∧afM v T:=by
 unfold alJ at h
 have h1:(e.kind == 1)=false:=by simp [he]
 rw [h1] at h
 simp only [Bool.false_eq_true,if_false] at h
 rw [dP (F:=fun k (_:Unit) i=>alC e env k i) (l:=env) (body:=fun (i:Nat) e1 (_:Unit) r=>if e1.name == e.name then au (idx env (i:Int)) fun e3=>some (e3.LK,0) else r ()) (fin:=fun _=>some (ZT,10)) hl (fun k s i=>rfl) ()] at h
 exact DC.leaf 0 hD rfl h
theorem ap1 :∀ {rs:List (ah × Int)},(lT rs).2≠0→∃ (i:Nat) (h:i < rs.length),rs[i].2=(lT rs).2
 | [],h=>absurd rfl h
 | p :: r,h=>by
  by_cases hp:p.2=0
  ·
   by_cases hr:(lT r).2=0
   · rw [lT,if_neg (by simpa using hp),if_neg (by simpa using hr)] at h; exact absurd rfl h
   ·
    obtain ⟨i,hi,e⟩:=ap1 hr
    rw [lT,if_neg (by simpa using hp),if_pos hr]
    exact ⟨i + 1,by simpa using hi,by simpa using e⟩
  ·
   rw [lT,if_pos hp]
   exact ⟨0,by simp,rfl⟩
theorem SND.mono {p:ah × Int} {T:Ty} {F G:Prop} (h:SND p T F) (hF:G→F):SND p T G:=⟨h.1,h.2.1,fun h9 hg=>h.2.2 h9 (hF hg)⟩
theorem am8 {v:ah} (h:VV v):0≤v.kind∧v.kind≤5:=(Zq ((yg v).1 h.1).1).2.1 |> fun a=>⟨a,(Zq ((yg v).1 h.1).1).2.2.1⟩
theorem fits1 {v:ah} {t:Ty} (h:fits [v] [t]):afM v t:=h.2 0 (by simp) (by simp)
theorem ar3 {a b:ah} {s t:Ty} (h:fits [a,b] [s,t]):afM a s∧afM b t:=⟨h.2 0 (by simp) (by simp),h.2 1 (by simp) (by simp)⟩
theorem aq0 {a b:ah} {s t:Ty} (hs:s.wf) (ht:t.wf) (ha:afM a s) (hb:afM b t) (hl:(tX s && tX t)=true):SND (XA a b) (if s.kind=0 then s else t) (ac2 s=true∧ac2 t=true):=by
 simp only [Bool.and_eq_true] at hl
 obtain ⟨e1,h1⟩:=alV hs hl.1
 have hs0:s=sc 0:=by
  rcases h1 with h1 | h1
  · rw [e1,h1]
  · rw [e1,h1] at ha; exact (anJ ha).elim
 subst hs0
 have hnf:¬ (ac2 (sc 0)=true∧ac2 t=true):=fun h=>by cases h.1
 rw [if_pos (show (sc 0).kind=0 from rfl)]
 unfold XA
 split
 · exact (anw (F:=ac2 (sc 0)=true∧ac2 t=true)).up (scw (by omega)) (scw (by omega)) (aqF _) id
 ·
  split
  ·
   split
   · exact SND.ok (anL _)
   · exact SND.code (by decide) (by unfold ak4; omega) (by decide)
  ·
   split
   ·
    split
    · exact SND.ok (anL _)
    · exact SND.code (by decide) (by unfold ak4; omega) (by decide)
   · exact SND.nine hnf
theorem arC {e:aj} (F:Fm e) {vs:List ah} {Ts:List Ty} {T:Ty} (hl:vs.length=e.args.length) (hf:fits vs Ts) (hw:∀ t∈Ts,t.wf∧t.dep≤16) (hv:∀ v∈vs,VV v) (h8:e.kind≠8) (hk:e.kind≠1∧e.kind≠2)
  (h7:¬ (e.kind=7∧(e.name=[38,38]∨e.name=[124,124]))) (h5:e.kind=5→BM e.name≠0∧BM e.name=e.args.length) (hn:aaG e (Ts.map Ty.api)=some (T.api,true)):SND (yR e.kind e.name e.keys vs) T (∀ t∈Ts,ac2 t=true):=by
 have hTl:Ts.length=e.args.length:=by rw [←hf.1,hl]
 have hlen:=F.len
 have hkind:=F.kind
 have auk:e.kind=3∨e.kind=4∨e.kind=5∨e.kind=6∨e.kind=7∨e.kind=9∨e.kind=10:=by omega
 unfold yR
 rcases auk with k | k | k | k | k | k | k
 ·
  obtain ⟨a,ha⟩:=F.k3 k
  rw [ha] at hl hTl
  obtain ⟨v,rfl⟩:=len1 hl
  obtain ⟨t,rfl⟩:=len1 hTl
  obtain ⟨w,d⟩:=hw t (by simp)
  have ft:=fits1 hf
  have kv:=am8 (hv v (by simp))
  obtain ⟨rfl,q⟩:=avv w k hn
  rw [if_neg (by omega),if_neg (by omega)]
  simp only [k,if_true]
  refine aqH w ft kv (by rcases q with q | q; exact .inl q; exact .inr (.inr q)) fun hF=>.inr ⟨?_,rfl⟩
  have hl:=alz ft w (hF t (by simp))
  rcases q with q | q
  · rw [hl] at q; cases q
  ·
   cases t with
   | leaf j=>simp only [Ty.kind] at q; exact absurd q w.2.2.2
   | nest j s=>simp only [Ty.kind] at q; subst q; have:=amv kv (.inr rfl) ft; omega
 ·
  obtain ⟨a,b,ha⟩:=F.k4 k
  rw [ha] at hl hTl
  obtain ⟨v,x,rfl⟩:=len2 hl
  obtain ⟨t,u,rfl⟩:=len2 hTl
  obtain ⟨w,d⟩:=hw t (by simp)
  obtain ⟨w',d'⟩:=hw u (by simp)
  obtain ⟨ft,fu⟩:=ar3 hf
  have kv:=am8 (hv v (by simp))
  obtain ⟨rfl,q⟩:=avu w w' d' k hn
  rw [if_neg (by omega),if_neg (by omega)]
  simp only [k,if_true]
  refine aqH w ft kv (by rcases q with q | q | q; exact .inr (.inl q.1); exact .inr (.inr q.1); exact .inl q) fun hF=>?_
  have hl:=alz ft w (hF t (by simp))
  have hu:=hF u (by simp)
  rcases q with q | q | q
  ·
   left
   cases t with
   | leaf j=>have:=q.1; simp only [Ty.kind] at this; exact absurd this w.2.2.1
   | nest j s=>
    have h5':=q.1
    simp only [Ty.kind] at h5'; subst h5'
    have h1:=amv kv (.inl rfl) ft
    have h2:=agv w' fu q.2 (by omega) hu
    exact ⟨by omega,by omega⟩
  ·
   right
   cases t with
   | leaf j=>have:=q.1; simp only [Ty.kind] at this; exact absurd this w.2.2.2
   | nest j s=>
    have h5':=q.1
    simp only [Ty.kind] at h5'; subst h5'
    have h1:=amv kv (.inr rfl) ft
    have h2:=agv w' fu q.2 (by omega) hu
    exact ⟨by omega,by omega⟩
  · rw [hl] at q; cases q
 ·
  obtain ⟨c0,c1⟩:=h5 k
  have aoA:∀ l,aaG e l=abb e.name l:=by intro l; unfold aaG; simp [k]
  rw [aoA] at hn
  rw [if_neg (by omega),if_neg (by omega)]
  rcases (aak e.name).2.2 with c | c | ⟨c,c'⟩
  · exact absurd c c0
  ·
   have:e.args.length=1:=by omega
   rw [this] at hl hTl
   obtain ⟨v,rfl⟩:=len1 hl
   obtain ⟨t,rfl⟩:=len1 hTl
   obtain ⟨w,d⟩:=hw t (by simp)
   simp only [k]
   exact (asH c w d (fits1 hf) (am8 (hv v (by simp))) hn).mono fun h=>h t (by simp)
  ·
   have:e.args.length=2:=by omega
   rw [this] at hl hTl
   obtain ⟨v,x,rfl⟩:=len2 hl
   obtain ⟨t,u,rfl⟩:=len2 hTl
   obtain ⟨w,d⟩:=hw t (by simp)
   obtain ⟨w',d'⟩:=hw u (by simp)
   obtain ⟨ft,fu⟩:=ar3 hf
   simp only [k]
   exact (asE c' w d w' d' ft fu (am8 (hv v (by simp))) hn).mono fun h=>⟨h t (by simp),h u (by simp)⟩
 ·
  obtain ⟨⟨a,ha⟩,hop⟩:=F.k6 k
  rw [ha] at hl hTl
  obtain ⟨v,rfl⟩:=len1 hl
  obtain ⟨t,rfl⟩:=len1 hTl
  obtain ⟨w,d⟩:=hw t (by simp)
  have ft:=fits1 hf
  obtain ⟨rfl,q⟩:=avt w d k hn
  rw [if_neg (by omega),if_neg (by omega)]
  simp only [k]
  rcases hop with h | h
  ·
   rw [h] at q ⊢
   exact (asI w ft (by simpa using q)).mono fun h=>h t (by simp)
  ·
   rw [h] at q ⊢
   exact (asJ w ft (by simpa using q)).mono fun h=>h t (by simp)
 ·
  obtain ⟨⟨a,b,ha⟩,hop⟩:=F.k7 k
  rw [ha] at hl hTl
  obtain ⟨v,x,rfl⟩:=len2 hl
  obtain ⟨t,u,rfl⟩:=len2 hTl
  obtain ⟨w,d⟩:=hw t (by simp)
  obtain ⟨w',d'⟩:=hw u (by simp)
  obtain ⟨ft,fu⟩:=ar3 hf
  have kv:=am8 (hv v (by simp))
  have kx:=am8 (hv x (by simp))
  have hb:=auT k hn
  rw [if_neg (by omega),if_neg (by omega)]
  simp only [k]
  show SND (JF e.name v x) T _
  generalize e.name=op at hop hb h7 ⊢
  have free:(∀ y∈[t,u],ac2 y=true)→ac2 t=true∧ac2 u=true:=fun h=>⟨h t (by simp),h u (by simp)⟩
  simp only [opsL,List.mem_cons,List.not_mem_nil,or_false] at hop
  have rel:∀ r:Bool,(op=[60]∨op=[60,61]∨op=[62]∨op=[62,61])→SND (O1 v x r) T (∀ y∈[t,u],ac2 y=true):=fun r ho=>by
   obtain ⟨rfl,q⟩:=alp (asZ ho) hb
   exact (asG w w' ft fu q).mono free
  have ar:(op=[45]∨op=[42]∨op=[47]∨op=[37])→SND (TR op v x) T (∀ y∈[t,u],ac2 y=true):=fun ho=>by
   obtain ⟨rfl,q⟩:=alp (aum w d w' d' ho) hb
   simp only [Bool.and_eq_true] at q
   exact (asM w w' ft fu q.1 q.2).mono free
  rcases hop with rfl | rfl | rfl | rfl | rfl | rfl | rfl | rfl | rfl | rfl | rfl | rfl | rfl
  · exact absurd ⟨k,.inl rfl⟩ h7
  · exact absurd ⟨k,.inr rfl⟩ h7
  ·
   obtain ⟨rfl,q⟩:=alp (asf (.inl rfl)) hb
   exact arG (.inl rfl)
  ·
   obtain ⟨rfl,q⟩:=alp (asf (.inr rfl)) hb
   exact arG (.inr rfl)
  ·
   have e1:JF [60] v x=O1 v x (decide (qw v x < 0)):=by unfold JF; rw [if_neg (by decide),if_neg (by decide),if_pos rfl]
   rw [e1]; exact rel _ (by simp)
  ·
   have e1:JF [60,61] v x=O1 v x (decide (qw v x≤0)):=by unfold JF; rw [if_neg (by decide),if_neg (by decide),if_neg (by decide),if_pos rfl]
   rw [e1]; exact rel _ (by simp)
  ·
   have e1:JF [62] v x=O1 v x (decide (0 < qw v x)):=by unfold JF; rw [if_neg (by decide),if_neg (by decide),if_neg (by decide),if_neg (by decide),if_pos rfl]
   rw [e1]; exact rel _ (by simp)
  ·
   have e1:JF [62,61] v x=O1 v x (decide (0≤qw v x)):=by unfold JF; rw [if_neg (by decide),if_neg (by decide),if_neg (by decide),if_neg (by decide),if_neg (by decide),if_pos rfl]
   rw [e1]; exact rel _ (by simp)
  ·
   have e1:JF [45] v x=TR [45] v x:=by unfold JF; rw [if_neg (by decide),if_neg (by decide),if_neg (by decide),if_neg (by decide),if_neg (by decide),if_neg (by decide),if_neg (by decide)]
   rw [e1]; exact ar (by simp)
  ·
   have e1:JF [42] v x=TR [42] v x:=by unfold JF; rw [if_neg (by decide),if_neg (by decide),if_neg (by decide),if_neg (by decide),if_neg (by decide),if_neg (by decide),if_neg (by decide)]
   rw [e1]; exact ar (by simp)
  ·
   have e1:JF [47] v x=TR [47] v x:=by unfold JF; rw [if_neg (by decide),if_neg (by decide),if_neg (by decide),if_neg (by decide),if_neg (by decide),if_neg (by decide),if_neg (by decide)]
   rw [e1]; exact ar (by simp)
  ·
   have e1:JF [37] v x=TR [37] v x:=by unfold JF; rw [if_neg (by decide),if_neg (by decide),if_neg (by decide),if_neg (by decide),if_neg (by decide),if_neg (by decide),if_neg (by decide)]
   rw [e1]; exact ar (by simp)
  ·
   have e1:JF [43] v x=XA v x:=by unfold JF; rw [if_neg (by decide),if_neg (by decide),if_neg (by decide),if_neg (by decide),if_neg (by decide),if_neg (by decide),if_pos rfl]
   rw [e1]
   have hb':amy t.api u.api=some (T.api,true):=hb
   rcases asB w d w' d' hb' with ⟨q1,rfl⟩ | ⟨q1,j,q2,q3,rfl⟩
   · exact (aq0 w w' ft fu q1).mono free
   · exact (asF w w' ft fu kv kx q1 q2 q3).mono free
 ·
  rw [if_pos k]
  have hnl:=am7 hw (by omega) (e:=e) (.inl k)
  obtain ⟨rfl,q⟩:=alp hnl hn
  rw [if_neg (c:=e.kind=10) (by omega)]
  exact arD hf fun t ht=>(hw t ht).1
 ·
  rw [if_neg (by omega),if_pos k]
  have hnl:=am7 hw (by omega) (e:=e) (.inr k)
  obtain ⟨rfl,q⟩:=alp hnl hn
  rw [if_pos k]
  exact asK hf fun t ht=>(hw t ht).1
end Go.Ft

namespace Go.Ft
open Go
attribute [local congr] jE
theorem aqG {vars:List av} {env:List qE} (hE:∀ x∈vars,VV x.value∧x.value.bulk≤1048576) (hD:DC vars env) (hl:env.length < 4611686018427387904):∀ (b:Nat) (e:aj) (level:Nat) (T:Ty),e.bulk≤b→SE e→zG e level=0→
  ajd e env=some (T.api,0)→T.wf→T.dep≤16→SND (iJ vars e) T (akD env e=true)
 | 0,e,_,_,h,_,_,_,_,_=>by have:=e.gF; omega
 | b + 1,e,level,T,h,hS,hx,hr,hw,hd=>by
  have hB:e.bulk≤1099511627776:=hS.1
  have hWe:=hD.W
  obtain ⟨F,x2⟩:=Sr hx
  have hkind:=F.kind
  rw [rU]
  obtain ⟨n,hn,hn2⟩:=ru
  by_cases k1:e.kind=1
  ·
   rw [if_pos k1]
   unfold ajd at hr
   rw [hn,adX,alv] at hr
   have k12:((e.kind == 1) || (e.kind == 2))=true:=by simp [k1]
   rw [if_pos k12] at hr
   unfold alJ at hr
   obtain ⟨o1,o2,o3,o4⟩:=ash (v:=e.value) (by have:=xP e; omega) ((Fw _).2 (F.lit k1))
   simp only [k1,beq_self_eq_true,if_true,o2,ay,Option.some.injEq,Prod.mk.injEq,and_true] at hr
   rw [←aoj hr]
   exact SND.ok (al6 _)
  rw [if_neg k1]
  by_cases k2:e.kind=2
  ·
   rw [if_pos k2]
   unfold ajd at hr
   rw [hn,adX,alv] at hr
   have k12:((e.kind == 1) || (e.kind == 2))=true:=by simp [k2]
   rw [if_pos k12] at hr
   obtain ⟨v,v1,v2⟩:=aqj hD hl k2 hr
   rw [v1]
   exact SND.ok v2
  rw [if_neg k2]
  obtain ⟨Ts,t1,t2,t3,t4,t5⟩:=ar5 hWe hl hB hx ⟨k1,k2⟩ hr
  have ih:∀ j (h1:j < e.args.length) (h2:j < Ts.length),SND (iJ vars e.args[j]) Ts[j] (akD env e.args[j]=true):=fun j h1 h2=>by
   have hm:=List.getElem_mem h1
   obtain ⟨w,d⟩:=t2 _ (List.getElem_mem h2)
   exact aqG hE hD hl b _ (level + 1) _ (by have:=fF hm; omega) (hS.arg hm) (x2 _ hm) (t3 j h1 h2) w d
  have fr:akD env e=true→∀ t∈Ts,ac2 t=true:=fun hs t ht=>by
   obtain ⟨j,hj,rfl⟩:=List.getElem_of_mem ht
   have h1:j < e.args.length:=by omega
   obtain ⟨w,d⟩:=t2 _ ht
   exact arz w (by omega) (t3 j h1 hj) (aoh hs _ (List.getElem_mem h1))
  unfold vS
  by_cases h8:e.kind=8
  ·
   rw [if_pos h8]
   obtain ⟨a,b',c,ha⟩:=F.k8 h8
   have hl3:Ts.length=3:=by rw [t1,ha]; rfl
   obtain ⟨s,t,u,rfl⟩:=akL hl3
   have sa:=aoh (env:=env) (e:=e)
   rw [ha] at sa
   have i0:=ih 0 (by rw [ha]; simp) (by simp)
   have i1:=ih 1 (by rw [ha]; simp) (by simp)
   have i2:=ih 2 (by rw [ha]; simp) (by simp)
   simp only [ha,List.getElem_cons_zero,List.getElem_cons_succ] at i0 i1 i2
   obtain ⟨w0,d0⟩:=t2 s (by simp)
   obtain ⟨w1,d1⟩:=t2 t (by simp)
   obtain ⟨w2,d2⟩:=t2 u (by simp)
   obtain ⟨rfl,q⟩:=avs w0 d0 w1 d1 w2 d2 h8 t4
   rw [ha]
   exact (arH w0 w1 w2 i0 i1 i2 q).mono fun hs=>⟨⟨sa hs a (by simp),fr hs s (by simp)⟩,sa hs b' (by simp),sa hs c (by simp)⟩
  rw [if_neg h8]
  by_cases h7:e.kind=7∧(e.name=[38,38]∨e.name=[124,124])
  ·
   rw [if_pos h7]
   obtain ⟨⟨a,b',ha⟩,hop⟩:=F.k7 h7.1
   have hl2:Ts.length=2:=by rw [t1,ha]; rfl
   obtain ⟨s,t,rfl⟩:=len2 hl2
   have sa:=aoh (env:=env) (e:=e)
   rw [ha] at sa
   have i0:=ih 0 (by rw [ha]; simp) (by simp)
   have i1:=ih 1 (by rw [ha]; simp) (by simp)
   simp only [ha,List.getElem_cons_zero,List.getElem_cons_succ] at i0 i1
   obtain ⟨w0,d0⟩:=t2 s (by simp)
   obtain ⟨w1,d1⟩:=t2 t (by simp)
   obtain ⟨rfl,q⟩:=alp (aul w0 d0 w1 d1 h7.2) (auT h7.1 t4)
   simp only [Bool.and_eq_true] at q
   rw [ha]
   exact (aqZ w0 w1 i0 i1 q.1 q.2).mono fun hs=>⟨⟨sa hs a (by simp),fr hs s (by simp)⟩,sa hs b' (by simp),fr hs t (by simp)⟩
  rw [if_neg h7,if_neg (c:=e.kind=5∧BM e.name=0) (fun hh=>(t5 hh.1).1 hh.2),if_neg (c:=e.kind=5∧BM e.name≠((e.args.map (iJ vars)).length:Int)) (fun hh=>hh.2 (by rw [List.length_map]; exact (t5 hh.1).2))]
  by_cases h0:(lT (e.args.map (iJ vars))).2=0
  ·
   rw [if_neg (by simpa using h0)]
   obtain ⟨o1,o2⟩:=MZ (N:=0) h0
   have z:∀ j (h1:j < e.args.length),(iJ vars e.args[j]).2=0:=fun j h1=>o1 _ (List.mem_map_of_mem (List.getElem_mem h1))
   refine (arC F (by rw [o2]; simp) ⟨by rw [o2]; simp [t1],fun j h1 h2=>?_⟩ t2 (fun v hv=>?_) h8 ⟨k1,k2⟩ h7 t5 t4).mono fr
   ·
    have h1':j < e.args.length:=by omega
    have:=(ih j h1' h2).1 (z j h1')
    simp only [o2,List.getElem_map]
    exact this
   ·
    rw [o2,List.map_map] at hv
    obtain ⟨x,hx',rfl⟩:=List.mem_map.1 hv
    have hm:=fF hx'
    exact ((Jl hE x.bulk x (level + 1) (Nat.le_refl _) (hS.arg hx') (x2 x hx')).1 (o1 _ (List.mem_map_of_mem hx'))).1
  ·
   rw [if_pos h0]
   obtain ⟨i,hi,he⟩:=ap1 h0
   have hi':i < e.args.length:=by simpa using hi
   rw [←he]
   simp only [List.getElem_map] at he ⊢
   exact (ih i hi' (by omega)).err (by rw [he]; exact h0) fun hs=>aoh hs _ (List.getElem_mem hi')
end Go.Ft

namespace Go.Ft
open Go
attribute [local congr] jE
theorem apK {go:aj→Option Bool} {f:aj→Bool}:∀ (l:List aj) (i:Nat),(∀ x∈l,go x=some (f x))→dQ (fun _ e1 (_:Unit) r=>au (go e1) fun x3=>if !x3 then some false else r ()) (fun _=>some true) i l ()=some (l.all f)
 | [],i,_=>rfl
 | x :: r,i,h=>by
  rw [dQ,h x (by simp),ay,List.all_cons]
  cases f x with
  | false=>rfl
  | true=>exact apK r (i + 1) fun y hy=>h y (by simp [hy])
theorem apE {env:List qE} (hW:apz env) (hl:env.length < 4611686018427387904):∀ (b:Nat) (e:aj) (level:Nat),e.bulk≤b→e.bulk≤1099511627776→zG e level=0→∀ m,b + 1≤m→akj m e env=some (akD env e)
 | 0,e,_,h,_,_,_,_=>by have:=e.gF; omega
 | b + 1,e,level,h,hB,hx,m,hm=>by
  obtain ⟨m1,rfl⟩:∃ m1,m=m1 + 1:=⟨m - 1,by omega⟩
  obtain ⟨T,c,w,d,_,r⟩:=apn hW hl (m:=e.bulk + 1) hB hx (Nat.le_refl _)
  have x2:=(M8 hx).2
  have hal:=Am e
  rw [akj,amh,ape,r,dH]
  by_cases hc:c=0
  ·
   subst hc
   simp only [bne_self_eq_false,Bool.false_eq_true,if_false,free_eq w (by omega),ay,okF,Option.getD_some,beq_self_eq_true,Bool.true_and]
   cases ac2 T with
   | false=>rfl
   | true=>
    simp only [Bool.not_true,Bool.false_eq_true,if_false,Bool.true_and]
    rw [dP (F:=fun k (_:Unit) i=>alm (akj m1) e env k i) (l:=e.args) (body:=fun _ e1 (_:Unit) r=>au (akj m1 e1 env) fun x3=>if !x3 then some false else r ()) (fin:=fun _=>some true) (by omega) (fun k s i=>rfl) ()]
    exact apK e.args 0 fun x hx'=>apE hW hl b x (level + 1) (by have:=fF hx'; omega) (by have:=fF hx'; omega) (x2 x hx') m1 (by omega)
  ·
   have e1:(c != 0)=true:=by simpa using hc
   have e2:(c == 0)=false:=by simpa using hc
   simp [e1,okF,e2]
theorem DC.name :∀ {vars:List av} {env:List qE} {N:Nat},DC vars env→(∀ x∈vars,x.name.length≤N)→∀ d∈env,d.name.length≤N
 | _,_,N,.nil,_=>fun d hd=>by cases hd
 | _,_,N,.cons T hn ht hw hd hf h,hv=>fun d hm=>by
  rcases List.mem_cons.1 hm with rfl | hm
  · rw [hn]; exact hv _ (by simp)
  · exact h.name (fun x hx=>hv x (by simp [hx])) d hm
theorem aqr {e:aj} {env:List qE} (h:e.bulk≤1099511627776) (hl:env.length < 4611686018427387904) (hd:∀ d∈env,d.name.length < 4611686018427387000):
  (∃ c,c≠0∧alA e env=some (ZT,c)∧amq e env=some (ZT,c))∨(∃ T:Ty,T.wf∧T.dep≤16∧alA e env=some (T.api,0)∧amq e env=some (T.api,0)∧ajd e env=some (T.api,0)∧xval e=0∧aqp env=0):=by
 obtain ⟨v1,v2,v3⟩:=auf (env:=env) hl hd
 obtain ⟨x1,x2⟩:=Gf (e:=e) (by omega)
 unfold alA amq
 rw [v1,v2,x1,x2]
 simp only [ay]
 by_cases hv:aqp env=0
 ·
  simp only [hv,bne_self_eq_false,Bool.false_eq_true,if_false]
  by_cases hx:xval e=0
  ·
   simp only [hx,bne_self_eq_false,Bool.false_eq_true,if_false]
   have hc:=M7 hx
   obtain ⟨T,c,w,d,z,r1,r2⟩:=anM (v3 hv) hl e.bulk e 1 BIG BIG (Nat.le_refl _) (by omega) hc (by have:=j_; omega) (by have:=j_; omega)
   have r1':ano e env=some (T.api,c):=r1
   have r2':ajd e env=some (T.api,c):=r2
   rw [r1',r2']
   simp only [dH]
   by_cases h0:c=0
   ·
    subst h0
    have t7:Rv 7=some (sc 7).api:=rfl
    rw [if_neg (by simp),t7]
    simp only [ay,aqD w d]
    exact .inr ⟨T,w,d,by simp⟩
   ·
    rw [if_pos (by simpa using h0),z h0]
    exact .inl ⟨c,h0,rfl,rfl⟩
  ·
   have hx':(xval e != 0)=true:=by simpa using hx
   simp only [hx',if_true]
   exact .inl ⟨_,hx,rfl,rfl⟩
 ·
  have hv':(aqp env != 0)=true:=by simpa using hv
  simp only [hv',if_true]
  exact .inl ⟨_,hv,rfl,rfl⟩
theorem ard {e:aj} {env:List qE} {T:Ty} (h:e.bulk≤1099511627776) (hl:env.length < 4611686018427387904) (hW:apz env) (hx:zG e 1=0) (hr:amq e env=some (T.api,0)):amo e env=some (akD env e):=by
 unfold amo anh
 rw [hr,dH,if_pos (by simp)]
 exact apE hW hl e.bulk e 1 (Nat.le_refl _) h hx BIG (by have:=j_; omega)
end Go.Ft

namespace Go.Ft
open Go
attribute [local congr] jE
theorem apB :∀ (n:Nat) (a b:Ty),a.wf→b.wf→a.dep≤n→ahc n a.api b.api=some (agU a b)
 | 0,a,b,_,_,h=>by have:=a.abt; omega
 | n + 1,.leaf x,.leaf y,ha,hb,h=>by
  have k5:(x == 5)=false:=by simpa using ha.2.2.1
  have k6:(x == 6)=false:=by simpa using ha.2.2.2
  rw [ahc,akf,agU]
  simp only [sG,Ty.api,ay,k5,k6,Bool.or_self,Bool.false_eq_true,if_false]
  cases k:(x == 7) || (y == 0) with
  | true=>simp
  | false=>
   by_cases hxy:x=y
   · subst hxy; simp
   · simp [hxy]
 | n + 1,.leaf x,.nest y t,ha,hb,h=>by
  rw [ahc,akf,agU]
  have k2:(y == 0)=false:=by simp; rcases hb.1 with h | h <;> omega
  have k3:(x != y)=true:=by
   simp only [bne_iff_ne]
   rintro rfl
   rcases hb.1 with h | h
   · exact ha.2.2.1 h
   · exact ha.2.2.2 h
  simp only [Ty.api,k2,k3,Bool.or_false,if_true]
  cases (x == 7) <;> simp
 | n + 1,.nest x s,.leaf y,ha,hb,h=>by
  rw [ahc,akf,agU]
  have k1:(x == 7)=false:=by simp; rcases ha.1 with h | h <;> omega
  have k3:(x != y)=true:=by
   simp only [bne_iff_ne]
   rintro rfl
   rcases ha.1 with h | h
   · exact hb.2.2.1 h
   · exact hb.2.2.2 h
  simp only [Ty.api,k1,k3,Bool.false_or,if_true]
  cases (y == 0) <;> simp
 | n + 1,.nest x s,.nest y t,ha,hb,h=>by
  rw [ahc,akf,agU]
  have k1:(x == 7)=false:=by simp; rcases ha.1 with h | h <;> omega
  have k2:(y == 0)=false:=by simp; rcases hb.1 with h | h <;> omega
  have k3:((x == 5) || (x == 6))=true:=by rcases ha.1 with h | h <;> simp [h]
  simp only [Ty.dep] at h
  have ih:=apB n s t ha.2 hb.2 (by omega)
  simp only [sG,Ty.api,ay,k1,k2,k3,Bool.or_self,Bool.false_eq_true,if_false,if_true]
  by_cases hxy:x=y
  · subst hxy; simp [idx,ih]
  · simp [hxy]
theorem anN (vars:List av) (wider:List b_) (hl:vars.length≤1024) (hw:wider.length < 4611686018427387904) (hv:∀ x∈vars,VV x.value∧x.value.bulk < 4611686018427387904):∀ (k i:Nat) (out:List qE),vars.length < k + i→i≤vars.length→out.length=i→
  ∃ env,ai1 vars wider k out (i:Int)=some (out ++ env)∧DC (vars.drop i) env
 | 0,i,out,h,h',_=>by omega
 | k + 1,i,out,h,h',ho=>by
  have hL:rC=4294967296:=rfl
  rw [ai1]
  by_cases hi:i < vars.length
  ·
   obtain ⟨v1,v2⟩:=hv _ (List.getElem_mem hi)
   obtain ⟨o1,o2,o3,o4⟩:=ash v2 ((Fw _).2 v1)
   have goal:∀ T:Ty,T.wf→T.dep≤16→afM vars[i].value T→∃ env,(au (app out [(qE.mk vars[i].name T.api)]) fun l2=>ai1 vars wider k l2 (bS ((i:Int) + 1)))=some (out ++ env)∧DC (vars.drop i) env:=by
    intro T w d f
    rw [q8 (by simp; omega),ay,zB (by omega)]
    obtain ⟨env,e1,e2⟩:=anN vars wider hl hw hv k (i + 1) (out ++ [qE.mk vars[i].name T.api]) (by omega) (by omega) (by simp [ho])
    refine ⟨qE.mk vars[i].name T.api :: env,?_,?_⟩
    · rw [e1]; simp
    ·
     rw [List.drop_eq_getElem_cons hi]
     exact .cons T rfl rfl w d f e2
   rw [if_pos (by simpa using hi)]
   simp only [rA hi,ay,o2]
   by_cases hwi:i < wider.length
   ·
    have c1:decide ((i:Int) < (wider.length:Int))=true:=by simpa using hwi
    simp only [c1,if_true,rA hwi,ay,(afq _).2.1]
    by_cases h0:Zx wider[i]=0
    ·
     obtain ⟨S,s1,s2,s3⟩:=(afq wider[i]).2.2 h0
     have c2:(Zx wider[i] == 0)=true:=by simpa using h0
     have jd:=alE (ofT vars[i].value) S
     simp only [c2,if_true]
     rw [s2,(amB o3 s1 o4 s3).2,ay]
     exact goal _ (ajF _ _ o3 s1) (by omega) (anW o3 s1)
    ·
     have c2:(Zx wider[i] == 0)=false:=by simpa using h0
     simp only [c2,Bool.false_eq_true,if_false]
     exact goal _ o3 o4 (al6 _)
   ·
    have c1:decide ((i:Int) < (wider.length:Int))=false:=by simpa using hwi
    simp only [c1,Bool.false_eq_true,if_false,ay]
    exact goal _ o3 o4 (al6 _)
  ·
   have:i=vars.length:=by omega
   subst this
   rw [if_neg (by simp),List.drop_length]
   exact ⟨[],by simp,.nil⟩
theorem as2 {v:ah} {T:Ty} (h:VV v) (hb:v.bulk < 4611686018427387904) (hw:T.wf) (hd:T.dep≤16):al4 v T.api=some (agU (ofT v) T):=by
 have hc:=(Fw v).2 h
 obtain ⟨n,hn,hn2⟩:=ru
 obtain ⟨a1,a2,a3,a4⟩:=at5 n v 1 (by omega) hb hc
 unfold al4 amP alB al2 amC
 rw [CP hb,hc,ay,if_pos (by simp)]
 rw [hn,a1,ay,(afq _).1,afp a3 (by omega),ay,if_pos (by simp),(afq _).1,afp hw hd,ay,ay,if_pos (by simp)]
 exact apB _ _ _ a3 hw (by omega)
theorem arf {e:aj} {env:List av} (h:e.bulk≤1099511627776) (hE:(env.map av.bulk).sum≤1048576):nD e env=some (wJ e env)∧GV (wJ e env) 9007199254740992:=by
 obtain ⟨s1,s2⟩:=uh hE
 obtain ⟨v1,v2⟩:=J9 (env:=env) (by omega) (fun d hd=>by have:=s2 d hd; omega)
 obtain ⟨x1,x2⟩:=Gf (e:=e) (by omega)
 unfold nD xQ wJ
 rw [v1,x1]
 simp only [ay]
 by_cases hv:qC env=0
 ·
  obtain ⟨w1,w2,w3⟩:=Jm hv
  have hEv:∀ x∈env,VV x.value∧x.value.bulk≤1048576:=fun x hx=>⟨(w1 x hx).1,(s2 x hx).2⟩
  have bv:(qC env != 0)=false:=by simpa using hv
  rw [if_neg (c:=qC env≠0) (by simpa using hv)]
  simp only [bv,Bool.false_eq_true,if_false]
  by_cases hx:xval e=0
  ·
   have hc:=M7 hx
   have hS:=Vj h hx
   have hW:WB=2199023255552:=rfl
   have hw:ecnt e * WB≤4096 * WB:=Nat.mul_le_mul_right _ hS.2
   have hg:=(Jl hEv e.bulk e 1 (Nat.le_refl _) hS hc).mono (M:=9007199254740992) (by omega)
   have bx:(xval e != 0)=false:=by simpa using hx
   rw [if_neg (c:=xval e≠0) (by simpa using hx)]
   simp only [bx,Bool.false_eq_true,if_false,dH,bne_self_eq_false]
   have p:=Wu (by omega) hEv e.bulk e 1 BIG (Nat.le_refl _) hS hc (by have:=j_; omega)
   refine ⟨?_,hg⟩
   unfold oL wX
   rw [p]
   unfold zL
   by_cases h0:(iJ env e).2=0
   ·
    rw [if_pos h0,jC,dH]
    obtain ⟨g1,g2⟩:=hg.1 h0
    rw [(JU g1.1 (by omega)).2,ay,←h0]
   ·
    rw [if_neg h0,N_,dH]
    have hz:=hg.2 h0
    have hc2:rT (ah.mk 0 false 0 ([]:Str) [] [])=some ZV:=(T_ (v:=ZV) (by rw [PS]; decide)).2
    rw [hc2,ay]
    generalize iJ env e=p at hz ⊢
    obtain ⟨v,c⟩:=p
    simp only at hz
    rw [hz]
  ·
   have bx:(xval e != 0)=true:=by simpa using hx
   rw [if_pos (c:=xval e≠0) hx]
   simp only [bx,if_true,dH]
   exact ⟨rfl,GV.er hx⟩
 ·
  have bv:(qC env != 0)=true:=by simpa using hv
  rw [if_pos (c:=qC env≠0) hv]
  simp only [bv,if_true,dH]
  exact ⟨rfl,GV.er hv⟩
theorem aow (e1:aj) (gY:List av) (ajY:List b_) (h:aj.bulk e1 + ((List.map (fun z:av=>(av.bulk z)) gY).sum + 1) + (b_.lZ ajY + 1)≤1048576):alN e1 gY ajY=some true:=by
 have hwl:ajY.length≤1048576:=by
  have:=Mj (l:=ajY) (f:=b_.bulk) (fun x=>by have:=x.iC; omega)
  rw [←b_.iN] at this
  omega
 have hE:(gY.map av.bulk).sum≤1048576:=by
  have h':(List.map (fun z:av=>(av.bulk z)) gY).sum≤1048576:=by omega
  exact h'
 obtain ⟨s1,s2⟩:=uh hE
 obtain ⟨v1,v2⟩:=J9 (env:=gY) (by omega) (fun d hd=>by have:=s2 d hd; omega)
 unfold alN
 rw [arJ (by omega),as0,v2]
 simp only [ay]
 by_cases hs:((decide ((ecnt e1:Int)≤5000)) && (decide ((gY.length:Int)≤300)))=true
 case neg=>
  rw [Bool.not_eq_true] at hs
  rw [hs]; rfl
 rw [hs]
 simp only [Bool.not_true,Bool.false_eq_true,if_false,ay]
 by_cases hv:qC gY=0
 case neg=>
  rw [if_pos (by simpa using hv)]
 rw [if_neg (by simpa using hv)]
 obtain ⟨w1,w2,w3⟩:=Jm hv
 obtain ⟨env,d1,d2⟩:=anN gY ajY w3 (by omega) (fun x hx=>⟨(w1 x hx).1,by have:=s2 x hx; omega⟩) BIG 0 [] (by have:=j_; omega) (by omega) rfl
 rw [List.drop_zero] at d2
 have d1':alL gY ajY=some env:=by unfold alL; simpa using d1
 rw [d1',ay]
 have el:=d2.len
 have en:=d2.name (N:=1048576) fun x hx=>(s2 x hx).1
 rcases aqr (e:=e1) (env:=env) (by omega) (by omega) (fun d hd=>by have:=en d hd; omega) with ⟨c,c0,c1,c2⟩ | ⟨T,w,d,c1,c2,c3,c4,c5⟩
 ·
  rw [c1,dH,if_pos (by simpa using c0)]
  rfl
 ·
  rw [c1,dH,if_neg (by simp)]
  obtain ⟨p,g⟩:=arf (e:=e1) (env:=gY) (by omega) hE
  have hc:=M7 c4
  have hSE:=Vj (e:=e1) (by omega) c4
  have e2:wJ e1 gY=iJ gY e1:=by unfold wJ; rw [if_neg (by simpa using hv),if_neg (by simpa using c4)]
  have hEv:∀ x∈gY,VV x.value∧x.value.bulk≤1048576:=fun x hx=>⟨(w1 x hx).1,(s2 x hx).2⟩
  obtain ⟨q1,q2,q3⟩:=aqG hEv d2 (by omega) e1.bulk e1 1 T (Nat.le_refl _) hSE hc c3 w d
  rw [p,mD,e2]
  rw [e2] at g
  by_cases h0:(iJ gY e1).2=0
  ·
   obtain ⟨g1,g2⟩:=g.1 h0
   rw [if_pos (by simpa using h0),as2 g1 (by omega) w d,ay]
   have:=q1 h0
   unfold afM at this
   rw [this]; rfl
  ·
   rw [if_neg (by simpa using h0)]
   have hW:=d2.W
   rw [ard (by omega) (by omega) hW hc c2]
   rcases q2 h0 with hh | hh | hh | hh | hh | hh | hh
   · rw [hh]; rfl
   · rw [hh]; rfl
   · rw [hh]; rfl
   ·
    have hst:akD env e1=false:=by
     cases hb:akD env e1 with
     | false=>rfl
     | true=>exact absurd hb (q3 hh)
    rw [hh,hst]; rfl
   · rw [hh]; rfl
   · rw [hh]; rfl
   · rw [hh]; rfl
end Go.Ft

