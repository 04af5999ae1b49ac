/- Proved here: plain facts on the functional texts. -/
import Derived.Test.YtggpjlegajicnaaGreatDoorCzPlain2
set_option linter.unusedVariables false
set_option linter.unusedSimpArgs false
set_option linter.unusedSectionVars false
set_option maxHeartbeats 2000000
namespace Go.Ft
open Go
attribute [local congr] dZ
theorem alr {a b:ah} {s t:Ty} {r:Bool} (hs:s.wf) (ht:t.wf) (ha:kU a s) (hb:kU b t) (hc:(((eB s && eB t) || (PG s t == 3)) || (PG s t == 4))=true):ni (MC a b r) (sc 2) (jI s=true∧jI t=true):=by
 unfold MC
 by_cases h:(a.kind=2∧b.kind=2)∨(a.kind=3∧b.kind=3)
 · rw [if_pos h]; exact ni.ok (xP rfl)
 ·
  rw [if_neg h]
  refine ni.nine fun hf=>h ?_
  have l1:=Ak ha hs hf.1
  have l2:=Ak hb ht hf.2
  rw [l1,l2] at hc
  simp only [Bool.and_self,Bool.false_or,Bool.or_eq_true,beq_iff_eq] at hc
  rcases hc with hc | hc
  ·
   obtain ⟨k1,k2⟩:=V6 l1 l2 (by omega) hc
   rw [DR hs k1 (by omega)] at ha
   rw [DR ht k2 (by omega)] at hb
   exact .inl ⟨rM (by omega) ha,rM (by omega) hb⟩
  ·
   obtain ⟨k1,k2⟩:=V6 l1 l2 (by omega) hc
   rw [DR hs k1 (by omega)] at ha
   rw [DR ht k2 (by omega)] at hb
   exact .inr ⟨rM (by omega) ha,rM (by omega) hb⟩
end Go.Ft

namespace Go.Ft
open Go
attribute [local congr] dZ
theorem Zo {a b:Ty} (ha:a.wf) (hb:b.wf):mF a (kZ a b)=true:=by
 have h:=Ms a b (kZ a b) ha hb (qw a b ha hb)
 rw [Gq] at h
 exact (Bool.and_eq_true _ _ ▸ h.symm).1
theorem V8 {a b:Ty} (ha:a.wf) (hb:b.wf):mF b (kZ a b)=true:=by
 have h:=Ms a b (kZ a b) ha hb (qw a b ha hb)
 rw [Gq] at h
 exact (Bool.and_eq_true _ _ ▸ h.symm).2
theorem aj2 {v:ah} {t:Ty} (hv:kU v t) (h4:v.kind=4) (ht:t.wf) (hk:eB t=true∨t.kind=5):(WA t).wf∧∀ x∈v.aO,kU x (WA t):=by
 cases t with
 | leaf k=>
  have hl:eB (.leaf k)=true:=by
   rcases hk with h | h
   · exact h
   · simp only [Ty.kind] at h; exact absurd h ht.2.2.1
  obtain ⟨e,h07⟩:=Dj ht hl
  rcases h07 with h0 | h7
  ·
   simp only [Ty.kind] at h0
   subst h0
   exact ⟨by simpa [WA] using ht,fun x _=>Rc x⟩
  · rw [e,h7] at hv; exact (Nc hv).elim
 | nest k s=>
  have h5:k=5:=by
   rcases hk with h | h
   · unfold eB at h; simp [Ty.kind] at h; have:=ht.1; omega
   · exact h
  subst h5
  exact ⟨by simpa [WA] using ht.2,by simpa [WA] using (JY h4 ht.2).1 hv⟩
theorem aeW {a b:Ty} (h:(eB a && eB b)=false) {k:Int} (hk:0≤k) (hx:PG a b=k):a.kind=k∧(eB b=true∨b.kind=k)∨b.kind=k∧(eB a=true∨a.kind=k):=by
 unfold PG at hx
 cases ha:eB a with
 | true=>rw [ha] at hx; exact .inr ⟨by simpa using hx,.inl rfl⟩
 | false=>
  rw [ha] at hx
  simp only [Bool.false_eq_true,if_false] at hx
  cases hb:eB b with
  | true=>rw [hb] at hx; exact .inl ⟨by simpa using hx,.inl rfl⟩
  | false=>
   rw [hb] at hx
   simp only [Bool.false_or,beq_iff_eq] at hx
   split at hx
   · rename_i e; exact .inl ⟨hx,.inr (e ▸ hx)⟩
   · omega
theorem alq {a b:ah} {s t:Ty} (hs:s.wf) (ht:t.wf) (ha:kU a s) (hb:kU b t) (ka:0≤a.kind∧a.kind≤5) (kb:0≤b.kind∧b.kind≤5) (hl:(eB s && eB t)=false) {k:Int} (hk:k=3∨k=4∨k=5) (hx:PG s t=k):
  ni (Ui a b) (if k=5 then .nest 5 (kZ (WA s) (WA t)) else sc k) (jI s=true∧jI t=true):=by
 have one:=aeW hl (by omega) hx
 have kind:∀ {v:ah} {u:Ty},u.wf→kU v u→(0≤v.kind∧v.kind≤5)→u.kind=k→v.kind=k - 1:=by
  intro v u hu hv kv hk2
  rcases hk with h | h | h
  · rw [DR hu hk2 (by omega)] at hv; exact rM (by omega) hv
  · rw [DR hu hk2 (by omega)] at hv; exact rM (by omega) hv
  ·
   cases u with
   | leaf x=>simp only [Ty.kind] at hk2; have:=hu.2.2.1; omega
   | nest x w=>simp only [Ty.kind] at hk2; exact (G9 kv hu.1 hv).trans (by rw [hk2])
 have hab:a.kind=k - 1∨b.kind=k - 1:=by
  rcases one with ⟨h,_⟩ | ⟨h,_⟩
  · exact .inl (kind hs ha ka h)
  · exact .inr (kind ht hb kb h)
 unfold Ui
 by_cases c1:a.kind=2∧b.kind=2
 ·
  have:k=3:=by omega
  subst this
  rw [if_pos c1,if_neg (by omega)]; exact Qx
 ·
  rw [if_neg c1]
  by_cases c2:a.kind=3∧b.kind=3
  ·
   have:k=4:=by omega
   subst this
   rw [if_pos c2,if_neg (c:=(4:Int)=5) (by omega)]
   split
   · exact ni.ok (JX rfl)
   · exact ni.code (by decide) (by unfold vL; omega) (by decide)
  ·
   rw [if_neg c2]
   by_cases c3:a.kind=4∧b.kind=4
   ·
    have:k=5:=by omega
    subst this
    rw [if_pos c3,if_pos (c:=(5:Int)=5) rfl]
    split
    ·
     have hks:eB s=true∨s.kind=5:=by rcases one with ⟨h,_⟩ | ⟨_,h⟩; exact .inr h; exact h
     have hkt:eB t=true∨t.kind=5:=by rcases one with ⟨_,h⟩ | ⟨h,_⟩; exact h; exact .inr h
     obtain ⟨w1,e1⟩:=aj2 ha c3.1 hs hks
     obtain ⟨w2,e2⟩:=aj2 hb c3.2 ht hkt
     have wj:=qw _ _ w1 w2
     refine ni.ok ((JY (v:=F9 (a.aO ++ b.aO)) rfl wj).2 fun x hx'=>?_)
     rcases List.mem_append.1 hx' with h | h
     · exact PO w1 wj (e1 x h) (Zo w1 w2)
     · exact PO w2 wj (e2 x h) (V8 w1 w2)
    · exact ni.code (by decide) (by unfold vL; omega) (by decide)
   ·
    rw [if_neg c3]
    refine ni.nine fun hf=>?_
    have l1:=Ak ha hs hf.1
    have l2:=Ak hb ht hf.2
    obtain ⟨k1,k2⟩:=V6 l1 l2 (by omega) hx
    have m1:=kind hs ha ka k1
    have m2:=kind ht hb kb k2
    omega
end Go.Ft

namespace Go.Ft
open Go
attribute [local congr] dZ
theorem al6 {v:ah} {k:Int} {t:Ty} (h0:0≤v.kind∧v.kind≤5) (hk:k=5∨k=6) (ht:t.wf) (hv:kU v (.nest k t)):∀ x∈v.aO,kU x t:=by
 have hkk:=G9 h0 hk hv
 rcases hk with h | h
 · subst h; exact (JY (by omega) ht).1 hv
 · subst h; exact (agr (by omega) ht).1 hv
def partT :Ty→Ty
 | .leaf k=>.leaf k
 | .nest _ t=>t
theorem ajx {v:ah} {t:Ty} (ht:t.wf) (hv:kU v t) (h0:0≤v.kind∧v.kind≤5) (hk:eB t=true∨t.kind=5∨t.kind=6):∀ x∈v.aO,kU x (partT t):=by
 cases t with
 | leaf k=>
  have hl:eB (.leaf k)=true:=by
   rcases hk with h | h | h
   · exact h
   · simp only [Ty.kind] at h; exact absurd h ht.2.2.1
   · simp only [Ty.kind] at h; exact absurd h ht.2.2.2
  obtain ⟨e,h07⟩:=Dj ht hl
  rcases h07 with h | h
  · simp only [Ty.kind] at h; subst h; exact fun x _=>Rc x
  · rw [e,h] at hv; exact (Nc hv).elim
 | nest k s=>exact al6 h0 ht.1 ht.2 hv
theorem agc {o:Option ah} {T:Ty} {F:Prop} (h:∀ x,o=some x→kU x T):ni (okO o 8) T F:=by
 cases o with
 | none=>exact ni.code (by decide) (by unfold vL; omega) (by decide)
 | some x=>exact ni.ok (h x rfl)
theorem afZ {a b:ah} {s:Ty} {F:Prop} (hs:s.wf) (ha:kU a s) (ka:0≤a.kind∧a.kind≤5) (hk:eB s=true∨s.kind=5∨s.kind=6) (h9:F→(a.kind=4∧b.kind=2)∨(a.kind=5∧b.kind=3)):ni (QY a b) (partT s) F:=by
 have hp:=ajx hs ha ka hk
 unfold QY
 by_cases c1:a.kind=4∧b.kind=2
 ·
  rw [if_pos c1]
  split
  · exact agc fun x hx=>hp x (List.mem_of_getElem? hx)
  · exact ni.code (by decide) (by unfold vL; omega) (by decide)
 ·
  rw [if_neg c1]
  by_cases c2:a.kind=5∧b.kind=3
  ·
   rw [if_pos c2]
   refine agc fun x hx=>hp x ?_
   unfold Q5 at hx
   rw [if_pos c2.1] at hx
   exact Wo hx
  ·
   rw [if_neg c2]
   exact ni.nine fun hF=>by rcases h9 hF with h | h; exact c1 h; exact c2 h
end Go.Ft

namespace Go.Ft
open Go
attribute [local congr] dZ
theorem YS :∀ (l:List Ty) (t c:Ty),t.wf→c.wf→(∀ x∈l,x.wf)→mF (A9 t l) c=(mF t c && l.all fun x=>mF x c)
 | [],t,c,_,_,_=>by rw [A9]; simp
 | x :: r,t,c,ht,hc,h=>by
  have hx:=h x (by simp)
  rw [A9,YS r _ c (qw t x ht hx) hc (fun y hy=>h y (by simp [hy])),Ms t x c ht hx hc,List.all_cons,Bool.and_assoc]
theorem JW :∀ (l:List Ty) (t:Ty),t.wf→(∀ x∈l,x.wf)→(A9 t l).wf
 | [],t,h,_=>by rw [A9]; exact h
 | x :: r,t,h,hl=>by rw [A9]; exact JW r _ (qw t x h (hl x (by simp))) fun y hy=>hl y (by simp [hy])
theorem adW {l:List Ty} (h:∀ x∈l,x.wf):∀ x∈l,mF x (A9 (sc 7) l)=true:=by
 have w:=JW l (sc 7) (Y5 (by omega)) h
 have e:=YS l (sc 7) (A9 (sc 7) l) (Y5 (by omega)) w h
 rw [Gq,Ed] at e
 simp only [Bool.true_and] at e
 exact List.all_eq_true.1 e.symm
def fits (vs:List ah) (ts:List Ty):Prop:=vs.length=ts.length∧∀ i (h1:i < vs.length) (h2:i < ts.length),kU vs[i] ts[i]
theorem Zu {vs:List ah} {ts:List Ty} (h:fits vs ts) (hw:∀ x∈ts,x.wf):∀ v∈vs,kU v (A9 (sc 7) ts):=by
 intro v hv
 obtain ⟨i,hi,rfl⟩:=List.getElem_of_mem hv
 have h2:i < ts.length:=by rw [←h.1]; exact hi
 exact PO (hw _ (List.getElem_mem h2)) (JW ts (sc 7) (Y5 (by omega)) hw) (h.2 i hi h2) (adW hw _ (List.getElem_mem h2))
theorem aiR {vs:List ah} {ts:List Ty} {F:Prop} (h:fits vs ts) (hw:∀ x∈ts,x.wf):ni (if zU (F9 vs)≤16 then okV (F9 vs) else vJ 13) (.nest 5 (A9 (sc 7) ts)) F:=by
 split
 · exact ni.ok ((JY (v:=F9 vs) rfl (JW ts (sc 7) (Y5 (by omega)) hw)).2 (Zu h hw))
 · exact ni.code (by decide) (by unfold vL; omega) (by decide)
theorem ni.up {p:ah × Int} {S T:Ty} {F G:Prop} (hs:S.wf) (ht:T.wf) (h:ni p S F) (hst:mF S T=true) (hF:G→F):ni p T G:=
 ⟨fun h0=>PO hs ht (h.1 h0) hst,h.2.1,fun h9 hg=>h.2.2 h9 (hF hg)⟩
theorem ni.err {p:ah × Int} {S T:Ty} {F G:Prop} (h:ni p S F) (h0:p.2≠0) (hF:G→F):ni (vJ p.2) T G:=
 ni.er h0 (h.2.1 h0) fun h9 hg=>h.2.2 h9 (hF hg)
theorem aiV {a b c:ah × Int} {s t u:Ty} {F1 F2 F3:Prop} (hs:s.wf) (ht:t.wf) (hu:u.wf) (ha:ni a s F1) (hb:ni b t F2) (hc:ni c u F3) (hk:eF s (sc 2)=true):
  ni (Zz a b c) (kZ t u) ((F1∧jI s=true)∧F2∧F3):=by
 unfold Zz
 by_cases h0:a.2=0
 ·
  rw [if_neg (by simpa using h0)]
  by_cases h1:a.1.kind=1
  ·
   rw [if_neg (by simpa using h1)]
   split
   · exact hb.up ht (qw t u ht hu) (Zo ht hu) fun h=>h.2.1
   · exact hc.up hu (qw t u ht hu) (V8 ht hu) fun h=>h.2.2
  ·
   rw [if_pos (by simpa using h1)]
   exact ni.nine fun hf=>h1 (by have:=lq hs (ha.1 h0) hk (by omega) hf.1.2; omega)
 ·
  rw [if_pos (by simpa using h0)]
  exact ha.err h0 fun h=>h.1.1
theorem aiW {b:ah × Int} {t:Ty} {F:Prop} (ht:t.wf) (hb:ni b t F) (hk:eF t (sc 2)=true):ni (Ka b) (sc 2) (F∧jI t=true):=by
 unfold Ka
 by_cases h0:b.2=0
 ·
  rw [if_neg (by simpa using h0)]
  by_cases h1:b.1.kind=1
  ·
   rw [if_neg (by simpa using h1)]
   exact ⟨fun _=>xP h1,fun h=>absurd h0 h,fun h=>by rw [h0] at h; cases h⟩
  ·
   rw [if_pos (by simpa using h1)]
   exact ni.nine fun hf=>h1 (by have:=lq ht (hb.1 h0) hk (by omega) hf.2; omega)
 ·
  rw [if_pos (by simpa using h0)]
  exact hb.err h0 fun h=>h.1
theorem ag1 {n:Str} {a b:ah × Int} {s t:Ty} {F1 F2:Prop} (hs:s.wf) (ht:t.wf) (ha:ni a s F1) (hb:ni b t F2) (h1:eF s (sc 2)=true) (h2:eF t (sc 2)=true):
  ni (Mw n a b) (sc 2) ((F1∧jI s=true)∧F2∧jI t=true):=by
 unfold Mw
 by_cases h0:a.2=0
 ·
  rw [if_neg (by simpa using h0)]
  by_cases hk:a.1.kind=1
  ·
   rw [if_neg (by simpa using hk)]
   split
   · exact ⟨fun _=>xP hk,fun h=>absurd h0 h,fun h=>by rw [h0] at h; cases h⟩
   · exact (aiW ht hb h2).up (Y5 (by omega)) (Y5 (by omega)) (Gq _) fun h=>h.2
  ·
   rw [if_pos (by simpa using hk)]
   exact ni.nine fun hf=>hk (by have:=lq hs (ha.1 h0) h1 (by omega) hf.1.2; omega)
 ·
  rw [if_pos (by simpa using h0)]
  exact ha.err h0 fun h=>h.1.1
end Go.Ft

namespace Go.Ft
open Go
attribute [local congr] dZ
theorem JV {v:ah} {t:Ty} {k:Int} (ht:t.wf) (hv:kU v t) (kv:0≤v.kind∧v.kind≤5) (hk:k=5∨k=6) (hc:eF t (.nest k (sc 0))=true) (hf:jI t=true):v.kind=k - 1:=by
 have w:(Ty.nest k (sc 0)).wf:=⟨hk,Y5 (by omega)⟩
 exact G9 kv hk (PO ht w hv (Q8 ht w hf hc))
theorem aly {v:ah} {t:Ty} (ht:t.wf) (hv:kU v t) (kv:0≤v.kind∧v.kind≤5) (hc:eF t (sc 4)=true∨eF t (.nest 5 (sc 0))=true∨eF t (.nest 6 (sc 0))=true):ni (LX [108,101,110] v) (sc 3) (jI t=true):=by
 unfold LX
 rw [if_pos rfl]
 by_cases h:v.kind=3∨v.kind=4∨v.kind=5
 · rw [if_pos h]; exact ni.ok (Rb rfl)
 ·
  rw [if_neg h]
  refine ni.nine fun hf=>h ?_
  rcases hc with hc | hc | hc
  · have:=lq ht hv hc (by omega) hf; omega
  · have:=JV ht hv kv (.inl rfl) hc hf; omega
  · have:=JV ht hv kv (.inr rfl) hc hf; omega
theorem Zv (l:List Str):kU (F9 (l.map mkS)) (.nest 5 (sc 4)):=by
 refine (JY (v:=F9 (l.map mkS)) rfl (Y5 (by omega))).2 fun x hx=>?_
 obtain ⟨s,_,rfl⟩:=List.mem_map.1 hx
 exact JX rfl
theorem aiS {v:ah} {t:Ty} (ht:t.wf) (hv:kU v t) (kv:0≤v.kind∧v.kind≤5) (hc:eF t (.nest 6 (sc 0))=true):ni (LX [107,101,121,115] v) (.nest 5 (sc 4)) (jI t=true):=by
 unfold LX
 rw [if_neg (by decide),if_pos rfl]
 by_cases h:v.kind=5
 · rw [if_pos h]; exact ni.ok (Zv _)
 · rw [if_neg h]; exact ni.nine fun hf=>h (by have:=JV ht hv kv (.inr rfl) hc hf; omega)
theorem aer {v:ah} {t:Ty} (ht:t.wf) (hv:kU v t) (hc:t.kind≠5∧t.kind≠6):ni (LX [115,116,114,105,110,103] v) (sc 4) (jI t=true):=by
 unfold LX
 rw [if_neg (by decide),if_neg (by decide),if_pos rfl]
 by_cases h:v.kind=4∨v.kind=5
 ·
  rw [if_pos h]
  refine ni.nine fun hf=>?_
  have hl:=Ak hv ht hf
  cases t with
  | leaf k=>
   unfold eB at hl
   simp only [Ty.kind,Bool.or_eq_false_iff,beq_eq_false_iff_ne] at hl
   have:=rM (v:=v) (k:=k) (by have:=ht.1; have:=ht.2.1; have:=ht.2.2; omega) hv
   have:=ht.2; omega
  | nest k s=>have:=ht.1; simp only [Ty.kind] at hc; omega
 · rw [if_neg h]; exact ni.ok (JX rfl)
theorem acd {n:Str} {v:ah} {t:Ty} (ht:t.wf) (hv:kU v t) (hc:eF t (sc 4)=true) (hn:n=[108,111,119,101,114]∨n=[117,112,112,101,114]):ni (LX n v) (sc 4) (jI t=true):=by
 unfold LX
 have n1:n≠[108,101,110]:=by rcases hn with rfl | rfl <;> decide
 have n2:n≠[107,101,121,115]:=by rcases hn with rfl | rfl <;> decide
 have n3:n≠[115,116,114,105,110,103]:=by rcases hn with rfl | rfl <;> decide
 rw [if_neg n1,if_neg n2,if_neg n3]
 by_cases h:v.kind=3
 ·
  rw [if_neg (by simpa using h)]
  rcases hn with rfl | rfl
  · rw [if_pos rfl]; exact ni.ok (JX rfl)
  · rw [if_neg (by decide),if_pos rfl]; exact ni.ok (JX rfl)
 · rw [if_pos h]; exact ni.nine fun hf=>h (by have:=lq ht hv hc (by omega) hf; omega)
theorem aes {v:ah} {t:Ty} (ht:t.wf) (hv:kU v t) (hc:eF t (sc 4)=true):ni (LX [105,110,116] v) (sc 3) (jI t=true):=by
 unfold LX
 rw [if_neg (by decide),if_neg (by decide),if_neg (by decide)]
 by_cases h:v.kind=3
 ·
  rw [if_neg (by simpa using h),if_neg (by decide),if_neg (by decide)]
  unfold ahk
  split
  · exact ni.ok (Rb rfl)
  · exact ni.code (by decide) (by unfold vL; omega) (by decide)
 · rw [if_pos h]; exact ni.nine fun hf=>h (by have:=lq ht hv hc (by omega) hf; omega)
end Go.Ft

namespace Go.Ft
open Go
attribute [local congr] dZ
theorem aam {a b:ah} {s t:Ty} (hs:s.wf) (ht:t.wf) (ha:kU a s) (hb:kU b t) (ka:0≤a.kind∧a.kind≤5)
  (hc:eF s (.nest 5 (sc 0))=true∨(eF t (sc 4)=true∧(eF s (sc 4)=true∨eF s (.nest 6 (sc 0))=true))):ni (Rp a b) (sc 2) (jI s=true∧jI t=true):=by
 unfold Rp
 by_cases c1:a.kind=4
 · rw [if_pos c1]; exact ni.ok (xP rfl)
 ·
  rw [if_neg c1]
  by_cases c2:a.kind=3∧b.kind=3
  · rw [if_pos c2]; exact ni.ok (xP rfl)
  ·
   rw [if_neg c2]
   by_cases c3:a.kind=5∧b.kind=3
   · rw [if_pos c3]; exact ni.ok (xP rfl)
   ·
    rw [if_neg c3]
    refine ni.nine fun hf=>?_
    rcases hc with hc | ⟨h1,hc | hc⟩
    · have:=JV hs ha ka (.inl rfl) hc hf.1; omega
    ·
     have:=lq hs ha hc (by omega) hf.1
     have:=lq ht hb h1 (by omega) hf.2; omega
    ·
     have:=JV hs ha ka (.inr rfl) hc hf.1
     have:=lq ht hb h1 (by omega) hf.2; omega
theorem aiT {a b:ah} {s t:Ty} (hs:s.wf) (ht:t.wf) (ha:kU a s) (hb:kU b t) (ka:0≤a.kind∧a.kind≤5) (h1:eF s (.nest 5 (sc 4))=true) (h2:eF t (sc 4)=true):ni (QW a b) (sc 4) (jI s=true∧jI t=true):=by
 have w:(Ty.nest 5 (sc 4)).wf:=⟨.inl rfl,Y5 (by omega)⟩
 have key:jI s=true∧jI t=true→a.kind=4∧b.kind=3∧(a.aO.all fun x=>x.kind == 3)=true:=by
  intro hf
  have hfit:=PO hs w ha (Q8 hs w hf.1 h1)
  have k4:a.kind=4:=G9 ka (.inl rfl) hfit
  refine ⟨k4,by have:=lq ht hb h2 (by omega) hf.2; omega,List.all_eq_true.2 fun x hx=>?_⟩
  have:=rM (by omega) ((JY k4 (Y5 (by omega))).1 hfit x hx)
  simpa using this
 unfold QW
 by_cases c1:a.kind=4∧b.kind=3
 ·
  rw [if_pos c1]
  by_cases c2:(a.aO.all fun x=>x.kind == 3)=true
  ·
   rw [if_pos c2]
   split
   · exact ni.ok (JX rfl)
   · exact ni.code (by decide) (by unfold vL; omega) (by decide)
  · rw [if_neg c2]; exact ni.nine fun hf=>c2 (key hf).2.2
 · rw [if_neg c1]; exact ni.nine fun hf=>c1 ⟨(key hf).1,(key hf).2.1⟩
theorem ag0 {s t:Str} {F:Prop}:ni (aal s t) (.nest 5 (sc 4)) F:=by
 unfold aal
 split
 · exact ni.code (by decide) (by unfold vL; omega) (by decide)
 ·
  split
  · exact ni.ok (Zv _)
  · exact ni.code (by decide) (by unfold vL; omega) (by decide)
theorem ab_ {a b:ah} {s t:Ty} {F:Prop} (hs:s.wf) (ha:kU a s) (hb:kU b t):ni (if a.kind=0 then okV b else okV a) (if s.kind=1 then t else s) F:=by
 by_cases h0:a.kind=0
 ·
  rw [if_pos h0]
  by_cases h1:s.kind=1
  · rw [if_pos h1]; exact ni.ok hb
  ·
   rw [if_neg h1]
   have e:Qi a=sc 1:=by rw [GJ,if_pos h0]
   have hsub:mF (sc 1) s=true:=by have:=ha; unfold kU at this; rwa [e] at this
   have:s=sc 0:=by
    cases s with
    | leaf k=>
     simp only [sc,mF,Bool.or_eq_true,beq_iff_eq] at hsub
     simp only [Ty.kind] at h1
     have:k=0:=by omega
     subst this; rfl
    | nest k u=>simp only [sc,mF,beq_iff_eq] at hsub; omega
   rw [this]; exact ni.ok (Rc b)
 ·
  rw [if_neg h0]
  by_cases h1:s.kind=1
  ·
   rw [DR hs h1 (by omega)] at ha
   have:=rM (by omega) ha
   omega
  · rw [if_neg h1]; exact ni.ok ha
end Go.Ft

namespace Go.Ft
open Go
attribute [local congr] dZ
theorem YF :∀ {ks:List Str} {vs:List ah} {x:aA},x∈List.zipWith aA.mk ks vs→x.value∈vs
 | [],_,_,h=>by simp at h
 | _ :: _,[],_,h=>by simp at h
 | k :: ks,v :: vs,x,h=>by
  rw [List.zipWith_cons_cons,List.mem_cons] at h
  rcases h with rfl | h
  · simp
  · exact List.mem_cons_of_mem _ (YF h)
theorem alx {keys:List Str} {vs:List ah} {ts:List Ty} {F:Prop} (h:fits vs ts) (hw:∀ x∈ts,x.wf):ni (X3 (List.zipWith aA.mk keys vs)) (.nest 6 (A9 (sc 7) ts)) F:=by
 unfold X3
 split
 · exact ni.code (c:=13) (by decide) (by unfold vL; omega) (by decide)
 ·
  refine ni.ok ((agr (v:=Au (lu (List.zipWith aA.mk keys vs))) rfl (JW ts (sc 7) (Y5 (by omega)) hw)).2 fun x hx=>?_)
  obtain ⟨y,hy,rfl⟩:=List.mem_map.1 hx
  exact Zu h hw _ (YF ((vw _).mem_iff.1 hy))
theorem aiU {a b:ah} {op:Str} {F:Prop} (h:op=[61,61]∨op=[33,61]):ni (Cu op a b) (sc 2) F:=by
 unfold Cu
 rcases h with rfl | rfl
 · rw [if_pos rfl]; exact ni.ok (xP rfl)
 · rw [if_neg (by decide),if_pos rfl]; exact ni.ok (xP rfl)
theorem ab9 {a b:ah} {s t:Ty} {r:Bool} (hs:s.wf) (ht:t.wf) (ha:kU a s) (hb:kU b t) (h1:eF s (sc 4)=true) (h2:eF t (sc 4)=true):ni (if ¬ (a.kind=3∧b.kind=3) then vJ 9 else okV (VW r)) (sc 2) (jI s=true∧jI t=true):=by
 by_cases c:a.kind=3∧b.kind=3
 · rw [if_neg (by simpa using c)]; exact ni.ok (xP rfl)
 ·
  rw [if_pos c]
  exact ni.nine fun hf=>c ⟨by have:=lq hs ha h1 (by omega) hf.1; omega,by have:=lq ht hb h2 (by omega) hf.2; omega⟩
end Go.Ft

namespace Go.Ft
open Go
attribute [local congr] dZ
theorem UZ :∀ {a b:Ty},a.api=b.api→a=b
 | .leaf a,.leaf b,h=>by simp only [Ty.api,ak.mk.injEq] at h; rw [h.1]
 | .leaf a,.nest b t,h=>by simp [Ty.api] at h
 | .nest a s,.leaf b,h=>by simp [Ty.api] at h
 | .nest a s,.nest b t,h=>by
  simp only [Ty.api,ak.mk.injEq,List.cons.injEq,and_true] at h
  rw [h.1,UZ h.2]
theorem zR {a b:Ty} {p:Bool} {x:Option (ak × Bool)} (h:x=some (a.api,p)) (hx:x=some (b.api,true)):b=a∧p=true:=by
 rw [h] at hx
 simp only [Option.some.injEq,Prod.mk.injEq] at hx
 exact ⟨UZ hx.1.symm,hx.2⟩
theorem arl {t T:Ty} (h:t.wf) {e:aj} (he:e.kind=3) (hn:gN e [t.api]=some (T.api,true)):T=partT t∧(eB t=true∨t.kind=6):=by
 have i0:idx [t.api] 0=some t.api:=rfl
 unfold gN at hn
 simp only [he,i0,ay,(kR t).2,Ty.oG] at hn
 cases t with
 | leaf k=>
  have h6:(k == 6)=false:=by simp; exact h.2.2.2
  obtain ⟨q1,q2⟩:=zR (a:=.leaf k) (p:=eB (.leaf k)) (by simp [Ty.kind,h6]) hn
  exact ⟨q1,.inl q2⟩
 | nest k s=>
  have hl:eB (.nest k s)=false:=by unfold eB; simp [Ty.kind]; rcases h.1 with h | h <;> omega
  by_cases h6:k=6
  ·
   subst h6
   obtain ⟨q1,q2⟩:=zR (a:=s) (p:=true) (by simp [Ty.kind,Ty.api,idx]) hn
   exact ⟨q1,.inr rfl⟩
  ·
   obtain ⟨q1,q2⟩:=zR (a:=.nest k s) (p:=false) (by simp [Ty.kind,h6,hl]) hn
   cases q2
theorem ark {t i T:Ty} (h:t.wf) (hi:i.wf) (hid:i.dep≤16) {e:aj} (he:e.kind=4) (hn:gN e [t.api,i.api]=some (T.api,true)):
  T=partT t∧((t.kind=5∧eF i (sc 3)=true)∨(t.kind=6∧eF i (sc 4)=true)∨eB t=true):=by
 have i0:idx [t.api,i.api] 0=some t.api:=rfl
 have i1:idx [t.api,i.api] 1=some i.api:=rfl
 unfold gN JF at hn
 simp only [he,i0,i1,ay,(kR t).2,Ty.oG,qO hi (by omega) (vK (k:=3) (by omega)),qO hi (by omega) (vK (k:=4) (by omega))] at hn
 generalize eF i (sc 3)=n3 at *
 generalize eF i (sc 4)=n4 at *
 cases t with
 | leaf k=>
  have h5:(k == 5)=false:=by simp; exact h.2.2.1
  have h6:(k == 6)=false:=by simp; exact h.2.2.2
  obtain ⟨q1,q2⟩:=zR (a:=.leaf k) (p:=eB (.leaf k) && (n3 || n4)) (by
   simp only [Ty.kind,h5,h6,Bool.false_eq_true,if_false]
   cases eB (.leaf k) <;> cases n3 <;> cases n4 <;> simp) hn
  simp only [Bool.and_eq_true] at q2
  exact ⟨q1,.inr (.inr q2.1)⟩
 | nest k s=>
  rcases h.1 with h5 | h6
  ·
   subst h5
   obtain ⟨q1,q2⟩:=zR (a:=s) (p:=n3) (by simp [Ty.kind,Ty.api,idx]) hn
   exact ⟨q1,.inl ⟨rfl,q2⟩⟩
  ·
   subst h6
   obtain ⟨q1,q2⟩:=zR (a:=s) (p:=n4) (by simp [Ty.kind,Ty.api,idx]) hn
   exact ⟨q1,.inr (.inl ⟨rfl,q2⟩)⟩
theorem arj {t T:Ty} (h:t.wf) (hd:t.dep≤16) {e:aj} (he:e.kind=6) (hn:gN e [t.api]=some (T.api,true)):T=(if e.name=[33] then sc 2 else sc 3)∧eF t T=true:=by
 have i0:idx [t.api] 0=some t.api:=rfl
 unfold gN at hn
 simp only [he,i0,ay,(of_eq _).2.1,qO h (by omega) (vK (k:=3) (by omega)),qO h (by omega) (vK (k:=2) (by omega))] at hn
 by_cases hop:e.name=[33]
 ·
  obtain ⟨q1,q2⟩:=zR (a:=sc 2) (p:=eF t (sc 2)) (by simp [hop]) hn
  rw [if_pos hop,q1]; exact ⟨rfl,q2⟩
 ·
  obtain ⟨q1,q2⟩:=zR (a:=sc 3) (p:=eF t (sc 3)) (by simp [hop]) hn
  rw [if_neg hop,q1]; exact ⟨rfl,q2⟩
theorem ari {a b c T:Ty} (ha:a.wf) (had:a.dep≤16) (hb:b.wf) (hbd:b.dep≤16) (hc:c.wf) (hcd:c.dep≤16) {e:aj} (he:e.kind=8) (hn:gN e [a.api,b.api,c.api]=some (T.api,true)):T=kZ b c∧eF a (sc 2)=true:=by
 have i0:idx [a.api,b.api,c.api] 0=some a.api:=rfl
 have i1:idx [a.api,b.api,c.api] 1=some b.api:=rfl
 have i2:idx [a.api,b.api,c.api] 2=some c.api:=rfl
 have j:=Lg hb hc hbd hcd
 refine zR (a:=kZ b c) (p:=eF a (sc 2)) ?_ hn
 unfold gN
 simp [he,i0,i1,i2,j.2,qO ha (by omega) (vK (k:=2) (by omega))]
theorem ap6 {a b T:Ty} {e:aj} (he:e.kind=7) (hn:gN e [a.api,b.api]=some (T.api,true)):nJ e.name a.api b.api=some (T.api,true):=by
 have Wh:gN e [a.api,b.api]=nJ e.name a.api b.api:=by unfold gN; simp [he,idx]
 rwa [Wh] at hn
theorem aoW {a b:Ty} (ha:a.wf) (had:a.dep≤16) (hb:b.wf) (hbd:b.dep≤16) {op:Str} (h:op=[38,38]∨op=[124,124]):nJ op a.api b.api=some ((sc 2).api,eF a (sc 2) && eF b (sc 2)):=by
 have e:nJ op a.api b.api=(au (gL 2) fun x1=>au (ig a.api 2) fun x2=>au (if x2 then ig b.api 2 else some false) fun b2=>some (x1,b2)):=by rcases h with rfl | rfl <;> rfl
 rw [e,qO ha (by omega) (vK (k:=2) (by omega)),qO hb (by omega) (vK (k:=2) (by omega)),(of_eq 2).2.1]
 simp only [ay,yZ]
theorem aoX {a b:Ty} (ha:a.wf) (had:a.dep≤16) (hb:b.wf) (hbd:b.dep≤16) {op:Str} (h:op=[45]∨op=[42]∨op=[47]∨op=[37]):nJ op a.api b.api=some ((sc 3).api,eF a (sc 3) && eF b (sc 3)):=by
 have e:nJ op a.api b.api=(au (gL 3) fun x1=>au (ig a.api 3) fun x2=>au (if x2 then ig b.api 3 else some false) fun b2=>some (x1,b2)):=by rcases h with rfl | rfl | rfl | rfl <;> rfl
 rw [e,qO ha (by omega) (vK (k:=3) (by omega)),qO hb (by omega) (vK (k:=3) (by omega)),(of_eq 3).2.1]
 simp only [ay,yZ]
theorem akw {a b:Ty} {op:Str} (h:op=[61,61]∨op=[33,61]):nJ op a.api b.api=some ((sc 2).api,true):=by rcases h with rfl | rfl <;> rfl
theorem amn {a b:Ty} {op:Str} (h:op=[60]∨op=[60,61]∨op=[62]∨op=[62,61]):nJ op a.api b.api=some ((sc 2).api,((eB a && eB b) || (PG a b == 3)) || (PG a b == 4)):=by
 have e:nJ op a.api b.api=(au (rD a.api b.api) fun rV=>au (gL 2) fun x9=>au (iI a.api) fun wS=>au (if wS then iI b.api else some false) fun b4=>some (x9,((b4 || (rV == 3)) || (rV == 4)))):=by rcases h with rfl | rfl | rfl | rfl <;> rfl
 rw [e,(kR a).2,(kR b).2,Kq,(of_eq 2).2.1]
 simp only [ay,yZ]
theorem alk {a b T:Ty} (ha:a.wf) (had:a.dep≤16) (hb:b.wf) (hbd:b.dep≤16) (hn:Ir a.api b.api=some (T.api,true)):
  ((eB a && eB b)=true∧T=(if a.kind=0 then a else b))∨((eB a && eB b)=false∧∃ k,(k=3∨k=4∨k=5)∧PG a b=k∧T=if k=5 then .nest 5 (kZ (WA a) (WA b)) else sc k):=by
 unfold Ir at hn
 rw [(kR a).2,(kR b).2,Ty.oG] at hn
 simp only [ay,yZ] at hn
 cases hl:(eB a && eB b) with
 | true=>
  left
  refine ⟨rfl,?_⟩
  rw [hl] at hn
  by_cases h0:a.kind=0
  ·
   rw [if_pos h0]
   exact (zR (a:=a) (p:=true) (by simp [h0]) hn).1
  ·
   rw [if_neg h0]
   exact (zR (a:=b) (p:=true) (by simp [h0]) hn).1
 | false=>
  right
  refine ⟨rfl,?_⟩
  rw [hl] at hn
  simp only [Bool.false_eq_true,if_false,Kq,ay] at hn
  by_cases k5:PG a b=5
  ·
   have ea:eB a=true∨a.kind=5:=by
    rcases aeW hl (by omega) k5 with ⟨h,_⟩ | ⟨_,h⟩
    · exact .inr h
    · exact h
   have eb:eB b=true∨b.kind=5:=by
    rcases aeW hl (by omega) k5 with ⟨_,h⟩ | ⟨h,_⟩
    · exact h
    · exact .inr h
   obtain ⟨x1,x2,x3,x4⟩:=agw ea ha had
   obtain ⟨y1,y2,y3,y4⟩:=agw eb hb hbd
   have j:=Lg x3 y3 (by omega) (by omega)
   obtain ⟨q1,q2⟩:=zR (a:=.nest 5 (kZ (WA a) (WA b))) (p:=true) (by simp [k5,x2,y2,j.2,kP,Ty.api]) hn
   exact ⟨5,by omega,k5,by rw [if_pos rfl]; exact q1⟩
  ·
   obtain ⟨q1,q2⟩:=zR (a:=sc (PG a b)) (p:=(PG a b == 3) || (PG a b == 4)) (by simp [k5,gL,kH,sc,Ty.api]) hn
   simp only [Bool.or_eq_true,beq_iff_eq] at q2
   exact ⟨PG a b,by omega,rfl,by rw [if_neg k5]; exact q1⟩
theorem anx {a:Ty} (h:a.wf) (hd:a.dep≤16):gY [108,101,110] [a.api]=some ((sc 3).api,eF a (sc 4) || eF a (.nest 5 (sc 0)) || eF a (.nest 6 (sc 0))):=by
 have i4:=qO h (by omega) (vK (k:=4) (by omega))
 have l5:=(nP h (wL (k:=5) (j:=0) (by omega) (by omega)).1 (by omega)).2
 have l6:=(nP h (wL (k:=6) (j:=0) (by omega) (by omega)).1 (by omega)).2
 rw [show gY [108,101,110] [a.api]=au (ig a.api 4) fun x3=>au (if x3 then some true else fV a.api (Ty.nest 5 (sc 0)).api) fun b1=>au (if b1 then some true else fV a.api (Ty.nest 6 (sc 0)).api) fun b2=>some ((sc 3).api,b2) from rfl,i4,l5,l6]
 simp only [ay,aaO]
theorem Vw {name:Str} {X a:Ty} (h:a.wf) (hd:a.dep≤16) (hr:gY name [a.api]=au (ig a.api 4) fun b=>some (X.api,b)):gY name [a.api]=some (X.api,eF a (sc 4)):=by
 rw [hr,qO h (by omega) (vK (k:=4) (by omega))]; rfl
theorem ahc (a:Ty):gY [115,116,114,105,110,103] [a.api]=some ((sc 4).api,(a.kind != 5) && (a.kind != 6)):=by
 rw [show gY [115,116,114,105,110,103] [a.api]=au (if a.api.kind != 5 then some (a.api.kind != 6) else some false) fun b10=>some ((sc 4).api,b10) from rfl,Ty.oG]
 cases (a.kind != 5) <;> rfl
theorem alF {a:Ty} (h:a.wf) (hd:a.dep≤16):gY [107,101,121,115] [a.api]=some ((Ty.nest 5 (sc 4)).api,eF a (.nest 6 (sc 0))):=by
 have l6:=(nP h (wL (k:=6) (j:=0) (by omega) (by omega)).1 (by omega)).2
 rw [show gY [107,101,121,115] [a.api]=au (fV a.api (Ty.nest 6 (sc 0)).api) fun x33=>some ((Ty.nest 5 (sc 4)).api,x33) from rfl,l6]
 rfl
theorem acv {a b:Ty} (h:a.wf) (hd:a.dep≤16) (hb:b.wf) (hbd:b.dep≤16):gY [99,111,110,116,97,105,110,115] [a.api,b.api]=some ((sc 2).api,eF a (.nest 5 (sc 0)) || (eF b (sc 4) && (eF a (sc 4) || eF a (.nest 6 (sc 0))))):=by
 have ia:=qO h (by omega) (vK (k:=4) (by omega))
 have ib:=qO hb (by omega) (vK (k:=4) (by omega))
 have l5:=(nP h (wL (k:=5) (j:=0) (by omega) (by omega)).1 (by omega)).2
 have l6:=(nP h (wL (k:=6) (j:=0) (by omega) (by omega)).1 (by omega)).2
 rw [show gY [99,111,110,116,97,105,110,115] [a.api,b.api]=au (fV a.api (Ty.nest 5 (sc 0)).api) fun wS=>au (if wS then some true else au (ig b.api 4) fun H8=>if H8 then
   (au (ig a.api 4) fun LQ=>if LQ then some true else fV a.api (Ty.nest 6 (sc 0)).api) else some false) fun b3=>some ((sc 2).api,b3) from rfl,l5,l6,ia,ib]
 simp only [ay]
 cases eF a (Ty.nest 5 (sc 0)) <;> cases eF b (sc 4) <;> cases eF a (sc 4) <;> cases eF a (Ty.nest 6 (sc 0)) <;> rfl
theorem alG {a b:Ty} (h:a.wf) (hd:a.dep≤16) (hb:b.wf) (hbd:b.dep≤16):gY [106,111,105,110] [a.api,b.api]=some ((sc 4).api,eF a (.nest 5 (sc 4)) && eF b (sc 4)):=by
 have ib:=qO hb (by omega) (vK (k:=4) (by omega))
 have l5:=(nP h (wL (k:=5) (j:=4) (by omega) (by omega)).1 (by omega)).2
 rw [show gY [106,111,105,110] [a.api,b.api]=au (fV a.api (Ty.nest 5 (sc 4)).api) fun LP=>au (if LP then ig b.api 4 else some false) fun b6=>some ((sc 4).api,b6) from rfl,l5,ib]
 simp only [ay,yZ]
theorem Vv {name:Str} {X a b:Ty} (h:a.wf) (hd:a.dep≤16) (hb:b.wf) (hbd:b.dep≤16) (hr:gY name [a.api,b.api]=au (ig a.api 4) fun x=>au (if x then ig b.api 4 else some false) fun b=>some (X.api,b)):
  gY name [a.api,b.api]=some (X.api,eF a (sc 4) && eF b (sc 4)):=by
 rw [hr,qO h (by omega) (vK (k:=4) (by omega)),qO hb (by omega) (vK (k:=4) (by omega))]
 simp only [ay,yZ]
theorem aez (a b:Ty):gY [100,101,102,97,117,108,116] [a.api,b.api]=some ((if a.kind=1 then b else a).api,true):=by
 rw [show gY [100,101,102,97,117,108,116] [a.api,b.api]=(if a.api.kind == 1 then some (b.api,true) else some (a.api,true)) from rfl,Ty.oG]
 by_cases h:a.kind=1 <;> simp [h]
theorem als {n:Str} {v:ah} {t T:Ty} (hc:wQ n=1) (ht:t.wf) (hd:t.dep≤16) (hv:kU v t) (kv:0≤v.kind∧v.kind≤5) (hn:gY n [t.api]=some (T.api,true)):ni (LX n v) T (jI t=true):=by
 by_cases h1:n=[108,101,110]
 ·
  subst h1
  obtain ⟨rfl,h⟩:=zR (anx ht hd) hn
  simp only [Bool.or_eq_true] at h
  exact aly ht hv kv (by rcases h with (h | h) | h; exact .inl h; exact .inr (.inl h); exact .inr (.inr h))
 by_cases h2:n=[108,111,119,101,114]
 ·
  subst h2
  obtain ⟨rfl,h⟩:=zR (Vw (X:=sc 4) ht hd rfl) hn
  exact acd ht hv h (.inl rfl)
 by_cases h3:n=[117,112,112,101,114]
 ·
  subst h3
  obtain ⟨rfl,h⟩:=zR (Vw (X:=sc 4) ht hd rfl) hn
  exact acd ht hv h (.inr rfl)
 by_cases h4:n=[115,116,114,105,110,103]
 ·
  subst h4
  obtain ⟨rfl,h⟩:=zR (ahc t) hn
  simp only [Bool.and_eq_true,bne_iff_ne] at h
  exact aer ht hv h
 by_cases h5:n=[105,110,116]
 ·
  subst h5
  obtain ⟨rfl,h⟩:=zR (Vw (X:=sc 3) ht hd rfl) hn
  exact aes ht hv h
 by_cases h6:n=[107,101,121,115]
 ·
  subst h6
  obtain ⟨rfl,h⟩:=zR (alF ht hd) hn
  exact aiS ht hv kv h
 exfalso
 unfold wQ Ao at hc
 by_cases h7:n=[99,111,110,116,97,105,110,115]
 · simp [h7] at hc
 by_cases h8:n=[106,111,105,110]
 · simp [h8] at hc
 by_cases h9:n=[115,112,108,105,116]
 · simp [h9] at hc
 by_cases h10:n=[115,116,97,114,116,115,119,105,116,104]
 · simp [h10] at hc
 by_cases h11:n=[101,110,100,115,119,105,116,104]
 · simp [h11] at hc
 by_cases h12:n=[100,101,102,97,117,108,116]
 · simp [h12] at hc
 simp [h1,h2,h3,h4,h5,h6,h7,h8,h9,h10,h11,h12] at hc
theorem aiP {a b:ah} {s t:Ty} (hs:s.wf) (ht:t.wf) (ha:kU a s) (hb:kU b t) (h1:eF s (sc 4)=true) (h2:eF t (sc 4)=true):ni (if ¬ (a.kind=3∧b.kind=3) then vJ 9 else aal a.bR b.bR) (.nest 5 (sc 4)) (jI s=true∧jI t=true):=by
 by_cases c:a.kind=3∧b.kind=3
 · rw [if_neg (by simpa using c)]; exact ag0
 ·
  rw [if_pos c]
  exact ni.nine fun hf=>c ⟨by have:=lq hs ha h1 (by omega) hf.1; omega,by have:=lq ht hb h2 (by omega) hf.2; omega⟩
theorem alp {n:Str} {a b:ah} {s t T:Ty} (hc:n∈alb) (hs:s.wf) (hsd:s.dep≤16) (ht:t.wf) (htd:t.dep≤16) (ha:kU a s) (hb:kU b t) (ka:0≤a.kind∧a.kind≤5)
  (hn:gY n [s.api,t.api]=some (T.api,true)):ni (Jw n a b) T (jI s=true∧jI t=true):=by
 simp only [alb,List.mem_cons,List.not_mem_nil,or_false] at hc
 rcases hc with rfl | rfl | rfl | rfl | rfl | rfl
 ·
  obtain ⟨rfl,h⟩:=zR (acv hs hsd ht htd) hn
  simp only [Bool.or_eq_true,Bool.and_eq_true] at h
  have e:Jw [99,111,110,116,97,105,110,115] a b=Rp a b:=by unfold Jw; rw [if_neg (by decide),if_pos rfl]
  rw [e]; exact aam hs ht ha hb ka h
 ·
  obtain ⟨rfl,h⟩:=zR (alG hs hsd ht htd) hn
  simp only [Bool.and_eq_true] at h
  have e:Jw [106,111,105,110] a b=QW a b:=by unfold Jw; rw [if_neg (by decide),if_neg (by decide),if_pos rfl]
  rw [e]; exact aiT hs ht ha hb ka h.1 h.2
 ·
  obtain ⟨rfl,h⟩:=zR (Vv (X:=.nest 5 (sc 4)) hs hsd ht htd rfl) hn
  simp only [Bool.and_eq_true] at h
  have e:Jw [115,112,108,105,116] a b=(if ¬ (a.kind=3∧b.kind=3) then vJ 9 else aal a.bR b.bR):=by
   unfold Jw
   rw [if_neg (by decide),if_neg (by decide),if_neg (by decide),if_neg (c:=([115,112,108,105,116]:Str)=[115,116,97,114,116,115,119,105,116,104]) (by decide),if_neg (c:=([115,112,108,105,116]:Str)=[101,110,100,115,119,105,116,104]) (by decide)]
  rw [e]; exact aiP hs ht ha hb h.1 h.2
 ·
  obtain ⟨rfl,h⟩:=zR (Vv (X:=sc 2) hs hsd ht htd rfl) hn
  simp only [Bool.and_eq_true] at h
  have e:Jw [115,116,97,114,116,115,119,105,116,104] a b=(if ¬ (a.kind=3∧b.kind=3) then vJ 9 else okV (VW (preS a.bR b.bR))):=by
   unfold Jw
   rw [if_neg (by decide),if_neg (by decide),if_neg (by decide),if_pos (c:=([115,116,97,114,116,115,119,105,116,104]:Str)=[115,116,97,114,116,115,119,105,116,104]) rfl]
  rw [e]; exact ab9 hs ht ha hb h.1 h.2
 ·
  obtain ⟨rfl,h⟩:=zR (Vv (X:=sc 2) hs hsd ht htd rfl) hn
  simp only [Bool.and_eq_true] at h
  have e:Jw [101,110,100,115,119,105,116,104] a b=(if ¬ (a.kind=3∧b.kind=3) then vJ 9 else okV (VW (aiL a.bR b.bR))):=by
   unfold Jw
   rw [if_neg (by decide),if_neg (by decide),if_neg (by decide),if_neg (c:=([101,110,100,115,119,105,116,104]:Str)=[115,116,97,114,116,115,119,105,116,104]) (by decide),if_pos (c:=([101,110,100,115,119,105,116,104]:Str)=[101,110,100,115,119,105,116,104]) rfl]
  rw [e]; exact ab9 hs ht ha hb h.1 h.2
 ·
  obtain ⟨rfl,h⟩:=zR (aez s t) hn
  have e:Jw [100,101,102,97,117,108,116] a b=(if a.kind=0 then okV b else okV a):=by unfold Jw; rw [if_pos rfl]
  rw [e]; exact ab_ hs ha hb
end Go.Ft

namespace Go.Ft
open Go
attribute [local congr] dZ
theorem anc {go:aj→Option (ak × Int)} {K:List ak→Option (ak × Int)}:∀ (l:List aj) (out:List Ty) (i:Nat),(∀ x∈l,∃ (T:Ty) (c:Int),T.wf∧T.dep≤16∧go x=some (T.api,c))→out.length + l.length≤4000→
  (∃ c,c≠0∧dG (TT go) K i l (out.map Ty.api)=some (ZT,c))∨
  (∃ Ts:List Ty,Ts.length=l.length∧(∀ t∈Ts,t.wf∧t.dep≤16)∧(∀ j (h1:j < l.length) (h2:j < Ts.length),go l[j]=some (Ts[j].api,0))∧dG (TT go) K i l (out.map Ty.api)=K ((out ++ Ts).map Ty.api))
 | [],out,i,_,_=>.inr ⟨[],rfl,fun t ht=>(by cases ht),fun j h1=>by simp at h1,by simp [dG]⟩
 | x :: r,out,i,h,hn=>by
  simp only [List.length_cons] at hn
  obtain ⟨T,c,w,d,e1⟩:=h x (by simp)
  rw [dG,TT]
  simp only [e1,bU]
  by_cases hc:c=0
  ·
   subst hc
   have ha:app (out.map Ty.api) [T.api]=some ((out ++ [T]).map Ty.api):=by
    rw [vN (by simp [wB]; omega)]; simp
   simp only [bne_self_eq_false,Bool.false_eq_true,if_false,ha,ay]
   rcases anc (K:=K) r (out ++ [T]) (i + 1) (fun y hy=>h y (by simp [hy])) (by simp; omega) with ⟨c,c1,c2⟩ | ⟨Ts,c1,c2,c3,c4⟩
   · exact .inl ⟨c,c1,c2⟩
   ·
    refine .inr ⟨T :: Ts,by simp [c1],?_,?_,?_⟩
    ·
     intro t ht
     rcases List.mem_cons.1 ht with rfl | ht
     · exact ⟨w,d⟩
     · exact c2 t ht
    ·
     intro j h1 h2
     cases j with
     | zero=>simpa using e1
     | succ j=>simpa using c3 j (by simpa using h1) (by simpa using h2)
    · have:=c4; rw [List.append_assoc] at this; exact this
  · exact .inl ⟨c,hc,by simp [hc]⟩
theorem al7 {x:Option (ak × Bool)} {t:ak} (h:Ie x=some (t,0)):x=some (t,true):=by
 unfold Ie at h
 cases x with
 | none=>cases h
 | some p=>
  obtain ⟨a,b⟩:=p
  simp only [bU] at h
  cases b with
  | false=>simp at h
  | true=>
   simp only [Bool.not_true,Bool.false_eq_true,if_false,(Dz a).2.1,ay] at h
   split at h
   · simp at h
   · simp at h; rw [h]
theorem aa1 {env:List aH} (hW:abC env) (hl:env.length < 4611686018427387904) {e:aj} {level m:Nat} (hB:e.bulk≤1099511627776) (hx:EO e level=0) (hm:e.bulk + 1≤m):
  ∃ (T:Ty) (c:Int),T.wf∧T.dep≤16∧jM m e env=some (T.api,c)∧pK e env=some (T.api,c):=by
 have hb:=jq
 obtain ⟨T,c,w,d,z,r1,r2⟩:=Rf hW hl e.bulk e level BIG m (Nat.le_refl _) (by omega) hx (by omega) hm
 obtain ⟨T',c',w',d',z',r1',r2'⟩:=Rf hW hl e.bulk e level BIG BIG (Nat.le_refl _) (by omega) hx (by omega) (by omega)
 rw [r1] at r1'
 refine ⟨T,c,w,d,r2,?_⟩
 unfold pK
 rw [r2',←r1']
theorem aj7 {env:List aH} (hW:abC env) (hl:env.length < 4611686018427387904) {e:aj} {level:Nat} (hB:e.bulk≤1099511627776) (hx:EO e level=0) (hk:e.kind≠1∧e.kind≠2) {T:Ty} (ht:pK e env=some (T.api,0)):
  ∃ Ts:List Ty,Ts.length=e.args.length∧(∀ t∈Ts,t.wf∧t.dep≤16)∧(∀ j (h1:j < e.args.length) (h2:j < Ts.length),pK e.args[j] env=some (Ts[j].api,0))∧gN e (Ts.map Ty.api)=some (T.api,true)∧
   (e.kind=5→wQ e.name≠0∧wQ e.name=e.args.length):=by
 obtain ⟨n,hn,hn2⟩:=uW
 obtain ⟨F,x2⟩:=ad1 hx
 have hal:=J2 e
 have hlen:=F.len
 unfold pK at ht
 rw [hn,jM,Ah] at ht
 have k12:((e.kind == 1) || (e.kind == 2))=false:=by simp [hk.1,hk.2]
 rw [k12] at ht
 simp only [Bool.false_eq_true,if_false] at ht
 have s2:=dH (F:=fun k s i=>sM (jM n) e env k s i) (l:=e.args) (body:=TT fun x=>jM n x env) (fin:=fun l1=>Ie (gN e l1)) (by omega) (fun k s i=>rfl) []
 have key:=anc (K:=fun l1=>Ie (gN e l1)) (go:=fun x=>jM n x env) e.args [] 0 (fun x hx'=>by
  have:=jl hx'
  obtain ⟨T,c,w,d,r,_⟩:=aa1 hW hl (m:=n) (by omega) (x2 x hx') (by omega)
  exact ⟨T,c,w,d,r⟩) (by simp; omega)
 rw [List.map_nil] at key
 rw [←s2] at key
 have fin:sM (jM n) e env BIG [] 0=some (T.api,0)→∃ Ts:List Ty,Ts.length=e.args.length∧(∀ t∈Ts,t.wf∧t.dep≤16)∧(∀ j (h1:j < e.args.length) (h2:j < Ts.length),pK e.args[j] env=some (Ts[j].api,0))∧gN e (Ts.map Ty.api)=some (T.api,true):=by
  intro h
  rcases key with ⟨c,c1,c2⟩ | ⟨Ts,c1,c2,c3,c4⟩
  · rw [c2] at h; simp only [Option.some.injEq,Prod.mk.injEq] at h; exact absurd h.2 c1
  ·
   refine ⟨Ts,c1,c2,fun j h1 h2=>?_,?_⟩
   ·
    have hm:=List.getElem_mem h1
    have:=jl hm
    obtain ⟨T',c',w,d,r,r'⟩:=aa1 hW hl (m:=n) (by omega) (x2 _ hm) (by omega)
    rw [r',←r]; exact c3 j h1 h2
   ·
    rw [c4,List.nil_append] at h
    exact al7 h
 by_cases h5:e.kind=5
 ·
  have n5:(e.kind == 5)=true:=by simpa using h5
  obtain ⟨c1,c2,c3⟩:=WH e.name
  rw [n5,c2] at ht
  simp only [if_true,ay] at ht
  by_cases hc0:wQ e.name=0
  · rw [hc0] at ht; simp at ht
  ·
   by_cases hcl:wQ e.name=(e.args.length:Int)
   ·
    have e1:decide ((if wQ e.name=0 then -1 else wQ e.name) < 0)=false:=by rw [if_neg hc0]; simp; omega
    have e2:((if wQ e.name=0 then -1 else wQ e.name) != (e.args.length:Int))=false:=by rw [if_neg hc0]; simp [hcl]
    rw [e1,e2] at ht
    simp only [Bool.false_eq_true,if_false] at ht
    obtain ⟨Ts,t1,t2,t3,t4⟩:=fin ht
    exact ⟨Ts,t1,t2,t3,t4,fun _=>⟨hc0,hcl⟩⟩
   ·
    have e1:decide ((if wQ e.name=0 then -1 else wQ e.name) < 0)=false:=by rw [if_neg hc0]; simp; omega
    have e2:((if wQ e.name=0 then -1 else wQ e.name) != (e.args.length:Int))=true:=by rw [if_neg hc0]; simpa using hcl
    rw [e1,e2] at ht
    simp at ht
 ·
  have n5:(e.kind == 5)=false:=by simpa using h5
  rw [n5] at ht
  simp only [Bool.false_eq_true,if_false,ay] at ht
  obtain ⟨Ts,t1,t2,t3,t4⟩:=fin ht
  exact ⟨Ts,t1,t2,t3,t4,fun h=>absurd h h5⟩
def okF (o:Option (ak × Int)):Bool:=match o with
 | some (t,c)=>(c == 0) && (QG t).getD false
 | none=>false
mutual
def Kn (env:List aH):aj→Bool
 | ⟨k,n,v,args,keys⟩=>okF (pK ⟨k,n,v,args,keys⟩ env) && aln env args
def aln (env:List aH):List aj→Bool
 | []=>true
 | x :: r=>Kn env x && aln env r
end
theorem ab7 (env:List aH):∀ l:List aj,aln env l=l.all (Kn env)
 | []=>rfl
 | x :: r=>by rw [aln,ab7 env r,List.all_cons]
theorem aaj (env:List aH) (e:aj):Kn env e=(okF (pK e env) && e.args.all (Kn env)):=by
 cases e; rw [Kn,ab7]
theorem free_eq {T:Ty} (h:T.wf) (hd:T.dep≤1000):QG T.api=some (jI T):=ajZ BIG T h (by have:=jq; omega)
theorem ab6 {env:List aH} {e:aj} {T:Ty} {c:Int} (h:T.wf) (hd:T.dep≤1000) (hr:pK e env=some (T.api,c)) (hs:Kn env e=true):jI T=true:=by
 rw [aaj,Bool.and_eq_true] at hs
 have:=hs.1
 rw [hr] at this
 simp only [okF,free_eq h hd,Option.getD_some,Bool.and_eq_true] at this
 exact this.2
theorem UF {env:List aH} {e:aj} (hs:Kn env e=true):∀ x∈e.args,Kn env x=true:=by
 rw [aaj,Bool.and_eq_true] at hs
 exact List.all_eq_true.1 hs.2
inductive DC :List aA→List aH→Prop
 | nil:DC [] []
 | cons {x:aA} {d:aH} {xs:List aA} {ds:List aH} (T:Ty) (hn:d.name=x.name) (ht:d.rY=T.api) (hw:T.wf) (hd:T.dep≤16) (hf:kU x.value T) (h:DC xs ds):DC (x :: xs) (d :: ds)
theorem DC.W :∀ {vars:List aA} {env:List aH},DC vars env→abC env
 | _,_,.nil=>fun d hd=>by cases hd
 | _,_,.cons T hn ht hw hd hf h=>fun d hm=>by
  rcases List.mem_cons.1 hm with rfl | hm
  · exact ⟨T,hw,hd,ht⟩
  · exact h.W d hm
theorem DC.len :∀ {vars:List aA} {env:List aH},DC vars env→env.length=vars.length
 | _,_,.nil=>rfl
 | _,_,.cons T hn ht hw hd hf h=>by simp [h.len]
theorem DC.leaf {Nk:List aH} {n:Str} {T:Ty}:∀ {vars:List aA} {env:List aH} (i:Nat),DC vars env→env=Nk.drop i→
  dG (R:=ak × Int) (fun (i:Nat) e1 (_:Unit) r=>if e1.name == n then au (idx Nk (i:Int)) fun e3=>some (e3.rY,0) else r ()) (fun _=>some (ZT,10)) i env ()=some (T.api,0)→∃ v,IU vars n=okV v∧kU v T
 | _,_,i,.nil,_,h=>by simp [dG] at h
 | x :: xs,d :: ds,i,.cons S hn ht hw hd hf hr,he,h=>by
  have hi:i < Nk.length:=by
   rcases Nat.lt_or_ge i Nk.length with h | h
   · exact h
   · rw [List.drop_eq_nil_of_le h] at he; cases he
  have hc:=List.drop_eq_getElem_cons hi
  rw [←he] at hc
  have e1:d=Nk[i]:=(List.cons.inj hc).1
  have e2:=(List.cons.inj hc).2
  rw [dG,rW hi,←e1] at h
  simp only [ay] at h
  rw [IU]
  by_cases hx:d.name=n
  ·
   rw [if_pos (by simpa using hx)] at h
   rw [if_pos (by rw [←hn]; exact hx)]
   simp only [Option.some.injEq,Prod.mk.injEq,and_true] at h
   rw [ht] at h
   exact ⟨x.value,rfl,(UZ h) ▸ hf⟩
  ·
   rw [if_neg (by simpa using hx)] at h
   rw [if_neg (by rw [←hn]; exact hx)]
   exact DC.leaf (i + 1) hr e2 h
theorem aeU {vars:List aA} {env:List aH} (hD:DC vars env) (hl:env.length < 4611686018427387904) {e:aj} {T:Ty} (he:e.kind=2) (h:Br e env=some (T.api,0)):∃ v,IU vars e.name=okV v∧kU v T:=by
 unfold Br at h
 have h1:(e.kind == 1)=false:=by simp [he]
 rw [h1] at h
 simp only [Bool.false_eq_true,if_false] at h
 rw [dH (F:=fun k (_:Unit) i=>AB e env k i) (l:=env) (body:=fun (i:Nat) e1 (_:Unit) r=>if e1.name == e.name then au (idx env (i:Int)) fun e3=>some (e3.rY,0) else r ()) (fin:=fun _=>some (ZT,10)) hl (fun k s i=>rfl) ()] at h
 exact DC.leaf 0 hD rfl h
theorem adY :∀ {rs:List (ah × Int)},(nV rs).2≠0→∃ (i:Nat) (h:i < rs.length),rs[i].2=(nV rs).2
 | [],h=>absurd rfl h
 | p :: r,h=>by
  by_cases hp:p.2=0
  ·
   by_cases hr:(nV r).2=0
   · rw [nV,if_neg (by simpa using hp),if_neg (by simpa using hr)] at h; exact absurd rfl h
   ·
    obtain ⟨i,hi,e⟩:=adY hr
    rw [nV,if_neg (by simpa using hp),if_pos hr]
    exact ⟨i + 1,by simpa using hi,by simpa using e⟩
  ·
   rw [nV,if_pos hp]
   exact ⟨0,by simp,rfl⟩
theorem ni.mono {p:ah × Int} {T:Ty} {F G:Prop} (h:ni p T F) (hF:G→F):ni p T G:=⟨h.1,h.2.1,fun h9 hg=>h.2.2 h9 (hF hg)⟩
theorem Ox {v:ah} (h:VV v):0≤v.kind∧v.kind≤5:=(Gj ((zA v).1 h.1).1).2.1 |> fun a=>⟨a,(Gj ((zA v).1 h.1).1).2.2.1⟩
theorem fits1 {v:ah} {t:Ty} (h:fits [v] [t]):kU v t:=h.2 0 (by simp) (by simp)
theorem aj1 {a b:ah} {s t:Ty} (h:fits [a,b] [s,t]):kU a s∧kU b t:=⟨h.2 0 (by simp) (by simp),h.2 1 (by simp) (by simp)⟩
theorem ag2 {a b:ah} {s t:Ty} (hs:s.wf) (ht:t.wf) (ha:kU a s) (hb:kU b t) (hl:(eB s && eB t)=true):ni (Ui a b) (if s.kind=0 then s else t) (jI s=true∧jI t=true):=by
 simp only [Bool.and_eq_true] at hl
 obtain ⟨e1,h1⟩:=Dj hs hl.1
 have hs0:s=sc 0:=by
  rcases h1 with h1 | h1
  · rw [e1,h1]
  · rw [e1,h1] at ha; exact (Nc ha).elim
 subst hs0
 have hnf:¬ (jI (sc 0)=true∧jI t=true):=fun h=>by cases h.1
 rw [if_pos (show (sc 0).kind=0 from rfl)]
 unfold Ui
 split
 · exact (Qx (F:=jI (sc 0)=true∧jI t=true)).up (Y5 (by omega)) (Y5 (by omega)) (afU _) id
 ·
  split
  ·
   split
   · exact ni.ok (Rc _)
   · exact ni.code (by decide) (by unfold vL; omega) (by decide)
  ·
   split
   ·
    split
    · exact ni.ok (Rc _)
    · exact ni.code (by decide) (by unfold vL; omega) (by decide)
   · exact ni.nine hnf
theorem aiQ {e:aj} (F:Fm e) {vs:List ah} {Ts:List Ty} {T:Ty} (hl:vs.length=e.args.length) (hf:fits vs Ts) (hw:∀ t∈Ts,t.wf∧t.dep≤16) (hv:∀ v∈vs,VV v) (h8:e.kind≠8) (hk:e.kind≠1∧e.kind≠2)
  (h7:¬ (e.kind=7∧(e.name=[38,38]∨e.name=[124,124]))) (h5:e.kind=5→wQ e.name≠0∧wQ e.name=e.args.length) (hn:gN e (Ts.map Ty.api)=some (T.api,true)):ni (E_ e.kind e.name e.keys vs) T (∀ t∈Ts,jI t=true):=by
 have hTl:Ts.length=e.args.length:=by rw [←hf.1,hl]
 have hlen:=F.len
 have hkind:=F.kind
 have aoN:e.kind=3∨e.kind=4∨e.kind=5∨e.kind=6∨e.kind=7∨e.kind=9∨e.kind=10:=by omega
 unfold E_
 rcases aoN with k | k | k | k | k | k | k
 ·
  obtain ⟨a,ha⟩:=F.k3 k
  rw [ha] at hl hTl
  obtain ⟨v,rfl⟩:=len1 hl
  obtain ⟨t,rfl⟩:=len1 hTl
  obtain ⟨w,d⟩:=hw t (by simp)
  have ft:=fits1 hf
  have kv:=Ox (hv v (by simp))
  obtain ⟨rfl,q⟩:=arl w k hn
  rw [if_neg (by omega),if_neg (by omega)]
  simp only [k,if_true]
  refine afZ w ft kv (by rcases q with q | q; exact .inl q; exact .inr (.inr q)) fun hF=>.inr ⟨?_,rfl⟩
  have hl:=Ak ft w (hF t (by simp))
  rcases q with q | q
  · rw [hl] at q; cases q
  ·
   cases t with
   | leaf j=>simp only [Ty.kind] at q; exact absurd q w.2.2.2
   | nest j s=>simp only [Ty.kind] at q; subst q; have:=G9 kv (.inr rfl) ft; omega
 ·
  obtain ⟨a,b,ha⟩:=F.k4 k
  rw [ha] at hl hTl
  obtain ⟨v,x,rfl⟩:=len2 hl
  obtain ⟨t,u,rfl⟩:=len2 hTl
  obtain ⟨w,d⟩:=hw t (by simp)
  obtain ⟨w',d'⟩:=hw u (by simp)
  obtain ⟨ft,fu⟩:=aj1 hf
  have kv:=Ox (hv v (by simp))
  obtain ⟨rfl,q⟩:=ark w w' d' k hn
  rw [if_neg (by omega),if_neg (by omega)]
  simp only [k,if_true]
  refine afZ w ft kv (by rcases q with q | q | q; exact .inr (.inl q.1); exact .inr (.inr q.1); exact .inl q) fun hF=>?_
  have hl:=Ak ft w (hF t (by simp))
  have hu:=hF u (by simp)
  rcases q with q | q | q
  ·
   left
   cases t with
   | leaf j=>have:=q.1; simp only [Ty.kind] at this; exact absurd this w.2.2.1
   | nest j s=>
    have h5':=q.1
    simp only [Ty.kind] at h5'; subst h5'
    have h1:=G9 kv (.inl rfl) ft
    have h2:=lq w' fu q.2 (by omega) hu
    exact ⟨by omega,by omega⟩
  ·
   right
   cases t with
   | leaf j=>have:=q.1; simp only [Ty.kind] at this; exact absurd this w.2.2.2
   | nest j s=>
    have h5':=q.1
    simp only [Ty.kind] at h5'; subst h5'
    have h1:=G9 kv (.inr rfl) ft
    have h2:=lq w' fu q.2 (by omega) hu
    exact ⟨by omega,by omega⟩
  · rw [hl] at q; cases q
 ·
  obtain ⟨c0,c1⟩:=h5 k
  have Wh:∀ l,gN e l=gY e.name l:=by intro l; unfold gN; simp [k]
  rw [Wh] at hn
  rw [if_neg (by omega),if_neg (by omega)]
  rcases (WH e.name).2.2 with c | c | ⟨c,c'⟩
  · exact absurd c c0
  ·
   have:e.args.length=1:=by omega
   rw [this] at hl hTl
   obtain ⟨v,rfl⟩:=len1 hl
   obtain ⟨t,rfl⟩:=len1 hTl
   obtain ⟨w,d⟩:=hw t (by simp)
   simp only [k]
   exact (als c w d (fits1 hf) (Ox (hv v (by simp))) hn).mono fun h=>h t (by simp)
  ·
   have:e.args.length=2:=by omega
   rw [this] at hl hTl
   obtain ⟨v,x,rfl⟩:=len2 hl
   obtain ⟨t,u,rfl⟩:=len2 hTl
   obtain ⟨w,d⟩:=hw t (by simp)
   obtain ⟨w',d'⟩:=hw u (by simp)
   obtain ⟨ft,fu⟩:=aj1 hf
   simp only [k]
   exact (alp c' w d w' d' ft fu (Ox (hv v (by simp))) hn).mono fun h=>⟨h t (by simp),h u (by simp)⟩
 ·
  obtain ⟨⟨a,ha⟩,hop⟩:=F.k6 k
  rw [ha] at hl hTl
  obtain ⟨v,rfl⟩:=len1 hl
  obtain ⟨t,rfl⟩:=len1 hTl
  obtain ⟨w,d⟩:=hw t (by simp)
  have ft:=fits1 hf
  obtain ⟨rfl,q⟩:=arj w d k hn
  rw [if_neg (by omega),if_neg (by omega)]
  simp only [k]
  rcases hop with h | h
  ·
   rw [h] at q ⊢
   exact (alu w ft (by simpa using q)).mono fun h=>h t (by simp)
  ·
   rw [h] at q ⊢
   exact (alv w ft (by simpa using q)).mono fun h=>h t (by simp)
 ·
  obtain ⟨⟨a,b,ha⟩,hop⟩:=F.k7 k
  rw [ha] at hl hTl
  obtain ⟨v,x,rfl⟩:=len2 hl
  obtain ⟨t,u,rfl⟩:=len2 hTl
  obtain ⟨w,d⟩:=hw t (by simp)
  obtain ⟨w',d'⟩:=hw u (by simp)
  obtain ⟨ft,fu⟩:=aj1 hf
  have kv:=Ox (hv v (by simp))
  have kx:=Ox (hv x (by simp))
  have hb:=ap6 k hn
  rw [if_neg (by omega),if_neg (by omega)]
  simp only [k]
  show ni (Cu e.name v x) T _
  generalize e.name=op at hop hb h7 ⊢
  have free:(∀ y∈[t,u],jI y=true)→jI t=true∧jI u=true:=fun h=>⟨h t (by simp),h u (by simp)⟩
  simp only [opsL,List.mem_cons,List.not_mem_nil,or_false] at hop
  have rel:∀ r:Bool,(op=[60]∨op=[60,61]∨op=[62]∨op=[62,61])→ni (MC v x r) T (∀ y∈[t,u],jI y=true):=fun r ho=>by
   obtain ⟨rfl,q⟩:=zR (amn ho) hb
   exact (alr w w' ft fu q).mono free
  have ar:(op=[45]∨op=[42]∨op=[47]∨op=[37])→ni (RG op v x) T (∀ y∈[t,u],jI y=true):=fun ho=>by
   obtain ⟨rfl,q⟩:=zR (aoX w d w' d' ho) hb
   simp only [Bool.and_eq_true] at q
   exact (alz w w' ft fu q.1 q.2).mono free
  rcases hop with rfl | rfl | rfl | rfl | rfl | rfl | rfl | rfl | rfl | rfl | rfl | rfl | rfl
  · exact absurd ⟨k,.inl rfl⟩ h7
  · exact absurd ⟨k,.inr rfl⟩ h7
  ·
   obtain ⟨rfl,q⟩:=zR (akw (.inl rfl)) hb
   exact aiU (.inl rfl)
  ·
   obtain ⟨rfl,q⟩:=zR (akw (.inr rfl)) hb
   exact aiU (.inr rfl)
  ·
   have e1:Cu [60] v x=MC v x (decide (uo v x < 0)):=by unfold Cu; rw [if_neg (by decide),if_neg (by decide),if_pos rfl]
   rw [e1]; exact rel _ (by simp)
  ·
   have e1:Cu [60,61] v x=MC v x (decide (uo v x≤0)):=by unfold Cu; rw [if_neg (by decide),if_neg (by decide),if_neg (by decide),if_pos rfl]
   rw [e1]; exact rel _ (by simp)
  ·
   have e1:Cu [62] v x=MC v x (decide (0 < uo v x)):=by unfold Cu; rw [if_neg (by decide),if_neg (by decide),if_neg (by decide),if_neg (by decide),if_pos rfl]
   rw [e1]; exact rel _ (by simp)
  ·
   have e1:Cu [62,61] v x=MC v x (decide (0≤uo v x)):=by unfold Cu; rw [if_neg (by decide),if_neg (by decide),if_neg (by decide),if_neg (by decide),if_neg (by decide),if_pos rfl]
   rw [e1]; exact rel _ (by simp)
  ·
   have e1:Cu [45] v x=RG [45] v x:=by unfold Cu; rw [if_neg (by decide),if_neg (by decide),if_neg (by decide),if_neg (by decide),if_neg (by decide),if_neg (by decide),if_neg (by decide)]
   rw [e1]; exact ar (by simp)
  ·
   have e1:Cu [42] v x=RG [42] v x:=by unfold Cu; rw [if_neg (by decide),if_neg (by decide),if_neg (by decide),if_neg (by decide),if_neg (by decide),if_neg (by decide),if_neg (by decide)]
   rw [e1]; exact ar (by simp)
  ·
   have e1:Cu [47] v x=RG [47] v x:=by unfold Cu; rw [if_neg (by decide),if_neg (by decide),if_neg (by decide),if_neg (by decide),if_neg (by decide),if_neg (by decide),if_neg (by decide)]
   rw [e1]; exact ar (by simp)
  ·
   have e1:Cu [37] v x=RG [37] v x:=by unfold Cu; rw [if_neg (by decide),if_neg (by decide),if_neg (by decide),if_neg (by decide),if_neg (by decide),if_neg (by decide),if_neg (by decide)]
   rw [e1]; exact ar (by simp)
  ·
   have e1:Cu [43] v x=Ui v x:=by unfold Cu; rw [if_neg (by decide),if_neg (by decide),if_neg (by decide),if_neg (by decide),if_neg (by decide),if_neg (by decide),if_pos rfl]
   rw [e1]
   have hb':Ir t.api u.api=some (T.api,true):=hb
   rcases alk w d w' d' hb' with ⟨q1,rfl⟩ | ⟨q1,j,q2,q3,rfl⟩
   · exact (ag2 w w' ft fu q1).mono free
   · exact (alq w w' ft fu kv kx q1 q2 q3).mono free
 ·
  rw [if_pos k]
  have hnl:=Oe hw (by omega) (e:=e) (.inl k)
  obtain ⟨rfl,q⟩:=zR hnl hn
  rw [if_neg (c:=e.kind=10) (by omega)]
  exact aiR hf fun t ht=>(hw t ht).1
 ·
  rw [if_neg (by omega),if_pos k]
  have hnl:=Oe hw (by omega) (e:=e) (.inr k)
  obtain ⟨rfl,q⟩:=zR hnl hn
  rw [if_pos k]
  exact alx hf fun t ht=>(hw t ht).1
end Go.Ft

namespace Go.Ft
open Go
attribute [local congr] dZ
theorem afX {vars:List aA} {env:List aH} (hE:∀ x∈vars,VV x.value∧x.value.bulk≤1048576) (hD:DC vars env) (hl:env.length < 4611686018427387904):∀ (b:Nat) (e:aj) (level:Nat) (T:Ty),e.bulk≤b→SE e→EO e level=0→
  pK e env=some (T.api,0)→T.wf→T.dep≤16→ni (nu vars e) T (Kn env e=true)
 | 0,e,_,_,h,_,_,_,_,_=>by have:=e.jY; omega
 | b + 1,e,level,T,h,hS,hx,hr,hw,hd=>by
  have hB:e.bulk≤1099511627776:=hS.1
  have hWe:=hD.W
  obtain ⟨F,x2⟩:=ad1 hx
  have hkind:=F.kind
  rw [aa2]
  obtain ⟨n,hn,hn2⟩:=uW
  by_cases k1:e.kind=1
  ·
   rw [if_pos k1]
   unfold pK at hr
   rw [hn,jM,Ah] at hr
   have k12:((e.kind == 1) || (e.kind == 2))=true:=by simp [k1]
   rw [if_pos k12] at hr
   unfold Br at hr
   obtain ⟨o1,o2,o3,o4⟩:=agK (v:=e.value) (by have:=Ez e; omega) ((NP _).2 (F.lit k1))
   simp only [k1,beq_self_eq_true,if_true,o2,ay,Option.some.injEq,Prod.mk.injEq,and_true] at hr
   rw [←UZ hr]
   exact ni.ok (Gq _)
  rw [if_neg k1]
  by_cases k2:e.kind=2
  ·
   rw [if_pos k2]
   unfold pK at hr
   rw [hn,jM,Ah] at hr
   have k12:((e.kind == 1) || (e.kind == 2))=true:=by simp [k2]
   rw [if_pos k12] at hr
   obtain ⟨v,v1,v2⟩:=aeU hD hl k2 hr
   rw [v1]
   exact ni.ok v2
  rw [if_neg k2]
  obtain ⟨Ts,t1,t2,t3,t4,t5⟩:=aj7 hWe hl hB hx ⟨k1,k2⟩ hr
  have ih:∀ j (h1:j < e.args.length) (h2:j < Ts.length),ni (nu vars e.args[j]) Ts[j] (Kn env e.args[j]=true):=fun j h1 h2=>by
   have hm:=List.getElem_mem h1
   obtain ⟨w,d⟩:=t2 _ (List.getElem_mem h2)
   exact afX hE hD hl b _ (level + 1) _ (by have:=jl hm; omega) (hS.arg hm) (x2 _ hm) (t3 j h1 h2) w d
  have fr:Kn env e=true→∀ t∈Ts,jI t=true:=fun hs t ht=>by
   obtain ⟨j,hj,rfl⟩:=List.getElem_of_mem ht
   have h1:j < e.args.length:=by omega
   obtain ⟨w,d⟩:=t2 _ ht
   exact ab6 w (by omega) (t3 j h1 hj) (UF hs _ (List.getElem_mem h1))
  unfold J3
  by_cases h8:e.kind=8
  ·
   rw [if_pos h8]
   obtain ⟨a,b',c,ha⟩:=F.k8 h8
   have hl3:Ts.length=3:=by rw [t1,ha]; rfl
   obtain ⟨s,t,u,rfl⟩:=aos hl3
   have sa:=UF (env:=env) (e:=e)
   rw [ha] at sa
   have i0:=ih 0 (by rw [ha]; simp) (by simp)
   have i1:=ih 1 (by rw [ha]; simp) (by simp)
   have i2:=ih 2 (by rw [ha]; simp) (by simp)
   simp only [ha,List.getElem_cons_zero,List.getElem_cons_succ] at i0 i1 i2
   obtain ⟨w0,d0⟩:=t2 s (by simp)
   obtain ⟨w1,d1⟩:=t2 t (by simp)
   obtain ⟨w2,d2⟩:=t2 u (by simp)
   obtain ⟨rfl,q⟩:=ari w0 d0 w1 d1 w2 d2 h8 t4
   rw [ha]
   exact (aiV w0 w1 w2 i0 i1 i2 q).mono fun hs=>⟨⟨sa hs a (by simp),fr hs s (by simp)⟩,sa hs b' (by simp),sa hs c (by simp)⟩
  rw [if_neg h8]
  by_cases h7:e.kind=7∧(e.name=[38,38]∨e.name=[124,124])
  ·
   rw [if_pos h7]
   obtain ⟨⟨a,b',ha⟩,hop⟩:=F.k7 h7.1
   have hl2:Ts.length=2:=by rw [t1,ha]; rfl
   obtain ⟨s,t,rfl⟩:=len2 hl2
   have sa:=UF (env:=env) (e:=e)
   rw [ha] at sa
   have i0:=ih 0 (by rw [ha]; simp) (by simp)
   have i1:=ih 1 (by rw [ha]; simp) (by simp)
   simp only [ha,List.getElem_cons_zero,List.getElem_cons_succ] at i0 i1
   obtain ⟨w0,d0⟩:=t2 s (by simp)
   obtain ⟨w1,d1⟩:=t2 t (by simp)
   obtain ⟨rfl,q⟩:=zR (aoW w0 d0 w1 d1 h7.2) (ap6 h7.1 t4)
   simp only [Bool.and_eq_true] at q
   rw [ha]
   exact (ag1 w0 w1 i0 i1 q.1 q.2).mono fun hs=>⟨⟨sa hs a (by simp),fr hs s (by simp)⟩,sa hs b' (by simp),fr hs t (by simp)⟩
  rw [if_neg h7,if_neg (c:=e.kind=5∧wQ e.name=0) (fun hh=>(t5 hh.1).1 hh.2),if_neg (c:=e.kind=5∧wQ e.name≠((e.args.map (nu vars)).length:Int)) (fun hh=>hh.2 (by rw [List.length_map]; exact (t5 hh.1).2))]
  by_cases h0:(nV (e.args.map (nu vars))).2=0
  ·
   rw [if_neg (by simpa using h0)]
   obtain ⟨o1,o2⟩:=Ow (N:=0) h0
   have z:∀ j (h1:j < e.args.length),(nu vars e.args[j]).2=0:=fun j h1=>o1 _ (List.mem_map_of_mem (List.getElem_mem h1))
   refine (aiQ F (by rw [o2]; simp) ⟨by rw [o2]; simp [t1],fun j h1 h2=>?_⟩ t2 (fun v hv=>?_) h8 ⟨k1,k2⟩ h7 t5 t4).mono fr
   ·
    have h1':j < e.args.length:=by omega
    have:=(ih j h1' h2).1 (z j h1')
    simp only [o2,List.getElem_map]
    exact this
   ·
    rw [o2,List.map_map] at hv
    obtain ⟨x,hx',rfl⟩:=List.mem_map.1 hv
    have hm:=jl hx'
    exact ((Wu hE x.bulk x (level + 1) (Nat.le_refl _) (hS.arg hx') (x2 x hx')).1 (o1 _ (List.mem_map_of_mem hx'))).1
  ·
   rw [if_pos h0]
   obtain ⟨i,hi,he⟩:=adY h0
   have hi':i < e.args.length:=by simpa using hi
   rw [←he]
   simp only [List.getElem_map] at he ⊢
   exact (ih i hi' (by omega)).err (by rw [he]; exact h0) fun hs=>UF hs _ (List.getElem_mem hi')
end Go.Ft

namespace Go.Ft
open Go
attribute [local congr] dZ
theorem acf {go:aj→Option Bool} {f:aj→Bool}:∀ (l:List aj) (i:Nat),(∀ x∈l,go x=some (f x))→dG (fun _ e1 (_:Unit) r=>au (go e1) fun x3=>if !x3 then some false else r ()) (fun _=>some true) i l ()=some (l.all f)
 | [],i,_=>rfl
 | x :: r,i,h=>by
  rw [dG,h x (by simp),ay,List.all_cons]
  cases f x with
  | false=>rfl
  | true=>exact acf r (i + 1) fun y hy=>h y (by simp [hy])
theorem ab5 {env:List aH} (hW:abC env) (hl:env.length < 4611686018427387904):∀ (b:Nat) (e:aj) (level:Nat),e.bulk≤b→e.bulk≤1099511627776→EO e level=0→∀ m,b + 1≤m→qF m e env=some (Kn env e)
 | 0,e,_,h,_,_,_,_=>by have:=e.jY; omega
 | b + 1,e,level,h,hB,hx,m,hm=>by
  obtain ⟨m1,rfl⟩:∃ m1,m=m1 + 1:=⟨m - 1,by omega⟩
  obtain ⟨T,c,w,d,_,r⟩:=aa1 hW hl (m:=e.bulk + 1) hB hx (Nat.le_refl _)
  have x2:=(RS hx).2
  have hal:=J2 e
  rw [qF,Fe,aaj,r,bU]
  by_cases hc:c=0
  ·
   subst hc
   simp only [bne_self_eq_false,Bool.false_eq_true,if_false,free_eq w (by omega),ay,okF,Option.getD_some,beq_self_eq_true,Bool.true_and]
   cases jI T with
   | false=>rfl
   | true=>
    simp only [Bool.not_true,Bool.false_eq_true,if_false,Bool.true_and]
    rw [dH (F:=fun k (_:Unit) i=>zM (qF m1) e env k i) (l:=e.args) (body:=fun _ e1 (_:Unit) r=>au (qF m1 e1 env) fun x3=>if !x3 then some false else r ()) (fin:=fun _=>some true) (by omega) (fun k s i=>rfl) ()]
    exact acf e.args 0 fun x hx'=>ab5 hW hl b x (level + 1) (by have:=jl hx'; omega) (by have:=jl hx'; omega) (x2 x hx') m1 (by omega)
  ·
   have e1:(c != 0)=true:=by simpa using hc
   have e2:(c == 0)=false:=by simpa using hc
   simp [e1,okF,e2]
theorem DC.name :∀ {vars:List aA} {env:List aH} {N:Nat},DC vars env→(∀ x∈vars,x.name.length≤N)→∀ d∈env,d.name.length≤N
 | _,_,N,.nil,_=>fun d hd=>by cases hd
 | _,_,N,.cons T hn ht hw hd hf h,hv=>fun d hm=>by
  rcases List.mem_cons.1 hm with rfl | hm
  · rw [hn]; exact hv _ (by simp)
  · exact h.name (fun x hx=>hv x (by simp [hx])) d hm
theorem ah3 {e:aj} {env:List aH} {T:Ty} (h:e.bulk≤1099511627776) (hl:env.length < 4611686018427387904) (hW:abC env) (hx:EO e 1=0) (hr:Bt e env=some (T.api,0)):C_ e env=some (Kn env e):=by
 unfold C_ Pj
 rw [hr,bU,if_pos (by simp)]
 exact ab5 hW hl e.bulk e 1 (Nat.le_refl _) h hx BIG (by have:=jq; omega)
end Go.Ft

namespace Go.Ft
open Go
attribute [local congr] dZ
def tv (n:Str) (b:Bool):aA:=aA.mk n (ah.mk 1 b 0 ([]:Str) [] [])
def nAl :Str:=[97,108,119,97,121,115]
def nCa :Str:=[99,97,110,99,101,108,108,101,100]
def nFa :Str:=[102,97,105,108,117,114,101]
def nSk :Str:=[115,107,105,112,112,101,100]
def nSu :Str:=[115,117,99,99,101,115,115]
def OV (c f k s:Bool):List aA:=[tv nAl true,tv nCa c,tv nFa f,tv nSk k,tv nSu s]
def Dr (needs:List Int) (vars:List aA):List aA:=OV (needs.any (· == 4)) (needs.any (· == 2)) (needs.any (· == 3)) (needs.all (· == 1)) ++ vars
def anr :Nat→Int→bL→(bL→Option bL)→Option bL:=fun _ e1 s1 r=>
 if e1 == 1 then r s1 else if e1 == 3 then r (bL.mk s1.cancelled s1.failure true false) else if e1 == 4 then r (bL.mk true s1.failure s1.skipped false)
 else if e1 == 2 then r (bL.mk s1.cancelled true s1.skipped false) else r (bL.mk s1.cancelled s1.failure s1.skipped false)
theorem YP :∀ (l:List Int) (i:Nat) (c f k s:Bool),dG anr (fun s=>some s) i l (bL.mk c f k s)
  =some (bL.mk (c || l.any (· == 4)) (f || l.any (· == 2)) (k || l.any (· == 3)) (s && l.all (· == 1)))
 | [],i,c,f,k,s=>by simp [dG]
 | x :: l,i,c,f,k,s=>by
  have ih:=YP l (i + 1)
  rw [dG,anr,List.any_cons,List.any_cons,List.any_cons,List.all_cons]
  by_cases h1:x=1
  · subst h1; rw [if_pos (by rfl),ih]; simp
  ·
   by_cases h3:x=3
   · subst h3; rw [if_neg (by decide),if_pos (by rfl),ih]; simp
   ·
    by_cases h4:x=4
    · subst h4; rw [if_neg (by decide),if_neg (by decide),if_pos (by rfl),ih]; simp
    ·
     by_cases h2:x=2
     · subst h2; rw [if_neg (by decide),if_neg (by decide),if_neg (by decide),if_pos (by rfl),ih]; simp
     ·
      have b1:(x == 1)=false:=by simpa using h1
      have b2:(x == 2)=false:=by simpa using h2
      have b3:(x == 3)=false:=by simpa using h3
      have b4:(x == 4)=false:=by simpa using h4
      rw [b1,b2,b3,b4,if_neg (by decide),if_neg (by decide),if_neg (by decide),if_neg (by decide),ih]; simp
theorem ali {needs:List Int} (hl:needs.length < 4611686018427387904):qA needs=some (bL.mk (needs.any (· == 4)) (needs.any (· == 2)) (needs.any (· == 3)) (needs.all (· == 1))):=by
 unfold qA
 rw [dH (F:=fun k (s:bL) i=>iM needs k i s) (l:=needs) (body:=anr) (fin:=fun s=>some s) hl (fun k s i=>rfl)]
 rw [YP]; simp
theorem ZB :∀ (l:List aA) (i:Nat) (out:List aA),(∀ x∈l,x.value.bulk≤wB)→out.length + l.length≤wB→
  dG (fun _ e1 (bH:List aA) r=>au (oM e1.value) fun x8=>au (app bH [(aA.mk e1.name x8)]) fun yS=>r yS) (fun out=>some out) i l out=some (out ++ l)
 | [],i,out,_,_=>by simp [dG]
 | x :: l,i,out,h,hn=>by
  simp only [List.length_cons] at hn
  have hc:oM x.value=some x.value:=by unfold oM; rw [if_pos (h x (by simp))]
  rw [dG,hc,ay,vN (by simp; omega),ay]
  refine (ZB l (i + 1) _ (fun y hy=>h y (by simp [hy])) (by simp; omega)).trans ?_
  simp
theorem UU {needs:List Int} {vars:List aA} (hl:needs.length < 4611686018427387904) (hv:∀ x∈vars,x.value.bulk≤wB) (hn:vars.length≤1048576):uf needs vars=some (Dr needs vars):=by
 have hL:wB=4294967296:=rfl
 unfold uf nY
 rw [ali hl]
 simp only [ay]
 rw [dH (F:=fun k (s:List aA) i=>uP vars k s i) (l:=vars) (body:=fun _ e1 (bH:List aA) r=>au (oM e1.value) fun x8=>au (app bH [(aA.mk e1.name x8)]) fun yS=>r yS) (fin:=fun out=>some out) (by omega) (fun k s i=>rfl)]
 rw [ZB vars 0 _ hv (by simp; omega)]
 rfl
theorem afY (needs:List Int) (hl:needs.length < 4611686018427387904) (q:Int):∀ k i:Nat,needs.length < k + i→i≤needs.length→Aw needs q k (i:Int)=some ((needs.drop i).any (· == q))
 | 0,i,h,h'=>by omega
 | k + 1,i,h,h'=>by
  rw [Aw]
  by_cases hi:i < needs.length
  ·
   rw [if_pos (by simpa using hi),rW hi,List.drop_eq_getElem_cons hi,ay,List.any_cons]
   by_cases hq:needs[i]=q
   · simp [hq]
   ·
    have:(needs[i] == q)=false:=by simpa using hq
    rw [this,zy (by omega),afY needs hl q k (i + 1) (by omega) (by omega)]
    simp
  ·
   have:i=needs.length:=by omega
   subst this
   rw [if_neg (by simp)]
   simp
theorem all_eq (needs:List Int) (hl:needs.length < 4611686018427387904) (q:Int):∀ k i:Nat,needs.length < k + i→i≤needs.length→CW needs q k (i:Int)=some ((needs.drop i).all (· == q))
 | 0,i,h,h'=>by omega
 | k + 1,i,h,h'=>by
  rw [CW]
  by_cases hi:i < needs.length
  ·
   rw [if_pos (by simpa using hi),rW hi,List.drop_eq_getElem_cons hi,ay,List.all_cons]
   by_cases hq:needs[i]=q
   ·
    rw [if_neg (by simpa using hq),zy (by omega),all_eq needs hl q k (i + 1) (by omega) (by omega)]
    simp [hq]
   ·
    have:(needs[i] == q)=false:=by simpa using hq
    rw [if_pos (by simpa using hq),this]
    simp
  ·
   have:i=needs.length:=by omega
   subst this
   rw [if_neg (by simp)]
   simp
theorem aat {needs:List Int} {vars:List aA} (hl:needs.length < 4611686018427387904) (hn:vars.length≤1048576):Kr needs vars=some (Dr needs vars):=by
 have hL:wB=4294967296:=rfl
 have s:=fun q=>afY needs hl q BIG 0 (by have:=jq; omega) (by omega)
 have a:=all_eq needs hl 1 BIG 0 (by have:=jq; omega) (by omega)
 simp only [List.drop_zero,Int.natCast_zero] at s a
 unfold Kr JB UK jf
 simp only [ay,s,a]
 rw [vN (by simp; omega),ay,vN (by simp; omega),ay,vN (by simp; omega),ay,vN (by simp; omega),ay,vN (by simp; omega)]
 rfl
theorem asc :mW ([97,108,119,97,121,115,32,124,124,32,110,32,62,32,49]:Str) ([1,2]:List Int)=some (true,0):=by decide +kernel
theorem asb :mW ([115,117,99,99,101,115,115]:Str) ([1,2]:List Int)=some (false,0):=by decide +kernel
theorem asa :mW ([102,97,105,108,117,114,101,32,38,38,32,33,99,97,110,99,101,108,108,101,100,32,38,38,32,33,115,107,105,112,112,101,100]:Str) ([1,2]:List Int)=some (true,0):=by decide +kernel
theorem ar_ :mW ([49]:Str) []=some (false,9):=by decide +kernel
theorem ar9 :(match oW ([115,117,99,99,101,115,115,32,43,32,49]:Str) with | some (e,_,_)=>je e [] == some 9 | none=>false)=true:=by decide +kernel
theorem ar8 :je (aj.mk 2 nSu (ah.mk 0 false 0 ([]:Str) [] []) [] []) [(aH.mk ([97,108,119,97,121,115]:Str) (ak.mk 2 []))]=some 7:=by decide +kernel
theorem ar7 :JC (aj.mk 2 nSu (ah.mk 0 false 0 ([]:Str) [] []) [] [])=some true:=by decide +kernel
theorem ar6 :je (aj.mk 2 nSu (ah.mk 0 false 0 ([]:Str) [] []) [] []) []=some 0:=by decide +kernel
theorem agy :nO=some (aj.mk 2 nSu (ah.mk 0 false 0 ([]:Str) [] []) [] []):=rfl
theorem FM :lZ=some true:=by
 have a:=asc
 have b:=asb
 have c:=asa
 have d:=ar_
 have e:=ar9
 have f:=ar8
 have g:=ar7
 have h:=ar6
 unfold lZ
 rw [agy]
 generalize mW=D at a b c d ⊢
 generalize je=K at e f h ⊢
 generalize JC=E at g ⊢
 generalize oW ([115,117,99,99,101,115,115,32,43,32,49]:Str)=P at e ⊢
 rw [a,b,c,d]
 clear a b c d
 match P,e with
 | some (x,y,z),e=>
  have e1:K x []=some 9:=by simpa using e
  rw [bU,bU,bU,bU,Xr,ay,f,ay,if_pos (by decide),e1,ay,ay,if_pos (by decide),ay,g,ay,if_pos rfl,ay,h,ay]
  rfl
 | none,e=>cases e
theorem QN :∀ l:List Int,(List.map (fun z:Int=>1) l).sum=l.length
 | []=>rfl
 | x :: r=>by rw [List.map_cons,List.sum_cons,QN r,List.length_cons]; omega
theorem UQ {needs:List Int} {vars:List aA} (h:(vars.map aA.bulk).sum≤1048576):(Dr needs vars).length < 4611686018427387904∧∀ d∈Dr needs vars,d.name.length < 4611686018427387000∧d.value.bulk≤1048576:=by
 obtain ⟨s1,s2⟩:=ak7 h
 have five:∀ c f k s,∀ d∈OV c f k s,d.name.length < 4611686018427387000∧d.value.bulk≤1048576:=by
  intro c f k s d hd
  have hb:∀ (n:Str) (b:Bool),(tv n b).value.bulk=7:=fun n b=>by unfold tv ah.bulk ah.nZ; simp
  have hs:∀ m:Nat,m≤9→m < 4611686018427387000:=fun m h=>by omega
  simp only [OV,List.mem_cons,List.not_mem_nil,or_false] at hd
  rcases hd with rfl | rfl | rfl | rfl | rfl <;> exact ⟨hs _ (by first | exact (by decide:nAl.length≤9) | exact (by decide:nCa.length≤9) | exact (by decide:nFa.length≤9) | exact (by decide:nSk.length≤9) | exact (by decide:nSu.length≤9)),by rw [hb]; decide⟩
 have hvs:=CK h
 unfold Dr
 refine ⟨by simp [OV]; omega,fun d hd=>?_⟩
 rcases List.mem_append.1 hd with hd | hd
 · exact five _ _ _ _ d hd
 · exact s2 d hd
end Go.Ft

namespace Go.Ft
open Go
attribute [local congr] dZ
def TD (p:ah × Int):Bool × Int:=if p.2≠0 then (false,p.2) else if p.1.kind≠1 then (false,9) else (p.1.dO,0)
theorem adh (p:ah × Int):(fM (some p) fun x2 e1=>if e1 != 0 then some (false,e1) else if x2.kind != 1 then some (false,9) else some (x2.dO,0))=some (TD p):=by
 obtain ⟨v,c⟩:=p
 rw [bU]
 unfold TD
 by_cases h:c=0
 · by_cases k:v.kind=1 <;> simp [h,k]
 · simp [h]
theorem RB {e:aj} {needs:List Int} {vars:List aA} (h:e.bulk≤1099511627776) (hl:needs.length≤4194304) (hE:(vars.map aA.bulk).sum≤1048576):jO e needs vars=some (TD (Rh e (Dr needs vars))):=by
 obtain ⟨s1,s2⟩:=CK hE
 have hL:wB=4294967296:=rfl
 obtain ⟨c1,c2⟩:=UQ (needs:=needs) hE
 unfold jO
 rw [UU (by omega) (fun x hx=>by have:=s2 x hx; omega) s1,ay,(afE h c1 c2).1,adh]
theorem aan {e:aj} (h:e.bulk < 4611686018427387904) (n:Int):yX e n=some ((decide ((ecnt e:Int)≤5000)) && (decide (n≤300))):=by
 unfold yX
 rw [(count_eq h).2]
 rfl
theorem ael {e:aj} {needs:List Int} {vars:List aA} (h:aj.bulk e + ((List.map (fun z:Int=>1) needs).sum + 1) + ((List.map (fun z:aA=>(aA.bulk z)) vars).sum + 1)≤1048576):e.bulk≤1048576∧needs.length≤1048576∧(vars.map aA.bulk).sum≤1048576:=by
 have:=QN needs
 have h':(List.map (fun z:aA=>(aA.bulk z)) vars).sum≤1048576:=by omega
 exact ⟨by omega,by omega,h'⟩
end Go.Ft

namespace Go.Ft
open Go
attribute [local congr] dZ
def td (n:Str):aH:=aH.mk n (sc 2).api
def Ew :List aH:=[td nAl,td nCa,td nFa,td nSk,td nSu]
theorem Zb {vars:List aH} (h:vars.length≤1048576):CX vars=some (Ew ++ vars):=by
 have hL:wB=4294967296:=rfl
 unfold CX
 rw [show kH 2=some (sc 2).api from rfl,ay,vN (by simp; omega)]
 rfl
def Zl (t:ak):Int:=if t.kind=2∨t.kind=0∨t.kind=7 then 0 else 9
theorem WR {K:List aH→Option Int}:∀ (l:List aA) (i:Nat) (out:List aH),out.length + l.length≤100→
  dG (fun _ e1 (decls1:List aH) r=>au (app decls1 [(aH.mk e1.name (ak.mk 2 []))]) fun decls2=>r decls2) K i l out=K (out ++ l.map fun x=>td x.name)
 | [],i,out,_=>by simp [dG]
 | x :: l,i,out,h=>by
  have hL:wB=4294967296:=rfl
  simp only [List.length_cons] at h
  rw [dG,vN (by simp; omega),ay]
  refine (WR l (i + 1) _ (by simp; omega)).trans ?_
  simp [td,sc,Ty.api]
theorem Oq {e:aj} {vars:List aH} {t:ak} {c:Int} (hn:vars.length≤1048576) (hc:xX e (Ew ++ vars)=some (t,c)):je e vars=some (if c≠0 then c else Zl t):=by
 have hL:wB=4294967296:=rfl
 unfold je
 rw [UU (needs:=[]) (vars:=[]) (by simp) (fun x hx=>by cases hx) (by simp),ay]
 rw [dH (F:=fun k (s:List aH) i=>rQ e vars (Dr [] []) k s i) (l:=Dr [] []) (body:=fun _ e1 (decls1:List aH) r=>au (app decls1 [(aH.mk e1.name (ak.mk 2 []))]) fun decls2=>r decls2)
  (fin:=fun decls1=>au (app decls1 vars) fun x3=>fM (xX e x3) fun x4 e2=>if e2 != 0 then some e2 else if x4.kind == 2 then some 0 else if x4.kind == 0 then some 0 else if x4.kind == 7 then some 0 else some 9) (by simp [Dr,OV]) (fun k s i=>rfl)]
 rw [WR _ _ _ (by simp [Dr,OV])]
 have e1:([]:List aH) ++ (Dr [] []).map (fun x=>td x.name)=Ew:=rfl
 rw [e1,vN (by simp [Ew]; omega),ay,hc,bU]
 unfold Zl
 by_cases h:c=0
 ·
  by_cases k2:t.kind=2
  · simp [h,k2]
  ·
   by_cases k0:t.kind=0
   · simp [h,k0]
   ·
    by_cases k7:t.kind=7
    · simp [h,k7]
    · simp [h,k2,k0,k7]
 · simp [h]
theorem ade {vars:List aH} (hn:vars.length≤1048576) (hd:∀ d∈vars,d.name.length≤1048576):(Ew ++ vars).length < 4611686018427387904∧∀ d∈Ew ++ vars,d.name.length < 4611686018427387000:=by
 refine ⟨by simp [Ew]; omega,fun d hm=>?_⟩
 rcases List.mem_append.1 hm with hm | hm
 ·
  simp only [Ew,List.mem_cons,List.not_mem_nil,or_false] at hm
  rcases hm with rfl | rfl | rfl | rfl | rfl <;> decide
 · have:=hd d hm; omega
end Go.Ft

namespace Go.Ft
open Go
attribute [local congr] dZ
def ofD (x:aA):aH:=aH.mk x.name (Qi x.value).api
theorem anh :∀ {vars:List aA},(∀ x∈vars,VV x.value∧x.value.bulk < 4611686018427387904)→DC vars (vars.map ofD)
 | [],_=>.nil
 | x :: r,h=>by
  obtain ⟨v1,v2⟩:=h x (by simp)
  obtain ⟨o1,o2,o3,o4⟩:=agK v2 ((NP _).2 v1)
  exact .cons (Qi x.value) rfl rfl o3 o4 (Gq _) (anh fun y hy=>h y (by simp [hy]))
theorem amw {c f k s:Bool} {vars:List aA} {env:List aH} (h:DC vars env):DC (OV c f k s ++ vars) (Ew ++ env):=by
 have one:∀ (n:Str) (b:Bool) {xs:List aA} {ds:List aH},DC xs ds→DC (tv n b :: xs) (td n :: ds):=fun n b xs ds h=>.cons (sc 2) rfl rfl (Y5 (by omega)) (by simp [sc,Ty.dep]) (xP rfl) h
 exact one _ _ (one _ _ (one _ _ (one _ _ (one _ _ h))))
theorem YZ {K:List aH→Option Bool} {vars:List aA} (hl:vars.length≤1048576):∀ (l:List aA) (i:Nat) (out:List aH),l=vars.drop i→(∀ x∈l,VV x.value∧x.value.bulk < 4611686018427387904)→out.length + l.length≤1048576→
  dG (fun (i:Nat) e1 (l1:List aH) r=>au (idx vars (i:Int)) fun e2=>au (MO e2.value) fun x5=>au (app l1 [(aH.mk e1.name x5)]) fun l2=>r l2) K i l out=K (out ++ l.map ofD)
 | [],i,out,_,_,_=>by simp [dG]
 | x :: l,i,out,he,h,hn=>by
  have hL:wB=4294967296:=rfl
  simp only [List.length_cons] at hn
  obtain ⟨v1,v2⟩:=h x (by simp)
  obtain ⟨o1,o2,o3,o4⟩:=agK v2 ((NP _).2 v1)
  have hi:i < vars.length:=by
   rcases Nat.lt_or_ge i vars.length with h | h
   · exact h
   · rw [List.drop_eq_nil_of_le h] at he; cases he
  have hc:=List.drop_eq_getElem_cons hi
  rw [←he] at hc
  have e1:x=vars[i]:=(List.cons.inj hc).1
  have e2:=(List.cons.inj hc).2
  rw [dG,rW hi,ay,←e1,o2,ay,vN (by simp; omega),ay]
  refine (YZ hl l (i + 1) _ e2 (fun y hy=>h y (by simp [hy])) (by simp; omega)).trans ?_
  simp [ofD]
theorem Pz (fD:aj) (bC:List Int) (bG:List aA) (h:aj.bulk fD + ((List.map (fun z:Int=>1) bC).sum + 1) + ((List.map (fun z:aA=>(aA.bulk z)) bG).sum + 1)≤1048576):vF fD bC bG=some true:=by
 obtain ⟨a,b,c⟩:=ael h
 obtain ⟨s1,s2⟩:=CK c
 obtain ⟨k1,k2⟩:=UQ (needs:=bC) c
 obtain ⟨v1,v2⟩:=aa4 (env:=Dr bC bG) k1 (fun d hd=>by have:=k2 d hd; omega)
 unfold vF
 rw [aan (by omega),FM,ay,aat (by omega) s1]
 simp only [ay,v2]
 by_cases hs:((decide ((ecnt fD:Int)≤5000)) && (decide (bZ ((bC.length:Int) + (bG.length:Int))≤300)))=true
 case neg=>
  rw [Bool.not_eq_true] at hs
  rw [hs]; rfl
 rw [hs]
 simp only [Bool.not_true,Bool.false_eq_true,if_false,ay]
 by_cases hv:Cz (Dr bC bG)=0
 case neg=>
  rw [if_pos (by simpa using hv)]
 rw [if_neg (by simpa using hv)]
 obtain ⟨w1,w2,w3⟩:=Wy hv
 have hval:∀ x∈bG,VV x.value∧x.value.bulk < 4611686018427387904:=fun x hx=>⟨(w1 x (List.mem_append.2 (.inr hx))).1,by have:=s2 x hx; omega⟩
 rw [dH (F:=fun k (s:List aH) i=>ow fD bC bG k s i) (l:=bG) (body:=fun (i:Nat) e1 (l1:List aH) r=>au (idx bG (i:Int)) fun e2=>au (MO e2.value) fun x5=>au (app l1 [(aH.mk e1.name x5)]) fun l2=>r l2)
  (fin:=fun l1=>au (je fD l1) fun x6=>if x6 != 0 then lZ else fM (jO fD bC bG) fun x8 e3=>au (if e3 != 10 then (if e3 != 9 then some true else au (CX l1) fun x9=>au (C_ fD x9) fun wS=>some (!wS)) else some false) fun b2=>if b2 then lZ else some false) (by omega) (fun k s i=>rfl)]
 rw [YZ s1 bG 0 [] rfl hval (by simp; omega),List.nil_append,FM]
 have hlen:(bG.map ofD).length≤1048576:=by rw [List.length_map]; exact s1
 obtain ⟨f1,f2⟩:=ade hlen fun d hd=>by
  obtain ⟨x,hx,rfl⟩:=List.mem_map.1 hd
  exact (s2 x hx).1
 have hD:DC (Dr bC bG) (Ew ++ bG.map ofD):=amw (anh hval)
 rcases WO (e:=fD) (env:=Ew ++ bG.map ofD) (by omega) f1 f2 with ⟨q,c0,c1,c2⟩ | ⟨T,w,d,c1,c2,c3,c4,c5⟩
 · rw [Oq hlen c1,ay,if_pos c0,if_pos (by simpa using c0)]
 ·
  rw [Oq hlen c1,ay,if_neg (c:=(0:Int)≠0) (by simp)]
  by_cases hk:Zl T.api=0
  case neg=>rw [if_pos (by simpa using hk)]
  rw [if_neg (by simpa using hk)]
  have hc:=NY c4
  have hSE:=ZX (e:=fD) (by omega) c4
  have e2:Rh fD (Dr bC bG)=nu (Dr bC bG) fD:=by unfold Rh; rw [if_neg (by simpa using hv),if_neg (by simpa using c4)]
  have hEv:∀ x∈Dr bC bG,VV x.value∧x.value.bulk≤1048576:=fun x hx=>⟨(w1 x hx).1,(k2 x hx).2⟩
  obtain ⟨q1,q2,q3⟩:=afX hEv hD f1 fD.bulk fD 1 T (Nat.le_refl _) hSE hc c3 w d
  rw [RB (by omega) (by omega) c,e2,Kc]
  have hS:=ah3 (e:=fD) (by omega) f1 hD.W hc c2
  rw [Zb hlen,ay,hS,ay]
  have key:(TD (nu (Dr bC bG) fD)).2≠10∧((TD (nu (Dr bC bG) fD)).2=9→Kn (Ew ++ bG.map ofD) fD=false):=by
   have nst:∀ P:Prop,(Kn (Ew ++ bG.map ofD) fD=true→¬ P)→P→Kn (Ew ++ bG.map ofD) fD=false:=fun P hn hp=>by
    cases hb:Kn (Ew ++ bG.map ofD) fD with
    | false=>rfl
    | true=>exact absurd hp (hn hb)
   unfold TD
   by_cases h0:(nu (Dr bC bG) fD).2=0
   ·
    rw [if_neg (by simpa using h0)]
    by_cases hb:(nu (Dr bC bG) fD).1.kind=1
    ·
     rw [if_neg (by simpa using hb)]
     exact ⟨by simp,fun h=>by simp at h⟩
    ·
     rw [if_pos hb]
     refine ⟨by simp,nst _ fun hst _=>?_⟩
     have hfit:=q1 h0
     have hfree:=ab6 w (by omega) c3 hst
     unfold Zl at hk
     rw [Ty.oG] at hk
     have hk':T.kind=2∨T.kind=0∨T.kind=7:=by
      by_cases hh:T.kind=2∨T.kind=0∨T.kind=7
      · exact hh
      · rw [if_neg hh] at hk; cases hk
     rcases hk' with h2 | h0' | h7
     ·
      have e3:=DR w h2 (by omega)
      rw [e3] at hfit
      have:=rM (by omega) hfit
      omega
     ·
      have e3:=DR w h0' (by omega)
      rw [e3] at hfree; cases hfree
     ·
      have e3:=DR w h7 (by omega)
      rw [e3] at hfit
      exact Nc hfit
   ·
    rw [if_pos h0]
    refine ⟨fun h10=>?_,nst _ fun hst h9=>q3 h9 hst⟩
    have:=q2 h0
    unfold vL at this
    omega
  generalize (TD (nu (Dr bC bG) fD)).2=z at key
  obtain ⟨z1,z2⟩:=key
  rw [if_pos (by simpa using z1)]
  by_cases h9:z=9
  · rw [if_neg (by simpa using h9),z2 h9]; rfl
  · rw [if_pos (by simpa using h9)]; rfl
end Go.Ft
