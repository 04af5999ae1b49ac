/- Proved here: plain facts on the functional texts. -/
import Derived.Test.YtdhmchjccpmppaaGreatDoorEvPlain2
import Derived.Test.YtdhmchjccpmppaaGreatDoorEvEval20
import Derived.Test.YtdhmchjccpmppaaGreatDoorEvEval16
import Derived.KernelRfl
set_option linter.unusedVariables false
set_option linter.unusedSimpArgs false
set_option linter.unusedSectionVars false
set_option maxHeartbeats 2000000
namespace Go.Ft
open Go
attribute [local congr] jE
theorem ab9 :∀ {t s:Str},t.isPrefixOf s=true→s=t ++ s.drop t.length:=by
 intro t s h
 obtain ⟨r,hr⟩:=List.isPrefixOf_iff_prefix.1 h
 rw [←hr]; simp
theorem UH :∀ {s t:Str} {i:Nat},jF s t=some i→s=s.take i ++ (t ++ s.drop (i + t.length))
 | [],t,i,h=>by
  rw [jF] at h
  split at h
  ·
   rename_i ht
   cases h
   have:t=[]:=by simpa using ht
   subst this; rfl
  · cases h
 | b :: l,t,i,h=>by
  rw [jF] at h
  split at h
  ·
   rename_i hp
   cases h
   have:=ab9 hp
   simpa using this
  ·
   cases hj:jF l t with
   | none=>rw [hj] at h; cases h
   | some j=>
    rw [hj] at h
    simp only [Option.map_some,Option.some.injEq] at h
    subst h
    have:=UH hj
    rw [show j + 1 + t.length=(j + t.length) + 1 by omega,List.take_succ_cons,List.drop_succ_cons,List.cons_append,←this]
theorem Ui (t:Str):∀ (k:Nat) (s:Str),jh t k s≠[]
 | 0,s=>by simp [jh]
 | k + 1,s=>by rw [jh]; split <;> simp
theorem K5 (t:Str):∀ (k:Nat) (s:Str),lX (jh t k s) t=s
 | 0,s=>rfl
 | k + 1,s=>by
  rw [jh]
  cases h:jF s t with
  | none=>rfl
  | some i=>
   have ih:=K5 t k (s.drop (i + t.length))
   have hn:=Ui t k (s.drop (i + t.length))
   simp only
   cases hr:jh t k (s.drop (i + t.length)) with
   | nil=>exact absurd hr hn
   | cons y r=>
    rw [lX,←hr,ih]
    exact (UH h).symm
theorem Zz (t:Str) (k:Nat) (s:Str):decide (1 < (jh t (k + 1) s).length)=(jF s t).isSome:=by
 rw [jh]
 cases h:jF s t with
 | none=>simp
 | some i=>
  have hn:=Ui t k (s.drop (i + t.length))
  have:0 < (jh t k (s.drop (i + t.length))).length:=List.length_pos_iff.2 hn
  simp only [List.length_cons,Option.isSome_some,decide_eq_true_eq]
  omega
theorem ZA (t:Str) (k:Nat) (s:Str):t.length * ((jh t k s).length - 1)≤s.length:=by
 have:=Ns (jh t k s) t
 rw [K5] at this
 omega
def fn1 (f:Str) (p:ah × Int):ah × Int:=if p.2≠0 then nu p.2 else VW f p.1
def fn2 (f:Str) (p q:ah × Int):ah × Int:=if p.2≠0 then nu p.2 else if q.2≠0 then nu q.2 else OZ f p.1 q.1
theorem af8 (env:List av) (f:Str) (h:BM f=1) (a:aj):iJ env (fnX f [a])=fn1 f (iJ env a):=by
 rw [rU]
 unfold fnX fn1 vS
 simp only [List.map_cons,List.map_nil,Vb,h]
 by_cases p0:(iJ env a).2=0
 · simp [p0,yR]
 · simp [p0]
theorem Wy (env:List av) (f:Str) (h:BM f=2) (a b:aj):iJ env (fnX f [a,b])=fn2 f (iJ env a) (iJ env b):=by
 rw [rU]
 unfold fnX fn2 vS
 simp only [List.map_cons,List.map_nil,abG,h]
 by_cases p0:(iJ env a).2=0
 ·
  by_cases q0:(iJ env b).2=0
  · simp [p0,q0,yR]
  · simp [p0,q0]
 · simp [p0]
def ajk :Str:=[106,111,105,110,40,115,112,108,105,116,40,115,44,32,98,121,41,44,32,98,121,41,32,61,61,32,115,32,38,38,32,40,108,101,110,40,115,112,108,105,116,40,115,44,32,98,121,41,41,32,62,32,49,41,32,61,61,32,99,111,110,116,97,105,110,115,40,115,44,32,98,121,41]
def sX :aj:=nmX [115]
def tX :aj:=nmX [98,121]
def spX :aj:=fnX [115,112,108,105,116] [sX,tX]
def exS :aj:=qQ [38,38] (qQ [61,61] (fnX [106,111,105,110] [spX,tX]) sX) (qQ [61,61] (qQ [62] (fnX [108,101,110] [spX]) (S_ 1)) (fnX [99,111,110,116,97,105,110,115] [sX,tX]))
theorem ah3 :pW ajk=some (exS,0,0):=by kernel_rfl
theorem ahf :xval exS=0:=by decide +kernel
theorem aj_ :exS.bulk≤1099511627776:=by decide +kernel
def Ij (s t:Str):List av:=[av.mk ([115]:Str) (ah.mk 3 false 0 s [] []),av.mk ([98,121]:Str) (ah.mk 3 false 0 t [] [])]
theorem af6 (s t:Str):qB (Ij s t) [115]=okV (mkS s):=by simp [Ij,qB,mkS]
theorem af5 (s t:Str):qB (Ij s t) [98,121]=okV (mkS t):=by simp [Ij,qB,mkS]
theorem afn (s t:Str):fn2 [115,112,108,105,116] (okV (mkS s)) (okV (mkS t))=ZF s t:=by
 simp [fn2,okV,OZ,mkS]
theorem adi (s t:Str):fn2 [99,111,110,116,97,105,110,115] (okV (mkS s)) (okV (mkS t))=okV (Cu (jF s t).isSome):=by
 simp [fn2,okV,OZ,Ru,mkS]
theorem adh (l:List Str) (t:Str):fn2 [106,111,105,110] (okV (Ct (l.map mkS))) (okV (mkS t))=if (lX l t).length≤4096 then okV (mkS (lX l t)) else nu 3:=by
 have h1:((l.map mkS).all fun x=>x.kind == 3)=true:=by simp [mkS]
 have h2:(l.map mkS).map (·.bI)=l:=by rw [List.map_map]; exact (List.map_congr_left (g:=id) fun x _=>rfl).trans (List.map_id l)
 have h3:(Ct (l.map mkS)).aI=l.map mkS:=rfl
 have h4:(Ct (l.map mkS)).kind=4:=rfl
 have h5:(mkS t).kind=3:=rfl
 have h6:(mkS t).bI=t:=rfl
 have e:OZ [106,111,105,110] (Ct (l.map mkS)) (mkS t)=Ov (Ct (l.map mkS)) (mkS t):=by simp [OZ]
 unfold fn2 okV
 simp only [ne_eq,not_true_eq_false,if_false]
 rw [e]
 unfold Ov
 rw [h3,h4,h5,h6,h1,h2]
 simp [okV]
theorem afO (l:List ah):fn1 [108,101,110] (okV (Ct l))=okV (vX (l.length:Int)):=by
 simp [fn1,okV,VW,Ct]
theorem aio (a b:Int):Ig [62] (okV (vX a)) (okV (vX b))=okV (Cu (decide (b < a))):=by
 rw [Gi]
 have h1:(vX a).kind=2:=rfl
 have h2:(vX b).kind=2:=rfl
 have h3:=(WJ a b).2.2.1
 have h4:qw (vX a) (vX b)=oV a b:=LC ⟨rfl,rfl⟩
 simp [JF,O1,h1,h2,h4,h3]
theorem ait (s:Str):Ig [61,61] (okV (mkS s)) (okV (mkS s))=okV (Cu true):=by
 rw [aev,Na _ _ (Nat.le_refl _)]; rfl
theorem evS {s t:Str} (hs:s.length≤4096):iJ (Ij s t) exS=if t=[] then nu 1 else if (jh t (s.length + 1) s).length≤1024 then okV (Cu true) else nu 3:=by
 have c1:BM [106,111,105,110]=2:=by decide +kernel
 have c2:BM [115,112,108,105,116]=2:=by decide +kernel
 have c3:BM [99,111,110,116,97,105,110,115]=2:=by decide +kernel
 have c4:BM [108,101,110]=1:=by decide +kernel
 have e1:∀ c:Int,c≠0→∀ q,fn2 [106,111,105,110] (nu c) q=nu c:=fun c hc q=>by simp [fn2,nu,hc]
 have e2:∀ c:Int,c≠0→∀ q,uo [38,38] (nu c) q=nu c:=fun c hc q=>by simp [uo,nu,hc]
 unfold exS spX sX tX
 simp only [MB _ [38,38] (.inl rfl),zw _ [61,61] (by decide),zw _ [62] (by decide),Wy _ _ c1,Wy _ _ c2,Wy _ _ c3,af8 _ _ c4,abm,aaf,af6,af5,afn,adi]
 unfold ZF
 by_cases h0:t=[]
 ·
  simp only [h0,if_true]
  rw [e1 1 (by decide),Vx _ (by decide),e2 1 (by decide)]
 ·
  simp only [h0,if_false]
  by_cases h1:(jh t (s.length + 1) s).length≤1024
  ·
   simp only [h1,if_true]
   rw [adh,K5,if_pos hs,ait,aeN,if_pos rfl,afO,aio,List.length_map]
   have:=Zz t s.length s
   have e3:decide ((1:Int) < ((jh t (s.length + 1) s).length:Int))=(jF s t).isSome:=by
    rw [←this]; congr 1; simp; omega
   rw [e3,abn,Sj]
   simp
  ·
   simp only [h1,if_false]
   rw [e1 3 (by decide),Vx _ (by decide),e2 3 (by decide)]
theorem QZ (s1:Str) (pq:Str) (h:(s1.length + 1) + (pq.length + 1)≤1048576):zi s1 pq=some true:=by
 have hsum:((Ij s1 pq).map av.bulk).sum≤1048600:=by
  have h1:(ah.mk 3 false 0 s1 [] []).bulk=s1.length + 7:=qP s1
  have h2:(ah.mk 3 false 0 pq [] []).bulk=pq.length + 7:=qP pq
  simp [Ij,av.bulk,h1,h2]; omega
 obtain ⟨v1,_⟩:=J9 (env:=Ij s1 pq) (by simp [Ij]) (fun d hd=>by
  have h3:=GL (f:=av.bulk) hd
  have h4:d.name.length < d.bulk:=by unfold av.bulk; omega
  have h5:d.value.bulk < d.bulk:=by unfold av.bulk; omega
  omega)
 unfold zi
 unfold Ij at v1
 rw [v1,ay]
 by_cases hv:qC (Ij s1 pq)=0
 ·
  have hv2:=hv
  unfold Ij at hv2
  obtain ⟨w1,_,_⟩:=Jm hv
  have q1:=(w1 (av.mk ([115]:Str) (ah.mk 3 false 0 s1 [] [])) (by simp [Ij])).1
  have q2:=(w1 (av.mk ([98,121]:Str) (ah.mk 3 false 0 pq [] [])) (by simp [Ij])).1
  have hs:s1.length≤4096:=(je q1.1).1
  have ht:pq.length≤4096:=(je q2.1).1
  have hsum:((Ij s1 pq).map av.bulk).sum≤1048576:=by
   have h1:(ah.mk 3 false 0 s1 [] []).bulk=s1.length + 7:=qP s1
   have h2:(ah.mk 3 false 0 pq [] []).bulk=pq.length + 7:=qP pq
   simp [Ij,av.bulk,h1,h2]; omega
  have sh:=Qk ah3 aj_ ahf hsum hv
  rw [evS hs] at sh
  unfold ajk Ij at sh
  rw [sh,hv2]
  by_cases h0:pq=[]
  · simp [h0,nu,mD,nG]
  ·
   by_cases h1:(jh pq (s1.length + 1) s1).length≤1024
   · simp [h0,h1,okV,show_true,mD,nG]
   ·
    have hm:=ZA pq (s1.length + 1) s1
    have h2:1024≤(jh pq (s1.length + 1) s1).length - 1:=by omega
    have h3:=Nat.mul_le_mul_left pq.length h2
    have h4:bS (1024 * (pq.length:Int))≤(s1.length:Int):=by
     rw [show (1024 * (pq.length:Int))=((1024 * pq.length:Nat):Int) by simp,qG (by omega)]
     omega
    simp [h0,h1,nu,mD,nG,h4]
 ·
  unfold Ij at hv
  simp [hv,nG]
end Go.Ft
