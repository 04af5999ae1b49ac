/- Proved here: plain facts on the functional texts. -/
import Derived.Test.YtdhmchjccpmppaaGreatDoorEvPlain2
set_option linter.unusedVariables false
set_option linter.unusedSimpArgs false
set_option linter.unusedSectionVars false
set_option maxHeartbeats 2000000
namespace Go.Ft
open Go
attribute [local congr] jE
def zZ (a:aj):aj:=aj.mk 6 ([33]:Str) (ah.mk 0 false 0 ([]:Str) [] []) [a] []
def qQ (op:Str) (a b:aj):aj:=aj.mk 7 op (ah.mk 0 false 0 ([]:Str) [] []) [a,b] []
def acg (p:ah × Int):ah × Int:=if p.2≠0 then nu p.2 else if p.1.kind=1 then okV (Cu (!p.1.dh)) else nu 9
theorem Wv (env:List av) (a:aj):iJ env (zZ a)=acg (iJ env a):=by
 rw [rU]
 unfold zZ acg vS
 simp only [List.map_cons,List.map_nil,Vb]
 by_cases h:(iJ env a).2=0
 · simp [h,yR,unS]
 · simp [h]
theorem MB (env:List av) (op:Str) (h:op=[38,38]∨op=[124,124]) (a b:aj):iJ env (qQ op a b)=uo op (iJ env a) (iJ env b):=by
 rw [rU]
 unfold qQ vS
 simp only [List.map_cons,List.map_nil]
 rcases h with rfl | rfl <;> simp
theorem ah_ (A B:ah × Int):acg (uo [38,38] A B)=uo [124,124] (acg A) (acg B):=by
 have hd:decide (([38,38]:Str)=[124,124])=false:=by decide
 unfold acg uo zA
 rw [hd]
 by_cases h0:A.2=0
 ·
  by_cases h1:A.1.kind=1
  ·
   cases hb:A.1.dh with
   | false=>simp [h0,h1,hb,okV,Cu]
   | true=>
    by_cases k0:B.2=0
    ·
     by_cases k1:B.1.kind=1
     · simp [h0,h1,hb,k0,k1,okV,Cu]
     · simp [h0,h1,hb,k0,k1,okV,Cu,nu]
    · simp [h0,h1,hb,k0,okV,Cu,nu]
  · simp [h0,h1,nu]
 · simp [h0,nu]
theorem Sd (a:aj):(zZ a).bulk≤a.bulk + 100:=by
 have hz:ah.bulk (ah.mk 0 false 0 ([]:Str) [] [])=7:=PS
 rw [aj.iC,aj.iN]
 simp only [zZ,List.map_cons,List.map_nil,List.sum_cons,List.sum_nil,List.length_cons,List.length_nil,hz]
 omega
theorem Y8 (op:Str) (a b:aj):(qQ op a b).bulk≤a.bulk + b.bulk + op.length + 100:=by
 have hz:ah.bulk (ah.mk 0 false 0 ([]:Str) [] [])=7:=PS
 rw [aj.iC,aj.iN]
 simp only [qQ,List.map_cons,List.map_nil,List.sum_cons,List.sum_nil,List.length_cons,List.length_nil,hz]
 omega
theorem Ye {x y:aj} {env:List av} (hx:xval x=0) (hy:xval y=0) (h:iJ env x=iJ env y):wJ x env=wJ y env:=by
 unfold wJ
 rw [hx,hy,h]
theorem Q0 (a1:aj) (b1:aj) (bK:List av) (h:aj.bulk a1 + aj.bulk b1 + ((List.map (fun z:av=>(av.bulk z)) bK).sum + 1)≤1048576):zk a1 b1 bK=some true:=by
 have hE:(bK.map av.bulk).sum≤1048576:=by
  have h':(List.map (fun z:av=>(av.bulk z)) bK).sum≤1048576:=by omega
  exact h'
 have bx:(zZ (qQ [38,38] a1 b1)).bulk≤1099511627776:=by
  have h1:=Sd (qQ [38,38] a1 b1)
  have h2:=Y8 [38,38] a1 b1
  simp only [List.length_cons,List.length_nil] at h2
  omega
 have by_:(qQ [124,124] (zZ a1) (zZ b1)).bulk≤1099511627776:=by
  have h1:=Sd a1
  have h2:=Sd b1
  have h3:=Y8 [124,124] (zZ a1) (zZ b1)
  simp only [List.length_cons,List.length_nil] at h3
  omega
 obtain ⟨p,_,g⟩:=xW (env:=bK) bx hE
 obtain ⟨q,_,_⟩:=xW (env:=bK) by_ hE
 obtain ⟨a,b⟩:=Mw g
 obtain ⟨_,x2⟩:=Gf (e:=zZ (qQ [38,38] a1 b1)) (by omega)
 obtain ⟨_,y2⟩:=Gf (e:=qQ [124,124] (zZ a1) (zZ b1)) (by omega)
 have same:xval (zZ (qQ [38,38] a1 b1))=0→xval (qQ [124,124] (zZ a1) (zZ b1))=0→wJ (zZ (qQ [38,38] a1 b1)) bK=wJ (qQ [124,124] (zZ a1) (zZ b1)) bK:=fun hx hy=>
  Ye hx hy (by rw [Wv,MB _ _ (.inl rfl),MB _ _ (.inr rfl),Wv,Wv,ah_])
 have hs7:r9 (wJ (zZ (qQ [38,38] a1 b1)) bK).1 (wJ (zZ (qQ [38,38] a1 b1)) bK).1=some true:=aaZ (by omega)
 have s1:=JW (e:=a1) (by omega) (bK.length:Int)
 have s2:=JW (e:=b1) (by omega) 0
 generalize wJ (zZ (qQ [38,38] a1 b1)) bK=X at *
 generalize wJ (qQ [124,124] (zZ a1) (zZ b1)) bK=Y at *
 generalize xval (zZ (qQ [38,38] a1 b1))=vx at *
 generalize xval (qQ [124,124] (zZ a1) (zZ b1))=vy at *
 generalize ((decide ((ecnt a1:Int)≤5000)) && (decide ((bK.length:Int)≤300)))=c1 at s1
 generalize ((decide ((ecnt b1:Int)≤5000)) && (decide ((0:Int)≤300)))=c2 at s2
 unfold zk
 rw [s1,s2,ay]
 unfold zZ qQ at p q x2 y2
 rw [x2,y2,p,q,nG]
 simp only [ay,mD]
 by_cases hx:vx=0
 ·
  by_cases hy:vy=0
  ·
   have he:=same hx hy
   subst he
   cases c1 <;> cases c2 <;> simp [hs7,hx,hy]
  · cases c1 <;> cases c2 <;> simp [hx,hy]
 · cases c1 <;> cases c2 <;> simp [hx]
end Go.Ft
