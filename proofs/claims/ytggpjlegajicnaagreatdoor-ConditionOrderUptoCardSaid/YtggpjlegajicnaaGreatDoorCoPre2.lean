/- Proved here: plain facts on the functional texts that the walks want. -/
import Derived.Test.YtggpjlegajicnaaGreatDoorCoPre1
import Derived.Test.YtggpjlegajicnaaGreatDoorCoFt1
import Derived.Test.YtggpjlegajicnaaGreatDoorCoFt2
import Derived.Test.YtggpjlegajicnaaGreatDoorCoFt3
set_option linter.unusedVariables false
set_option linter.unusedSimpArgs false
set_option linter.unusedSectionVars false
set_option maxHeartbeats 2000000
namespace Go.Ft
open Go
attribute [local congr] dZ
theorem Vy {s:Str} (hs:s.length < 4611686018427387904) {i:Nat} (hi:i≤s.length):QK s (i:Int)=some ((i + kY eX (s.drop i):Nat):Int):=
 aao (F:=GA s) hs (fun k i=>rfl) BIG i (by have:=jq; omega) hi
theorem YU {s:Str} (hs:s.length < 4611686018427387904):∀ (k i:Nat),s.length < k + i→i≤s.length→yQ s k (i:Int)=some (dz (s.drop i))
 | 0,i,h,h'=>by omega
 | k + 1,i,h,h'=>by
  rw [yQ]
  by_cases hi:i < s.length
  ·
   rw [List.drop_eq_getElem_cons hi,if_pos (by simp; omega),rW hi]
   simp only [ay]
   unfold dz
   rw [List.dropWhile_cons]
   cases e:((s[i].toNat:Int) == 48) with
   | false=>
    simp only [Bool.false_eq_true,if_false]
    rw [wJ (by omega),List.drop_eq_getElem_cons hi]
   | true=>
    simp only [if_true]
    rw [zy (by omega)]
    exact YU hs k (i + 1) (by omega) (by omega)
  ·
   have:i=s.length:=by omega
   subst this
   rw [if_neg (by simp)]
   simp only [ay,Bool.false_eq_true,if_false]
   rw [wJ (by omega)]
   simp [dz]
theorem ab4 {s:Str} (hs:s.length < 4611686018427387904):F7 s=some (dz s):=by
 have:=YU hs BIG 0 (by have:=jq; omega) (by omega)
 simpa [F7] using this
theorem Fq (p q:Bool):yR p q=some (zQ p q):=by
 unfold yR zQ; cases p <;> cases q <;> rfl
theorem alB {a b:Str} (ha:a.length < 4611686018427387904) (hb:b.length < 4611686018427387904):MS a b=some (WJ a b):=by
 unfold MS WJ
 rw [ab4 ha,ab4 hb]
 simp only [ay,Fq]
 by_cases h1:((dz a).length:Int)=((dz b).length:Int)
 ·
  by_cases h2:dz a=dz b
  · simp [h2,ug]
  · simp [h1,h2,Hu]
 · simp [h1,ug]
theorem YW {s:Str} (h:s≠[]):0 < kY eX s↔eX (s.head h)=true:=by
 cases s with
 | nil=>exact absurd rfl h
 | cons c s=>rw [CR]; cases e:eX c <;> simp [e]
theorem Np {a b:Str} (ha:a.length < 4611686018427387904) (hb:b.length < 4611686018427387904):∀ (k k' i j:Nat),i≤a.length→j≤b.length→a.length < k + i→a.length < k' + i→
  l7 k (a.drop i) (b.drop j)=pR a b k' (i:Int) (j:Int)∧∃ c,pR a b k' (i:Int) (j:Int)=some c
 | 0,k',i,j,_,_,h,_=>by omega
 | k + 1,0,i,j,_,_,_,h=>by omega
 | k + 1,k' + 1,i,j,hi,hj,hk,hk'=>by
  rw [l7,pR]
  by_cases h1:i < a.length
  ·
   by_cases h2:j < b.length
   ·
    have ea:=List.drop_eq_getElem_cons h1
    have eb:=List.drop_eq_getElem_cons h2
    have na:a.drop i≠[]:=fun h=>by simp at h; omega
    have nb:b.drop j≠[]:=fun h=>by simp at h; omega
    have la:(a.drop i).length=a.length - i:=by simp
    have lb:(b.drop j).length=b.length - j:=by simp
    have sa:=Ee eX (a.drop i)
    have sb:=Ee eX (b.drop j)
    have pa:=YW na
    have pb:=YW nb
    have aqu:(a.drop i).head na=a[i]:=by simp
    have aqt:(b.drop j).head nb=b[j]:=by simp
    rw [aqu] at pa
    rw [aqt] at pb
    rw [if_pos (by simp [h1,h2]),if_pos (by simp; omega),Fy (by omega),Fy (by omega),rW h1,rW h2]
    simp only [ay,Fq,ai3]
    have i0:idx (a.drop i) 0=some a[i]:=by rw [ea]; rfl
    have j0:idx (b.drop j) 0=some b[j]:=by rw [eb]; rfl
    have hone:(if eX a[i]=true then some (eX b[j]) else some false)=some (eX a[i] && eX b[j]):=by cases eX a[i] <;> simp
    rw [hone]
    simp only [ay]
    cases hd:(eX a[i] && eX b[j]) with
    | true=>
     simp only [Bool.and_eq_true] at hd
     have q1:=pa.2 hd.1
     have q2:=pb.2 hd.2
     rw [if_pos (by simp; omega)]
     simp only [if_true]
     rw [Vy ha (by omega),Vy hb (by omega),ace sa,ace sb]
     simp only [ay]
     have e1:sl a (i:Int) ((i + kY eX (a.drop i):Nat):Int)=some ((a.drop i).take (kY eX (a.drop i))):=by
      rw [Vo (by omega) (by omega) (by omega)]
      simp only [Int.toNat_natCast,Option.some.injEq]
      rw [List.drop_take,Nat.add_sub_cancel_left]
     have e2:sl b (j:Int) ((j + kY eX (b.drop j):Nat):Int)=some ((b.drop j).take (kY eX (b.drop j))):=by
      rw [Vo (by omega) (by omega) (by omega)]
      simp only [Int.toNat_natCast,Option.some.injEq]
      rw [List.drop_take,Nat.add_sub_cancel_left]
     rw [e1,e2]
     simp only [ay]
     rw [VK (by simp; omega) (by simp; omega),alB (by simp; omega) (by simp; omega)]
     simp only [ay]
     by_cases hc:WJ ((a.drop i).take (kY eX (a.drop i))) ((b.drop j).take (kY eX (b.drop j)))=0
     ·
      rw [if_neg (by simp [hc]),if_neg (by simp [hc]),wJ sa,wJ sb]
      simp only [ay,List.drop_drop]
      exact Np ha hb k k' _ _ (by omega) (by omega) (by omega) (by omega)
     ·
      rw [if_pos (by simpa using hc),if_pos (by simpa using hc)]
      exact ⟨rfl,_,rfl⟩
    | false=>
     rw [if_neg (by
      simp only [Bool.and_eq_true,decide_eq_true_eq,not_and]
      intro h3 h4
      have:=pa.1 (by omega); have:=pb.1 (by omega)
      simp_all)]
     simp only [Bool.false_eq_true,if_false]
     rw [i0,j0]
     simp only [ay,Nq]
     by_cases hc:(a[i].toNat:Int)=(b[j].toNat:Int)
     ·
      rw [if_neg (by simpa using hc)]
      have:zQ (decide ((a[i].toNat:Int) < (b[j].toNat:Int))) (decide ((b[j].toNat:Int) < (a[i].toNat:Int)))=0:=by simp [zQ,hc]
      rw [this,if_neg (by simp),zy (by omega),zy (by omega)]
      have s1:=wJ (s:=a.drop i) (i:=1) (by omega)
      have s2:=wJ (s:=b.drop j) (i:=1) (by omega)
      rw [show ((1:Nat):Int)=1 from rfl] at s1 s2
      rw [s1,s2]
      simp only [ay,List.drop_drop]
      exact Np ha hb k k' _ _ (by omega) (by omega) (by omega) (by omega)
     ·
      rw [if_pos (by simpa using hc)]
      have e3:ug (a[i].toNat) (b[j].toNat)≠0:=fun h=>hc (J4.1 h)
      have:zQ (decide ((a[i].toNat:Int) < (b[j].toNat:Int))) (decide ((b[j].toNat:Int) < (a[i].toNat:Int)))=ug (a[i].toNat) (b[j].toNat):=rfl
      rw [this,if_pos (by simpa using e3)]
      exact ⟨rfl,_,rfl⟩
   ·
    have eb:b.drop j=[]:=by simp; omega
    rw [eb,if_neg (by simp),if_neg (by simp; omega),Fq,vM]
    refine ⟨?_,_,rfl⟩
    unfold ug
    congr 2 <;> simp <;> omega
  ·
   have ea:a.drop i=[]:=by simp; omega
   rw [ea,if_neg (by simp),if_neg (by simp; omega),Fq,vM]
   refine ⟨?_,_,rfl⟩
   unfold ug
   congr 2 <;> simp <;> omega
theorem WE {a b:Str} (ha:a.length < 4611686018427387904) (hb:b.length < 4611686018427387904):∃ c,kI a b=some c∧qN a b=some c:=by
 obtain ⟨h1,c,h2⟩:=Np ha hb BIG BIG 0 0 (by omega) (by omega) (by have:=jq; omega) (by have:=jq; omega)
 refine ⟨c,?_,by simpa [qN] using h2⟩
 rw [←h2]
 simpa [kI] using h1
end Go.Ft
