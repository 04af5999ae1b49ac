/- Proved here: plain facts on the functional texts that the walks want. -/
import Derived.Test.YtggpjlegajicnaaGreatDoorCzFt1
import Derived.Test.YtggpjlegajicnaaGreatDoorCzPool1
set_option linter.unusedVariables false
set_option linter.unusedSimpArgs false
set_option linter.unusedSectionVars false
set_option maxHeartbeats 2000000
namespace Go.Ft
open Go
attribute [local congr] dZ
theorem vo {n:Int} (h:-9223372036854775808≤n∧n < 9223372036854775808):bZ n=n:=afG (by omega) (by omega)
theorem zy {i:Nat} (h:i < 4611686018427387904):bZ ((i:Int) + 1)=((i + 1:Nat):Int):=by rw [vo (by omega)]; omega
theorem rW {α:Type} {l:List α} {i:Nat} (h:i < l.length):idx l (i:Int)=some (l[i]):=by rw [alY,List.getElem?_eq_getElem h]
theorem jq :9223372036854775808 < BIG:=by decide
def dG {α S R:Type} (body:Nat→α→S→(S→Option R)→Option R) (fin:S→Option R):Nat→List α→S→Option R
 | _,[],s=>fin s
 | i,x :: r,s=>body i x s fun s'=>dG body fin (i + 1) r s'
theorem acg {α S R:Type} {F:Nat→S→Int→Option R} {l:List α} {body:Nat→α→S→(S→Option R)→Option R} {fin:S→Option R} (hl:l.length < 4611686018427387904)
  (hF:∀ k s (i:Nat),F (k + 1) s i=if decide ((i:Int) < (l.length:Int)) then au (idx l i) fun x=>body i x s fun s'=>F k s' (bZ ((i:Int) + 1)) else fin s):
  ∀ (k i:Nat) (s:S),l.length < k + i→i≤l.length→F k s (i:Int)=dG body fin i (l.drop i) s
 | 0,i,s,h,h'=>by omega
 | k + 1,i,s,h,h'=>by
  rw [hF]
  by_cases hi:i < l.length
  ·
   rw [List.drop_eq_getElem_cons hi,if_pos (by simp; omega),rW hi,ay,dG]
   congr 1
   funext s'
   rw [zy (by omega)]
   exact acg hl hF k (i + 1) s' (by omega) (by omega)
  ·
   have:i=l.length:=by omega
   subst this
   rw [if_neg (by simp),List.drop_length,dG]
theorem dH {α S R:Type} {F:Nat→S→Int→Option R} {l:List α} {body:Nat→α→S→(S→Option R)→Option R} {fin:S→Option R} (hl:l.length < 4611686018427387904)
  (hF:∀ k s (i:Nat),F (k + 1) s i=if decide ((i:Int) < (l.length:Int)) then au (idx l i) fun x=>body i x s fun s'=>F k s' (bZ ((i:Int) + 1)) else fin s) (s:S):F BIG s 0=dG body fin 0 l s:=by
 have:=acg hl hF BIG 0 s (by have:=jq; omega) (by omega)
 simpa using this
def isLet (c:UInt8):Bool:=(((decide (97≤(c.toNat:Int))) && (decide ((c.toNat:Int)≤122))) || ((decide (65≤(c.toNat:Int))) && (decide ((c.toNat:Int)≤90)))) || ((c.toNat:Int) == 95)
@[simp] theorem ap3 (c:UInt8):zP c=some (isLet c):=rfl
@[simp] theorem aqV (c:UInt8):BL c=some (eX c):=rfl
@[simp] theorem apC (c:UInt8):Ku c=some (isLet c):=rfl
@[simp] theorem alI (c:UInt8):Db c=some (eX c):=rfl
@[simp] theorem aqX (c:UInt8):IJ c=some (eX c):=rfl
@[simp] theorem ai3 (c:UInt8):F8 c=some (eX c):=rfl
theorem CR (p:UInt8→Bool) (c:UInt8) (l:Str):kY p (c :: l)=if p c then kY p l + 1 else 0:=by
 unfold kY; rw [List.takeWhile_cons]; split <;> simp
theorem Ee (p:UInt8→Bool) (l:Str):kY p l≤l.length:=by
 induction l with
 | nil=>simp [kY]
 | cons c l ih=>rw [CR]; split <;> simp <;> omega
theorem aao {F:Nat→Int→Option Int} {s:Str} (hs:s.length < 4611686018427387904)
  (hF:∀ k (i:Nat),F (k + 1) i=au (if decide ((i:Int) < (s.length:Int)) then au (idx s i) fun x1=>some (eX x1) else some false) fun b1=>if b1 then F k (bZ ((i:Int) + 1)) else some (i:Int)):
  ∀ (k i:Nat),s.length < k + i→i≤s.length→F k (i:Int)=some ((i + kY eX (s.drop i):Nat):Int)
 | 0,i,h,h'=>by omega
 | k + 1,i,h,h'=>by
  rw [hF]
  by_cases hi:i < s.length
  ·
   rw [List.drop_eq_getElem_cons hi,CR,if_pos (by simp; omega),rW hi]
   simp only [ay]
   cases e:eX s[i] with
   | false=>simp
   | true=>
    simp only [if_true]
    rw [zy (by omega),aao hs hF k (i + 1) (by omega) (by omega)]
    simp only [Option.some.injEq,Int.natCast_inj]; omega
  ·
   have:i=s.length:=by omega
   subst this
   simp [kY]
theorem Fy {s:Str} (hs:s.length < 4611686018427387904):Gc s=some (kY eX s:Int):=by
 have:=aao (F:=Cb s) hs (fun k i=>rfl) BIG 0 (by have:=jq; omega) (by omega)
 simpa [Gc] using this
theorem Vy {s:Str} (hs:s.length < 4611686018427387904) {i:Nat} (hi:i≤s.length):QK s (i:Int)=some ((i + kY eX (s.drop i):Nat):Int):=
 aao (F:=GA s) hs (fun k i=>rfl) BIG i (by have:=jq; omega) hi
theorem wJ {s:Str} {i:Nat} (h:i≤s.length):sl s (i:Int) (s.length:Int)=some (s.drop i):=by
 rw [Vo (by omega) (by omega) (by omega)]
 simp
theorem ace {s:Str} {i:Nat} (h:i≤s.length):sl s 0 (i:Int)=some (s.take i):=by
 rw [Vo (by omega) (by omega) (by omega)]
 simp
theorem trimB (s:Str):∀ (k:Nat),s.length < k→s.length < 4611686018427387904→jL 48 k s=some (dz s):=by
 induction s with
 | nil=>intro k h _; cases k with
  | zero=>simp at h
  | succ k=>simp [jL,dz]
 | cons c s ih=>
  intro k h hs
  cases k with
  | zero=>simp at h
  | succ k=>
   simp only [List.length_cons] at h hs
   rw [jL,if_pos (by simp)]
   have e0:idx (c :: s) 0=some c:=by simp [idx]
   rw [e0]
   simp only [ay]
   have e1:((48:UInt8).toNat:Int)=48:=rfl
   rw [e1]
   unfold dz
   rw [List.dropWhile_cons]
   cases e:((c.toNat:Int) == 48) with
   | false=>simp
   | true=>
    simp only [if_true]
    have e2:=wJ (s:=c :: s) (i:=1) (by simp)
    simp only [List.drop_one,List.tail_cons] at e2
    rw [show ((1:Nat):Int)=1 from rfl] at e2
    rw [e2]
    simp only [ay]
    exact ih k (by omega) (by omega)
theorem afN {s:Str} (hs:s.length < 4611686018427387904):qV s ([48]:Str)=some (dz s):=by
 unfold qV
 cases s with
 | nil=>simp [dz]
 | cons c s=>
  rw [if_neg (by simp),if_pos (by simp)]
  have e0:idx ([48]:Str) 0=some 48:=rfl
  rw [e0]
  simp only [ay]
  rw [if_pos (by decide)]
  exact trimB _ BIG (by have:=jq; omega) hs
theorem YU {s:Str} (hs:s.length < 4611686018427387904):∀ (k i:Nat),s.length < k + i→i≤s.length→yQ s k (i:Int)=some (dz (s.drop i))
 | 0,i,h,h'=>by omega
 | k + 1,i,h,h'=>by
  rw [yQ]
  by_cases hi:i < s.length
  ·
   rw [List.drop_eq_getElem_cons hi,if_pos (by simp; omega),rW hi]
   simp only [ay]
   unfold dz
   rw [List.dropWhile_cons]
   cases e:((s[i].toNat:Int) == 48) with
   | false=>
    simp only [Bool.false_eq_true,if_false]
    rw [wJ (by omega),List.drop_eq_getElem_cons hi]
   | true=>
    simp only [if_true]
    rw [zy (by omega)]
    exact YU hs k (i + 1) (by omega) (by omega)
  ·
   have:i=s.length:=by omega
   subst this
   rw [if_neg (by simp)]
   simp only [ay,Bool.false_eq_true,if_false]
   rw [wJ (by omega)]
   simp [dz]
theorem ab4 {s:Str} (hs:s.length < 4611686018427387904):F7 s=some (dz s):=by
 have:=YU hs BIG 0 (by have:=jq; omega) (by omega)
 simpa [F7] using this
def zQ (p q:Bool):Int:=if p then -1 else if q then 1 else 0
def ug (x y:Int):Int:=zQ (decide (x < y)) (decide (y < x))
def Hu (x y:Str):Int:=zQ (Go.Op.bytesLess x y) (!(Go.Op.bytesLess x y || x == y))
theorem Fq (p q:Bool):yR p q=some (zQ p q):=by
 unfold yR zQ; cases p <;> cases q <;> rfl
theorem vM (x y:Int):cmp_Compare_int x y=some (ug x y):=by
 unfold cmp_Compare_int ug zQ cmp_isNaN_int
 by_cases h1:x < y <;> by_cases h2:y < x <;> simp [h1,h2]
theorem Nq (x y:UInt8):uQ x y=some (ug x.toNat y.toNat):=by
 unfold uQ ug zQ xV
 by_cases h1:(x.toNat:Int) < y.toNat <;> by_cases h2:(y.toNat:Int) < x.toNat <;> simp [h1,h2]
theorem WI (x y:Str):oN x y=some (Hu x y):=by
 unfold oN Hu zQ cmp_isNaN_string
 cases h1:Go.Op.bytesLess x y <;> cases h2:(x == y) <;> simp
theorem Dw :∀ x:Str,Go.Op.bytesLess x x=false
 | []=>rfl
 | c :: x=>by
  unfold Go.Op.bytesLess
  have:=Dw x
  simp [this]
theorem ahG (a b c:Int):Ht ([a,b,c]:List Int)=some (if a != 0 then a else if b != 0 then b else c):=by
 have:=dH (F:=fun k (_:Unit) i=>zY [a,b,c] k i) (l:=[a,b,c]) (body:=fun _ agS _ r=>if agS != 0 then some agS else r ()) (fin:=fun _=>some 0) (by simp)
  (fun k s i=>rfl) ()
 unfold Ht
 rw [this]
 simp only [dG]
 by_cases h1:a=0 <;> by_cases h2:b=0 <;> by_cases h3:c=0 <;> simp [h1,h2,h3]
def WJ (a b:Str):Int:=
 if ((dz a).length:Int) != ((dz b).length:Int) then ug (dz a).length (dz b).length else if !(dz a == dz b) then Hu (dz a) (dz b) else ug a.length b.length
theorem aqF (s:Str):(dz s).length≤s.length:=(List.dropWhile_sublist _).length_le
theorem J4 {x y:Int}:ug x y=0↔x=y:=by
 unfold ug zQ
 by_cases h1:x < y <;> by_cases h2:y < x <;> simp [h1,h2] <;> omega
theorem agz {x y:Str} (h:x≠y):Hu x y≠0:=by
 unfold Hu zQ
 cases h1:Go.Op.bytesLess x y <;> simp [h]
theorem ahH (x:Str):Hu x x=0:=by
 unfold Hu zQ
 simp [Dw]
theorem VK {a b:Str} (ha:a.length < 4611686018427387904) (hb:b.length < 4611686018427387904):zV a b=some (WJ a b):=by
 unfold zV WJ
 rw [afN ha,afN hb]
 simp only [ay,vM,WI,ahG,Option.some.injEq]
 by_cases h1:((dz a).length:Int)=((dz b).length:Int)
 ·
  have e1:ug (dz a).length (dz b).length=0:=J4.2 h1
  rw [e1]
  by_cases h2:dz a=dz b
  · rw [h2,ahH]; simp
  ·
   have:=agz h2
   simp [h1,h2,this]
 ·
  have e1:ug (dz a).length (dz b).length≠0:=fun h=>h1 (J4.1 h)
  rw [if_pos (by simpa using e1),if_pos (by simpa using h1)]
theorem alB {a b:Str} (ha:a.length < 4611686018427387904) (hb:b.length < 4611686018427387904):MS a b=some (WJ a b):=by
 unfold MS WJ
 rw [ab4 ha,ab4 hb]
 simp only [ay,Fq]
 by_cases h1:((dz a).length:Int)=((dz b).length:Int)
 ·
  by_cases h2:dz a=dz b
  · simp [h2,ug]
  · simp [h1,h2,Hu]
 · simp [h1,ug]
theorem YW {s:Str} (h:s≠[]):0 < kY eX s↔eX (s.head h)=true:=by
 cases s with
 | nil=>exact absurd rfl h
 | cons c s=>rw [CR]; cases e:eX c <;> simp [e]
theorem Np {a b:Str} (ha:a.length < 4611686018427387904) (hb:b.length < 4611686018427387904):∀ (k k' i j:Nat),i≤a.length→j≤b.length→a.length < k + i→a.length < k' + i→
  l7 k (a.drop i) (b.drop j)=pR a b k' (i:Int) (j:Int)∧∃ c,pR a b k' (i:Int) (j:Int)=some c
 | 0,k',i,j,_,_,h,_=>by omega
 | k + 1,0,i,j,_,_,_,h=>by omega
 | k + 1,k' + 1,i,j,hi,hj,hk,hk'=>by
  rw [l7,pR]
  by_cases h1:i < a.length
  ·
   by_cases h2:j < b.length
   ·
    have ea:=List.drop_eq_getElem_cons h1
    have eb:=List.drop_eq_getElem_cons h2
    have na:a.drop i≠[]:=fun h=>by simp at h; omega
    have nb:b.drop j≠[]:=fun h=>by simp at h; omega
    have la:(a.drop i).length=a.length - i:=by simp
    have lb:(b.drop j).length=b.length - j:=by simp
    have sa:=Ee eX (a.drop i)
    have sb:=Ee eX (b.drop j)
    have pa:=YW na
    have pb:=YW nb
    have aqu:(a.drop i).head na=a[i]:=by simp
    have aqt:(b.drop j).head nb=b[j]:=by simp
    rw [aqu] at pa
    rw [aqt] at pb
    rw [if_pos (by simp [h1,h2]),if_pos (by simp; omega),Fy (by omega),Fy (by omega),rW h1,rW h2]
    simp only [ay,Fq,ai3]
    have i0:idx (a.drop i) 0=some a[i]:=by rw [ea]; rfl
    have j0:idx (b.drop j) 0=some b[j]:=by rw [eb]; rfl
    have hone:(if eX a[i]=true then some (eX b[j]) else some false)=some (eX a[i] && eX b[j]):=by cases eX a[i] <;> simp
    rw [hone]
    simp only [ay]
    cases hd:(eX a[i] && eX b[j]) with
    | true=>
     simp only [Bool.and_eq_true] at hd
     have q1:=pa.2 hd.1
     have q2:=pb.2 hd.2
     rw [if_pos (by simp; omega)]
     simp only [if_true]
     rw [Vy ha (by omega),Vy hb (by omega),ace sa,ace sb]
     simp only [ay]
     have e1:sl a (i:Int) ((i + kY eX (a.drop i):Nat):Int)=some ((a.drop i).take (kY eX (a.drop i))):=by
      rw [Vo (by omega) (by omega) (by omega)]
      simp only [Int.toNat_natCast,Option.some.injEq]
      rw [List.drop_take,Nat.add_sub_cancel_left]
     have e2:sl b (j:Int) ((j + kY eX (b.drop j):Nat):Int)=some ((b.drop j).take (kY eX (b.drop j))):=by
      rw [Vo (by omega) (by omega) (by omega)]
      simp only [Int.toNat_natCast,Option.some.injEq]
      rw [List.drop_take,Nat.add_sub_cancel_left]
     rw [e1,e2]
     simp only [ay]
     rw [VK (by simp; omega) (by simp; omega),alB (by simp; omega) (by simp; omega)]
     simp only [ay]
     by_cases hc:WJ ((a.drop i).take (kY eX (a.drop i))) ((b.drop j).take (kY eX (b.drop j)))=0
     ·
      rw [if_neg (by simp [hc]),if_neg (by simp [hc]),wJ sa,wJ sb]
      simp only [ay,List.drop_drop]
      exact Np ha hb k k' _ _ (by omega) (by omega) (by omega) (by omega)
     ·
      rw [if_pos (by simpa using hc),if_pos (by simpa using hc)]
      exact ⟨rfl,_,rfl⟩
    | false=>
     rw [if_neg (by
      simp only [Bool.and_eq_true,decide_eq_true_eq,not_and]
      intro h3 h4
      have:=pa.1 (by omega); have:=pb.1 (by omega)
      simp_all)]
     simp only [Bool.false_eq_true,if_false]
     rw [i0,j0]
     simp only [ay,Nq]
     by_cases hc:(a[i].toNat:Int)=(b[j].toNat:Int)
     ·
      rw [if_neg (by simpa using hc)]
      have:zQ (decide ((a[i].toNat:Int) < (b[j].toNat:Int))) (decide ((b[j].toNat:Int) < (a[i].toNat:Int)))=0:=by simp [zQ,hc]
      rw [this,if_neg (by simp),zy (by omega),zy (by omega)]
      have s1:=wJ (s:=a.drop i) (i:=1) (by omega)
      have s2:=wJ (s:=b.drop j) (i:=1) (by omega)
      rw [show ((1:Nat):Int)=1 from rfl] at s1 s2
      rw [s1,s2]
      simp only [ay,List.drop_drop]
      exact Np ha hb k k' _ _ (by omega) (by omega) (by omega) (by omega)
     ·
      rw [if_pos (by simpa using hc)]
      have e3:ug (a[i].toNat) (b[j].toNat)≠0:=fun h=>hc (J4.1 h)
      have:zQ (decide ((a[i].toNat:Int) < (b[j].toNat:Int))) (decide ((b[j].toNat:Int) < (a[i].toNat:Int)))=ug (a[i].toNat) (b[j].toNat):=rfl
      rw [this,if_pos (by simpa using e3)]
      exact ⟨rfl,_,rfl⟩
   ·
    have eb:b.drop j=[]:=by simp; omega
    rw [eb,if_neg (by simp),if_neg (by simp; omega),Fq,vM]
    refine ⟨?_,_,rfl⟩
    unfold ug
    congr 2 <;> simp <;> omega
  ·
   have ea:a.drop i=[]:=by simp; omega
   rw [ea,if_neg (by simp),if_neg (by simp; omega),Fq,vM]
   refine ⟨?_,_,rfl⟩
   unfold ug
   congr 2 <;> simp <;> omega
theorem WE {a b:Str} (ha:a.length < 4611686018427387904) (hb:b.length < 4611686018427387904):∃ c,kI a b=some c∧qN a b=some c:=by
 obtain ⟨h1,c,h2⟩:=Np ha hb BIG BIG 0 0 (by omega) (by omega) (by have:=jq; omega) (by have:=jq; omega)
 refine ⟨c,?_,by simpa [qN] using h2⟩
 rw [←h2]
 simpa [kI] using h1
end Go.Ft

namespace Go.Ft
open Go
theorem Zk :∀ l,uY l l=0
 | []=>rfl
 | a :: l=>by simp [uY,Zk l]
theorem Zj :∀ {l m:List Nat},uY l m=0→l=m
 | [],[],_=>rfl
 | [],_ :: _,h=>by simp [uY] at h
 | _ :: _,[],h=>by simp [uY] at h
 | a :: l,b :: m,h=>by
  simp only [uY] at h
  by_cases h1:a < b
  · simp [h1] at h
  ·
   by_cases h2:b < a
   · simp [h1,h2] at h
   ·
    simp only [h1,h2,if_false] at h
    rw [Zj h,show a=b from by omega]
theorem acX :∀ l m:List Nat,uY m l=- uY l m
 | [],[]=>rfl
 | [],_ :: _=>rfl
 | _ :: _,[]=>rfl
 | a :: l,b :: m=>by
  simp only [uY]
  by_cases h1:a < b
  · simp [h1,show ¬ b < a by omega]
  ·
   by_cases h2:b < a
   · simp [h1,h2]
   · simp only [h1,h2,if_false]; exact acX l m
theorem V4 :∀ l m:List Nat,uY l m=-1∨uY l m=0∨uY l m=1
 | [],[]=>.inr (.inl rfl)
 | [],_ :: _=>.inl rfl
 | _ :: _,[]=>.inr (.inr rfl)
 | a :: l,b :: m=>by
  simp only [uY]
  by_cases h1:a < b
  · simp [h1]
  ·
   by_cases h2:b < a
   · simp [h1,h2]
   · simp only [h1,h2,if_false]; exact V4 l m
theorem V3 :∀ {a b c:List Nat},uY a b < 0→uY b c < 0→uY a c < 0
 | [],[],c,h,_=>by simp [uY] at h
 | [],_ :: _,[],_,h=>by simp [uY] at h
 | [],_ :: _,_ :: _,_,_=>by simp [uY]
 | _ :: _,[],c,h,_=>by simp [uY] at h
 | _ :: _,_ :: _,[],_,h=>by simp [uY] at h
 | x :: a,y :: b,z :: c,h,k=>by
  simp only [uY] at h k ⊢
  by_cases h1:x < y
  ·
   by_cases k1:y < z
   · simp [show x < z by omega]
   ·
    by_cases k2:z < y
    · simp [k1,k2] at k
    · simp [show x < z by omega]
  ·
   by_cases h2:y < x
   · simp [h1,h2] at h
   ·
    simp only [h1,h2,if_false] at h
    by_cases k1:y < z
    · simp [show x < z by omega]
    ·
     by_cases k2:z < y
     · simp [k1,k2] at k
     ·
      simp only [k1,k2,if_false] at k
      simp only [show ¬ x < z by omega,show ¬ z < x by omega,if_false]
      exact V3 h k
theorem V5 :∀ (xs ys:Str) (u v:List Nat),xs.length=ys.length→uY (xs.map UInt8.toNat ++ u) (ys.map UInt8.toNat ++ v)=if xs=ys then uY u v else Hu xs ys
 | [],[],u,v,_=>by simp
 | [],_ :: _,_,_,h=>by simp at h
 | _ :: _,[],_,_,h=>by simp at h
 | x :: xs,y :: ys,u,v,h=>by
  simp only [List.map_cons,List.cons_append,uY]
  have ih:=V5 xs ys u v (by simpa using h)
  have e1:(x < y)=(x.toNat < y.toNat):=by rw [UInt8.lt_iff_toNat_lt]
  have e2:(y < x)=(y.toNat < x.toNat):=by rw [UInt8.lt_iff_toNat_lt]
  by_cases h1:x.toNat < y.toNat
  ·
   have:x≠y:=fun e=>by subst e; omega
   simp [h1,this,Hu,zQ,Go.Op.bytesLess,e1]
  ·
   by_cases h2:y.toNat < x.toNat
   ·
    have:x≠y:=fun e=>by subst e; omega
    simp [h1,h2,this,Hu,zQ,Go.Op.bytesLess,e1]
   ·
    have:x=y:=UInt8.toNat_inj.1 (by omega)
    subst this
    simp only [h1,if_false,ih,List.cons.injEq,true_and]
    by_cases h3:xs=ys
    · simp [h3]
    ·
     simp only [h3,if_false,Hu,Go.Op.bytesLess,e1,h1,decide_false,Bool.false_or,beq_self_eq_true,Bool.true_and]
     congr 1
     simp
theorem N9 (s:Str):(s.take (kY eX s)).length=kY eX s:=by
 have:=Ee eX s
 simp; omega
theorem Mt {c:UInt8} {s:Str} (h:eX c=true):0 < kY eX (c :: s):=by rw [CR,if_pos h]; omega
theorem Sl :∀ (k m:Nat) (s:Str),s.length≤k→s.length≤m→V7 k s=V7 m s
 | 0,0,_,_,_=>rfl
 | 0,m + 1,s,h,_=>by
  have:s=[]:=List.eq_nil_of_length_eq_zero (by omega)
  subst this; rfl
 | k + 1,0,s,_,h=>by
  have:s=[]:=List.eq_nil_of_length_eq_zero (by omega)
  subst this; rfl
 | k + 1,m + 1,[],_,_=>rfl
 | k + 1,m + 1,c :: s,h1,h2=>by
  simp only [V7]
  simp only [List.length_cons] at h1 h2
  cases e:eX c with
  | true=>
   have:=Mt (s:=s) e
   have:=Ee eX (c :: s)
   simp only [if_true]
   rw [Sl k m _ (by simp; omega) (by simp; omega)]
  | false=>
   simp only [Bool.false_eq_true,if_false]
   rw [Sl k m s (by omega) (by omega)]
theorem ac1 {k:Nat} {s:Str} (h:s.length≤k):V7 k s=key s:=Sl _ _ _ h (Nat.le_refl _)
theorem KR :key []=[]:=rfl
theorem Ab {c:UInt8} {s:Str} (h:eX c=true):key (c :: s)=48 :: (dz ((c :: s).take (kY eX (c :: s)))).length :: ((dz ((c :: s).take (kY eX (c :: s)))).map UInt8.toNat ++ kY eX (c :: s) :: key ((c :: s).drop (kY eX (c :: s)))):=by
 have:=Mt (s:=s) h
 have:=Ee eX (c :: s)
 show V7 (s.length + 1) (c :: s)=_
 simp only [V7,h,if_true]
 rw [ac1 (by simp; omega)]
theorem pW {c:UInt8} {s:Str} (h:eX c=false):key (c :: s)=c.toNat :: key s:=by
 show V7 (s.length + 1) (c :: s)=_
 simp only [V7,h,Bool.false_eq_true,if_false]
 rw [ac1 (Nat.le_refl _)]
theorem akk (a b:Str) (u v:List Nat):uY ((dz a).length :: ((dz a).map UInt8.toNat ++ a.length :: u)) ((dz b).length :: ((dz b).map UInt8.toNat ++ b.length :: v))=if WJ a b=0 then uY u v else WJ a b:=by
 unfold WJ
 simp only [uY]
 by_cases h1:(dz a).length=(dz b).length
 ·
  rw [if_neg (by omega),if_neg (by omega),V5 _ _ _ _ h1]
  have e:(((dz a).length:Int) != ((dz b).length:Int))=false:=by simp [h1]
  simp only [e,Bool.false_eq_true,if_false]
  by_cases h2:dz a=dz b
  ·
   simp only [h2,if_true,beq_self_eq_true,Bool.not_true,Bool.false_eq_true,if_false,uY,ug,zQ]
   by_cases h3:a.length < b.length
   · simp [h3]
   ·
    by_cases h4:b.length < a.length
    · simp [h3,h4]
    · simp [h3,h4]
  ·
   have h3:=agz h2
   simp [h2,h3]
 ·
  have e:(((dz a).length:Int) != ((dz b).length:Int))=true:=by simp; omega
  simp only [e,if_true]
  by_cases h2:(dz a).length < (dz b).length
  · simp [h2,ug,zQ]
  ·
   have h3:(dz b).length < (dz a).length:=by omega
   simp [h2,h3,ug,zQ]
theorem zk {c:UInt8}:eX c=(decide (48≤c.toNat) && decide (c.toNat≤57)):=by
 unfold eX
 congr 1
 · apply decide_eq_decide.2; omega
 · apply decide_eq_decide.2; omega
theorem M5 :∀ (n k:Nat) (a b:Str),a.length≤n→a.length < k→a.length < 4611686018427387904→b.length < 4611686018427387904→l7 k a b=some (iF a b)
 | _,0,_,_,_,h,_,_=>by omega
 | n,k + 1,a,b,hn,hk,ha,hb=>by
  rw [l7]
  match a,b with
  | [],[]=>
   rw [if_neg (by simp),vM]
   simp [iF,KR,uY,ug,zQ]
  | [],y :: b=>
   rw [if_neg (by simp),vM]
   have:key (y :: b)≠[]:=by
    cases e:eX y with
    | true=>rw [Ab e]; simp
    | false=>rw [pW e]; simp
   cases e:key (y :: b) with
   | nil=>exact absurd e this
   | cons p q=>
    simp only [iF,KR,e,uY,ug,zQ]
    rw [if_pos (by simp)]
  | x :: a,[]=>
   rw [if_neg (by simp),vM]
   have:key (x :: a)≠[]:=by
    cases e:eX x with
    | true=>rw [Ab e]; simp
    | false=>rw [pW e]; simp
   cases e:key (x :: a) with
   | nil=>exact absurd e this
   | cons p q=>
    simp only [iF,KR,e,uY,ug,zQ]
    rw [if_neg (by simp; omega),if_pos (by simp)]
  | x :: a,y :: b=>
   have sa:=Ee eX (x :: a)
   have sb:=Ee eX (y :: b)
   have i0:idx (x :: a) 0=some x:=rfl
   have j0:idx (y :: b) 0=some y:=rfl
   rw [if_pos (by simp),Fy ha,Fy hb]
   simp only [ay]
   cases e1:eX x with
   | true=>
    have p1:=Mt (s:=a) e1
    cases e2:eX y with
    | true=>
     have p2:=Mt (s:=b) e2
     rw [if_pos (by simp; omega),ace sa,ace sb]
     simp only [ay]
     rw [VK (by simp; omega) (by simp; omega)]
     simp only [ay]
     have hc:=akk ((x :: a).take (kY eX (x :: a))) ((y :: b).take (kY eX (y :: b))) (key ((x :: a).drop (kY eX (x :: a)))) (key ((y :: b).drop (kY eX (y :: b))))
     rw [N9,N9] at hc
     have e3:iF (x :: a) (y :: b)=if WJ ((x :: a).take (kY eX (x :: a))) ((y :: b).take (kY eX (y :: b)))=0 then uY (key ((x :: a).drop (kY eX (x :: a)))) (key ((y :: b).drop (kY eX (y :: b)))) else WJ ((x :: a).take (kY eX (x :: a))) ((y :: b).take (kY eX (y :: b))):=by
      rw [←hc,iF,Ab e1,Ab e2,uY,if_neg (by omega),if_neg (by omega)]
     rw [e3]
     by_cases h0:WJ ((x :: a).take (kY eX (x :: a))) ((y :: b).take (kY eX (y :: b)))=0
     ·
      rw [if_neg (by simpa using h0),if_pos h0,wJ sa,wJ sb]
      simp only [ay]
      match n,hn with
      | n + 1,hn=>
       exact M5 n k _ _ (by simp at hn ⊢; omega) (by simp at hk ⊢; omega) (by simp at ha ⊢; omega) (by simp at hb ⊢; omega)
     · rw [if_pos (by simpa using h0),if_neg h0]
    | false=>
     have q2:kY eX (y :: b)=0:=by rw [CR,e2]; rfl
     rw [if_neg (by simp [q2]),i0,j0]
     simp only [ay,Nq]
     have d1:=zk (c:=x); rw [e1] at d1
     have d2:=zk (c:=y); rw [e2] at d2
     simp only [Bool.and_eq_true,Bool.false_eq,Bool.and_eq_false_iff,decide_eq_false_iff_not,Bool.true_eq,decide_eq_true_eq] at d1 d2
     rw [if_pos (by simp; omega)]
     rw [iF,Ab e1,pW e2,uY,ug,zQ]
     by_cases h1:x.toNat < y.toNat
     · rw [if_pos (by simp; omega),if_pos (by omega)]
     · rw [if_neg (by simp; omega),if_pos (by simp; omega),if_neg (by omega),if_pos (by omega)]
   | false=>
    have q1:kY eX (x :: a)=0:=by rw [CR,e1]; rfl
    rw [if_neg (by simp [q1]),i0,j0]
    simp only [ay,Nq]
    by_cases h0:x=y
    ·
     subst h0
     rw [if_neg (by simp)]
     have s1:=wJ (s:=x :: a) (i:=1) (by simp)
     have s2:=wJ (s:=x :: b) (i:=1) (by simp)
     rw [show ((1:Nat):Int)=1 from rfl] at s1 s2
     rw [s1,s2]
     simp only [ay,List.drop_succ_cons,List.drop_zero]
     rw [iF,pW e1,pW e1,uY,if_neg (by omega),if_neg (by omega)]
     match n,hn with
     | n + 1,hn=>exact M5 n k a b (by simp at hn; omega) (by simp at hk; omega) (by simp at ha; omega) (by simp at hb; omega)
    ·
     have h1:x.toNat≠y.toNat:=fun h=>h0 (UInt8.toNat_inj.1 h)
     rw [if_pos (by simp; omega)]
     have d1:=zk (c:=x); rw [e1] at d1
     simp only [Bool.and_eq_true,Bool.false_eq,Bool.and_eq_false_iff,decide_eq_false_iff_not] at d1
     cases e2:eX y with
     | true=>
      have d2:=zk (c:=y); rw [e2] at d2
      simp only [Bool.and_eq_true,Bool.true_eq,decide_eq_true_eq] at d2
      rw [iF,pW e1,Ab e2,uY,ug,zQ]
      by_cases h1:x.toNat < y.toNat
      · rw [if_pos (by simp; omega),if_pos (by omega)]
      · rw [if_neg (by simp; omega),if_pos (by simp; omega),if_neg (by omega),if_pos (by omega)]
     | false=>
      rw [iF,pW e1,pW e2,uY,ug,zQ]
      by_cases h2:x.toNat < y.toNat
      · rw [if_pos (by simp; omega),if_pos (by omega)]
      · rw [if_neg (by simp; omega),if_pos (by simp; omega),if_neg (by omega),if_pos (by omega)]
theorem Sg {a b:Str} (ha:a.length < 4611686018427387904) (hb:b.length < 4611686018427387904):kI a b=some (iF a b):=
 M5 _ BIG a b (Nat.le_refl _) (by have:=jq; omega) ha hb
theorem Pq {a b:Str} (ha:a.length < 4611686018427387904) (hb:b.length < 4611686018427387904):qN a b=some (iF a b):=by
 obtain ⟨c,h1,h2⟩:=WE ha hb
 rw [Sg ha hb] at h1
 rw [h2,←h1]
theorem aa8 :∀ (r:Str),r=List.replicate (r.length - (dz r).length) (48:UInt8) ++ dz r
 | []=>rfl
 | c :: r=>by
  unfold dz
  rw [List.dropWhile_cons]
  by_cases h:c=48
  ·
   subst h
   have ih:=aa8 r
   have hl:=aqF r
   simp only [show (((48:UInt8).toNat:Int) == 48)=true from rfl,if_true]
   change _=List.replicate ((48 :: r).length - (dz r).length) (48:UInt8) ++ dz r
   rw [show (48 :: r).length - (dz r).length=(r.length - (dz r).length) + 1 by simp; omega,List.replicate_succ,List.cons_append,←ih]
  ·
   have:((c.toNat:Int) == 48)=false:=by
    simp only [beq_eq_false_iff_ne,ne_eq]
    intro h2
    exact h (UInt8.toNat_inj.1 (by show c.toNat=48; omega))
   simp [this]
theorem key_inj :∀ (n:Nat) (a b:Str),a.length≤n→key a=key b→a=b
 | _,[],[],_,_=>rfl
 | _,[],y :: b,_,h=>by
  cases e:eX y with
  | true=>rw [Ab e,KR] at h; cases h
  | false=>rw [pW e,KR] at h; cases h
 | _,x :: a,[],_,h=>by
  cases e:eX x with
  | true=>rw [Ab e,KR] at h; cases h
  | false=>rw [pW e,KR] at h; cases h
 | 0,x :: a,y :: b,h,_=>by simp at h
 | n + 1,x :: a,y :: b,hn,h=>by
  cases e1:eX x with
  | true=>
   cases e2:eX y with
   | true=>
    have p1:=Mt (s:=a) e1
    have sa:=Ee eX (x :: a)
    rw [Ab e1,Ab e2] at h
    simp only [List.cons.injEq,true_and] at h
    obtain ⟨h1,h2⟩:=h
    obtain ⟨h3,h4⟩:=List.append_inj h2 (by simpa using h1)
    simp only [List.cons.injEq] at h4
    have h5:dz ((x :: a).take (kY eX (x :: a)))=dz ((y :: b).take (kY eX (y :: b))):=by
     refine List.map_inj_right (f:=UInt8.toNat) (fun p q hpq=>UInt8.toNat_inj.1 hpq) |>.1 h3
    have h6:(x :: a).take (kY eX (x :: a))=(y :: b).take (kY eX (y :: b)):=by
     rw [aa8 ((x :: a).take (kY eX (x :: a))),aa8 ((y :: b).take (kY eX (y :: b))),h5,N9,N9,h4.1]
    have h7:=key_inj n _ _ (by simp at hn ⊢; omega) h4.2
    rw [←List.take_append_drop (kY eX (x :: a)) (x :: a),h6,h7,List.take_append_drop]
   | false=>
    rw [Ab e1,pW e2] at h
    simp only [List.cons.injEq] at h
    have d2:=zk (c:=y); rw [e2,←h.1] at d2
    simp at d2
  | false=>
   cases e2:eX y with
   | true=>
    rw [pW e1,Ab e2] at h
    simp only [List.cons.injEq] at h
    have d2:=zk (c:=x); rw [e1,h.1] at d2
    simp at d2
   | false=>
    rw [pW e1,pW e2] at h
    simp only [List.cons.injEq] at h
    rw [UInt8.toNat_inj.1 h.1,key_inj n a b (by simp at hn; omega) h.2]
theorem acM (a:Str):iF a a=0:=Zk _
theorem Es {a b:Str} (h:iF a b=0):a=b:=key_inj _ a b (Nat.le_refl _) (Zj h)
theorem xG (a b:Str):iF b a=- iF a b:=acX _ _
theorem KG {a b c:Str} (h:iF a b < 0) (k:iF b c < 0):iF a c < 0:=V3 h k
theorem OM {a b c:Str} (h:¬ iF a b < 0) (k:¬ iF b c < 0):¬ iF a c < 0:=by
 intro hc
 by_cases h0:iF a b=0
 · rw [Es h0] at hc; exact k hc
 ·
  by_cases k0:iF b c=0
  · rw [←Es k0] at hc; exact h hc
  ·
   have h1:iF b a < 0:=by rw [xG]; omega
   have k1:iF c b < 0:=by rw [xG]; omega
   have:=KG k1 h1
   rw [xG] at this
   omega
end Go.Ft
