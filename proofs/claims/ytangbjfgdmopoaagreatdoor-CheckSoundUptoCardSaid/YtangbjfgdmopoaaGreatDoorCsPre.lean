/- Proved here: plain facts on the functional texts that the walks want. -/
import Derived.Test.YtangbjfgdmopoaaGreatDoorCsFt
set_option linter.unusedVariables false
set_option linter.unusedSimpArgs false
set_option linter.unusedSectionVars false
set_option maxHeartbeats 2000000
namespace Go.Ft
open Go
attribute [local congr] jE
theorem qG {n:Int} (h:-9223372036854775808≤n∧n < 9223372036854775808):bS n=n:=aff (by omega) (by omega)
theorem zB {i:Nat} (h:i < 4611686018427387904):bS ((i:Int) + 1)=((i + 1:Nat):Int):=by rw [qG (by omega)]; omega
theorem rA {α:Type} {l:List α} {i:Nat} (h:i < l.length):idx l (i:Int)=some (l[i]):=by rw [af2,List.getElem?_eq_getElem h]
theorem j_ :9223372036854775808 < BIG:=by decide
def dQ {α S R:Type} (body:Nat→α→S→(S→Option R)→Option R) (fin:S→Option R):Nat→List α→S→Option R
 | _,[],s=>fin s
 | i,x :: r,s=>body i x s fun s'=>dQ body fin (i + 1) r s'
theorem XF {α S R:Type} {F:Nat→S→Int→Option R} {l:List α} {body:Nat→α→S→(S→Option R)→Option R} {fin:S→Option R} (hl:l.length < 4611686018427387904)
  (hF:∀ k s (i:Nat),F (k + 1) s i=if decide ((i:Int) < (l.length:Int)) then au (idx l i) fun x=>body i x s fun s'=>F k s' (bS ((i:Int) + 1)) else fin s):
  ∀ (k i:Nat) (s:S),l.length < k + i→i≤l.length→F k s (i:Int)=dQ body fin i (l.drop i) s
 | 0,i,s,h,h'=>by omega
 | k + 1,i,s,h,h'=>by
  rw [hF]
  by_cases hi:i < l.length
  ·
   rw [List.drop_eq_getElem_cons hi,if_pos (by simp; omega),rA hi,ay,dQ]
   congr 1
   funext s'
   rw [zB (by omega)]
   exact XF hl hF k (i + 1) s' (by omega) (by omega)
  ·
   have:i=l.length:=by omega
   subst this
   rw [if_neg (by simp),List.drop_length,dQ]
theorem dP {α S R:Type} {F:Nat→S→Int→Option R} {l:List α} {body:Nat→α→S→(S→Option R)→Option R} {fin:S→Option R} (hl:l.length < 4611686018427387904)
  (hF:∀ k s (i:Nat),F (k + 1) s i=if decide ((i:Int) < (l.length:Int)) then au (idx l i) fun x=>body i x s fun s'=>F k s' (bS ((i:Int) + 1)) else fin s) (s:S):F BIG s 0=dQ body fin 0 l s:=by
 have:=XF hl hF BIG 0 s (by have:=j_; omega) (by omega)
 simpa using this
def isLet (c:UInt8):Bool:=(((decide (97≤(c.toNat:Int))) && (decide ((c.toNat:Int)≤122))) || ((decide (65≤(c.toNat:Int))) && (decide ((c.toNat:Int)≤90)))) || ((c.toNat:Int) == 95)
@[simp] theorem ajD (c:UInt8):wD c=some (isLet c):=rfl
@[simp] theorem akk (c:UInt8):yN c=some (dW c):=rfl
@[simp] theorem ajm (c:UInt8):Gs c=some (isLet c):=rfl
@[simp] theorem afF (c:UInt8):zU c=some (dW c):=rfl
@[simp] theorem akm (c:UInt8):ED c=some (dW c):=rfl
@[simp] theorem adC (c:UInt8):CY c=some (dW c):=rfl
theorem zN (p:UInt8→Bool) (c:UInt8) (l:Str):jK p (c :: l)=if p c then jK p l + 1 else 0:=by
 unfold jK; rw [List.takeWhile_cons]; split <;> simp
theorem Bq (p:UInt8→Bool) (l:Str):jK p l≤l.length:=by
 induction l with
 | nil=>simp [jK]
 | cons c l ih=>rw [zN]; split <;> simp <;> omega
theorem VF {F:Nat→Int→Option Int} {s:Str} (hs:s.length < 4611686018427387904)
  (hF:∀ k (i:Nat),F (k + 1) i=au (if decide ((i:Int) < (s.length:Int)) then au (idx s i) fun x1=>some (dW x1) else some false) fun b1=>if b1 then F k (bS ((i:Int) + 1)) else some (i:Int)):
  ∀ (k i:Nat),s.length < k + i→i≤s.length→F k (i:Int)=some ((i + jK dW (s.drop i):Nat):Int)
 | 0,i,h,h'=>by omega
 | k + 1,i,h,h'=>by
  rw [hF]
  by_cases hi:i < s.length
  ·
   rw [List.drop_eq_getElem_cons hi,zN,if_pos (by simp; omega),rA hi]
   simp only [ay]
   cases e:dW s[i] with
   | false=>simp
   | true=>
    simp only [if_true]
    rw [zB (by omega),VF hs hF k (i + 1) (by omega) (by omega)]
    simp only [Option.some.injEq,Int.natCast_inj]; omega
  ·
   have:i=s.length:=by omega
   subst this
   simp [jK]
theorem Cw {s:Str} (hs:s.length < 4611686018427387904):CZ s=some (jK dW s:Int):=by
 have:=VF (F:=zm s) hs (fun k i=>rfl) BIG 0 (by have:=j_; omega) (by omega)
 simpa [CZ] using this
theorem Qu {s:Str} (hs:s.length < 4611686018427387904) {i:Nat} (hi:i≤s.length):L9 s (i:Int)=some ((i + jK dW (s.drop i):Nat):Int):=
 VF (F:=Dn s) hs (fun k i=>rfl) BIG i (by have:=j_; omega) hi
theorem tq {s:Str} {i:Nat} (h:i≤s.length):sl s (i:Int) (s.length:Int)=some (s.drop i):=by
 rw [IC (by omega) (by omega) (by omega)]
 simp
theorem XE {s:Str} {i:Nat} (h:i≤s.length):sl s 0 (i:Int)=some (s.take i):=by
 rw [IC (by omega) (by omega) (by omega)]
 simp
theorem trimB (s:Str):∀ (k:Nat),s.length < k→s.length < 4611686018427387904→iY 48 k s=some (dz s):=by
 induction s with
 | nil=>intro k h _; cases k with
  | zero=>simp at h
  | succ k=>simp [iY,dz]
 | cons c s ih=>
  intro k h hs
  cases k with
  | zero=>simp at h
  | succ k=>
   simp only [List.length_cons] at h hs
   rw [iY,if_pos (by simp)]
   have e0:idx (c :: s) 0=some c:=by simp [idx]
   rw [e0]
   simp only [ay]
   have e1:((48:UInt8).toNat:Int)=48:=rfl
   rw [e1]
   unfold dz
   rw [List.dropWhile_cons]
   cases e:((c.toNat:Int) == 48) with
   | false=>simp
   | true=>
    simp only [if_true]
    have e2:=tq (s:=c :: s) (i:=1) (by simp)
    simp only [List.drop_one,List.tail_cons] at e2
    rw [show ((1:Nat):Int)=1 from rfl] at e2
    rw [e2]
    simp only [ay]
    exact ih k (by omega) (by omega)
theorem aaN {s:Str} (hs:s.length < 4611686018427387904):ou s ([48]:Str)=some (dz s):=by
 unfold ou
 cases s with
 | nil=>simp [dz]
 | cons c s=>
  rw [if_neg (by simp),if_pos (by simp)]
  have e0:idx ([48]:Str) 0=some 48:=rfl
  rw [e0]
  simp only [ay]
  rw [if_pos (by decide)]
  exact trimB _ BIG (by have:=j_; omega) hs
theorem Ug {s:Str} (hs:s.length < 4611686018427387904):∀ (k i:Nat),s.length < k + i→i≤s.length→vE s k (i:Int)=some (dz (s.drop i))
 | 0,i,h,h'=>by omega
 | k + 1,i,h,h'=>by
  rw [vE]
  by_cases hi:i < s.length
  ·
   rw [List.drop_eq_getElem_cons hi,if_pos (by simp; omega),rA hi]
   simp only [ay]
   unfold dz
   rw [List.dropWhile_cons]
   cases e:((s[i].toNat:Int) == 48) with
   | false=>
    simp only [Bool.false_eq_true,if_false]
    rw [tq (by omega),List.drop_eq_getElem_cons hi]
   | true=>
    simp only [if_true]
    rw [zB (by omega)]
    exact Ug hs k (i + 1) (by omega) (by omega)
  ·
   have:i=s.length:=by omega
   subst this
   rw [if_neg (by simp)]
   simp only [ay,Bool.false_eq_true,if_false]
   rw [tq (by omega)]
   simp [dz]
theorem XD {s:Str} (hs:s.length < 4611686018427387904):CX s=some (dz s):=by
 have:=Ug hs BIG 0 (by have:=j_; omega) (by omega)
 simpa [CX] using this
def vW (p q:Bool):Int:=if p then -1 else if q then 1 else 0
def oV (x y:Int):Int:=vW (decide (x < y)) (decide (y < x))
def DW (x y:Str):Int:=vW (Go.Op.bytesLess x y) (!(Go.Op.bytesLess x y || x == y))
theorem Cn (p q:Bool):vF p q=some (vW p q):=by
 unfold vF vW; cases p <;> cases q <;> rfl
theorem rW (x y:Int):cmp_Compare_int x y=some (oV x y):=by
 unfold cmp_Compare_int oV vW cmp_isNaN_int
 by_cases h1:x < y <;> by_cases h2:y < x <;> simp [h1,h2]
theorem Jq (x y:UInt8):qX x y=some (oV x.toNat y.toNat):=by
 unfold qX oV vW uT
 by_cases h1:(x.toNat:Int) < y.toNat <;> by_cases h2:(y.toNat:Int) < x.toNat <;> simp [h1,h2]
theorem RB (x y:Str):mq x y=some (DW x y):=by
 unfold mq DW vW cmp_isNaN_string
 cases h1:Go.Op.bytesLess x y <;> cases h2:(x == y) <;> simp
theorem Aw :∀ x:Str,Go.Op.bytesLess x x=false
 | []=>rfl
 | c :: x=>by
  unfold Go.Op.bytesLess
  have:=Aw x
  simp [this]
theorem acC (a b c:Int):DV ([a,b,c]:List Int)=some (if a != 0 then a else if b != 0 then b else c):=by
 have:=dP (F:=fun k (_:Unit) i=>wN [a,b,c] k i) (l:=[a,b,c]) (body:=fun _ abP _ r=>if abP != 0 then some abP else r ()) (fin:=fun _=>some 0) (by simp)
  (fun k s i=>rfl) ()
 unfold DV
 rw [this]
 simp only [dQ]
 by_cases h1:a=0 <;> by_cases h2:b=0 <;> by_cases h3:c=0 <;> simp [h1,h2,h3]
def RD (a b:Str):Int:=
 if ((dz a).length:Int) != ((dz b).length:Int) then oV (dz a).length (dz b).length else if !(dz a == dz b) then DW (dz a) (dz b) else oV a.length b.length
theorem aj7 (s:Str):(dz s).length≤s.length:=(List.dropWhile_sublist _).length_le
theorem Ap {x y:Int}:oV x y=0↔x=y:=by
 unfold oV vW
 by_cases h1:x < y <;> by_cases h2:y < x <;> simp [h1,h2] <;> omega
theorem abu {x y:Str} (h:x≠y):DW x y≠0:=by
 unfold DW vW
 cases h1:Go.Op.bytesLess x y <;> simp [h]
theorem U2 (x:Str):DW x x=0:=by
 unfold DW vW
 simp [Aw]
theorem QB {a b:Str} (ha:a.length < 4611686018427387904) (hb:b.length < 4611686018427387904):wH a b=some (RD a b):=by
 unfold wH RD
 rw [aaN ha,aaN hb]
 simp only [ay,rW,RB,acC,Option.some.injEq]
 by_cases h1:((dz a).length:Int)=((dz b).length:Int)
 ·
  have e1:oV (dz a).length (dz b).length=0:=Ap.2 h1
  rw [e1]
  by_cases h2:dz a=dz b
  · rw [h2,U2]; simp
  ·
   have:=abu h2
   simp [h1,h2,this]
 ·
  have e1:oV (dz a).length (dz b).length≠0:=fun h=>h1 (Ap.1 h)
  rw [if_pos (by simpa using e1),if_pos (by simpa using h1)]
theorem afA {a b:Str} (ha:a.length < 4611686018427387904) (hb:b.length < 4611686018427387904):IY a b=some (RD a b):=by
 unfold IY RD
 rw [XD ha,XD hb]
 simp only [ay,Cn]
 by_cases h1:((dz a).length:Int)=((dz b).length:Int)
 ·
  by_cases h2:dz a=dz b
  · simp [h2,oV]
  · simp [h1,h2,DW]
 · simp [h1,oV]
theorem Uj {s:Str} (h:s≠[]):0 < jK dW s↔dW (s.head h)=true:=by
 cases s with
 | nil=>exact absurd rfl h
 | cons c s=>rw [zN]; cases e:dW c <;> simp [e]
theorem Jp {a b:Str} (ha:a.length < 4611686018427387904) (hb:b.length < 4611686018427387904):∀ (k k' i j:Nat),i≤a.length→j≤b.length→a.length < k + i→a.length < k' + i→
  j3 k (a.drop i) (b.drop j)=mZ a b k' (i:Int) (j:Int)∧∃ c,mZ a b k' (i:Int) (j:Int)=some c
 | 0,k',i,j,_,_,h,_=>by omega
 | k + 1,0,i,j,_,_,_,h=>by omega
 | k + 1,k' + 1,i,j,hi,hj,hk,hk'=>by
  rw [j3,mZ]
  by_cases h1:i < a.length
  ·
   by_cases h2:j < b.length
   ·
    have ea:=List.drop_eq_getElem_cons h1
    have eb:=List.drop_eq_getElem_cons h2
    have na:a.drop i≠[]:=fun h=>by simp at h; omega
    have nb:b.drop j≠[]:=fun h=>by simp at h; omega
    have la:(a.drop i).length=a.length - i:=by simp
    have lb:(b.drop j).length=b.length - j:=by simp
    have sa:=Bq dW (a.drop i)
    have sb:=Bq dW (b.drop j)
    have pa:=Uj na
    have pb:=Uj nb
    have aj2:(a.drop i).head na=a[i]:=by simp
    have aj1:(b.drop j).head nb=b[j]:=by simp
    rw [aj2] at pa
    rw [aj1] at pb
    rw [if_pos (by simp [h1,h2]),if_pos (by simp; omega),Cw (by omega),Cw (by omega),rA h1,rA h2]
    simp only [ay,Cn,adC]
    have i0:idx (a.drop i) 0=some a[i]:=by rw [ea]; rfl
    have j0:idx (b.drop j) 0=some b[j]:=by rw [eb]; rfl
    have hone:(if dW a[i]=true then some (dW b[j]) else some false)=some (dW a[i] && dW b[j]):=by cases dW a[i] <;> simp
    rw [hone]
    simp only [ay]
    cases hd:(dW a[i] && dW b[j]) with
    | true=>
     simp only [Bool.and_eq_true] at hd
     have q1:=pa.2 hd.1
     have q2:=pb.2 hd.2
     rw [if_pos (by simp; omega)]
     simp only [if_true]
     rw [Qu ha (by omega),Qu hb (by omega),XE sa,XE sb]
     simp only [ay]
     have e1:sl a (i:Int) ((i + jK dW (a.drop i):Nat):Int)=some ((a.drop i).take (jK dW (a.drop i))):=by
      rw [IC (by omega) (by omega) (by omega)]
      simp only [Int.toNat_natCast,Option.some.injEq]
      rw [List.drop_take,Nat.add_sub_cancel_left]
     have e2:sl b (j:Int) ((j + jK dW (b.drop j):Nat):Int)=some ((b.drop j).take (jK dW (b.drop j))):=by
      rw [IC (by omega) (by omega) (by omega)]
      simp only [Int.toNat_natCast,Option.some.injEq]
      rw [List.drop_take,Nat.add_sub_cancel_left]
     rw [e1,e2]
     simp only [ay]
     rw [QB (by simp; omega) (by simp; omega),afA (by simp; omega) (by simp; omega)]
     simp only [ay]
     by_cases hc:RD ((a.drop i).take (jK dW (a.drop i))) ((b.drop j).take (jK dW (b.drop j)))=0
     ·
      rw [if_neg (by simp [hc]),if_neg (by simp [hc]),tq sa,tq sb]
      simp only [ay,List.drop_drop]
      exact Jp ha hb k k' _ _ (by omega) (by omega) (by omega) (by omega)
     ·
      rw [if_pos (by simpa using hc),if_pos (by simpa using hc)]
      exact ⟨rfl,_,rfl⟩
    | false=>
     rw [if_neg (by
      simp only [Bool.and_eq_true,decide_eq_true_eq,not_and]
      intro h3 h4
      have:=pa.1 (by omega); have:=pb.1 (by omega)
      simp_all)]
     simp only [Bool.false_eq_true,if_false]
     rw [i0,j0]
     simp only [ay,Jq]
     by_cases hc:(a[i].toNat:Int)=(b[j].toNat:Int)
     ·
      rw [if_neg (by simpa using hc)]
      have:vW (decide ((a[i].toNat:Int) < (b[j].toNat:Int))) (decide ((b[j].toNat:Int) < (a[i].toNat:Int)))=0:=by simp [vW,hc]
      rw [this,if_neg (by simp),zB (by omega),zB (by omega)]
      have s1:=tq (s:=a.drop i) (i:=1) (by omega)
      have s2:=tq (s:=b.drop j) (i:=1) (by omega)
      rw [show ((1:Nat):Int)=1 from rfl] at s1 s2
      rw [s1,s2]
      simp only [ay,List.drop_drop]
      exact Jp ha hb k k' _ _ (by omega) (by omega) (by omega) (by omega)
     ·
      rw [if_pos (by simpa using hc)]
      have e3:oV (a[i].toNat) (b[j].toNat)≠0:=fun h=>hc (Ap.1 h)
      have:vW (decide ((a[i].toNat:Int) < (b[j].toNat:Int))) (decide ((b[j].toNat:Int) < (a[i].toNat:Int)))=oV (a[i].toNat) (b[j].toNat):=rfl
      rw [this,if_pos (by simpa using e3)]
      exact ⟨rfl,_,rfl⟩
   ·
    have eb:b.drop j=[]:=by simp; omega
    rw [eb,if_neg (by simp),if_neg (by simp; omega),Cn,rW]
    refine ⟨?_,_,rfl⟩
    unfold oV
    congr 2 <;> simp <;> omega
  ·
   have ea:a.drop i=[]:=by simp; omega
   rw [ea,if_neg (by simp),if_neg (by simp; omega),Cn,rW]
   refine ⟨?_,_,rfl⟩
   unfold oV
   congr 2 <;> simp <;> omega
theorem Rz {a b:Str} (ha:a.length < 4611686018427387904) (hb:b.length < 4611686018427387904):∃ c,jD a b=some c∧m_ a b=some c:=by
 obtain ⟨h1,c,h2⟩:=Jp ha hb BIG BIG 0 0 (by omega) (by omega) (by have:=j_; omega) (by have:=j_; omega)
 refine ⟨c,?_,by simpa [m_] using h2⟩
 rw [←h2]
 simpa [jD] using h1
end Go.Ft

namespace Go.Ft
open Go
theorem UD :∀ l,rz l l=0
 | []=>rfl
 | a :: l=>by simp [rz,UD l]
theorem UC :∀ {l m:List Nat},rz l m=0→l=m
 | [],[],_=>rfl
 | [],_ :: _,h=>by simp [rz] at h
 | _ :: _,[],h=>by simp [rz] at h
 | a :: l,b :: m,h=>by
  simp only [rz] at h
  by_cases h1:a < b
  · simp [h1] at h
  ·
   by_cases h2:b < a
   · simp [h1,h2] at h
   ·
    simp only [h1,h2,if_false] at h
    rw [UC h,show a=b from by omega]
theorem Yk :∀ l m:List Nat,rz m l=- rz l m
 | [],[]=>rfl
 | [],_ :: _=>rfl
 | _ :: _,[]=>rfl
 | a :: l,b :: m=>by
  simp only [rz]
  by_cases h1:a < b
  · simp [h1,show ¬ b < a by omega]
  ·
   by_cases h2:b < a
   · simp [h1,h2]
   · simp only [h1,h2,if_false]; exact Yk l m
theorem QV :∀ l m:List Nat,rz l m=-1∨rz l m=0∨rz l m=1
 | [],[]=>.inr (.inl rfl)
 | [],_ :: _=>.inl rfl
 | _ :: _,[]=>.inr (.inr rfl)
 | a :: l,b :: m=>by
  simp only [rz]
  by_cases h1:a < b
  · simp [h1]
  ·
   by_cases h2:b < a
   · simp [h1,h2]
   · simp only [h1,h2,if_false]; exact QV l m
theorem QU :∀ {a b c:List Nat},rz a b < 0→rz b c < 0→rz a c < 0
 | [],[],c,h,_=>by simp [rz] at h
 | [],_ :: _,[],_,h=>by simp [rz] at h
 | [],_ :: _,_ :: _,_,_=>by simp [rz]
 | _ :: _,[],c,h,_=>by simp [rz] at h
 | _ :: _,_ :: _,[],_,h=>by simp [rz] at h
 | x :: a,y :: b,z :: c,h,k=>by
  simp only [rz] at h k ⊢
  by_cases h1:x < y
  ·
   by_cases k1:y < z
   · simp [show x < z by omega]
   ·
    by_cases k2:z < y
    · simp [k1,k2] at k
    · simp [show x < z by omega]
  ·
   by_cases h2:y < x
   · simp [h1,h2] at h
   ·
    simp only [h1,h2,if_false] at h
    by_cases k1:y < z
    · simp [show x < z by omega]
    ·
     by_cases k2:z < y
     · simp [k1,k2] at k
     ·
      simp only [k1,k2,if_false] at k
      simp only [show ¬ x < z by omega,show ¬ z < x by omega,if_false]
      exact QU h k
theorem QW :∀ (xs ys:Str) (u v:List Nat),xs.length=ys.length→rz (xs.map UInt8.toNat ++ u) (ys.map UInt8.toNat ++ v)=if xs=ys then rz u v else DW xs ys
 | [],[],u,v,_=>by simp
 | [],_ :: _,_,_,h=>by simp at h
 | _ :: _,[],_,_,h=>by simp at h
 | x :: xs,y :: ys,u,v,h=>by
  simp only [List.map_cons,List.cons_append,rz]
  have ih:=QW xs ys u v (by simpa using h)
  have e1:(x < y)=(x.toNat < y.toNat):=by rw [UInt8.lt_iff_toNat_lt]
  have e2:(y < x)=(y.toNat < x.toNat):=by rw [UInt8.lt_iff_toNat_lt]
  by_cases h1:x.toNat < y.toNat
  ·
   have:x≠y:=fun e=>by subst e; omega
   simp [h1,this,DW,vW,Go.Op.bytesLess,e1]
  ·
   by_cases h2:y.toNat < x.toNat
   ·
    have:x≠y:=fun e=>by subst e; omega
    simp [h1,h2,this,DW,vW,Go.Op.bytesLess,e1]
   ·
    have:x=y:=UInt8.toNat_inj.1 (by omega)
    subst this
    simp only [h1,if_false,ih,List.cons.injEq,true_and]
    by_cases h3:xs=ys
    · simp [h3]
    ·
     simp only [h3,if_false,DW,Go.Op.bytesLess,e1,h1,decide_false,Bool.false_or,beq_self_eq_true,Bool.true_and]
     congr 1
     simp
theorem JV (s:Str):(s.take (jK dW s)).length=jK dW s:=by
 have:=Bq dW s
 simp; omega
theorem Iz {c:UInt8} {s:Str} (h:dW c=true):0 < jK dW (c :: s):=by rw [zN,if_pos h]; omega
theorem Nr :∀ (k m:Nat) (s:Str),s.length≤k→s.length≤m→Q6 k s=Q6 m s
 | 0,0,_,_,_=>rfl
 | 0,m + 1,s,h,_=>by
  have:s=[]:=List.eq_nil_of_length_eq_zero (by omega)
  subst this; rfl
 | k + 1,0,s,_,h=>by
  have:s=[]:=List.eq_nil_of_length_eq_zero (by omega)
  subst this; rfl
 | k + 1,m + 1,[],_,_=>rfl
 | k + 1,m + 1,c :: s,h1,h2=>by
  simp only [Q6]
  simp only [List.length_cons] at h1 h2
  cases e:dW c with
  | true=>
   have:=Iz (s:=s) e
   have:=Bq dW (c :: s)
   simp only [if_true]
   rw [Nr k m _ (by simp; omega) (by simp; omega)]
  | false=>
   simp only [Bool.false_eq_true,if_false]
   rw [Nr k m s (by omega) (by omega)]
theorem Yo {k:Nat} {s:Str} (h:s.length≤k):Q6 k s=key s:=Nr _ _ _ h (Nat.le_refl _)
theorem GN :key []=[]:=rfl
theorem wU {c:UInt8} {s:Str} (h:dW c=true):key (c :: s)=48 :: (dz ((c :: s).take (jK dW (c :: s)))).length :: ((dz ((c :: s).take (jK dW (c :: s)))).map UInt8.toNat ++ jK dW (c :: s) :: key ((c :: s).drop (jK dW (c :: s)))):=by
 have:=Iz (s:=s) h
 have:=Bq dW (c :: s)
 show Q6 (s.length + 1) (c :: s)=_
 simp only [Q6,h,if_true]
 rw [Yo (by simp; omega)]
theorem nA {c:UInt8} {s:Str} (h:dW c=false):key (c :: s)=c.toNat :: key s:=by
 show Q6 (s.length + 1) (c :: s)=_
 simp only [Q6,h,Bool.false_eq_true,if_false]
 rw [Yo (Nat.le_refl _)]
theorem aeA (a b:Str) (u v:List Nat):rz ((dz a).length :: ((dz a).map UInt8.toNat ++ a.length :: u)) ((dz b).length :: ((dz b).map UInt8.toNat ++ b.length :: v))=if RD a b=0 then rz u v else RD a b:=by
 unfold RD
 simp only [rz]
 by_cases h1:(dz a).length=(dz b).length
 ·
  rw [if_neg (by omega),if_neg (by omega),QW _ _ _ _ h1]
  have e:(((dz a).length:Int) != ((dz b).length:Int))=false:=by simp [h1]
  simp only [e,Bool.false_eq_true,if_false]
  by_cases h2:dz a=dz b
  ·
   simp only [h2,if_true,beq_self_eq_true,Bool.not_true,Bool.false_eq_true,if_false,rz,oV,vW]
   by_cases h3:a.length < b.length
   · simp [h3]
   ·
    by_cases h4:b.length < a.length
    · simp [h3,h4]
    · simp [h3,h4]
  ·
   have h3:=abu h2
   simp [h2,h3]
 ·
  have e:(((dz a).length:Int) != ((dz b).length:Int))=true:=by simp; omega
  simp only [e,if_true]
  by_cases h2:(dz a).length < (dz b).length
  · simp [h2,oV,vW]
  ·
   have h3:(dz b).length < (dz a).length:=by omega
   simp [h2,h3,oV,vW]
theorem vL {c:UInt8}:dW c=(decide (48≤c.toNat) && decide (c.toNat≤57)):=by
 unfold dW
 congr 1
 · apply decide_eq_decide.2; omega
 · apply decide_eq_decide.2; omega
theorem I_ :∀ (n k:Nat) (a b:Str),a.length≤n→a.length < k→a.length < 4611686018427387904→b.length < 4611686018427387904→j3 k a b=some (fA a b)
 | _,0,_,_,_,h,_,_=>by omega
 | n,k + 1,a,b,hn,hk,ha,hb=>by
  rw [j3]
  match a,b with
  | [],[]=>
   rw [if_neg (by simp),rW]
   simp [fA,GN,rz,oV,vW]
  | [],y :: b=>
   rw [if_neg (by simp),rW]
   have:key (y :: b)≠[]:=by
    cases e:dW y with
    | true=>rw [wU e]; simp
    | false=>rw [nA e]; simp
   cases e:key (y :: b) with
   | nil=>exact absurd e this
   | cons p q=>
    simp only [fA,GN,e,rz,oV,vW]
    rw [if_pos (by simp)]
  | x :: a,[]=>
   rw [if_neg (by simp),rW]
   have:key (x :: a)≠[]:=by
    cases e:dW x with
    | true=>rw [wU e]; simp
    | false=>rw [nA e]; simp
   cases e:key (x :: a) with
   | nil=>exact absurd e this
   | cons p q=>
    simp only [fA,GN,e,rz,oV,vW]
    rw [if_neg (by simp; omega),if_pos (by simp)]
  | x :: a,y :: b=>
   have sa:=Bq dW (x :: a)
   have sb:=Bq dW (y :: b)
   have i0:idx (x :: a) 0=some x:=rfl
   have j0:idx (y :: b) 0=some y:=rfl
   rw [if_pos (by simp),Cw ha,Cw hb]
   simp only [ay]
   cases e1:dW x with
   | true=>
    have p1:=Iz (s:=a) e1
    cases e2:dW y with
    | true=>
     have p2:=Iz (s:=b) e2
     rw [if_pos (by simp; omega),XE sa,XE sb]
     simp only [ay]
     rw [QB (by simp; omega) (by simp; omega)]
     simp only [ay]
     have hc:=aeA ((x :: a).take (jK dW (x :: a))) ((y :: b).take (jK dW (y :: b))) (key ((x :: a).drop (jK dW (x :: a)))) (key ((y :: b).drop (jK dW (y :: b))))
     rw [JV,JV] at hc
     have e3:fA (x :: a) (y :: b)=if RD ((x :: a).take (jK dW (x :: a))) ((y :: b).take (jK dW (y :: b)))=0 then rz (key ((x :: a).drop (jK dW (x :: a)))) (key ((y :: b).drop (jK dW (y :: b)))) else RD ((x :: a).take (jK dW (x :: a))) ((y :: b).take (jK dW (y :: b))):=by
      rw [←hc,fA,wU e1,wU e2,rz,if_neg (by omega),if_neg (by omega)]
     rw [e3]
     by_cases h0:RD ((x :: a).take (jK dW (x :: a))) ((y :: b).take (jK dW (y :: b)))=0
     ·
      rw [if_neg (by simpa using h0),if_pos h0,tq sa,tq sb]
      simp only [ay]
      match n,hn with
      | n + 1,hn=>
       exact I_ n k _ _ (by simp at hn ⊢; omega) (by simp at hk ⊢; omega) (by simp at ha ⊢; omega) (by simp at hb ⊢; omega)
     · rw [if_pos (by simpa using h0),if_neg h0]
    | false=>
     have q2:jK dW (y :: b)=0:=by rw [zN,e2]; rfl
     rw [if_neg (by simp [q2]),i0,j0]
     simp only [ay,Jq]
     have d1:=vL (c:=x); rw [e1] at d1
     have d2:=vL (c:=y); rw [e2] at d2
     simp only [Bool.and_eq_true,Bool.false_eq,Bool.and_eq_false_iff,decide_eq_false_iff_not,Bool.true_eq,decide_eq_true_eq] at d1 d2
     rw [if_pos (by simp; omega)]
     rw [fA,wU e1,nA e2,rz,oV,vW]
     by_cases h1:x.toNat < y.toNat
     · rw [if_pos (by simp; omega),if_pos (by omega)]
     · rw [if_neg (by simp; omega),if_pos (by simp; omega),if_neg (by omega),if_pos (by omega)]
   | false=>
    have q1:jK dW (x :: a)=0:=by rw [zN,e1]; rfl
    rw [if_neg (by simp [q1]),i0,j0]
    simp only [ay,Jq]
    by_cases h0:x=y
    ·
     subst h0
     rw [if_neg (by simp)]
     have s1:=tq (s:=x :: a) (i:=1) (by simp)
     have s2:=tq (s:=x :: b) (i:=1) (by simp)
     rw [show ((1:Nat):Int)=1 from rfl] at s1 s2
     rw [s1,s2]
     simp only [ay,List.drop_succ_cons,List.drop_zero]
     rw [fA,nA e1,nA e1,rz,if_neg (by omega),if_neg (by omega)]
     match n,hn with
     | n + 1,hn=>exact I_ n k a b (by simp at hn; omega) (by simp at hk; omega) (by simp at ha; omega) (by simp at hb; omega)
    ·
     have h1:x.toNat≠y.toNat:=fun h=>h0 (UInt8.toNat_inj.1 h)
     rw [if_pos (by simp; omega)]
     have d1:=vL (c:=x); rw [e1] at d1
     simp only [Bool.and_eq_true,Bool.false_eq,Bool.and_eq_false_iff,decide_eq_false_iff_not] at d1
     cases e2:dW y with
     | true=>
      have d2:=vL (c:=y); rw [e2] at d2
      simp only [Bool.and_eq_true,Bool.true_eq,decide_eq_true_eq] at d2
      rw [fA,nA e1,wU e2,rz,oV,vW]
      by_cases h1:x.toNat < y.toNat
      · rw [if_pos (by simp; omega),if_pos (by omega)]
      · rw [if_neg (by simp; omega),if_pos (by simp; omega),if_neg (by omega),if_pos (by omega)]
     | false=>
      rw [fA,nA e1,nA e2,rz,oV,vW]
      by_cases h2:x.toNat < y.toNat
      · rw [if_pos (by simp; omega),if_pos (by omega)]
      · rw [if_neg (by simp; omega),if_pos (by simp; omega),if_neg (by omega),if_pos (by omega)]
theorem Nn {a b:Str} (ha:a.length < 4611686018427387904) (hb:b.length < 4611686018427387904):jD a b=some (fA a b):=
 I_ _ BIG a b (Nat.le_refl _) (by have:=j_; omega) ha hb
theorem GD {a b:Str} (ha:a.length < 4611686018427387904) (hb:b.length < 4611686018427387904):m_ a b=some (fA a b):=by
 obtain ⟨c,h1,h2⟩:=Rz ha hb
 rw [Nn ha hb] at h1
 rw [h2,←h1]
theorem WG :∀ (r:Str),r=List.replicate (r.length - (dz r).length) (48:UInt8) ++ dz r
 | []=>rfl
 | c :: r=>by
  unfold dz
  rw [List.dropWhile_cons]
  by_cases h:c=48
  ·
   subst h
   have ih:=WG r
   have hl:=aj7 r
   simp only [show (((48:UInt8).toNat:Int) == 48)=true from rfl,if_true]
   change _=List.replicate ((48 :: r).length - (dz r).length) (48:UInt8) ++ dz r
   rw [show (48 :: r).length - (dz r).length=(r.length - (dz r).length) + 1 by simp; omega,List.replicate_succ,List.cons_append,←ih]
  ·
   have:((c.toNat:Int) == 48)=false:=by
    simp only [beq_eq_false_iff_ne,ne_eq]
    intro h2
    exact h (UInt8.toNat_inj.1 (by show c.toNat=48; omega))
   simp [this]
theorem key_inj :∀ (n:Nat) (a b:Str),a.length≤n→key a=key b→a=b
 | _,[],[],_,_=>rfl
 | _,[],y :: b,_,h=>by
  cases e:dW y with
  | true=>rw [wU e,GN] at h; cases h
  | false=>rw [nA e,GN] at h; cases h
 | _,x :: a,[],_,h=>by
  cases e:dW x with
  | true=>rw [wU e,GN] at h; cases h
  | false=>rw [nA e,GN] at h; cases h
 | 0,x :: a,y :: b,h,_=>by simp at h
 | n + 1,x :: a,y :: b,hn,h=>by
  cases e1:dW x with
  | true=>
   cases e2:dW y with
   | true=>
    have p1:=Iz (s:=a) e1
    have sa:=Bq dW (x :: a)
    rw [wU e1,wU e2] at h
    simp only [List.cons.injEq,true_and] at h
    obtain ⟨h1,h2⟩:=h
    obtain ⟨h3,h4⟩:=List.append_inj h2 (by simpa using h1)
    simp only [List.cons.injEq] at h4
    have h5:dz ((x :: a).take (jK dW (x :: a)))=dz ((y :: b).take (jK dW (y :: b))):=by
     refine List.map_inj_right (f:=UInt8.toNat) (fun p q hpq=>UInt8.toNat_inj.1 hpq) |>.1 h3
    have h6:(x :: a).take (jK dW (x :: a))=(y :: b).take (jK dW (y :: b)):=by
     rw [WG ((x :: a).take (jK dW (x :: a))),WG ((y :: b).take (jK dW (y :: b))),h5,JV,JV,h4.1]
    have h7:=key_inj n _ _ (by simp at hn ⊢; omega) h4.2
    rw [←List.take_append_drop (jK dW (x :: a)) (x :: a),h6,h7,List.take_append_drop]
   | false=>
    rw [wU e1,nA e2] at h
    simp only [List.cons.injEq] at h
    have d2:=vL (c:=y); rw [e2,←h.1] at d2
    simp at d2
  | false=>
   cases e2:dW y with
   | true=>
    rw [nA e1,wU e2] at h
    simp only [List.cons.injEq] at h
    have d2:=vL (c:=x); rw [e1,h.1] at d2
    simp at d2
   | false=>
    rw [nA e1,nA e2] at h
    simp only [List.cons.injEq] at h
    rw [UInt8.toNat_inj.1 h.1,key_inj n a b (by simp at hn; omega) h.2]
theorem EA (a:Str):fA a a=0:=UD _
theorem rF {a b:Str} (h:fA a b=0):a=b:=key_inj _ a b (Nat.le_refl _) (UC h)
theorem mh (a b:Str):fA b a=- fA a b:=Yk _ _
theorem vG {a b c:Str} (h:fA a b < 0) (k:fA b c < 0):fA a c < 0:=QU h k
theorem Fa {a b c:Str} (h:¬ fA a b < 0) (k:¬ fA b c < 0):¬ fA a c < 0:=by
 intro hc
 by_cases h0:fA a b=0
 · rw [rF h0] at hc; exact k hc
 ·
  by_cases k0:fA b c=0
  · rw [←rF k0] at hc; exact h hc
  ·
   have h1:fA b a < 0:=by rw [mh]; omega
   have k1:fA c b < 0:=by rw [mh]; omega
   have:=vG k1 h1
   rw [mh] at this
   omega
end Go.Ft
