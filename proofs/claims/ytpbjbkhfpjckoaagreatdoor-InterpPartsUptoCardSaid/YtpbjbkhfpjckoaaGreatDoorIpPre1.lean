/- Proved here: plain facts on the functional texts that the walks want. -/
import Derived.Test.YtpbjbkhfpjckoaaGreatDoorIpFt1
import Derived.Test.YtpbjbkhfpjckoaaGreatDoorIpPool1
set_option linter.unusedVariables false
set_option linter.unusedSimpArgs false
set_option linter.unusedSectionVars false
set_option maxHeartbeats 2000000
namespace Go.Ft
open Go
attribute [local congr] jQ
theorem V4 {n:Int} (h:-9223372036854775808≤n∧n < 9223372036854775808):bV n=n:=PW (by omega) (by omega)
theorem nW {i:Nat} (h:i < 4611686018427387904):bV ((i:Int) + 1)=((i + 1:Nat):Int):=by rw [V4 (by omega)]; omega
theorem o7 {α:Type} {l:List α} {i:Nat} (h:i < l.length):idx l (i:Int)=some (l[i]):=by rw [VB,List.getElem?_eq_getElem h]
theorem mg :9223372036854775808 < BIG:=by decide
def j4 {α S R:Type} (body:Nat→α→S→(S→Option R)→Option R) (fin:S→Option R):Nat→List α→S→Option R
 | _,[],s=>fin s
 | i,x :: r,s=>body i x s fun s'=>j4 body fin (i + 1) r s'
theorem R5 {α S R:Type} {F:Nat→S→Int→Option R} {l:List α} {body:Nat→α→S→(S→Option R)→Option R} {fin:S→Option R} (hl:l.length < 4611686018427387904)
  (hF:∀ k s (i:Nat),F (k + 1) s i=if decide ((i:Int) < (l.length:Int)) then ay (idx l i) fun x=>body i x s fun s'=>F k s' (bV ((i:Int) + 1)) else fin s):
  ∀ (k i:Nat) (s:S),l.length < k + i→i≤l.length→F k s (i:Int)=j4 body fin i (l.drop i) s
 | 0,i,s,h,h'=>by omega
 | k + 1,i,s,h,h'=>by
  rw [hF]; by_cases hi:i < l.length
  ·
   rw [List.drop_eq_getElem_cons hi,if_pos (by simp; omega),o7 hi,au,j4]; congr 1; funext s'; rw [nW (by omega)]; exact R5 hl hF k (i + 1) s' (by omega) (by omega)
  ·
   have:i=l.length:=by omega
   subst this; rw [if_neg (by simp),List.drop_length,j4]
theorem jY {α S R:Type} {F:Nat→S→Int→Option R} {l:List α} {body:Nat→α→S→(S→Option R)→Option R} {fin:S→Option R} (hl:l.length < 4611686018427387904)
  (hF:∀ k s (i:Nat),F (k + 1) s i=if decide ((i:Int) < (l.length:Int)) then ay (idx l i) fun x=>body i x s fun s'=>F k s' (bV ((i:Int) + 1)) else fin s) (s:S):F BIG s 0=j4 body fin 0 l s:=by
 have:=R5 hl hF BIG 0 s (by have:=mg; omega) (by omega); simpa using this
def isLet (c:UInt8):Bool:=(((decide (97≤(c.toNat:Int))) && (decide ((c.toNat:Int)≤122))) || ((decide (65≤(c.toNat:Int))) && (decide ((c.toNat:Int)≤90)))) || ((c.toNat:Int) == 95)
@[simp] theorem ad1 (c:UInt8):uo c=some (isLet c):=rfl
@[simp] theorem Vt (c:UInt8):mV c=some (dO c):=rfl
@[simp] theorem adC (c:UInt8):wT c=some (isLet c):=rfl
@[simp] theorem aai (c:UInt8):nS c=some (dO c):=rfl
@[simp] theorem aeI (c:UInt8):Az c=some (dO c):=rfl
@[simp] theorem Yf (c:UInt8):zh c=some (dO c):=rfl
theorem wR (p:UInt8→Bool) (c:UInt8) (l:Str):jo p (c :: l)=if p c then jo p l + 1 else 0:=by
 unfold jo; rw [List.takeWhile_cons]; split <;> simp
theorem xD (p:UInt8→Bool) (l:Str):jo p l≤l.length:=by
 induction l with
 | nil=>simp [jo]
 | cons c l ih=>rw [wR]; split <;> simp <;> omega
theorem Qc {F:Nat→Int→Option Int} {s:Str} (hs:s.length < 4611686018427387904)
  (hF:∀ k (i:Nat),F (k + 1) i=ay (if decide ((i:Int) < (s.length:Int)) then ay (idx s i) fun x1=>some (dO x1) else some false) fun b1=>if b1 then F k (bV ((i:Int) + 1)) else some (i:Int)):
  ∀ (k i:Nat),s.length < k + i→i≤s.length→F k (i:Int)=some ((i + jo dO (s.drop i):Nat):Int)
 | 0,i,h,h'=>by omega
 | k + 1,i,h,h'=>by
  rw [hF]; by_cases hi:i < s.length
  ·
   rw [List.drop_eq_getElem_cons hi,wR,if_pos (by simp; omega),o7 hi]; simp only [au]; cases e:dO s[i] with
   | false=>simp
   | true=>
    simp only [if_true]; rw [nW (by omega),Qc hs hF k (i + 1) (by omega) (by omega)]; simp only [Option.some.injEq,Int.natCast_inj]; omega
  ·
   have:i=s.length:=by omega
   subst this; simp [jo]
theorem yQ {s:Str} (hs:s.length < 4611686018427387904):zi s=some (jo dO s:Int):=by
 have:=Qc (F:=wB s) hs (fun k i=>rfl) BIG 0 (by have:=mg; omega) (by omega); simpa [zi] using this
theorem LU {s:Str} (hs:s.length < 4611686018427387904) {i:Nat} (hi:i≤s.length):Hy s (i:Int)=some ((i + jo dO (s.drop i):Nat):Int):=
 Qc (F:=zK s) hs (fun k i=>rfl) BIG i (by have:=mg; omega) hi
theorem uI {s:Str} {i:Nat} (h:i≤s.length):sl s (i:Int) (s.length:Int)=some (s.drop i):=by
 rw [bX (by omega) (by omega) (by omega)]; simp
theorem Vo {s:Str} {i:Nat} (h:i≤s.length):sl s 0 (i:Int)=some (s.take i):=by
 rw [bX (by omega) (by omega) (by omega)]; simp
theorem trimB (s:Str):∀ (k:Nat),s.length < k→s.length < 4611686018427387904→iM 48 k s=some (dz s):=by
 induction s with
 | nil=>intro k h _; cases k with
  | zero=>simp at h
  | succ k=>simp [iM,dz]
 | cons c s ih=>
  intro k h hs; cases k with
  | zero=>simp at h
  | succ k=>
   simp only [List.length_cons] at h hs; rw [iM,if_pos (by simp)]; have e0:idx (c :: s) 0=some c:=by simp [idx]
   rw [e0]; simp only [au]; have e1:((48:UInt8).toNat:Int)=48:=rfl; rw [e1]; unfold dz; rw [List.dropWhile_cons]; cases e:((c.toNat:Int) == 48) with
   | false=>simp
   | true=>
    simp only [if_true]; have e2:=uI (s:=c :: s) (i:=1) (by simp); simp only [List.drop_one,List.tail_cons] at e2; rw [show ((1:Nat):Int)=1 from rfl] at e2; rw [e2]; simp only [au]; exact ih k (by omega) (by omega)
theorem Vk {s:Str} (hs:s.length < 4611686018427387904):nk s ([48]:Str)=some (dz s):=by
 unfold nk; cases s with
 | nil=>simp [dz]
 | cons c s=>
  rw [if_neg (by simp),if_pos (by simp)]; have e0:idx ([48]:Str) 0=some 48:=rfl; rw [e0]; simp only [au]; rw [if_pos (by decide)]; exact trimB _ BIG (by have:=mg; omega) hs
theorem O4 {s:Str} (hs:s.length < 4611686018427387904):∀ (k i:Nat),s.length < k + i→i≤s.length→sO s k (i:Int)=some (dz (s.drop i))
 | 0,i,h,h'=>by omega
 | k + 1,i,h,h'=>by
  rw [sO]; by_cases hi:i < s.length
  ·
   rw [List.drop_eq_getElem_cons hi,if_pos (by simp; omega),o7 hi]; simp only [au]; unfold dz; rw [List.dropWhile_cons]; cases e:((s[i].toNat:Int) == 48) with
   | false=>
    simp only [Bool.false_eq_true,if_false]; rw [uI (by omega),List.drop_eq_getElem_cons hi]
   | true=>
    simp only [if_true]; rw [nW (by omega)]; exact O4 hs k (i + 1) (by omega) (by omega)
  ·
   have:i=s.length:=by omega
   subst this; rw [if_neg (by simp)]; simp only [au,Bool.false_eq_true,if_false]; rw [uI (by omega)]; simp [dz]
theorem R3 {s:Str} (hs:s.length < 4611686018427387904):ze s=some (dz s):=by
 have:=O4 hs BIG 0 (by have:=mg; omega) (by omega); simpa [ze] using this
def uR (p q:Bool):Int:=if p then -1 else if q then 1 else 0
def ru (x y:Int):Int:=uR (decide (x < y)) (decide (y < x))
def F4 (x y:Str):Int:=uR (Go.Op.bytesLess x y) (!(Go.Op.bytesLess x y || x == y))
theorem yJ (p q:Bool):sQ p q=some (uR p q):=by
 unfold sQ uR; cases p <;> cases q <;> rfl
theorem qy (x y:Int):cmp_Compare_int x y=some (ru x y):=by
 unfold cmp_Compare_int ru uR cmp_isNaN_int; by_cases h1:x < y <;> by_cases h2:y < x <;> simp [h1,h2]
theorem EP (x y:UInt8):pR x y=some (ru x.toNat y.toNat):=by
 unfold pR ru uR sF; by_cases h1:(x.toNat:Int) < y.toNat <;> by_cases h2:(y.toNat:Int) < x.toNat <;> simp [h1,h2]
theorem MZ (x y:Str):lN x y=some (F4 x y):=by
 unfold lN F4 uR cmp_isNaN_string; cases h1:Go.Op.bytesLess x y <;> cases h2:(x == y) <;> simp
theorem wX :∀ x:Str,Go.Op.bytesLess x x=false
 | []=>rfl
 | c :: x=>by
  unfold Go.Op.bytesLess; have:=wX x; simp [this]
theorem Xj (a b c:Int):zT ([a,b,c]:List Int)=some (if a != 0 then a else if b != 0 then b else c):=by
 have:=jY (F:=fun k (_:Unit) i=>uE [a,b,c] k i) (l:=[a,b,c]) (body:=fun _ V6 _ r=>if V6 != 0 then some V6 else r ()) (fin:=fun _=>some 0) (by simp)
  (fun k s i=>rfl) ()
 unfold zT; rw [this]; simp only [j4]; by_cases h1:a=0 <;> by_cases h2:b=0 <;> by_cases h3:c=0 <;> simp [h1,h2,h3]
def M0 (a b:Str):Int:=
 if ((dz a).length:Int) != ((dz b).length:Int) then ru (dz a).length (dz b).length else if !(dz a == dz b) then F4 (dz a) (dz b) else ru a.length b.length
theorem aeu (s:Str):(dz s).length≤s.length:=(List.dropWhile_sublist _).length_le
theorem zn {x y:Int}:ru x y=0↔x=y:=by
 unfold ru uR; by_cases h1:x < y <;> by_cases h2:y < x <;> simp [h1,h2] <;> omega
theorem VK {x y:Str} (h:x≠y):F4 x y≠0:=by
 unfold F4 uR; cases h1:Go.Op.bytesLess x y <;> simp [h]
theorem Py (x:Str):F4 x x=0:=by
 unfold F4 uR; simp [wX]
theorem Ma {a b:Str} (ha:a.length < 4611686018427387904) (hb:b.length < 4611686018427387904):uz a b=some (M0 a b):=by
 unfold uz M0; rw [Vk ha,Vk hb]; simp only [au,qy,MZ,Xj,Option.some.injEq]; by_cases h1:((dz a).length:Int)=((dz b).length:Int)
 ·
  have e1:ru (dz a).length (dz b).length=0:=zn.2 h1; rw [e1]; by_cases h2:dz a=dz b
  · rw [h2,Py]; simp
  ·
   have:=VK h2; simp [h1,h2,this]
 ·
  have e1:ru (dz a).length (dz b).length≠0:=fun h=>h1 (zn.1 h); rw [if_pos (by simpa using e1),if_pos (by simpa using h1)]
theorem aac {a b:Str} (ha:a.length < 4611686018427387904) (hb:b.length < 4611686018427387904):Ep a b=some (M0 a b):=by
 unfold Ep M0; rw [R3 ha,R3 hb]; simp only [au,yJ]; by_cases h1:((dz a).length:Int)=((dz b).length:Int)
 ·
  by_cases h2:dz a=dz b
  · simp [h2,ru]
  · simp [h1,h2,F4]
 · simp [h1,ru]
theorem O6 {s:Str} (h:s≠[]):0 < jo dO s↔dO (s.head h)=true:=by
 cases s with
 | nil=>exact absurd rfl h
 | cons c s=>rw [wR]; cases e:dO c <;> simp [e]
theorem EO {a b:Str} (ha:a.length < 4611686018427387904) (hb:b.length < 4611686018427387904):∀ (k k' i j:Nat),i≤a.length→j≤b.length→a.length < k + i→a.length < k' + i→
  jM k (a.drop i) (b.drop j)=l8 a b k' (i:Int) (j:Int)∧∃ c,l8 a b k' (i:Int) (j:Int)=some c
 | 0,k',i,j,_,_,h,_=>by omega
 | k + 1,0,i,j,_,_,_,h=>by omega
 | k + 1,k' + 1,i,j,hi,hj,hk,hk'=>by
  rw [jM,l8]; by_cases h1:i < a.length
  ·
   by_cases h2:j < b.length
   ·
    have ea:=List.drop_eq_getElem_cons h1; have eb:=List.drop_eq_getElem_cons h2; have na:a.drop i≠[]:=fun h=>by simp at h; omega
    have nb:b.drop j≠[]:=fun h=>by simp at h; omega
    have la:(a.drop i).length=a.length - i:=by simp
    have lb:(b.drop j).length=b.length - j:=by simp
    have sa:=xD dO (a.drop i); have sb:=xD dO (b.drop j); have pa:=O6 na; have pb:=O6 nb; have aek:(a.drop i).head na=a[i]:=by simp
    have aej:(b.drop j).head nb=b[j]:=by simp
    rw [aek] at pa; rw [aej] at pb; rw [if_pos (by simp [h1,h2]),if_pos (by simp; omega),yQ (by omega),yQ (by omega),o7 h1,o7 h2]; simp only [au,yJ,Yf]; have i0:idx (a.drop i) 0=some a[i]:=by rw [ea]; rfl
    have j0:idx (b.drop j) 0=some b[j]:=by rw [eb]; rfl
    have hone:(if dO a[i]=true then some (dO b[j]) else some false)=some (dO a[i] && dO b[j]):=by cases dO a[i] <;> simp
    rw [hone]; simp only [au]; cases hd:(dO a[i] && dO b[j]) with
    | true=>
     simp only [Bool.and_eq_true] at hd; have q1:=pa.2 hd.1; have q2:=pb.2 hd.2; rw [if_pos (by simp; omega)]; simp only [if_true]; rw [LU ha (by omega),LU hb (by omega),Vo sa,Vo sb]; simp only [au]
     have e1:sl a (i:Int) ((i + jo dO (a.drop i):Nat):Int)=some ((a.drop i).take (jo dO (a.drop i))):=by
      rw [bX (by omega) (by omega) (by omega)]; simp only [Int.toNat_natCast,Option.some.injEq]; rw [List.drop_take,Nat.add_sub_cancel_left]
     have e2:sl b (j:Int) ((j + jo dO (b.drop j):Nat):Int)=some ((b.drop j).take (jo dO (b.drop j))):=by
      rw [bX (by omega) (by omega) (by omega)]; simp only [Int.toNat_natCast,Option.some.injEq]; rw [List.drop_take,Nat.add_sub_cancel_left]
     rw [e1,e2]; simp only [au]; rw [Ma (by simp; omega) (by simp; omega),aac (by simp; omega) (by simp; omega)]; simp only [au]; by_cases hc:M0 ((a.drop i).take (jo dO (a.drop i))) ((b.drop j).take (jo dO (b.drop j)))=0
     ·
      rw [if_neg (by simp [hc]),if_neg (by simp [hc]),uI sa,uI sb]; simp only [au,List.drop_drop]; exact EO ha hb k k' _ _ (by omega) (by omega) (by omega) (by omega)
     ·
      rw [if_pos (by simpa using hc),if_pos (by simpa using hc)]; exact ⟨rfl,_,rfl⟩
    | false=>
     rw [if_neg (by
      simp only [Bool.and_eq_true,decide_eq_true_eq,not_and]; intro h3 h4; have:=pa.1 (by omega); have:=pb.1 (by omega)
      simp_all)]
     simp only [Bool.false_eq_true,if_false]; rw [i0,j0]; simp only [au,EP]; by_cases hc:(a[i].toNat:Int)=(b[j].toNat:Int)
     ·
      rw [if_neg (by simpa using hc)]; have:uR (decide ((a[i].toNat:Int) < (b[j].toNat:Int))) (decide ((b[j].toNat:Int) < (a[i].toNat:Int)))=0:=by simp [uR,hc]
      rw [this,if_neg (by simp),nW (by omega),nW (by omega)]; have s1:=uI (s:=a.drop i) (i:=1) (by omega); have s2:=uI (s:=b.drop j) (i:=1) (by omega); rw [show ((1:Nat):Int)=1 from rfl] at s1 s2; rw [s1,s2]; simp only [au,List.drop_drop]; exact EO ha hb k k' _ _ (by omega) (by omega) (by omega) (by omega)
     ·
      rw [if_pos (by simpa using hc)]; have e3:ru (a[i].toNat) (b[j].toNat)≠0:=fun h=>hc (zn.1 h); have:uR (decide ((a[i].toNat:Int) < (b[j].toNat:Int))) (decide ((b[j].toNat:Int) < (a[i].toNat:Int)))=ru (a[i].toNat) (b[j].toNat):=rfl; rw [this,if_pos (by simpa using e3)]; exact ⟨rfl,_,rfl⟩
   ·
    have eb:b.drop j=[]:=by simp; omega
    rw [eb,if_neg (by simp),if_neg (by simp; omega),yJ,qy]; refine ⟨?_,_,rfl⟩; unfold ru; congr 2 <;> simp <;> omega
  ·
   have ea:a.drop i=[]:=by simp; omega
   rw [ea,if_neg (by simp),if_neg (by simp; omega),yJ,qy]; refine ⟨?_,_,rfl⟩; unfold ru; congr 2 <;> simp <;> omega
theorem MX {a b:Str} (ha:a.length < 4611686018427387904) (hb:b.length < 4611686018427387904):∃ c,j6 a b=some c∧oz a b=some c:=by
 obtain ⟨h1,c,h2⟩:=EO ha hb BIG BIG 0 0 (by omega) (by omega) (by have:=mg; omega) (by have:=mg; omega); refine ⟨c,?_,by simpa [oz] using h2⟩; rw [←h2]; simpa [j6] using h1
end Go.Ft
namespace Go.Ft
open Go
theorem Pm :∀ l,pX l l=0
 | []=>rfl
 | a :: l=>by simp [pX,Pm l]
theorem Pk :∀ {l m:List Nat},pX l m=0→l=m
 | [],[],_=>rfl
 | [],_ :: _,h=>by simp [pX] at h
 | _ :: _,[],h=>by simp [pX] at h
 | a :: l,b :: m,h=>by
  simp only [pX] at h; by_cases h1:a < b
  · simp [h1] at h
  ·
   by_cases h2:b < a
   · simp [h1,h2] at h
   ·
    simp only [h1,h2,if_false] at h; rw [Pk h,show a=b from by omega]
theorem SE :∀ l m:List Nat,pX m l=- pX l m
 | [],[]=>rfl
 | [],_ :: _=>rfl
 | _ :: _,[]=>rfl
 | a :: l,b :: m=>by
  simp only [pX]; by_cases h1:a < b
  · simp [h1,show ¬ b < a by omega]
  ·
   by_cases h2:b < a
   · simp [h1,h2]
   · simp only [h1,h2,if_false]; exact SE l m
theorem Ms :∀ l m:List Nat,pX l m=-1∨pX l m=0∨pX l m=1
 | [],[]=>.inr (.inl rfl)
 | [],_ :: _=>.inl rfl
 | _ :: _,[]=>.inr (.inr rfl)
 | a :: l,b :: m=>by
  simp only [pX]; by_cases h1:a < b
  · simp [h1]
  ·
   by_cases h2:b < a
   · simp [h1,h2]
   · simp only [h1,h2,if_false]; exact Ms l m
theorem Mr :∀ {a b c:List Nat},pX a b < 0→pX b c < 0→pX a c < 0
 | [],[],c,h,_=>by simp [pX] at h
 | [],_ :: _,[],_,h=>by simp [pX] at h
 | [],_ :: _,_ :: _,_,_=>by simp [pX]
 | _ :: _,[],c,h,_=>by simp [pX] at h
 | _ :: _,_ :: _,[],_,h=>by simp [pX] at h
 | x :: a,y :: b,z :: c,h,k=>by
  simp only [pX] at h k ⊢; by_cases h1:x < y
  ·
   by_cases k1:y < z
   · simp [show x < z by omega]
   ·
    by_cases k2:z < y
    · simp [k1,k2] at k
    · simp [show x < z by omega]
  ·
   by_cases h2:y < x
   · simp [h1,h2] at h
   ·
    simp only [h1,h2,if_false] at h; by_cases k1:y < z
    · simp [show x < z by omega]
    ·
     by_cases k2:z < y
     · simp [k1,k2] at k
     ·
      simp only [k1,k2,if_false] at k; simp only [show ¬ x < z by omega,show ¬ z < x by omega,if_false]; exact Mr h k
theorem Mt :∀ (xs ys:Str) (u v:List Nat),xs.length=ys.length→pX (xs.map UInt8.toNat ++ u) (ys.map UInt8.toNat ++ v)=if xs=ys then pX u v else F4 xs ys
 | [],[],u,v,_=>by simp
 | [],_ :: _,_,_,h=>by simp at h
 | _ :: _,[],_,_,h=>by simp at h
 | x :: xs,y :: ys,u,v,h=>by
  simp only [List.map_cons,List.cons_append,pX]; have ih:=Mt xs ys u v (by simpa using h); have e1:(x < y)=(x.toNat < y.toNat):=by rw [UInt8.lt_iff_toNat_lt]
  have e2:(y < x)=(y.toNat < x.toNat):=by rw [UInt8.lt_iff_toNat_lt]
  by_cases h1:x.toNat < y.toNat
  ·
   have:x≠y:=fun e=>by subst e; omega
   simp [h1,this,F4,uR,Go.Op.bytesLess,e1]
  ·
   by_cases h2:y.toNat < x.toNat
   ·
    have:x≠y:=fun e=>by subst e; omega
    simp [h1,h2,this,F4,uR,Go.Op.bytesLess,e1]
   ·
    have:x=y:=UInt8.toNat_inj.1 (by omega); subst this; simp only [h1,if_false,ih,List.cons.injEq,true_and]; by_cases h3:xs=ys
    · simp [h3]
    ·
     simp only [h3,if_false,F4,Go.Op.bytesLess,e1,h1,decide_false,Bool.false_or,beq_self_eq_true,Bool.true_and]; congr 1; simp
theorem Fy (s:Str):(s.take (jo dO s)).length=jo dO s:=by
 have:=xD dO s; simp; omega
theorem Ee {c:UInt8} {s:Str} (h:dO c=true):0 < jo dO (c :: s):=by rw [wR,if_pos h]; omega
theorem Jd :∀ (k m:Nat) (s:Str),s.length≤k→s.length≤m→Mx k s=Mx m s
 | 0,0,_,_,_=>rfl
 | 0,m + 1,s,h,_=>by
  have:s=[]:=List.eq_nil_of_length_eq_zero (by omega); subst this; rfl
 | k + 1,0,s,_,h=>by
  have:s=[]:=List.eq_nil_of_length_eq_zero (by omega); subst this; rfl
 | k + 1,m + 1,[],_,_=>rfl
 | k + 1,m + 1,c :: s,h1,h2=>by
  simp only [Mx]; simp only [List.length_cons] at h1 h2; cases e:dO c with
  | true=>
   have:=Ee (s:=s) e; have:=xD dO (c :: s); simp only [if_true]; rw [Jd k m _ (by simp; omega) (by simp; omega)]
  | false=>
   simp only [Bool.false_eq_true,if_false]; rw [Jd k m s (by omega) (by omega)]
theorem SH {k:Nat} {s:Str} (h:s.length≤k):Mx k s=key s:=Jd _ _ _ h (Nat.le_refl _)
theorem CR :key []=[]:=rfl
theorem uL {c:UInt8} {s:Str} (h:dO c=true):key (c :: s)=48 :: (dz ((c :: s).take (jo dO (c :: s)))).length :: ((dz ((c :: s).take (jo dO (c :: s)))).map UInt8.toNat ++ jo dO (c :: s) :: key ((c :: s).drop (jo dO (c :: s)))):=by
 have:=Ee (s:=s) h; have:=xD dO (c :: s); show Mx (s.length + 1) (c :: s)=_; simp only [Mx,h,if_true]; rw [SH (by simp; omega)]
theorem mq {c:UInt8} {s:Str} (h:dO c=false):key (c :: s)=c.toNat :: key s:=by
 show Mx (s.length + 1) (c :: s)=_; simp only [Mx,h,Bool.false_eq_true,if_false]; rw [SH (Nat.le_refl _)]
theorem Zc (a b:Str) (u v:List Nat):pX ((dz a).length :: ((dz a).map UInt8.toNat ++ a.length :: u)) ((dz b).length :: ((dz b).map UInt8.toNat ++ b.length :: v))=if M0 a b=0 then pX u v else M0 a b:=by
 unfold M0; simp only [pX]; by_cases h1:(dz a).length=(dz b).length
 ·
  rw [if_neg (by omega),if_neg (by omega),Mt _ _ _ _ h1]; have e:(((dz a).length:Int) != ((dz b).length:Int))=false:=by simp [h1]
  simp only [e,Bool.false_eq_true,if_false]; by_cases h2:dz a=dz b
  ·
   simp only [h2,if_true,beq_self_eq_true,Bool.not_true,Bool.false_eq_true,if_false,pX,ru,uR]; by_cases h3:a.length < b.length
   · simp [h3]
   ·
    by_cases h4:b.length < a.length
    · simp [h3,h4]
    · simp [h3,h4]
  ·
   have h3:=VK h2; simp [h2,h3]
 ·
  have e:(((dz a).length:Int) != ((dz b).length:Int))=true:=by simp; omega
  simp only [e,if_true]; by_cases h2:(dz a).length < (dz b).length
  · simp [h2,ru,uR]
  ·
   have h3:(dz b).length < (dz a).length:=by omega
   simp [h2,h3,ru,uR]
theorem tu {c:UInt8}:dO c=(decide (48≤c.toNat) && decide (c.toNat≤57)):=by
 unfold dO; congr 1
 · apply decide_eq_decide.2; omega
 · apply decide_eq_decide.2; omega
theorem EA :∀ (n k:Nat) (a b:Str),a.length≤n→a.length < k→a.length < 4611686018427387904→b.length < 4611686018427387904→jM k a b=some (iJ a b)
 | _,0,_,_,_,h,_,_=>by omega
 | n,k + 1,a,b,hn,hk,ha,hb=>by
  rw [jM]
  match a,b with
  | [],[]=>
   rw [if_neg (by simp),qy]; simp [iJ,CR,pX,ru,uR]
  | [],y :: b=>
   rw [if_neg (by simp),qy]
   have:key (y :: b)≠[]:=by
    cases e:dO y with
    | true=>rw [uL e]; simp
    | false=>rw [mq e]; simp
   cases e:key (y :: b) with
   | nil=>exact absurd e this
   | cons p q=>
    simp only [iJ,CR,e,pX,ru,uR]; rw [if_pos (by simp)]
  | x :: a,[]=>
   rw [if_neg (by simp),qy]
   have:key (x :: a)≠[]:=by
    cases e:dO x with
    | true=>rw [uL e]; simp
    | false=>rw [mq e]; simp
   cases e:key (x :: a) with
   | nil=>exact absurd e this
   | cons p q=>
    simp only [iJ,CR,e,pX,ru,uR]; rw [if_neg (by simp; omega),if_pos (by simp)]
  | x :: a,y :: b=>
   have sa:=xD dO (x :: a); have sb:=xD dO (y :: b); have i0:idx (x :: a) 0=some x:=rfl; have j0:idx (y :: b) 0=some y:=rfl; rw [if_pos (by simp),yQ ha,yQ hb]; simp only [au]; cases e1:dO x with
   | true=>
    have p1:=Ee (s:=a) e1; cases e2:dO y with
    | true=>
     have p2:=Ee (s:=b) e2; rw [if_pos (by simp; omega),Vo sa,Vo sb]; simp only [au]; rw [Ma (by simp; omega) (by simp; omega)]; simp only [au]; have hc:=Zc ((x :: a).take (jo dO (x :: a))) ((y :: b).take (jo dO (y :: b))) (key ((x :: a).drop (jo dO (x :: a)))) (key ((y :: b).drop (jo dO (y :: b)))); rw [Fy,Fy] at hc
     have e3:iJ (x :: a) (y :: b)=if M0 ((x :: a).take (jo dO (x :: a))) ((y :: b).take (jo dO (y :: b)))=0 then pX (key ((x :: a).drop (jo dO (x :: a)))) (key ((y :: b).drop (jo dO (y :: b)))) else M0 ((x :: a).take (jo dO (x :: a))) ((y :: b).take (jo dO (y :: b))):=by
      rw [←hc,iJ,uL e1,uL e2,pX,if_neg (by omega),if_neg (by omega)]
     rw [e3]; by_cases h0:M0 ((x :: a).take (jo dO (x :: a))) ((y :: b).take (jo dO (y :: b)))=0
     ·
      rw [if_neg (by simpa using h0),if_pos h0,uI sa,uI sb]; simp only [au]
      match n,hn with
      | n + 1,hn=>
       exact EA n k _ _ (by simp at hn ⊢; omega) (by simp at hk ⊢; omega) (by simp at ha ⊢; omega) (by simp at hb ⊢; omega)
     · rw [if_pos (by simpa using h0),if_neg h0]
    | false=>
     have q2:jo dO (y :: b)=0:=by rw [wR,e2]; rfl
     rw [if_neg (by simp [q2]),i0,j0]; simp only [au,EP]; have d1:=tu (c:=x); rw [e1] at d1; have d2:=tu (c:=y); rw [e2] at d2; simp only [Bool.and_eq_true,Bool.false_eq,Bool.and_eq_false_iff,decide_eq_false_iff_not,Bool.true_eq,decide_eq_true_eq] at d1 d2; rw [if_pos (by simp; omega)]; rw [iJ,uL e1,mq e2,pX,ru,uR]; by_cases h1:x.toNat < y.toNat
     · rw [if_pos (by simp; omega),if_pos (by omega)]
     · rw [if_neg (by simp; omega),if_pos (by simp; omega),if_neg (by omega),if_pos (by omega)]
   | false=>
    have q1:jo dO (x :: a)=0:=by rw [wR,e1]; rfl
    rw [if_neg (by simp [q1]),i0,j0]; simp only [au,EP]; by_cases h0:x=y
    ·
     subst h0; rw [if_neg (by simp)]; have s1:=uI (s:=x :: a) (i:=1) (by simp); have s2:=uI (s:=x :: b) (i:=1) (by simp); rw [show ((1:Nat):Int)=1 from rfl] at s1 s2; rw [s1,s2]; simp only [au,List.drop_succ_cons,List.drop_zero]; rw [iJ,mq e1,mq e1,pX,if_neg (by omega),if_neg (by omega)]
     match n,hn with
     | n + 1,hn=>exact EA n k a b (by simp at hn; omega) (by simp at hk; omega) (by simp at ha; omega) (by simp at hb; omega)
    ·
     have h1:x.toNat≠y.toNat:=fun h=>h0 (UInt8.toNat_inj.1 h); rw [if_pos (by simp; omega)]; have d1:=tu (c:=x); rw [e1] at d1; simp only [Bool.and_eq_true,Bool.false_eq,Bool.and_eq_false_iff,decide_eq_false_iff_not] at d1; cases e2:dO y with
     | true=>
      have d2:=tu (c:=y); rw [e2] at d2; simp only [Bool.and_eq_true,Bool.true_eq,decide_eq_true_eq] at d2; rw [iJ,mq e1,uL e2,pX,ru,uR]; by_cases h1:x.toNat < y.toNat
      · rw [if_pos (by simp; omega),if_pos (by omega)]
      · rw [if_neg (by simp; omega),if_pos (by simp; omega),if_neg (by omega),if_pos (by omega)]
     | false=>
      rw [iJ,mq e1,mq e2,pX,ru,uR]; by_cases h2:x.toNat < y.toNat
      · rw [if_pos (by simp; omega),if_pos (by omega)]
      · rw [if_neg (by simp; omega),if_pos (by simp; omega),if_neg (by omega),if_pos (by omega)]
theorem Jb {a b:Str} (ha:a.length < 4611686018427387904) (hb:b.length < 4611686018427387904):j6 a b=some (iJ a b):=
 EA _ BIG a b (Nat.le_refl _) (by have:=mg; omega) ha hb
theorem Uv {a b:Str} (ha:a.length < 4611686018427387904) (hb:b.length < 4611686018427387904):oz a b=some (iJ a b):=by
 obtain ⟨c,h1,h2⟩:=MX ha hb; rw [Jb ha hb] at h1; rw [h2,←h1]
theorem QJ :∀ (r:Str),r=List.replicate (r.length - (dz r).length) (48:UInt8) ++ dz r
 | []=>rfl
 | c :: r=>by
  unfold dz; rw [List.dropWhile_cons]; by_cases h:c=48
  ·
   subst h; have ih:=QJ r; have hl:=aeu r; simp only [show (((48:UInt8).toNat:Int) == 48)=true from rfl,if_true]; change _=List.replicate ((48 :: r).length - (dz r).length) (48:UInt8) ++ dz r; rw [show (48 :: r).length - (dz r).length=(r.length - (dz r).length) + 1 by simp; omega,List.replicate_succ,List.cons_append,←ih]
  ·
   have:((c.toNat:Int) == 48)=false:=by
    simp only [beq_eq_false_iff_ne,ne_eq]; intro h2; exact h (UInt8.toNat_inj.1 (by show c.toNat=48; omega))
   simp [this]
theorem key_inj :∀ (n:Nat) (a b:Str),a.length≤n→key a=key b→a=b
 | _,[],[],_,_=>rfl
 | _,[],y :: b,_,h=>by
  cases e:dO y with
  | true=>rw [uL e,CR] at h; cases h
  | false=>rw [mq e,CR] at h; cases h
 | _,x :: a,[],_,h=>by
  cases e:dO x with
  | true=>rw [uL e,CR] at h; cases h
  | false=>rw [mq e,CR] at h; cases h
 | 0,x :: a,y :: b,h,_=>by simp at h
 | n + 1,x :: a,y :: b,hn,h=>by
  cases e1:dO x with
  | true=>
   cases e2:dO y with
   | true=>
    have p1:=Ee (s:=a) e1; have sa:=xD dO (x :: a); rw [uL e1,uL e2] at h; simp only [List.cons.injEq,true_and] at h; obtain ⟨h1,h2⟩:=h; obtain ⟨h3,h4⟩:=List.append_inj h2 (by simpa using h1); simp only [List.cons.injEq] at h4
    have h5:dz ((x :: a).take (jo dO (x :: a)))=dz ((y :: b).take (jo dO (y :: b))):=by
     refine List.map_inj_right (f:=UInt8.toNat) (fun p q hpq=>UInt8.toNat_inj.1 hpq) |>.1 h3
    have h6:(x :: a).take (jo dO (x :: a))=(y :: b).take (jo dO (y :: b)):=by
     rw [QJ ((x :: a).take (jo dO (x :: a))),QJ ((y :: b).take (jo dO (y :: b))),h5,Fy,Fy,h4.1]
    have h7:=key_inj n _ _ (by simp at hn ⊢; omega) h4.2; rw [←List.take_append_drop (jo dO (x :: a)) (x :: a),h6,h7,List.take_append_drop]
   | false=>
    rw [uL e1,mq e2] at h; simp only [List.cons.injEq] at h; have d2:=tu (c:=y); rw [e2,←h.1] at d2; simp at d2
  | false=>
   cases e2:dO y with
   | true=>
    rw [mq e1,uL e2] at h; simp only [List.cons.injEq] at h; have d2:=tu (c:=x); rw [e1,h.1] at d2; simp at d2
   | false=>
    rw [mq e1,mq e2] at h; simp only [List.cons.injEq] at h; rw [UInt8.toNat_inj.1 h.1,key_inj n a b (by simp at hn; omega) h.2]
theorem J4 (a:Str):iJ a a=0:=Pm _
theorem Ez {a b:Str} (h:iJ a b=0):a=b:=key_inj _ a b (Nat.le_refl _) (Pk h)
theorem CO (a b:Str):iJ b a=- iJ a b:=SE _ _
theorem H6 {a b c:Str} (h:iJ a b < 0) (k:iJ b c < 0):iJ a c < 0:=Mr h k
theorem Oc {a b c:Str} (h:¬ iJ a b < 0) (k:¬ iJ b c < 0):¬ iJ a c < 0:=by
 intro hc; by_cases h0:iJ a b=0
 · rw [Ez h0] at hc; exact k hc
 ·
  by_cases k0:iJ b c=0
  · rw [←Ez k0] at hc; exact h hc
  ·
   have h1:iJ b a < 0:=by rw [CO]; omega
   have k1:iJ c b < 0:=by rw [CO]; omega
   have:=H6 k1 h1; rw [CO] at this; omega
end Go.Ft
