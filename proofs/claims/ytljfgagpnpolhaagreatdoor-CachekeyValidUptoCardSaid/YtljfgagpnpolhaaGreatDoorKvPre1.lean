/- Proved here: plain facts on the functional texts that the walks want. -/
import Derived.Test.YtljfgagpnpolhaaGreatDoorKvFt1
import Derived.Test.YtljfgagpnpolhaaGreatDoorKvPool1
set_option linter.unusedVariables false
set_option linter.unusedSimpArgs false
set_option linter.unusedSectionVars false
set_option maxHeartbeats 2000000
namespace Go.Ft
open Go
attribute [local congr] iH
theorem Mk {n:Int} (h:-9223372036854775808≤n∧n < 9223372036854775808):bI n=n:=Od (by omega) (by omega)
theorem kK {i:Nat} (h:i < 4611686018427387904):bI ((i:Int) + 1)=((i + 1:Nat):Int):=by rw [Mk (by omega)]; omega
theorem kL {α:Type} {l:List α} {i:Nat} (h:i < l.length):idx l (i:Int)=some (l[i]):=by rw [OQ,List.getElem?_eq_getElem h]
theorem jV :9223372036854775808 < BIG:=by decide
def lD {α S R:Type} (body:Nat→α→S→(S→Option R)→Option R) (fin:S→Option R):Nat→List α→S→Option R
 | _,[],s=>fin s
 | i,x :: r,s=>body i x s fun s'=>lD body fin (i + 1) r s'
theorem Qk {α S R:Type} {F:Nat→S→Int→Option R} {l:List α} {body:Nat→α→S→(S→Option R)→Option R} {fin:S→Option R} (hl:l.length < 4611686018427387904)
  (hF:∀ k s (i:Nat),F (k + 1) s i=if decide ((i:Int) < (l.length:Int)) then aA (idx l i) fun x=>body i x s fun s'=>F k s' (bI ((i:Int) + 1)) else fin s):
  ∀ (k i:Nat) (s:S),l.length < k + i→i≤l.length→F k s (i:Int)=lD body fin i (l.drop i) s
 | 0,i,s,h,h'=>by omega
 | k + 1,i,s,h,h'=>by
  rw [hF]; by_cases hi:i < l.length
  ·
   rw [List.drop_eq_getElem_cons hi,if_pos (by simp; omega),kL hi,ak,lD]; congr 1; funext s'; rw [kK (by omega)]; exact Qk hl hF k (i + 1) s' (by omega) (by omega)
  ·
   have:i=l.length:=by omega
   subst this; rw [if_neg (by simp),List.drop_length,lD]
theorem lC {α S R:Type} {F:Nat→S→Int→Option R} {l:List α} {body:Nat→α→S→(S→Option R)→Option R} {fin:S→Option R} (hl:l.length < 4611686018427387904)
  (hF:∀ k s (i:Nat),F (k + 1) s i=if decide ((i:Int) < (l.length:Int)) then aA (idx l i) fun x=>body i x s fun s'=>F k s' (bI ((i:Int) + 1)) else fin s) (s:S):F BIG s 0=lD body fin 0 l s:=by
 have:=Qk hl hF BIG 0 s (by have:=jV; omega) (by omega); simpa using this
def isLet (c:UInt8):Bool:=(((decide (97≤(c.toNat:Int))) && (decide ((c.toNat:Int)≤122))) || ((decide (65≤(c.toNat:Int))) && (decide ((c.toNat:Int)≤90)))) || ((c.toNat:Int) == 95)
@[simp] theorem acV (c:UInt8):sF c=some (isLet c):=rfl
@[simp] theorem Un (c:UInt8):lX c=some (iE c):=rfl
@[simp] theorem acv (c:UInt8):vN c=some (isLet c):=rfl
@[simp] theorem Y7 (c:UInt8):m_ c=some (iE c):=rfl
@[simp] theorem adF (c:UInt8):zP c=some (iE c):=rfl
@[simp] theorem W_ (c:UInt8):yw c=some (iE c):=rfl
theorem EU (p:UInt8→Bool) (c:UInt8) (l:Str):tV p (c :: l)=if p c then tV p l + 1 else 0:=by
 unfold tV; rw [List.takeWhile_cons]; split <;> simp
theorem Qi (p:UInt8→Bool) (l:Str):tV p l≤l.length:=by
 induction l with
 | nil=>simp [tV]
 | cons c l ih=>rw [EU]; split <;> simp <;> omega
theorem Ou {F:Nat→Int→Option Int} {s:Str} (hs:s.length < 4611686018427387904)
  (hF:∀ k (i:Nat),F (k + 1) i=aA (if decide ((i:Int) < (s.length:Int)) then aA (idx s i) fun x1=>some (iE x1) else some false) fun b1=>if b1 then F k (bI ((i:Int) + 1)) else some (i:Int)):
  ∀ (k i:Nat),s.length < k + i→i≤s.length→F k (i:Int)=some ((i + tV iE (s.drop i):Nat):Int)
 | 0,i,h,h'=>by omega
 | k + 1,i,h,h'=>by
  rw [hF]; by_cases hi:i < s.length
  ·
   rw [List.drop_eq_getElem_cons hi,EU,if_pos (by simp; omega),kL hi]; simp only [ak]; cases e:iE s[i] with
   | false=>simp
   | true=>
    simp only [if_true]; rw [kK (by omega),Ou hs hF k (i + 1) (by omega) (by omega)]; simp only [Option.some.injEq,Int.natCast_inj]; omega
  ·
   have:i=s.length:=by omega
   subst this; simp [tV]
theorem Gf {s:Str} (hs:s.length < 4611686018427387904):yx s=some (tV iE s:Int):=by
 have:=Ou (F:=uX s) hs (fun k i=>rfl) BIG 0 (by have:=jV; omega) (by omega); simpa [yx] using this
theorem Ky {s:Str} (hs:s.length < 4611686018427387904) {i:Nat} (hi:i≤s.length):FZ s (i:Int)=some ((i + tV iE (s.drop i):Nat):Int):=
 Ou (F:=yO s) hs (fun k i=>rfl) BIG i (by have:=jV; omega) hi
theorem qA {s:Str} {i:Nat} (h:i≤s.length):sl s (i:Int) (s.length:Int)=some (s.drop i):=by
 rw [bW (by omega) (by omega) (by omega)]; simp
theorem WU {s:Str} {i:Nat} (h:i≤s.length):sl s 0 (i:Int)=some (s.take i):=by
 rw [bW (by omega) (by omega) (by omega)]; simp
theorem trimB (s:Str):∀ (k:Nat),s.length < k→s.length < 4611686018427387904→iM 48 k s=some (dz s):=by
 induction s with
 | nil=>intro k h _; cases k with
  | zero=>simp at h
  | succ k=>simp [iM,dz]
 | cons c s ih=>
  intro k h hs; cases k with
  | zero=>simp at h
  | succ k=>
   simp only [List.length_cons] at h hs; rw [iM,if_pos (by simp)]; have e0:idx (c :: s) 0=some c:=by simp [idx]
   rw [e0]; simp only [ak]; have e1:((48:UInt8).toNat:Int)=48:=rfl; rw [e1]; unfold dz; rw [List.dropWhile_cons]; cases e:((c.toNat:Int) == 48) with
   | false=>simp
   | true=>
    simp only [if_true]; have e2:=qA (s:=c :: s) (i:=1) (by simp); simp only [List.drop_one,List.tail_cons] at e2; rw [show ((1:Nat):Int)=1 from rfl] at e2; rw [e2]; simp only [ak]; exact ih k (by omega) (by omega)
theorem D_ {s:Str} (hs:s.length < 4611686018427387904):mD s ([48]:Str)=some (dz s):=by
 unfold mD; cases s with
 | nil=>simp [dz]
 | cons c s=>
  rw [if_neg (by simp),if_pos (by simp)]; have e0:idx ([48]:Str) 0=some 48:=rfl; rw [e0]; simp only [ak]; rw [if_pos (by decide)]; exact trimB _ BIG (by have:=jV; omega) hs
theorem Nj {s:Str} (hs:s.length < 4611686018427387904):∀ (k i:Nat),s.length < k + i→i≤s.length→rC s k (i:Int)=some (dz (s.drop i))
 | 0,i,h,h'=>by omega
 | k + 1,i,h,h'=>by
  rw [rC]; by_cases hi:i < s.length
  ·
   rw [List.drop_eq_getElem_cons hi,if_pos (by simp; omega),kL hi]; simp only [ak]; unfold dz; rw [List.dropWhile_cons]; cases e:((s[i].toNat:Int) == 48) with
   | false=>
    simp only [Bool.false_eq_true,if_false]; rw [qA (by omega),List.drop_eq_getElem_cons hi]
   | true=>
    simp only [if_true]; rw [kK (by omega)]; exact Nj hs k (i + 1) (by omega) (by omega)
  ·
   have:i=s.length:=by omega
   subst this; rw [if_neg (by simp)]; simp only [ak,Bool.false_eq_true,if_false]; rw [qA (by omega)]; simp [dz]
theorem Qg {s:Str} (hs:s.length < 4611686018427387904):yu s=some (dz s):=by
 have:=Nj hs BIG 0 (by have:=jV; omega) (by omega); simpa [yu] using this
def Ht (p q:Bool):Int:=if p then -1 else if q then 1 else 0
def Eu (x y:Int):Int:=Ht (decide (x < y)) (decide (y < x))
def Ri (x y:Str):Int:=Ht (Go.Op.bytesLess x y) (!(Go.Op.bytesLess x y || x == y))
theorem xO (p q:Bool):rD p q=some (Ht p q):=by
 unfold rD Ht; cases p <;> cases q <;> rfl
theorem Fj (x y:Int):cmp_Compare_int x y=some (Eu x y):=by
 unfold cmp_Compare_int Eu Ht cmp_isNaN_int; by_cases h1:x < y <;> by_cases h2:y < x <;> simp [h1,h2]
theorem Rh (x y:UInt8):oU x y=some (Eu x.toNat y.toNat):=by
 unfold oU Eu Ht qW; by_cases h1:(x.toNat:Int) < y.toNat <;> by_cases h2:(y.toNat:Int) < x.toNat <;> simp [h1,h2]
theorem Tv (x y:Str):mM x y=some (Ri x y):=by
 unfold mM Ri Ht cmp_isNaN_string; cases h1:Go.Op.bytesLess x y <;> cases h2:(x == y) <;> simp
theorem Bq :∀ x:Str,Go.Op.bytesLess x x=false
 | []=>rfl
 | c :: x=>by
  unfold Go.Op.bytesLess; have:=Bq x; simp [this]
theorem VI (a b c:Int):yV ([a,b,c]:List Int)=some (if a != 0 then a else if b != 0 then b else c):=by
 have:=lC (F:=fun k (_:Unit) i=>sN [a,b,c] k i) (l:=[a,b,c]) (body:=fun _ UQ _ r=>if UQ != 0 then some UQ else r ()) (fin:=fun _=>some 0) (by simp)
  (fun k s i=>rfl) ()
 unfold yV; rw [this]; simp only [lD]; by_cases h1:a=0 <;> by_cases h2:b=0 <;> by_cases h3:c=0 <;> simp [h1,h2,h3]
def X7 (a b:Str):Int:=
 if ((dz a).length:Int) != ((dz b).length:Int) then Eu (dz a).length (dz b).length else if !(dz a == dz b) then Ri (dz a) (dz b) else Eu a.length b.length
theorem Ia {x y:Int}:Eu x y=0↔x=y:=by
 unfold Eu Ht; by_cases h1:x < y <;> by_cases h2:y < x <;> simp [h1,h2] <;> omega
theorem Zn {x y:Str} (h:x≠y):Ri x y≠0:=by
 unfold Ri Ht; cases h1:Go.Op.bytesLess x y <;> simp [h]
theorem VJ (x:Str):Ri x x=0:=by
 unfold Ri Ht; simp [Bq]
theorem SN {a b:Str} (ha:a.length < 4611686018427387904) (hb:b.length < 4611686018427387904):sI a b=some (X7 a b):=by
 unfold sI X7; rw [D_ ha,D_ hb]; simp only [ak,Fj,Tv,VI,Option.some.injEq]; by_cases h1:((dz a).length:Int)=((dz b).length:Int)
 ·
  have e1:Eu (dz a).length (dz b).length=0:=Ia.2 h1; rw [e1]; by_cases h2:dz a=dz b
  · rw [h2,VJ]; simp
  ·
   have:=Zn h2; simp [h1,h2,this]
 ·
  have e1:Eu (dz a).length (dz b).length≠0:=fun h=>h1 (Ia.1 h); rw [if_pos (by simpa using e1),if_pos (by simpa using h1)]
theorem Y1 {a b:Str} (ha:a.length < 4611686018427387904) (hb:b.length < 4611686018427387904):Di a b=some (X7 a b):=by
 unfold Di X7; rw [Qg ha,Qg hb]; simp only [ak,xO]; by_cases h1:((dz a).length:Int)=((dz b).length:Int)
 ·
  by_cases h2:dz a=dz b
  · simp [h2,Eu]
  · simp [h1,h2,Ri]
 · simp [h1,Eu]
theorem Nl {s:Str} (h:s≠[]):0 < tV iE s↔iE (s.head h)=true:=by
 cases s with
 | nil=>exact absurd rfl h
 | cons c s=>rw [EU]; cases e:iE c <;> simp [e]
theorem Dz {a b:Str} (ha:a.length < 4611686018427387904) (hb:b.length < 4611686018427387904):∀ (k k' i j:Nat),i≤a.length→j≤b.length→a.length < k + i→a.length < k' + i→
  kP k (a.drop i) (b.drop j)=kZ a b k' (i:Int) (j:Int)∧∃ c,kZ a b k' (i:Int) (j:Int)=some c
 | 0,k',i,j,_,_,h,_=>by omega
 | k + 1,0,i,j,_,_,_,h=>by omega
 | k + 1,k' + 1,i,j,hi,hj,hk,hk'=>by
  rw [kP,kZ]; by_cases h1:i < a.length
  ·
   by_cases h2:j < b.length
   ·
    have ea:=List.drop_eq_getElem_cons h1; have eb:=List.drop_eq_getElem_cons h2; have na:a.drop i≠[]:=fun h=>by simp at h; omega
    have nb:b.drop j≠[]:=fun h=>by simp at h; omega
    have la:(a.drop i).length=a.length - i:=by simp
    have lb:(b.drop j).length=b.length - j:=by simp
    have sa:=Qi iE (a.drop i); have sb:=Qi iE (b.drop j); have pa:=Nl na; have pb:=Nl nb; have ac_:(a.drop i).head na=a[i]:=by simp
    have ac9:(b.drop j).head nb=b[j]:=by simp
    rw [ac_] at pa; rw [ac9] at pb; rw [if_pos (by simp [h1,h2]),if_pos (by simp; omega),Gf (by omega),Gf (by omega),kL h1,kL h2]; simp only [ak,xO,W_]; have i0:idx (a.drop i) 0=some a[i]:=by rw [ea]; rfl
    have j0:idx (b.drop j) 0=some b[j]:=by rw [eb]; rfl
    have hone:(if iE a[i]=true then some (iE b[j]) else some false)=some (iE a[i] && iE b[j]):=by cases iE a[i] <;> simp
    rw [hone]; simp only [ak]; cases hd:(iE a[i] && iE b[j]) with
    | true=>
     simp only [Bool.and_eq_true] at hd; have q1:=pa.2 hd.1; have q2:=pb.2 hd.2; rw [if_pos (by simp; omega)]; simp only [if_true]; rw [Ky ha (by omega),Ky hb (by omega),WU sa,WU sb]; simp only [ak]
     have e1:sl a (i:Int) ((i + tV iE (a.drop i):Nat):Int)=some ((a.drop i).take (tV iE (a.drop i))):=by
      rw [bW (by omega) (by omega) (by omega)]; simp only [Int.toNat_natCast,Option.some.injEq]; rw [List.drop_take,Nat.add_sub_cancel_left]
     have e2:sl b (j:Int) ((j + tV iE (b.drop j):Nat):Int)=some ((b.drop j).take (tV iE (b.drop j))):=by
      rw [bW (by omega) (by omega) (by omega)]; simp only [Int.toNat_natCast,Option.some.injEq]; rw [List.drop_take,Nat.add_sub_cancel_left]
     rw [e1,e2]; simp only [ak]; rw [SN (by simp; omega) (by simp; omega),Y1 (by simp; omega) (by simp; omega)]; simp only [ak]; by_cases hc:X7 ((a.drop i).take (tV iE (a.drop i))) ((b.drop j).take (tV iE (b.drop j)))=0
     ·
      rw [if_neg (by simp [hc]),if_neg (by simp [hc]),qA sa,qA sb]; simp only [ak,List.drop_drop]; exact Dz ha hb k k' _ _ (by omega) (by omega) (by omega) (by omega)
     ·
      rw [if_pos (by simpa using hc),if_pos (by simpa using hc)]; exact ⟨rfl,_,rfl⟩
    | false=>
     rw [if_neg (by
      simp only [Bool.and_eq_true,decide_eq_true_eq,not_and]; intro h3 h4; have:=pa.1 (by omega); have:=pb.1 (by omega)
      simp_all)]
     simp only [Bool.false_eq_true,if_false]; rw [i0,j0]; simp only [ak,Rh]; by_cases hc:(a[i].toNat:Int)=(b[j].toNat:Int)
     ·
      rw [if_neg (by simpa using hc)]; have:Ht (decide ((a[i].toNat:Int) < (b[j].toNat:Int))) (decide ((b[j].toNat:Int) < (a[i].toNat:Int)))=0:=by simp [Ht,hc]
      rw [this,if_neg (by simp),kK (by omega),kK (by omega)]; have s1:=qA (s:=a.drop i) (i:=1) (by omega); have s2:=qA (s:=b.drop j) (i:=1) (by omega); rw [show ((1:Nat):Int)=1 from rfl] at s1 s2; rw [s1,s2]; simp only [ak,List.drop_drop]; exact Dz ha hb k k' _ _ (by omega) (by omega) (by omega) (by omega)
     ·
      rw [if_pos (by simpa using hc)]; have e3:Eu (a[i].toNat) (b[j].toNat)≠0:=fun h=>hc (Ia.1 h); have:Ht (decide ((a[i].toNat:Int) < (b[j].toNat:Int))) (decide ((b[j].toNat:Int) < (a[i].toNat:Int)))=Eu (a[i].toNat) (b[j].toNat):=rfl; rw [this,if_pos (by simpa using e3)]; exact ⟨rfl,_,rfl⟩
   ·
    have eb:b.drop j=[]:=by simp; omega
    rw [eb,if_neg (by simp),if_neg (by simp; omega),xO,Fj]; refine ⟨?_,_,rfl⟩; unfold Eu; congr 2 <;> simp <;> omega
  ·
   have ea:a.drop i=[]:=by simp; omega
   rw [ea,if_neg (by simp),if_neg (by simp; omega),xO,Fj]; refine ⟨?_,_,rfl⟩; unfold Eu; congr 2 <;> simp <;> omega
theorem Tt {a b:Str} (ha:a.length < 4611686018427387904) (hb:b.length < 4611686018427387904):∃ c,qp a b=some c∧qL a b=some c:=by
 obtain ⟨h1,c,h2⟩:=Dz ha hb BIG BIG 0 0 (by omega) (by omega) (by have:=jV; omega) (by have:=jV; omega); refine ⟨c,?_,by simpa [qL] using h2⟩; rw [←h2]; simpa [qp] using h1
end Go.Ft
