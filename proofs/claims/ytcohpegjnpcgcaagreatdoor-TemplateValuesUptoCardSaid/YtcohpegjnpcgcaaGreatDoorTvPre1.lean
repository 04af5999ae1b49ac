/- Proved here: plain facts on the functional texts that the walks want. -/
import Derived.Test.YtcohpegjnpcgcaaGreatDoorTvFt1
import Derived.Test.YtcohpegjnpcgcaaGreatDoorTvPool1
set_option linter.unusedVariables false
set_option linter.unusedSimpArgs false
set_option linter.unusedSectionVars false
set_option maxHeartbeats 2000000
namespace Go.Ft
open Go
attribute [local congr] yP
theorem Zw {n:Int} (h:-9223372036854775808≤n∧n < 9223372036854775808):cZ n=n:=ac1 (by omega) (by omega)
theorem Lm {i:Nat} (h:i < 4611686018427387904):cZ ((i:Int) + 1)=((i + 1:Nat):Int):=by rw [Zw (by omega)]; omega
theorem KC {α:Type} {l:List α} {i:Nat} (h:i < l.length):idx l (i:Int)=some (l[i]):=by rw [ado,List.getElem?_eq_getElem h]
theorem uw :9223372036854775808 < BIG:=by decide
def mP {α S R:Type} (body:Nat→α→S→(S→Option R)→Option R) (fin:S→Option R):Nat→List α→S→Option R
 | _,[],s=>fin s
 | i,x :: r,s=>body i x s fun s'=>mP body fin (i + 1) r s'
theorem Ws {α S R:Type} {F:Nat→S→Int→Option R} {l:List α} {body:Nat→α→S→(S→Option R)→Option R} {fin:S→Option R} (hl:l.length < 4611686018427387904)
  (hF:∀ k s (i:Nat),F (k + 1) s i=if decide ((i:Int) < (l.length:Int)) then av (idx l i) fun x=>body i x s fun s'=>F k s' (cZ ((i:Int) + 1)) else fin s):
  ∀ (k i:Nat) (s:S),l.length < k + i→i≤l.length→F k s (i:Int)=mP body fin i (l.drop i) s
 | 0,i,s,h,h'=>by omega
 | k + 1,i,s,h,h'=>by
  rw [hF]; by_cases hi:i < l.length
  ·
   rw [List.drop_eq_getElem_cons hi,if_pos (by simp; omega),KC hi,aF,mP]; congr 1; funext s'; rw [Lm (by omega)]; exact Ws hl hF k (i + 1) s' (by omega) (by omega)
  ·
   have:i=l.length:=by omega
   subst this; rw [if_neg (by simp),List.drop_length,mP]
theorem lu {α S R:Type} {F:Nat→S→Int→Option R} {l:List α} {body:Nat→α→S→(S→Option R)→Option R} {fin:S→Option R} (hl:l.length < 4611686018427387904)
  (hF:∀ k s (i:Nat),F (k + 1) s i=if decide ((i:Int) < (l.length:Int)) then av (idx l i) fun x=>body i x s fun s'=>F k s' (cZ ((i:Int) + 1)) else fin s) (s:S):F BIG s 0=mP body fin 0 l s:=by
 have:=Ws hl hF BIG 0 s (by have:=uw; omega) (by omega); simpa using this
def isLet (c:UInt8):Bool:=(((decide (97≤(c.toNat:Int))) && (decide ((c.toNat:Int)≤122))) || ((decide (65≤(c.toNat:Int))) && (decide ((c.toNat:Int)≤90)))) || ((c.toNat:Int) == 95)
@[simp] theorem ag4 (c:UInt8):xO c=some (isLet c):=rfl
@[simp] theorem ahR (c:UInt8):zJ c=some (eX c):=rfl
@[simp] theorem agw (c:UInt8):QJ c=some (isLet c):=rfl
@[simp] theorem ahQ (c:UInt8):Ul c=some (eX c):=rfl
@[simp] theorem ahU (c:UInt8):BI c=some (eX c):=rfl
@[simp] theorem abg (c:UInt8):Dl c=some (eX c):=rfl
theorem Au (p:UInt8→Bool) (c:UInt8) (l:Str):j_ p (c :: l)=if p c then j_ p l + 1 else 0:=by
 unfold j_; rw [List.takeWhile_cons]; split <;> simp
theorem Bv (p:UInt8→Bool) (l:Str):j_ p l≤l.length:=by
 induction l with
 | nil=>simp [j_]
 | cons c l ih=>rw [Au]; split <;> simp <;> omega
theorem U_ {F:Nat→Int→Option Int} {s:Str} (hs:s.length < 4611686018427387904)
  (hF:∀ k (i:Nat),F (k + 1) i=av (if decide ((i:Int) < (s.length:Int)) then av (idx s i) fun x1=>some (eX x1) else some false) fun b1=>if b1 then F k (cZ ((i:Int) + 1)) else some (i:Int)):
  ∀ (k i:Nat),s.length < k + i→i≤s.length→F k (i:Int)=some ((i + j_ eX (s.drop i):Nat):Int)
 | 0,i,h,h'=>by omega
 | k + 1,i,h,h'=>by
  rw [hF]; by_cases hi:i < s.length
  ·
   rw [List.drop_eq_getElem_cons hi,Au,if_pos (by simp; omega),KC hi]; simp only [aF]; cases e:eX s[i] with
   | false=>simp
   | true=>
    simp only [if_true]; rw [Lm (by omega),U_ hs hF k (i + 1) (by omega) (by omega)]; simp only [Option.some.injEq,Int.natCast_inj]; omega
  ·
   have:i=s.length:=by omega
   subst this; simp [j_]
theorem CV {s:Str} (hs:s.length < 4611686018427387904):Dn s=some (j_ eX s:Int):=by
 have:=U_ (F:=zT s) hs (fun k i=>rfl) BIG 0 (by have:=uw; omega) (by omega); simpa [Dn] using this
theorem QO {s:Str} (hs:s.length < 4611686018427387904) {i:Nat} (hi:i≤s.length):ML s (i:Int)=some ((i + j_ eX (s.drop i):Nat):Int):=
 U_ (F:=DK s) hs (fun k i=>rfl) BIG i (by have:=uw; omega) hi
theorem zx {s:Str} {i:Nat} (h:i≤s.length):sl s (i:Int) (s.length:Int)=some (s.drop i):=by
 rw [YT (by omega) (by omega) (by omega)]; simp
theorem YR {s:Str} {i:Nat} (h:i≤s.length):sl s 0 (i:Int)=some (s.take i):=by
 rw [YT (by omega) (by omega) (by omega)]; simp
theorem trimB (s:Str):∀ (k:Nat),s.length < k→s.length < 4611686018427387904→jC 48 k s=some (dz s):=by
 induction s with
 | nil=>intro k h _; cases k with
  | zero=>simp at h
  | succ k=>simp [jC,dz]
 | cons c s ih=>
  intro k h hs; cases k with
  | zero=>simp at h
  | succ k=>
   simp only [List.length_cons] at h hs; rw [jC,if_pos (by simp)]; have e0:idx (c :: s) 0=some c:=by simp [idx]
   rw [e0]; simp only [aF]; have e1:((48:UInt8).toNat:Int)=48:=rfl; rw [e1]; unfold dz; rw [List.dropWhile_cons]; cases e:((c.toNat:Int) == 48) with
   | false=>simp
   | true=>
    simp only [if_true]; have e2:=zx (s:=c :: s) (i:=1) (by simp); simp only [List.drop_one,List.tail_cons] at e2; rw [show ((1:Nat):Int)=1 from rfl] at e2; rw [e2]; simp only [aF]; exact ih k (by omega) (by omega)
theorem YJ {s:Str} (hs:s.length < 4611686018427387904):pX s ([48]:Str)=some (dz s):=by
 unfold pX; cases s with
 | nil=>simp [dz]
 | cons c s=>
  rw [if_neg (by simp),if_pos (by simp)]; have e0:idx ([48]:Str) 0=some 48:=rfl; rw [e0]; simp only [aF]; rw [if_pos (by decide)]; exact trimB _ BIG (by have:=uw; omega) hs
theorem Ub {s:Str} (hs:s.length < 4611686018427387904):∀ (k i:Nat),s.length < k + i→i≤s.length→wO s k (i:Int)=some (dz (s.drop i))
 | 0,i,h,h'=>by omega
 | k + 1,i,h,h'=>by
  rw [wO]; by_cases hi:i < s.length
  ·
   rw [List.drop_eq_getElem_cons hi,if_pos (by simp; omega),KC hi]; simp only [aF]; unfold dz; rw [List.dropWhile_cons]; cases e:((s[i].toNat:Int) == 48) with
   | false=>
    simp only [Bool.false_eq_true,if_false]; rw [zx (by omega),List.drop_eq_getElem_cons hi]
   | true=>
    simp only [if_true]; rw [Lm (by omega)]; exact Ub hs k (i + 1) (by omega) (by omega)
  ·
   have:i=s.length:=by omega
   subst this; rw [if_neg (by simp)]; simp only [aF,Bool.false_eq_true,if_false]; rw [zx (by omega)]; simp [dz]
theorem Wo {s:Str} (hs:s.length < 4611686018427387904):Dk s=some (dz s):=by
 have:=Ub hs BIG 0 (by have:=uw; omega) (by omega); simpa [Dk] using this
def yM (p q:Bool):Int:=if p then -1 else if q then 1 else 0
def uX (x y:Int):Int:=yM (decide (x < y)) (decide (y < x))
def KF (x y:Str):Int:=yM (Go.Op.bytesLess x y) (!(Go.Op.bytesLess x y || x == y))
theorem CQ (p q:Bool):wP p q=some (yM p q):=by
 unfold wP yM; cases p <;> cases q <;> rfl
theorem um (x y:Int):cmp_Compare_int x y=some (uX x y):=by
 unfold cmp_Compare_int uX yM cmp_isNaN_int; by_cases h1:x < y <;> by_cases h2:y < x <;> simp [h1,h2]
theorem Ju (x y:UInt8):sQ x y=some (uX x.toNat y.toNat):=by
 unfold sQ uX yM wG; by_cases h1:(x.toNat:Int) < y.toNat <;> by_cases h2:(y.toNat:Int) < x.toNat <;> simp [h1,h2]
theorem RI (x y:Str):nM x y=some (KF x y):=by
 unfold nM KF yM cmp_isNaN_string; cases h1:Go.Op.bytesLess x y <;> cases h2:(x == y) <;> simp
theorem A_ :∀ x:Str,Go.Op.bytesLess x x=false
 | []=>rfl
 | c :: x=>by
  unfold Go.Op.bytesLess; have:=A_ x; simp [this]
theorem aai (a b c:Int):D9 ([a,b,c]:List Int)=some (if a != 0 then a else if b != 0 then b else c):=by
 have:=lu (F:=fun k (_:Unit) i=>xZ [a,b,c] k i) (l:=[a,b,c]) (body:=fun _ Zy _ r=>if Zy != 0 then some Zy else r ()) (fin:=fun _=>some 0) (by simp)
  (fun k s i=>rfl) ()
 unfold D9; rw [this]; simp only [mP]; by_cases h1:a=0 <;> by_cases h2:b=0 <;> by_cases h3:c=0 <;> simp [h1,h2,h3]
def RJ (a b:Str):Int:=
 if ((dz a).length:Int) != ((dz b).length:Int) then uX (dz a).length (dz b).length else if !(dz a == dz b) then KF (dz a) (dz b) else uX a.length b.length
theorem ahD (s:Str):(dz s).length≤s.length:=(List.dropWhile_sublist _).length_le
theorem Dp {x y:Int}:uX x y=0↔x=y:=by
 unfold uX yM; by_cases h1:x < y <;> by_cases h2:y < x <;> simp [h1,h2] <;> omega
theorem Zg {x y:Str} (h:x≠y):KF x y≠0:=by
 unfold KF yM; cases h1:Go.Op.bytesLess x y <;> simp [h]
theorem UE (x:Str):KF x x=0:=by
 unfold KF yM; simp [A_]
theorem QY {a b:Str} (ha:a.length < 4611686018427387904) (hb:b.length < 4611686018427387904):xV a b=some (RJ a b):=by
 unfold xV RJ; rw [YJ ha,YJ hb]; simp only [aF,um,RI,aai,Option.some.injEq]; by_cases h1:((dz a).length:Int)=((dz b).length:Int)
 ·
  have e1:uX (dz a).length (dz b).length=0:=Dp.2 h1; rw [e1]; by_cases h2:dz a=dz b
  · rw [h2,UE]; simp
  ·
   have:=Zg h2; simp [h1,h2,this]
 ·
  have e1:uX (dz a).length (dz b).length≠0:=fun h=>h1 (Dp.1 h); rw [if_pos (by simpa using e1),if_pos (by simpa using h1)]
theorem ada {a b:Str} (ha:a.length < 4611686018427387904) (hb:b.length < 4611686018427387904):I5 a b=some (RJ a b):=by
 unfold I5 RJ; rw [Wo ha,Wo hb]; simp only [aF,CQ]; by_cases h1:((dz a).length:Int)=((dz b).length:Int)
 ·
  by_cases h2:dz a=dz b
  · simp [h2,uX]
  · simp [h1,h2,KF]
 · simp [h1,uX]
theorem Uc {s:Str} (h:s≠[]):0 < j_ eX s↔eX (s.head h)=true:=by
 cases s with
 | nil=>exact absurd rfl h
 | cons c s=>rw [Au]; cases e:eX c <;> simp [e]
theorem Js {a b:Str} (ha:a.length < 4611686018427387904) (hb:b.length < 4611686018427387904):∀ (k k' i j:Nat),i≤a.length→j≤b.length→a.length < k + i→a.length < k' + i→
  kP k (a.drop i) (b.drop j)=oh a b k' (i:Int) (j:Int)∧∃ c,oh a b k' (i:Int) (j:Int)=some c
 | 0,k',i,j,_,_,h,_=>by omega
 | k + 1,0,i,j,_,_,_,h=>by omega
 | k + 1,k' + 1,i,j,hi,hj,hk,hk'=>by
  rw [kP,oh]; by_cases h1:i < a.length
  ·
   by_cases h2:j < b.length
   ·
    have ea:=List.drop_eq_getElem_cons h1; have eb:=List.drop_eq_getElem_cons h2; have na:a.drop i≠[]:=fun h=>by simp at h; omega
    have nb:b.drop j≠[]:=fun h=>by simp at h; omega
    have la:(a.drop i).length=a.length - i:=by simp
    have lb:(b.drop j).length=b.length - j:=by simp
    have sa:=Bv eX (a.drop i); have sb:=Bv eX (b.drop j); have pa:=Uc na; have pb:=Uc nb; have ahq:(a.drop i).head na=a[i]:=by simp
    have ahp:(b.drop j).head nb=b[j]:=by simp
    rw [ahq] at pa; rw [ahp] at pb; rw [if_pos (by simp [h1,h2]),if_pos (by simp; omega),CV (by omega),CV (by omega),KC h1,KC h2]; simp only [aF,CQ,abg]; have i0:idx (a.drop i) 0=some a[i]:=by rw [ea]; rfl
    have j0:idx (b.drop j) 0=some b[j]:=by rw [eb]; rfl
    have hone:(if eX a[i]=true then some (eX b[j]) else some false)=some (eX a[i] && eX b[j]):=by cases eX a[i] <;> simp
    rw [hone]; simp only [aF]; cases hd:(eX a[i] && eX b[j]) with
    | true=>
     simp only [Bool.and_eq_true] at hd; have q1:=pa.2 hd.1; have q2:=pb.2 hd.2; rw [if_pos (by simp; omega)]; simp only [if_true]; rw [QO ha (by omega),QO hb (by omega),YR sa,YR sb]; simp only [aF]
     have e1:sl a (i:Int) ((i + j_ eX (a.drop i):Nat):Int)=some ((a.drop i).take (j_ eX (a.drop i))):=by
      rw [YT (by omega) (by omega) (by omega)]; simp only [Int.toNat_natCast,Option.some.injEq]; rw [List.drop_take,Nat.add_sub_cancel_left]
     have e2:sl b (j:Int) ((j + j_ eX (b.drop j):Nat):Int)=some ((b.drop j).take (j_ eX (b.drop j))):=by
      rw [YT (by omega) (by omega) (by omega)]; simp only [Int.toNat_natCast,Option.some.injEq]; rw [List.drop_take,Nat.add_sub_cancel_left]
     rw [e1,e2]; simp only [aF]; rw [QY (by simp; omega) (by simp; omega),ada (by simp; omega) (by simp; omega)]; simp only [aF]; by_cases hc:RJ ((a.drop i).take (j_ eX (a.drop i))) ((b.drop j).take (j_ eX (b.drop j)))=0
     ·
      rw [if_neg (by simp [hc]),if_neg (by simp [hc]),zx sa,zx sb]; simp only [aF,List.drop_drop]; exact Js ha hb k k' _ _ (by omega) (by omega) (by omega) (by omega)
     ·
      rw [if_pos (by simpa using hc),if_pos (by simpa using hc)]; exact ⟨rfl,_,rfl⟩
    | false=>
     rw [if_neg (by
      simp only [Bool.and_eq_true,decide_eq_true_eq,not_and]; intro h3 h4; have:=pa.1 (by omega); have:=pb.1 (by omega)
      simp_all)]
     simp only [Bool.false_eq_true,if_false]; rw [i0,j0]; simp only [aF,Ju]; by_cases hc:(a[i].toNat:Int)=(b[j].toNat:Int)
     ·
      rw [if_neg (by simpa using hc)]; have:yM (decide ((a[i].toNat:Int) < (b[j].toNat:Int))) (decide ((b[j].toNat:Int) < (a[i].toNat:Int)))=0:=by simp [yM,hc]
      rw [this,if_neg (by simp),Lm (by omega),Lm (by omega)]; have s1:=zx (s:=a.drop i) (i:=1) (by omega); have s2:=zx (s:=b.drop j) (i:=1) (by omega); rw [show ((1:Nat):Int)=1 from rfl] at s1 s2; rw [s1,s2]; simp only [aF,List.drop_drop]; exact Js ha hb k k' _ _ (by omega) (by omega) (by omega) (by omega)
     ·
      rw [if_pos (by simpa using hc)]; have e3:uX (a[i].toNat) (b[j].toNat)≠0:=fun h=>hc (Dp.1 h); have:yM (decide ((a[i].toNat:Int) < (b[j].toNat:Int))) (decide ((b[j].toNat:Int) < (a[i].toNat:Int)))=uX (a[i].toNat) (b[j].toNat):=rfl; rw [this,if_pos (by simpa using e3)]; exact ⟨rfl,_,rfl⟩
   ·
    have eb:b.drop j=[]:=by simp; omega
    rw [eb,if_neg (by simp),if_neg (by simp; omega),CQ,um]; refine ⟨?_,_,rfl⟩; unfold uX; congr 2 <;> simp <;> omega
  ·
   have ea:a.drop i=[]:=by simp; omega
   rw [ea,if_neg (by simp),if_neg (by simp; omega),CQ,um]; refine ⟨?_,_,rfl⟩; unfold uX; congr 2 <;> simp <;> omega
theorem RH {a b:Str} (ha:a.length < 4611686018427387904) (hb:b.length < 4611686018427387904):∃ c,jY a b=some c∧qU a b=some c:=by
 obtain ⟨h1,c,h2⟩:=Js ha hb BIG BIG 0 0 (by omega) (by omega) (by have:=uw; omega) (by have:=uw; omega); refine ⟨c,?_,by simpa [qU] using h2⟩; rw [←h2]; simpa [jY] using h1
end Go.Ft
namespace Go.Ft
open Go
theorem Us :∀ l,sZ l l=0
 | []=>rfl
 | a :: l=>by simp [sZ,Us l]
theorem Ur :∀ {l m:List Nat},sZ l m=0→l=m
 | [],[],_=>rfl
 | [],_ :: _,h=>by simp [sZ] at h
 | _ :: _,[],h=>by simp [sZ] at h
 | a :: l,b :: m,h=>by
  simp only [sZ] at h; by_cases h1:a < b
  · simp [h1] at h
  ·
   by_cases h2:b < a
   · simp [h1,h2] at h
   ·
    simp only [h1,h2,if_false] at h; rw [Ur h,show a=b from by omega]
theorem WV :∀ l m:List Nat,sZ m l=- sZ l m
 | [],[]=>rfl
 | [],_ :: _=>rfl
 | _ :: _,[]=>rfl
 | a :: l,b :: m=>by
  simp only [sZ]; by_cases h1:a < b
  · simp [h1,show ¬ b < a by omega]
  ·
   by_cases h2:b < a
   · simp [h1,h2]
   · simp only [h1,h2,if_false]; exact WV l m
theorem Rk :∀ l m:List Nat,sZ l m=-1∨sZ l m=0∨sZ l m=1
 | [],[]=>.inr (.inl rfl)
 | [],_ :: _=>.inl rfl
 | _ :: _,[]=>.inr (.inr rfl)
 | a :: l,b :: m=>by
  simp only [sZ]; by_cases h1:a < b
  · simp [h1]
  ·
   by_cases h2:b < a
   · simp [h1,h2]
   · simp only [h1,h2,if_false]; exact Rk l m
theorem Rj :∀ {a b c:List Nat},sZ a b < 0→sZ b c < 0→sZ a c < 0
 | [],[],c,h,_=>by simp [sZ] at h
 | [],_ :: _,[],_,h=>by simp [sZ] at h
 | [],_ :: _,_ :: _,_,_=>by simp [sZ]
 | _ :: _,[],c,h,_=>by simp [sZ] at h
 | _ :: _,_ :: _,[],_,h=>by simp [sZ] at h
 | x :: a,y :: b,z :: c,h,k=>by
  simp only [sZ] at h k ⊢; by_cases h1:x < y
  ·
   by_cases k1:y < z
   · simp [show x < z by omega]
   ·
    by_cases k2:z < y
    · simp [k1,k2] at k
    · simp [show x < z by omega]
  ·
   by_cases h2:y < x
   · simp [h1,h2] at h
   ·
    simp only [h1,h2,if_false] at h; by_cases k1:y < z
    · simp [show x < z by omega]
    ·
     by_cases k2:z < y
     · simp [k1,k2] at k
     ·
      simp only [k1,k2,if_false] at k; simp only [show ¬ x < z by omega,show ¬ z < x by omega,if_false]; exact Rj h k
theorem Rl :∀ (xs ys:Str) (u v:List Nat),xs.length=ys.length→sZ (xs.map UInt8.toNat ++ u) (ys.map UInt8.toNat ++ v)=if xs=ys then sZ u v else KF xs ys
 | [],[],u,v,_=>by simp
 | [],_ :: _,_,_,h=>by simp at h
 | _ :: _,[],_,_,h=>by simp at h
 | x :: xs,y :: ys,u,v,h=>by
  simp only [List.map_cons,List.cons_append,sZ]; have ih:=Rl xs ys u v (by simpa using h); have e1:(x < y)=(x.toNat < y.toNat):=by rw [UInt8.lt_iff_toNat_lt]
  have e2:(y < x)=(y.toNat < x.toNat):=by rw [UInt8.lt_iff_toNat_lt]
  by_cases h1:x.toNat < y.toNat
  ·
   have:x≠y:=fun e=>by subst e; omega
   simp [h1,this,KF,yM,Go.Op.bytesLess,e1]
  ·
   by_cases h2:y.toNat < x.toNat
   ·
    have:x≠y:=fun e=>by subst e; omega
    simp [h1,h2,this,KF,yM,Go.Op.bytesLess,e1]
   ·
    have:x=y:=UInt8.toNat_inj.1 (by omega); subst this; simp only [h1,if_false,ih,List.cons.injEq,true_and]; by_cases h3:xs=ys
    · simp [h3]
    ·
     simp only [h3,if_false,KF,Go.Op.bytesLess,e1,h1,decide_false,Bool.false_or,beq_self_eq_true,Bool.true_and]; congr 1; simp
theorem J_ (s:Str):(s.take (j_ eX s)).length=j_ eX s:=by
 have:=Bv eX s; simp; omega
theorem IL {c:UInt8} {s:Str} (h:eX c=true):0 < j_ eX (c :: s):=by rw [Au,if_pos h]; omega
theorem NW :∀ (k m:Nat) (s:Str),s.length≤k→s.length≤m→Ro k s=Ro m s
 | 0,0,_,_,_=>rfl
 | 0,m + 1,s,h,_=>by
  have:s=[]:=List.eq_nil_of_length_eq_zero (by omega); subst this; rfl
 | k + 1,0,s,_,h=>by
  have:s=[]:=List.eq_nil_of_length_eq_zero (by omega); subst this; rfl
 | k + 1,m + 1,[],_,_=>rfl
 | k + 1,m + 1,c :: s,h1,h2=>by
  simp only [Ro]; simp only [List.length_cons] at h1 h2; cases e:eX c with
  | true=>
   have:=IL (s:=s) e; have:=Bv eX (c :: s); simp only [if_true]; rw [NW k m _ (by simp; omega) (by simp; omega)]
  | false=>
   simp only [Bool.false_eq_true,if_false]; rw [NW k m s (by omega) (by omega)]
theorem WX {k:Nat} {s:Str} (h:s.length≤k):Ro k s=key s:=NW _ _ _ h (Nat.le_refl _)
theorem Gz :key []=[]:=rfl
theorem yE {c:UInt8} {s:Str} (h:eX c=true):key (c :: s)=48 :: (dz ((c :: s).take (j_ eX (c :: s)))).length :: ((dz ((c :: s).take (j_ eX (c :: s)))).map UInt8.toNat ++ j_ eX (c :: s) :: key ((c :: s).drop (j_ eX (c :: s)))):=by
 have:=IL (s:=s) h; have:=Bv eX (c :: s); show Ro (s.length + 1) (c :: s)=_; simp only [Ro,h,if_true]; rw [WX (by simp; omega)]
theorem oD {c:UInt8} {s:Str} (h:eX c=false):key (c :: s)=c.toNat :: key s:=by
 show Ro (s.length + 1) (c :: s)=_; simp only [Ro,h,Bool.false_eq_true,if_false]; rw [WX (Nat.le_refl _)]
theorem acg (a b:Str) (u v:List Nat):sZ ((dz a).length :: ((dz a).map UInt8.toNat ++ a.length :: u)) ((dz b).length :: ((dz b).map UInt8.toNat ++ b.length :: v))=if RJ a b=0 then sZ u v else RJ a b:=by
 unfold RJ; simp only [sZ]; by_cases h1:(dz a).length=(dz b).length
 ·
  rw [if_neg (by omega),if_neg (by omega),Rl _ _ _ _ h1]; have e:(((dz a).length:Int) != ((dz b).length:Int))=false:=by simp [h1]
  simp only [e,Bool.false_eq_true,if_false]; by_cases h2:dz a=dz b
  ·
   simp only [h2,if_true,beq_self_eq_true,Bool.not_true,Bool.false_eq_true,if_false,sZ,uX,yM]; by_cases h3:a.length < b.length
   · simp [h3]
   ·
    by_cases h4:b.length < a.length
    · simp [h3,h4]
    · simp [h3,h4]
  ·
   have h3:=Zg h2; simp [h2,h3]
 ·
  have e:(((dz a).length:Int) != ((dz b).length:Int))=true:=by simp; omega
  simp only [e,if_true]; by_cases h2:(dz a).length < (dz b).length
  · simp [h2,uX,yM]
  ·
   have h3:(dz b).length < (dz a).length:=by omega
   simp [h2,h3,uX,yM]
theorem wV {c:UInt8}:eX c=(decide (48≤c.toNat) && decide (c.toNat≤57)):=by
 unfold eX; congr 1
 · apply decide_eq_decide.2; omega
 · apply decide_eq_decide.2; omega
theorem Jd :∀ (n k:Nat) (a b:Str),a.length≤n→a.length < k→a.length < 4611686018427387904→b.length < 4611686018427387904→kP k a b=some (jo a b)
 | _,0,_,_,_,h,_,_=>by omega
 | n,k + 1,a,b,hn,hk,ha,hb=>by
  rw [kP]
  match a,b with
  | [],[]=>
   rw [if_neg (by simp),um]; simp [jo,Gz,sZ,uX,yM]
  | [],y :: b=>
   rw [if_neg (by simp),um]
   have:key (y :: b)≠[]:=by
    cases e:eX y with
    | true=>rw [yE e]; simp
    | false=>rw [oD e]; simp
   cases e:key (y :: b) with
   | nil=>exact absurd e this
   | cons p q=>
    simp only [jo,Gz,e,sZ,uX,yM]; rw [if_pos (by simp)]
  | x :: a,[]=>
   rw [if_neg (by simp),um]
   have:key (x :: a)≠[]:=by
    cases e:eX x with
    | true=>rw [yE e]; simp
    | false=>rw [oD e]; simp
   cases e:key (x :: a) with
   | nil=>exact absurd e this
   | cons p q=>
    simp only [jo,Gz,e,sZ,uX,yM]; rw [if_neg (by simp; omega),if_pos (by simp)]
  | x :: a,y :: b=>
   have sa:=Bv eX (x :: a); have sb:=Bv eX (y :: b); have i0:idx (x :: a) 0=some x:=rfl; have j0:idx (y :: b) 0=some y:=rfl; rw [if_pos (by simp),CV ha,CV hb]; simp only [aF]; cases e1:eX x with
   | true=>
    have p1:=IL (s:=a) e1; cases e2:eX y with
    | true=>
     have p2:=IL (s:=b) e2; rw [if_pos (by simp; omega),YR sa,YR sb]; simp only [aF]; rw [QY (by simp; omega) (by simp; omega)]; simp only [aF]; have hc:=acg ((x :: a).take (j_ eX (x :: a))) ((y :: b).take (j_ eX (y :: b))) (key ((x :: a).drop (j_ eX (x :: a)))) (key ((y :: b).drop (j_ eX (y :: b)))); rw [J_,J_] at hc
     have e3:jo (x :: a) (y :: b)=if RJ ((x :: a).take (j_ eX (x :: a))) ((y :: b).take (j_ eX (y :: b)))=0 then sZ (key ((x :: a).drop (j_ eX (x :: a)))) (key ((y :: b).drop (j_ eX (y :: b)))) else RJ ((x :: a).take (j_ eX (x :: a))) ((y :: b).take (j_ eX (y :: b))):=by
      rw [←hc,jo,yE e1,yE e2,sZ,if_neg (by omega),if_neg (by omega)]
     rw [e3]; by_cases h0:RJ ((x :: a).take (j_ eX (x :: a))) ((y :: b).take (j_ eX (y :: b)))=0
     ·
      rw [if_neg (by simpa using h0),if_pos h0,zx sa,zx sb]; simp only [aF]
      match n,hn with
      | n + 1,hn=>
       exact Jd n k _ _ (by simp at hn ⊢; omega) (by simp at hk ⊢; omega) (by simp at ha ⊢; omega) (by simp at hb ⊢; omega)
     · rw [if_pos (by simpa using h0),if_neg h0]
    | false=>
     have q2:j_ eX (y :: b)=0:=by rw [Au,e2]; rfl
     rw [if_neg (by simp [q2]),i0,j0]; simp only [aF,Ju]; have d1:=wV (c:=x); rw [e1] at d1; have d2:=wV (c:=y); rw [e2] at d2; simp only [Bool.and_eq_true,Bool.false_eq,Bool.and_eq_false_iff,decide_eq_false_iff_not,Bool.true_eq,decide_eq_true_eq] at d1 d2; rw [if_pos (by simp; omega)]; rw [jo,yE e1,oD e2,sZ,uX,yM]; by_cases h1:x.toNat < y.toNat
     · rw [if_pos (by simp; omega),if_pos (by omega)]
     · rw [if_neg (by simp; omega),if_pos (by simp; omega),if_neg (by omega),if_pos (by omega)]
   | false=>
    have q1:j_ eX (x :: a)=0:=by rw [Au,e1]; rfl
    rw [if_neg (by simp [q1]),i0,j0]; simp only [aF,Ju]; by_cases h0:x=y
    ·
     subst h0; rw [if_neg (by simp)]; have s1:=zx (s:=x :: a) (i:=1) (by simp); have s2:=zx (s:=x :: b) (i:=1) (by simp); rw [show ((1:Nat):Int)=1 from rfl] at s1 s2; rw [s1,s2]; simp only [aF,List.drop_succ_cons,List.drop_zero]; rw [jo,oD e1,oD e1,sZ,if_neg (by omega),if_neg (by omega)]
     match n,hn with
     | n + 1,hn=>exact Jd n k a b (by simp at hn; omega) (by simp at hk; omega) (by simp at ha; omega) (by simp at hb; omega)
    ·
     have h1:x.toNat≠y.toNat:=fun h=>h0 (UInt8.toNat_inj.1 h); rw [if_pos (by simp; omega)]; have d1:=wV (c:=x); rw [e1] at d1; simp only [Bool.and_eq_true,Bool.false_eq,Bool.and_eq_false_iff,decide_eq_false_iff_not] at d1; cases e2:eX y with
     | true=>
      have d2:=wV (c:=y); rw [e2] at d2; simp only [Bool.and_eq_true,Bool.true_eq,decide_eq_true_eq] at d2; rw [jo,oD e1,yE e2,sZ,uX,yM]; by_cases h1:x.toNat < y.toNat
      · rw [if_pos (by simp; omega),if_pos (by omega)]
      · rw [if_neg (by simp; omega),if_pos (by simp; omega),if_neg (by omega),if_pos (by omega)]
     | false=>
      rw [jo,oD e1,oD e2,sZ,uX,yM]; by_cases h2:x.toNat < y.toNat
      · rw [if_pos (by simp; omega),if_pos (by omega)]
      · rw [if_neg (by simp; omega),if_pos (by simp; omega),if_neg (by omega),if_pos (by omega)]
theorem NT {a b:Str} (ha:a.length < 4611686018427387904) (hb:b.length < 4611686018427387904):jY a b=some (jo a b):=
 Jd _ BIG a b (Nat.le_refl _) (by have:=uw; omega) ha hb
theorem Yf {a b:Str} (ha:a.length < 4611686018427387904) (hb:b.length < 4611686018427387904):qU a b=some (jo a b):=by
 obtain ⟨c,h1,h2⟩:=RH ha hb; rw [NT ha hb] at h1; rw [h2,←h1]
theorem Vy :∀ (r:Str),r=List.replicate (r.length - (dz r).length) (48:UInt8) ++ dz r
 | []=>rfl
 | c :: r=>by
  unfold dz; rw [List.dropWhile_cons]; by_cases h:c=48
  ·
   subst h; have ih:=Vy r; have hl:=ahD r; simp only [show (((48:UInt8).toNat:Int) == 48)=true from rfl,if_true]; change _=List.replicate ((48 :: r).length - (dz r).length) (48:UInt8) ++ dz r; rw [show (48 :: r).length - (dz r).length=(r.length - (dz r).length) + 1 by simp; omega,List.replicate_succ,List.cons_append,←ih]
  ·
   have:((c.toNat:Int) == 48)=false:=by
    simp only [beq_eq_false_iff_ne,ne_eq]; intro h2; exact h (UInt8.toNat_inj.1 (by show c.toNat=48; omega))
   simp [this]
theorem key_inj :∀ (n:Nat) (a b:Str),a.length≤n→key a=key b→a=b
 | _,[],[],_,_=>rfl
 | _,[],y :: b,_,h=>by
  cases e:eX y with
  | true=>rw [yE e,Gz] at h; cases h
  | false=>rw [oD e,Gz] at h; cases h
 | _,x :: a,[],_,h=>by
  cases e:eX x with
  | true=>rw [yE e,Gz] at h; cases h
  | false=>rw [oD e,Gz] at h; cases h
 | 0,x :: a,y :: b,h,_=>by simp at h
 | n + 1,x :: a,y :: b,hn,h=>by
  cases e1:eX x with
  | true=>
   cases e2:eX y with
   | true=>
    have p1:=IL (s:=a) e1; have sa:=Bv eX (x :: a); rw [yE e1,yE e2] at h; simp only [List.cons.injEq,true_and] at h; obtain ⟨h1,h2⟩:=h; obtain ⟨h3,h4⟩:=List.append_inj h2 (by simpa using h1); simp only [List.cons.injEq] at h4
    have h5:dz ((x :: a).take (j_ eX (x :: a)))=dz ((y :: b).take (j_ eX (y :: b))):=by
     refine List.map_inj_right (f:=UInt8.toNat) (fun p q hpq=>UInt8.toNat_inj.1 hpq) |>.1 h3
    have h6:(x :: a).take (j_ eX (x :: a))=(y :: b).take (j_ eX (y :: b)):=by
     rw [Vy ((x :: a).take (j_ eX (x :: a))),Vy ((y :: b).take (j_ eX (y :: b))),h5,J_,J_,h4.1]
    have h7:=key_inj n _ _ (by simp at hn ⊢; omega) h4.2; rw [←List.take_append_drop (j_ eX (x :: a)) (x :: a),h6,h7,List.take_append_drop]
   | false=>
    rw [yE e1,oD e2] at h; simp only [List.cons.injEq] at h; have d2:=wV (c:=y); rw [e2,←h.1] at d2; simp at d2
  | false=>
   cases e2:eX y with
   | true=>
    rw [oD e1,yE e2] at h; simp only [List.cons.injEq] at h; have d2:=wV (c:=x); rw [e1,h.1] at d2; simp at d2
   | false=>
    rw [oD e1,oD e2] at h; simp only [List.cons.injEq] at h; rw [UInt8.toNat_inj.1 h.1,key_inj n a b (by simp at hn; omega) h.2]
theorem OW (a:Str):jo a a=0:=Us _
theorem Jc {a b:Str} (h:jo a b=0):a=b:=key_inj _ a b (Nat.le_refl _) (Ur h)
theorem Gu (a b:Str):jo b a=- jo a b:=WV _ _
theorem MQ {a b c:Str} (h:jo a b < 0) (k:jo b c < 0):jo a c < 0:=Rj h k
theorem SY {a b c:Str} (h:¬ jo a b < 0) (k:¬ jo b c < 0):¬ jo a c < 0:=by
 intro hc; by_cases h0:jo a b=0
 · rw [Jc h0] at hc; exact k hc
 ·
  by_cases k0:jo b c=0
  · rw [←Jc k0] at hc; exact h hc
  ·
   have h1:jo b a < 0:=by rw [Gu]; omega
   have k1:jo c b < 0:=by rw [Gu]; omega
   have:=MQ k1 h1; rw [Gu] at this; omega
end Go.Ft
