/- Proved here: plain facts on the functional texts that the walks want. -/
import Derived.Test.YtpbjbkhfpjckoaaGreatDoorIsFt1
import Derived.Test.YtpbjbkhfpjckoaaGreatDoorIsPool1
set_option linter.unusedVariables false
set_option linter.unusedSimpArgs false
set_option linter.unusedSectionVars false
set_option maxHeartbeats 2000000
namespace Go.Ft
open Go
attribute [local congr] j3
theorem KU {n:Int} (h:-9223372036854775808≤n∧n < 9223372036854775808):bQ n=n:=O9 (by omega) (by omega)
theorem BP {i:Nat} (h:i < 4611686018427387904):bQ ((i:Int) + 1)=((i + 1:Nat):Int):=by rw [KU (by omega)]; omega
theorem sU {α:Type} {l:List α} {i:Nat} (h:i < l.length):idx l (i:Int)=some (l[i]):=by rw [UZ,List.getElem?_eq_getElem h]
theorem mo :9223372036854775808 < BIG:=by decide
def gP {α S R:Type} (body:Nat→α→S→(S→Option R)→Option R) (fin:S→Option R):Nat→List α→S→Option R
 | _,[],s=>fin s
 | i,x :: r,s=>body i x s fun s'=>gP body fin (i + 1) r s'
theorem ML {α S R:Type} {F:Nat→S→Int→Option R} {l:List α} {body:Nat→α→S→(S→Option R)→Option R} {fin:S→Option R} (hl:l.length < 4611686018427387904)
  (hF:∀ k s (i:Nat),F (k + 1) s i=if decide ((i:Int) < (l.length:Int)) then ak (idx l i) fun x=>body i x s fun s'=>F k s' (bQ ((i:Int) + 1)) else fin s):
  ∀ (k i:Nat) (s:S),l.length < k + i→i≤l.length→F k s (i:Int)=gP body fin i (l.drop i) s
 | 0,i,s,h,h'=>by omega
 | k + 1,i,s,h,h'=>by
  rw [hF]; by_cases hi:i < l.length
  ·
   rw [List.drop_eq_getElem_cons hi,if_pos (by simp; omega),sU hi,av,gP]; congr 1; funext s'; rw [BP (by omega)]; exact ML hl hF k (i + 1) s' (by omega) (by omega)
  ·
   have:i=l.length:=by omega
   subst this; rw [if_neg (by simp),List.drop_length,gP]
theorem fA {α S R:Type} {F:Nat→S→Int→Option R} {l:List α} {body:Nat→α→S→(S→Option R)→Option R} {fin:S→Option R} (hl:l.length < 4611686018427387904)
  (hF:∀ k s (i:Nat),F (k + 1) s i=if decide ((i:Int) < (l.length:Int)) then ak (idx l i) fun x=>body i x s fun s'=>F k s' (bQ ((i:Int) + 1)) else fin s) (s:S):F BIG s 0=gP body fin 0 l s:=by
 have:=ML hl hF BIG 0 s (by have:=mo; omega) (by omega); simpa using this
def isLet (c:UInt8):Bool:=(((decide (97≤(c.toNat:Int))) && (decide ((c.toNat:Int)≤122))) || ((decide (65≤(c.toNat:Int))) && (decide ((c.toNat:Int)≤90)))) || ((c.toNat:Int) == 95)
@[simp] theorem YF (c:UInt8):oP c=some (isLet c):=rfl
@[simp] theorem Zk (c:UInt8):qG c=some (bR c):=rfl
@[simp] theorem Yj (c:UInt8):yA c=some (isLet c):=rfl
@[simp] theorem Zj (c:UInt8):Bq c=some (bR c):=rfl
@[simp] theorem Zm (c:UInt8):wN c=some (bR c):=rfl
@[simp] theorem Sc (c:UInt8):uR c=some (bR c):=rfl
theorem rP (p:UInt8→Bool) (c:UInt8) (l:Str):fH p (c :: l)=if p c then fH p l + 1 else 0:=by
 unfold fH; rw [List.takeWhile_cons]; split <;> simp
theorem sI (p:UInt8→Bool) (l:Str):fH p l≤l.length:=by
 induction l with
 | nil=>simp [fH]
 | cons c l ih=>rw [rP]; split <;> simp <;> omega
theorem K3 {F:Nat→Int→Option Int} {s:Str} (hs:s.length < 4611686018427387904)
  (hF:∀ k (i:Nat),F (k + 1) i=ak (if decide ((i:Int) < (s.length:Int)) then ak (idx s i) fun x1=>some (bR x1) else some false) fun b1=>if b1 then F k (bQ ((i:Int) + 1)) else some (i:Int)):
  ∀ (k i:Nat),s.length < k + i→i≤s.length→F k (i:Int)=some ((i + fH bR (s.drop i):Nat):Int)
 | 0,i,h,h'=>by omega
 | k + 1,i,h,h'=>by
  rw [hF]; by_cases hi:i < s.length
  ·
   rw [List.drop_eq_getElem_cons hi,rP,if_pos (by simp; omega),sU hi]; simp only [av]; cases e:bR s[i] with
   | false=>simp
   | true=>
    simp only [if_true]; rw [BP (by omega),K3 hs hF k (i + 1) (by omega) (by omega)]; simp only [Option.some.injEq,Int.natCast_inj]; omega
  ·
   have:i=s.length:=by omega
   subst this; simp [fH]
theorem uF {s:Str} (hs:s.length < 4611686018427387904):uS s=some (fH bR s:Int):=by
 have:=K3 (F:=qU s) hs (fun k i=>rfl) BIG 0 (by have:=mo; omega) (by omega); simpa [uS] using this
theorem G_ {s:Str} (hs:s.length < 4611686018427387904) {i:Nat} (hi:i≤s.length):Dt s (i:Int)=some ((i + fH bR (s.drop i):Nat):Int):=
 K3 (F:=vv s) hs (fun k i=>rfl) BIG i (by have:=mo; omega) hi
theorem qo {s:Str} {i:Nat} (h:i≤s.length):sl s (i:Int) (s.length:Int)=some (s.drop i):=by
 rw [MK (by omega) (by omega) (by omega)]; simp
theorem Ph {s:Str} {i:Nat} (h:i≤s.length):sl s 0 (i:Int)=some (s.take i):=by
 rw [MK (by omega) (by omega) (by omega)]; simp
theorem trimB (s:Str):∀ (k:Nat),s.length < k→s.length < 4611686018427387904→eG 48 k s=some (dz s):=by
 induction s with
 | nil=>intro k h _; cases k with
  | zero=>simp at h
  | succ k=>simp [eG,dz]
 | cons c s ih=>
  intro k h hs; cases k with
  | zero=>simp at h
  | succ k=>
   simp only [List.length_cons] at h hs; rw [eG,if_pos (by simp)]; have e0:idx (c :: s) 0=some c:=by simp [idx]
   rw [e0]; simp only [av]; have e1:((48:UInt8).toNat:Int)=48:=rfl; rw [e1]; unfold dz; rw [List.dropWhile_cons]; cases e:((c.toNat:Int) == 48) with
   | false=>simp
   | true=>
    simp only [if_true]; have e2:=qo (s:=c :: s) (i:=1) (by simp); simp only [List.drop_one,List.tail_cons] at e2; rw [show ((1:Nat):Int)=1 from rfl] at e2; rw [e2]; simp only [av]; exact ih k (by omega) (by omega)
theorem Pe {s:Str} (hs:s.length < 4611686018427387904):jU s ([48]:Str)=some (dz s):=by
 unfold jU; cases s with
 | nil=>simp [dz]
 | cons c s=>
  rw [if_neg (by simp),if_pos (by simp)]; have e0:idx ([48]:Str) 0=some 48:=rfl; rw [e0]; simp only [av]; rw [if_pos (by decide)]; exact trimB _ BIG (by have:=mo; omega) hs
theorem Kl {s:Str} (hs:s.length < 4611686018427387904):∀ (k i:Nat),s.length < k + i→i≤s.length→nV s k (i:Int)=some (dz (s.drop i))
 | 0,i,h,h'=>by omega
 | k + 1,i,h,h'=>by
  rw [nV]; by_cases hi:i < s.length
  ·
   rw [List.drop_eq_getElem_cons hi,if_pos (by simp; omega),sU hi]; simp only [av]; unfold dz; rw [List.dropWhile_cons]; cases e:((s[i].toNat:Int) == 48) with
   | false=>
    simp only [Bool.false_eq_true,if_false]; rw [qo (by omega),List.drop_eq_getElem_cons hi]
   | true=>
    simp only [if_true]; rw [BP (by omega)]; exact Kl hs k (i + 1) (by omega) (by omega)
  ·
   have:i=s.length:=by omega
   subst this; rw [if_neg (by simp)]; simp only [av,Bool.false_eq_true,if_false]; rw [qo (by omega)]; simp [dz]
theorem MI {s:Str} (hs:s.length < 4611686018427387904):uQ s=some (dz s):=by
 have:=Kl hs BIG 0 (by have:=mo; omega) (by omega); simpa [uQ] using this
def uz (p q:Bool):Int:=if p then -1 else if q then 1 else 0
def tN (x y:Int):Int:=uz (decide (x < y)) (decide (y < x))
def FZ (x y:Str):Int:=uz (Go.Op.bytesLess x y) (!(Go.Op.bytesLess x y || x == y))
theorem uq (p q:Bool):nW p q=some (uz p q):=by
 unfold nW uz; cases p <;> cases q <;> rfl
theorem r9 (x y:Int):cmp_Compare_int x y=some (tN x y):=by
 unfold cmp_Compare_int tN uz cmp_isNaN_int; by_cases h1:x < y <;> by_cases h2:y < x <;> simp [h1,h2]
theorem AA (x y:UInt8):lN x y=some (tN x.toNat y.toNat):=by
 unfold lN tN uz nO; by_cases h1:(x.toNat:Int) < y.toNat <;> by_cases h2:(y.toNat:Int) < x.toNat <;> simp [h1,h2]
theorem OO (x y:Str):j5 x y=some (FZ x y):=by
 unfold j5 FZ uz cmp_isNaN_string; cases h1:Go.Op.bytesLess x y <;> cases h2:(x == y) <;> simp
theorem xZ :∀ x:Str,Go.Op.bytesLess x x=false
 | []=>rfl
 | c :: x=>by
  unfold Go.Op.bytesLess; have:=xZ x; simp [this]
theorem QX (a b c:Int):vN ([a,b,c]:List Int)=some (if a != 0 then a else if b != 0 then b else c):=by
 have:=fA (F:=fun k (_:Unit) i=>oW [a,b,c] k i) (l:=[a,b,c]) (body:=fun _ Qf _ r=>if Qf != 0 then some Qf else r ()) (fin:=fun _=>some 0) (by simp)
  (fun k s i=>rfl) ()
 unfold vN; rw [this]; simp only [gP]; by_cases h1:a=0 <;> by_cases h2:b=0 <;> by_cases h3:c=0 <;> simp [h1,h2,h3]
def Iu (a b:Str):Int:=
 if ((dz a).length:Int) != ((dz b).length:Int) then tN (dz a).length (dz b).length else if !(dz a == dz b) then FZ (dz a) (dz b) else tN a.length b.length
theorem Y8 (s:Str):(dz s).length≤s.length:=(List.dropWhile_sublist _).length_le
theorem EH {x y:Int}:tN x y=0↔x=y:=by
 unfold tN uz; by_cases h1:x < y <;> by_cases h2:y < x <;> simp [h1,h2] <;> omega
theorem PU {x y:Str} (h:x≠y):FZ x y≠0:=by
 unfold FZ uz; cases h1:Go.Op.bytesLess x y <;> simp [h]
theorem QY (x:Str):FZ x x=0:=by
 unfold FZ uz; simp [xZ]
theorem Hq {a b:Str} (ha:a.length < 4611686018427387904) (hb:b.length < 4611686018427387904):oV a b=some (Iu a b):=by
 unfold oV Iu; rw [Pe ha,Pe hb]; simp only [av,r9,OO,QX,Option.some.injEq]; by_cases h1:((dz a).length:Int)=((dz b).length:Int)
 ·
  have e1:tN (dz a).length (dz b).length=0:=EH.2 h1; rw [e1]; by_cases h2:dz a=dz b
  · rw [h2,QY]; simp
  ·
   have:=PU h2; simp [h1,h2,this]
 ·
  have e1:tN (dz a).length (dz b).length≠0:=fun h=>h1 (EH.1 h); rw [if_pos (by simpa using e1),if_pos (by simpa using h1)]
theorem UA {a b:Str} (ha:a.length < 4611686018427387904) (hb:b.length < 4611686018427387904):Ab a b=some (Iu a b):=by
 unfold Ab Iu; rw [MI ha,MI hb]; simp only [av,uq]; by_cases h1:((dz a).length:Int)=((dz b).length:Int)
 ·
  by_cases h2:dz a=dz b
  · simp [h2,tN]
  · simp [h1,h2,FZ]
 · simp [h1,tN]
theorem Km {s:Str} (h:s≠[]):0 < fH bR s↔bR (s.head h)=true:=by
 cases s with
 | nil=>exact absurd rfl h
 | cons c s=>rw [rP]; cases e:bR c <;> simp [e]
theorem Az {a b:Str} (ha:a.length < 4611686018427387904) (hb:b.length < 4611686018427387904):∀ (k k' i j:Nat),i≤a.length→j≤b.length→a.length < k + i→a.length < k' + i→
  gF k (a.drop i) (b.drop j)=jv a b k' (i:Int) (j:Int)∧∃ c,jv a b k' (i:Int) (j:Int)=some c
 | 0,k',i,j,_,_,h,_=>by omega
 | k + 1,0,i,j,_,_,_,h=>by omega
 | k + 1,k' + 1,i,j,hi,hj,hk,hk'=>by
  rw [gF,jv]; by_cases h1:i < a.length
  ·
   by_cases h2:j < b.length
   ·
    have ea:=List.drop_eq_getElem_cons h1; have eb:=List.drop_eq_getElem_cons h2; have na:a.drop i≠[]:=fun h=>by simp at h; omega
    have nb:b.drop j≠[]:=fun h=>by simp at h; omega
    have la:(a.drop i).length=a.length - i:=by simp
    have lb:(b.drop j).length=b.length - j:=by simp
    have sa:=sI bR (a.drop i); have sb:=sI bR (b.drop j); have pa:=Km na; have pb:=Km nb; have YV:(a.drop i).head na=a[i]:=by simp
    have YU:(b.drop j).head nb=b[j]:=by simp
    rw [YV] at pa; rw [YU] at pb; rw [if_pos (by simp [h1,h2]),if_pos (by simp; omega),uF (by omega),uF (by omega),sU h1,sU h2]; simp only [av,uq,Sc]; have i0:idx (a.drop i) 0=some a[i]:=by rw [ea]; rfl
    have j0:idx (b.drop j) 0=some b[j]:=by rw [eb]; rfl
    have hone:(if bR a[i]=true then some (bR b[j]) else some false)=some (bR a[i] && bR b[j]):=by cases bR a[i] <;> simp
    rw [hone]; simp only [av]; cases hd:(bR a[i] && bR b[j]) with
    | true=>
     simp only [Bool.and_eq_true] at hd; have q1:=pa.2 hd.1; have q2:=pb.2 hd.2; rw [if_pos (by simp; omega)]; simp only [if_true]; rw [G_ ha (by omega),G_ hb (by omega),Ph sa,Ph sb]; simp only [av]
     have e1:sl a (i:Int) ((i + fH bR (a.drop i):Nat):Int)=some ((a.drop i).take (fH bR (a.drop i))):=by
      rw [MK (by omega) (by omega) (by omega)]; simp only [Int.toNat_natCast,Option.some.injEq]; rw [List.drop_take,Nat.add_sub_cancel_left]
     have e2:sl b (j:Int) ((j + fH bR (b.drop j):Nat):Int)=some ((b.drop j).take (fH bR (b.drop j))):=by
      rw [MK (by omega) (by omega) (by omega)]; simp only [Int.toNat_natCast,Option.some.injEq]; rw [List.drop_take,Nat.add_sub_cancel_left]
     rw [e1,e2]; simp only [av]; rw [Hq (by simp; omega) (by simp; omega),UA (by simp; omega) (by simp; omega)]; simp only [av]; by_cases hc:Iu ((a.drop i).take (fH bR (a.drop i))) ((b.drop j).take (fH bR (b.drop j)))=0
     ·
      rw [if_neg (by simp [hc]),if_neg (by simp [hc]),qo sa,qo sb]; simp only [av,List.drop_drop]; exact Az ha hb k k' _ _ (by omega) (by omega) (by omega) (by omega)
     ·
      rw [if_pos (by simpa using hc),if_pos (by simpa using hc)]; exact ⟨rfl,_,rfl⟩
    | false=>
     rw [if_neg (by
      simp only [Bool.and_eq_true,decide_eq_true_eq,not_and]; intro h3 h4; have:=pa.1 (by omega); have:=pb.1 (by omega)
      simp_all)]
     simp only [Bool.false_eq_true,if_false]; rw [i0,j0]; simp only [av,AA]; by_cases hc:(a[i].toNat:Int)=(b[j].toNat:Int)
     ·
      rw [if_neg (by simpa using hc)]; have:uz (decide ((a[i].toNat:Int) < (b[j].toNat:Int))) (decide ((b[j].toNat:Int) < (a[i].toNat:Int)))=0:=by simp [uz,hc]
      rw [this,if_neg (by simp),BP (by omega),BP (by omega)]; have s1:=qo (s:=a.drop i) (i:=1) (by omega); have s2:=qo (s:=b.drop j) (i:=1) (by omega); rw [show ((1:Nat):Int)=1 from rfl] at s1 s2; rw [s1,s2]; simp only [av,List.drop_drop]; exact Az ha hb k k' _ _ (by omega) (by omega) (by omega) (by omega)
     ·
      rw [if_pos (by simpa using hc)]; have e3:tN (a[i].toNat) (b[j].toNat)≠0:=fun h=>hc (EH.1 h); have:uz (decide ((a[i].toNat:Int) < (b[j].toNat:Int))) (decide ((b[j].toNat:Int) < (a[i].toNat:Int)))=tN (a[i].toNat) (b[j].toNat):=rfl; rw [this,if_pos (by simpa using e3)]; exact ⟨rfl,_,rfl⟩
   ·
    have eb:b.drop j=[]:=by simp; omega
    rw [eb,if_neg (by simp),if_neg (by simp; omega),uq,r9]; refine ⟨?_,_,rfl⟩; unfold tN; congr 2 <;> simp <;> omega
  ·
   have ea:a.drop i=[]:=by simp; omega
   rw [ea,if_neg (by simp),if_neg (by simp; omega),uq,r9]; refine ⟨?_,_,rfl⟩; unfold tN; congr 2 <;> simp <;> omega
theorem OL {a b:Str} (ha:a.length < 4611686018427387904) (hb:b.length < 4611686018427387904):∃ c,lg a b=some c∧nI a b=some c:=by
 obtain ⟨h1,c,h2⟩:=Az ha hb BIG BIG 0 0 (by omega) (by omega) (by have:=mo; omega) (by have:=mo; omega); refine ⟨c,?_,by simpa [nI] using h2⟩; rw [←h2]; simpa [lg] using h1
end Go.Ft
namespace Go.Ft
open Go
theorem Kz :∀ l,nu l l=0
 | []=>rfl
 | a :: l=>by simp [nu,Kz l]
theorem Ky :∀ {l m:List Nat},nu l m=0→l=m
 | [],[],_=>rfl
 | [],_ :: _,h=>by simp [nu] at h
 | _ :: _,[],h=>by simp [nu] at h
 | a :: l,b :: m,h=>by
  simp only [nu] at h; by_cases h1:a < b
  · simp [h1] at h
  ·
   by_cases h2:b < a
   · simp [h1,h2] at h
   ·
    simp only [h1,h2,if_false] at h; rw [Ky h,show a=b from by omega]
theorem Nc :∀ l m:List Nat,nu m l=- nu l m
 | [],[]=>rfl
 | [],_ :: _=>rfl
 | _ :: _,[]=>rfl
 | a :: l,b :: m=>by
  simp only [nu]; by_cases h1:a < b
  · simp [h1,show ¬ b < a by omega]
  ·
   by_cases h2:b < a
   · simp [h1,h2]
   · simp only [h1,h2,if_false]; exact Nc l m
theorem HY :∀ {a b c:List Nat},nu a b < 0→nu b c < 0→nu a c < 0
 | [],[],c,h,_=>by simp [nu] at h
 | [],_ :: _,[],_,h=>by simp [nu] at h
 | [],_ :: _,_ :: _,_,_=>by simp [nu]
 | _ :: _,[],c,h,_=>by simp [nu] at h
 | _ :: _,_ :: _,[],_,h=>by simp [nu] at h
 | x :: a,y :: b,z :: c,h,k=>by
  simp only [nu] at h k ⊢; by_cases h1:x < y
  ·
   by_cases k1:y < z
   · simp [show x < z by omega]
   ·
    by_cases k2:z < y
    · simp [k1,k2] at k
    · simp [show x < z by omega]
  ·
   by_cases h2:y < x
   · simp [h1,h2] at h
   ·
    simp only [h1,h2,if_false] at h; by_cases k1:y < z
    · simp [show x < z by omega]
    ·
     by_cases k2:z < y
     · simp [k1,k2] at k
     ·
      simp only [k1,k2,if_false] at k; simp only [show ¬ x < z by omega,show ¬ z < x by omega,if_false]; exact HY h k
theorem HZ :∀ (xs ys:Str) (u v:List Nat),xs.length=ys.length→nu (xs.map UInt8.toNat ++ u) (ys.map UInt8.toNat ++ v)=if xs=ys then nu u v else FZ xs ys
 | [],[],u,v,_=>by simp
 | [],_ :: _,_,_,h=>by simp at h
 | _ :: _,[],_,_,h=>by simp at h
 | x :: xs,y :: ys,u,v,h=>by
  simp only [List.map_cons,List.cons_append,nu]; have ih:=HZ xs ys u v (by simpa using h); have e1:(x < y)=(x.toNat < y.toNat):=by rw [UInt8.lt_iff_toNat_lt]
  have e2:(y < x)=(y.toNat < x.toNat):=by rw [UInt8.lt_iff_toNat_lt]
  by_cases h1:x.toNat < y.toNat
  ·
   have:x≠y:=fun e=>by subst e; omega
   simp [h1,this,FZ,uz,Go.Op.bytesLess,e1]
  ·
   by_cases h2:y.toNat < x.toNat
   ·
    have:x≠y:=fun e=>by subst e; omega
    simp [h1,h2,this,FZ,uz,Go.Op.bytesLess,e1]
   ·
    have:x=y:=UInt8.toNat_inj.1 (by omega); subst this; simp only [h1,if_false,ih,List.cons.injEq,true_and]; by_cases h3:xs=ys
    · simp [h3]
    ·
     simp only [h3,if_false,FZ,Go.Op.bytesLess,e1,h1,decide_false,Bool.false_or,beq_self_eq_true,Bool.true_and]; congr 1; simp
theorem Bn (s:Str):(s.take (fH bR s)).length=fH bR s:=by
 have:=sI bR s; simp; omega
theorem zX {c:UInt8} {s:Str} (h:bR c=true):0 < fH bR (c :: s):=by rw [rP,if_pos h]; omega
theorem Es :∀ (k m:Nat) (s:Str),s.length≤k→s.length≤m→H7 k s=H7 m s
 | 0,0,_,_,_=>rfl
 | 0,m + 1,s,h,_=>by
  have:s=[]:=List.eq_nil_of_length_eq_zero (by omega); subst this; rfl
 | k + 1,0,s,_,h=>by
  have:s=[]:=List.eq_nil_of_length_eq_zero (by omega); subst this; rfl
 | k + 1,m + 1,[],_,_=>rfl
 | k + 1,m + 1,c :: s,h1,h2=>by
  simp only [H7]; simp only [List.length_cons] at h1 h2; cases e:bR c with
  | true=>
   have:=zX (s:=s) e; have:=sI bR (c :: s); simp only [if_true]; rw [Es k m _ (by simp; omega) (by simp; omega)]
  | false=>
   simp only [Bool.false_eq_true,if_false]; rw [Es k m s (by omega) (by omega)]
theorem Ng {k:Nat} {s:Str} (h:s.length≤k):H7 k s=key s:=Es _ _ _ h (Nat.le_refl _)
theorem yO :key []=[]:=rfl
theorem o_ {c:UInt8} {s:Str} (h:bR c=true):key (c :: s)=48 :: (dz ((c :: s).take (fH bR (c :: s)))).length :: ((dz ((c :: s).take (fH bR (c :: s)))).map UInt8.toNat ++ fH bR (c :: s) :: key ((c :: s).drop (fH bR (c :: s)))):=by
 have:=zX (s:=s) h; have:=sI bR (c :: s); show H7 (s.length + 1) (c :: s)=_; simp only [H7,h,if_true]; rw [Ng (by simp; omega)]
theorem jG {c:UInt8} {s:Str} (h:bR c=false):key (c :: s)=c.toNat :: key s:=by
 show H7 (s.length + 1) (c :: s)=_; simp only [H7,h,Bool.false_eq_true,if_false]; rw [Ng (Nat.le_refl _)]
theorem TG (a b:Str) (u v:List Nat):nu ((dz a).length :: ((dz a).map UInt8.toNat ++ a.length :: u)) ((dz b).length :: ((dz b).map UInt8.toNat ++ b.length :: v))=if Iu a b=0 then nu u v else Iu a b:=by
 unfold Iu; simp only [nu]; by_cases h1:(dz a).length=(dz b).length
 ·
  rw [if_neg (by omega),if_neg (by omega),HZ _ _ _ _ h1]; have e:(((dz a).length:Int) != ((dz b).length:Int))=false:=by simp [h1]
  simp only [e,Bool.false_eq_true,if_false]; by_cases h2:dz a=dz b
  ·
   simp only [h2,if_true,beq_self_eq_true,Bool.not_true,Bool.false_eq_true,if_false,nu,tN,uz]; by_cases h3:a.length < b.length
   · simp [h3]
   ·
    by_cases h4:b.length < a.length
    · simp [h3,h4]
    · simp [h3,h4]
  ·
   have h3:=PU h2; simp [h2,h3]
 ·
  have e:(((dz a).length:Int) != ((dz b).length:Int))=true:=by simp; omega
  simp only [e,if_true]; by_cases h2:(dz a).length < (dz b).length
  · simp [h2,tN,uz]
  ·
   have h3:(dz b).length < (dz a).length:=by omega
   simp [h2,h3,tN,uz]
theorem nZ {c:UInt8}:bR c=(decide (48≤c.toNat) && decide (c.toNat≤57)):=by
 unfold bR; congr 1
 · apply decide_eq_decide.2; omega
 · apply decide_eq_decide.2; omega
theorem Al :∀ (n k:Nat) (a b:Str),a.length≤n→a.length < k→a.length < 4611686018427387904→b.length < 4611686018427387904→gF k a b=some (iX a b)
 | _,0,_,_,_,h,_,_=>by omega
 | n,k + 1,a,b,hn,hk,ha,hb=>by
  rw [gF]
  match a,b with
  | [],[]=>
   rw [if_neg (by simp),r9]; simp [iX,yO,nu,tN,uz]
  | [],y :: b=>
   rw [if_neg (by simp),r9]
   have:key (y :: b)≠[]:=by
    cases e:bR y with
    | true=>rw [o_ e]; simp
    | false=>rw [jG e]; simp
   cases e:key (y :: b) with
   | nil=>exact absurd e this
   | cons p q=>
    simp only [iX,yO,e,nu,tN,uz]; rw [if_pos (by simp)]
  | x :: a,[]=>
   rw [if_neg (by simp),r9]
   have:key (x :: a)≠[]:=by
    cases e:bR x with
    | true=>rw [o_ e]; simp
    | false=>rw [jG e]; simp
   cases e:key (x :: a) with
   | nil=>exact absurd e this
   | cons p q=>
    simp only [iX,yO,e,nu,tN,uz]; rw [if_neg (by simp; omega),if_pos (by simp)]
  | x :: a,y :: b=>
   have sa:=sI bR (x :: a); have sb:=sI bR (y :: b); have i0:idx (x :: a) 0=some x:=rfl; have j0:idx (y :: b) 0=some y:=rfl; rw [if_pos (by simp),uF ha,uF hb]; simp only [av]; cases e1:bR x with
   | true=>
    have p1:=zX (s:=a) e1; cases e2:bR y with
    | true=>
     have p2:=zX (s:=b) e2; rw [if_pos (by simp; omega),Ph sa,Ph sb]; simp only [av]; rw [Hq (by simp; omega) (by simp; omega)]; simp only [av]; have hc:=TG ((x :: a).take (fH bR (x :: a))) ((y :: b).take (fH bR (y :: b))) (key ((x :: a).drop (fH bR (x :: a)))) (key ((y :: b).drop (fH bR (y :: b)))); rw [Bn,Bn] at hc
     have e3:iX (x :: a) (y :: b)=if Iu ((x :: a).take (fH bR (x :: a))) ((y :: b).take (fH bR (y :: b)))=0 then nu (key ((x :: a).drop (fH bR (x :: a)))) (key ((y :: b).drop (fH bR (y :: b)))) else Iu ((x :: a).take (fH bR (x :: a))) ((y :: b).take (fH bR (y :: b))):=by
      rw [←hc,iX,o_ e1,o_ e2,nu,if_neg (by omega),if_neg (by omega)]
     rw [e3]; by_cases h0:Iu ((x :: a).take (fH bR (x :: a))) ((y :: b).take (fH bR (y :: b)))=0
     ·
      rw [if_neg (by simpa using h0),if_pos h0,qo sa,qo sb]; simp only [av]
      match n,hn with
      | n + 1,hn=>
       exact Al n k _ _ (by simp at hn ⊢; omega) (by simp at hk ⊢; omega) (by simp at ha ⊢; omega) (by simp at hb ⊢; omega)
     · rw [if_pos (by simpa using h0),if_neg h0]
    | false=>
     have q2:fH bR (y :: b)=0:=by rw [rP,e2]; rfl
     rw [if_neg (by simp [q2]),i0,j0]; simp only [av,AA]; have d1:=nZ (c:=x); rw [e1] at d1; have d2:=nZ (c:=y); rw [e2] at d2; simp only [Bool.and_eq_true,Bool.false_eq,Bool.and_eq_false_iff,decide_eq_false_iff_not,Bool.true_eq,decide_eq_true_eq] at d1 d2; rw [if_pos (by simp; omega)]; rw [iX,o_ e1,jG e2,nu,tN,uz]; by_cases h1:x.toNat < y.toNat
     · rw [if_pos (by simp; omega),if_pos (by omega)]
     · rw [if_neg (by simp; omega),if_pos (by simp; omega),if_neg (by omega),if_pos (by omega)]
   | false=>
    have q1:fH bR (x :: a)=0:=by rw [rP,e1]; rfl
    rw [if_neg (by simp [q1]),i0,j0]; simp only [av,AA]; by_cases h0:x=y
    ·
     subst h0; rw [if_neg (by simp)]; have s1:=qo (s:=x :: a) (i:=1) (by simp); have s2:=qo (s:=x :: b) (i:=1) (by simp); rw [show ((1:Nat):Int)=1 from rfl] at s1 s2; rw [s1,s2]; simp only [av,List.drop_succ_cons,List.drop_zero]; rw [iX,jG e1,jG e1,nu,if_neg (by omega),if_neg (by omega)]
     match n,hn with
     | n + 1,hn=>exact Al n k a b (by simp at hn; omega) (by simp at hk; omega) (by simp at ha; omega) (by simp at hb; omega)
    ·
     have h1:x.toNat≠y.toNat:=fun h=>h0 (UInt8.toNat_inj.1 h); rw [if_pos (by simp; omega)]; have d1:=nZ (c:=x); rw [e1] at d1; simp only [Bool.and_eq_true,Bool.false_eq,Bool.and_eq_false_iff,decide_eq_false_iff_not] at d1; cases e2:bR y with
     | true=>
      have d2:=nZ (c:=y); rw [e2] at d2; simp only [Bool.and_eq_true,Bool.true_eq,decide_eq_true_eq] at d2; rw [iX,jG e1,o_ e2,nu,tN,uz]; by_cases h1:x.toNat < y.toNat
      · rw [if_pos (by simp; omega),if_pos (by omega)]
      · rw [if_neg (by simp; omega),if_pos (by simp; omega),if_neg (by omega),if_pos (by omega)]
     | false=>
      rw [iX,jG e1,jG e2,nu,tN,uz]; by_cases h2:x.toNat < y.toNat
      · rw [if_pos (by simp; omega),if_pos (by omega)]
      · rw [if_neg (by simp; omega),if_pos (by simp; omega),if_neg (by omega),if_pos (by omega)]
theorem QA {a b:Str} (ha:a.length < 4611686018427387904) (hb:b.length < 4611686018427387904):lg a b=some (iX a b):=
 Al _ BIG a b (Nat.le_refl _) (by have:=mo; omega) ha hb
theorem LC :∀ (r:Str),r=List.replicate (r.length - (dz r).length) (48:UInt8) ++ dz r
 | []=>rfl
 | c :: r=>by
  unfold dz; rw [List.dropWhile_cons]; by_cases h:c=48
  ·
   subst h; have ih:=LC r; have hl:=Y8 r; simp only [show (((48:UInt8).toNat:Int) == 48)=true from rfl,if_true]; change _=List.replicate ((48 :: r).length - (dz r).length) (48:UInt8) ++ dz r; rw [show (48 :: r).length - (dz r).length=(r.length - (dz r).length) + 1 by simp; omega,List.replicate_succ,List.cons_append,←ih]
  ·
   have:((c.toNat:Int) == 48)=false:=by
    simp only [beq_eq_false_iff_ne,ne_eq]; intro h2; exact h (UInt8.toNat_inj.1 (by show c.toNat=48; omega))
   simp [this]
theorem key_inj :∀ (n:Nat) (a b:Str),a.length≤n→key a=key b→a=b
 | _,[],[],_,_=>rfl
 | _,[],y :: b,_,h=>by
  cases e:bR y with
  | true=>rw [o_ e,yO] at h; cases h
  | false=>rw [jG e,yO] at h; cases h
 | _,x :: a,[],_,h=>by
  cases e:bR x with
  | true=>rw [o_ e,yO] at h; cases h
  | false=>rw [jG e,yO] at h; cases h
 | 0,x :: a,y :: b,h,_=>by simp at h
 | n + 1,x :: a,y :: b,hn,h=>by
  cases e1:bR x with
  | true=>
   cases e2:bR y with
   | true=>
    have p1:=zX (s:=a) e1; have sa:=sI bR (x :: a); rw [o_ e1,o_ e2] at h; simp only [List.cons.injEq,true_and] at h; obtain ⟨h1,h2⟩:=h; obtain ⟨h3,h4⟩:=List.append_inj h2 (by simpa using h1); simp only [List.cons.injEq] at h4
    have h5:dz ((x :: a).take (fH bR (x :: a)))=dz ((y :: b).take (fH bR (y :: b))):=by
     refine List.map_inj_right (f:=UInt8.toNat) (fun p q hpq=>UInt8.toNat_inj.1 hpq) |>.1 h3
    have h6:(x :: a).take (fH bR (x :: a))=(y :: b).take (fH bR (y :: b)):=by
     rw [LC ((x :: a).take (fH bR (x :: a))),LC ((y :: b).take (fH bR (y :: b))),h5,Bn,Bn,h4.1]
    have h7:=key_inj n _ _ (by simp at hn ⊢; omega) h4.2; rw [←List.take_append_drop (fH bR (x :: a)) (x :: a),h6,h7,List.take_append_drop]
   | false=>
    rw [o_ e1,jG e2] at h; simp only [List.cons.injEq] at h; have d2:=nZ (c:=y); rw [e2,←h.1] at d2; simp at d2
  | false=>
   cases e2:bR y with
   | true=>
    rw [jG e1,o_ e2] at h; simp only [List.cons.injEq] at h; have d2:=nZ (c:=x); rw [e1,h.1] at d2; simp at d2
   | false=>
    rw [jG e1,jG e2] at h; simp only [List.cons.injEq] at h; rw [UInt8.toNat_inj.1 h.1,key_inj n a b (by simp at hn; omega) h.2]
theorem M5 (a:Str):iX a a=0:=Kz _
theorem Ak {a b:Str} (h:iX a b=0):a=b:=key_inj _ a b (Nat.le_refl _) (Ky h)
theorem yH (a b:Str):iX b a=- iX a b:=Nc _ _
theorem Dw {a b c:Str} (h:iX a b < 0) (k:iX b c < 0):iX a c < 0:=HY h k
theorem Ju {a b c:Str} (h:¬ iX a b < 0) (k:¬ iX b c < 0):¬ iX a c < 0:=by
 intro hc; by_cases h0:iX a b=0
 · rw [Ak h0] at hc; exact k hc
 ·
  by_cases k0:iX b c=0
  · rw [←Ak k0] at hc; exact h hc
  ·
   have h1:iX b a < 0:=by rw [yH]; omega
   have k1:iX c b < 0:=by rw [yH]; omega
   have:=Dw k1 h1; rw [yH] at this; omega
end Go.Ft
