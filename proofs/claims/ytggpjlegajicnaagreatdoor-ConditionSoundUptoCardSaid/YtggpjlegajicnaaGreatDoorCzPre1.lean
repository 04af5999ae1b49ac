/- Proved here: plain facts on the functional texts that the walks want. -/
import Derived.Test.YtggpjlegajicnaaGreatDoorCzFt1
import Derived.Test.YtggpjlegajicnaaGreatDoorCzPool1
set_option linter.unusedVariables false
set_option linter.unusedSimpArgs false
set_option linter.unusedSectionVars false
set_option maxHeartbeats 2000000
namespace Go.Ft
open Go
attribute [local congr] gy
theorem yc {n:Int} (h:-9223372036854775808≤n∧n < 9223372036854775808):bW n=n:=aa7 (by omega) (by omega)
theorem yg {i:Nat} (h:i < 4611686018427387904):bW ((i:Int) + 1)=((i + 1:Nat):Int):=by rw [yc (by omega)]; omega
theorem vF {α:Type} {l:List α} {i:Nat} (h:i < l.length):idx l (i:Int)=some (l[i]):=by rw [ahB,List.getElem?_eq_getElem h]
theorem iJ :9223372036854775808 < BIG:=by decide
def bY {α S R:Type} (body:Nat→α→S→(S→Option R)→Option R) (fin:S→Option R):Nat→List α→S→Option R
 | _,[],s=>fin s
 | i,x :: r,s=>body i x s fun s'=>bY body fin (i + 1) r s'
theorem XL {α S R:Type} {F:Nat→S→Int→Option R} {l:List α} {body:Nat→α→S→(S→Option R)→Option R} {fin:S→Option R} (hl:l.length < 4611686018427387904)
  (hF:∀ k s (i:Nat),F (k + 1) s i=if decide ((i:Int) < (l.length:Int)) then au (idx l i) fun x=>body i x s fun s'=>F k s' (bW ((i:Int) + 1)) else fin s):
  ∀ (k i:Nat) (s:S),l.length < k + i→i≤l.length→F k s (i:Int)=bY body fin i (l.drop i) s
 | 0,i,s,h,h'=>by omega
 | k + 1,i,s,h,h'=>by
  rw [hF]; by_cases hi:i < l.length
  ·
   rw [List.drop_eq_getElem_cons hi,if_pos (by simp; omega),vF hi,av,bY]; congr 1; funext s'; rw [yg (by omega)]; exact XL hl hF k (i + 1) s' (by omega) (by omega)
  ·
   have:i=l.length:=by omega
   subst this; rw [if_neg (by simp),List.drop_length,bY]
theorem bZ {α S R:Type} {F:Nat→S→Int→Option R} {l:List α} {body:Nat→α→S→(S→Option R)→Option R} {fin:S→Option R} (hl:l.length < 4611686018427387904)
  (hF:∀ k s (i:Nat),F (k + 1) s i=if decide ((i:Int) < (l.length:Int)) then au (idx l i) fun x=>body i x s fun s'=>F k s' (bW ((i:Int) + 1)) else fin s) (s:S):F BIG s 0=bY body fin 0 l s:=by
 have:=XL hl hF BIG 0 s (by have:=iJ; omega) (by omega); simpa using this
def isLet (c:UInt8):Bool:=(((decide (97≤(c.toNat:Int))) && (decide ((c.toNat:Int)≤122))) || ((decide (65≤(c.toNat:Int))) && (decide ((c.toNat:Int)≤90)))) || ((c.toNat:Int) == 95)
@[simp] theorem aly (c:UInt8):wz c=some (isLet c):=rfl
@[simp] theorem amm (c:UInt8):yN c=some (dF c):=rfl
@[simp] theorem ak7 (c:UInt8):Gw c=some (isLet c):=rfl
@[simp] theorem ahh (c:UInt8):zS c=some (dF c):=rfl
@[simp] theorem amo (c:UInt8):Eu c=some (dF c):=rfl
@[simp] theorem aeE (c:UInt8):CP c=some (dF c):=rfl
theorem zK (p:UInt8→Bool) (c:UInt8) (l:Str):jv p (c :: l)=if p c then jv p l + 1 else 0:=by
 unfold jv; rw [List.takeWhile_cons]; split <;> simp
theorem AU (p:UInt8→Bool) (l:Str):jv p l≤l.length:=by
 induction l with
 | nil=>simp [jv]
 | cons c l ih=>rw [zK]; split <;> simp <;> omega
theorem VF {F:Nat→Int→Option Int} {s:Str} (hs:s.length < 4611686018427387904)
  (hF:∀ k (i:Nat),F (k + 1) i=au (if decide ((i:Int) < (s.length:Int)) then au (idx s i) fun x1=>some (dF x1) else some false) fun b1=>if b1 then F k (bW ((i:Int) + 1)) else some (i:Int)):
  ∀ (k i:Nat),s.length < k + i→i≤s.length→F k (i:Int)=some ((i + jv dF (s.drop i):Nat):Int)
 | 0,i,h,h'=>by omega
 | k + 1,i,h,h'=>by
  rw [hF]; by_cases hi:i < s.length
  ·
   rw [List.drop_eq_getElem_cons hi,zK,if_pos (by simp; omega),vF hi]; simp only [av]; cases e:dF s[i] with
   | false=>simp
   | true=>
    simp only [if_true]; rw [yg (by omega),VF hs hF k (i + 1) (by omega) (by omega)]; simp only [Option.some.injEq,Int.natCast_inj]; omega
  ·
   have:i=s.length:=by omega
   subst this; simp [jv]
theorem Cm {s:Str} (hs:s.length < 4611686018427387904):CR s=some (jv dF s:Int):=by
 have:=VF (F:=yZ s) hs (fun k i=>rfl) BIG 0 (by have:=iJ; omega) (by omega); simpa [CR] using this
theorem QN {s:Str} (hs:s.length < 4611686018427387904) {i:Nat} (hi:i≤s.length):ML s (i:Int)=some ((i + jv dF (s.drop i):Nat):Int):=
 VF (F:=Db s) hs (fun k i=>rfl) BIG i (by have:=iJ; omega) hi
theorem sV {s:Str} {i:Nat} (h:i≤s.length):sl s (i:Int) (s.length:Int)=some (s.drop i):=by
 rw [QF (by omega) (by omega) (by omega)]; simp
theorem XJ {s:Str} {i:Nat} (h:i≤s.length):sl s 0 (i:Int)=some (s.take i):=by
 rw [QF (by omega) (by omega) (by omega)]; simp
theorem trimB (s:Str):∀ (k:Nat),s.length < k→s.length < 4611686018427387904→gY 48 k s=some (dz s):=by
 induction s with
 | nil=>intro k h _; cases k with
  | zero=>simp at h
  | succ k=>simp [gY,dz]
 | cons c s ih=>
  intro k h hs; cases k with
  | zero=>simp at h
  | succ k=>
   simp only [List.length_cons] at h hs; rw [gY,if_pos (by simp)]; have e0:idx (c :: s) 0=some c:=by simp [idx]
   rw [e0]; simp only [av]; have e1:((48:UInt8).toNat:Int)=48:=rfl; rw [e1]; unfold dz; rw [List.dropWhile_cons]; cases e:((c.toNat:Int) == 48) with
   | false=>simp
   | true=>
    simp only [if_true]; have e2:=sV (s:=c :: s) (i:=1) (by simp); simp only [List.drop_one,List.tail_cons] at e2; rw [show ((1:Nat):Int)=1 from rfl] at e2; rw [e2]; simp only [av]; exact ih k (by omega) (by omega)
theorem abg {s:Str} (hs:s.length < 4611686018427387904):oC s ([48]:Str)=some (dz s):=by
 unfold oC; cases s with
 | nil=>simp [dz]
 | cons c s=>
  rw [if_neg (by simp),if_pos (by simp)]; have e0:idx ([48]:Str) 0=some 48:=rfl; rw [e0]; simp only [av]; rw [if_pos (by decide)]; exact trimB _ BIG (by have:=iJ; omega) hs
theorem Ur {s:Str} (hs:s.length < 4611686018427387904):∀ (k i:Nat),s.length < k + i→i≤s.length→vo s k (i:Int)=some (dz (s.drop i))
 | 0,i,h,h'=>by omega
 | k + 1,i,h,h'=>by
  rw [vo]; by_cases hi:i < s.length
  ·
   rw [List.drop_eq_getElem_cons hi,if_pos (by simp; omega),vF hi]; simp only [av]; unfold dz; rw [List.dropWhile_cons]; cases e:((s[i].toNat:Int) == 48) with
   | false=>
    simp only [Bool.false_eq_true,if_false]; rw [sV (by omega),List.drop_eq_getElem_cons hi]
   | true=>
    simp only [if_true]; rw [yg (by omega)]; exact Ur hs k (i + 1) (by omega) (by omega)
  ·
   have:i=s.length:=by omega
   subst this; rw [if_neg (by simp)]; simp only [av,Bool.false_eq_true,if_false]; rw [sV (by omega)]; simp [dz]
theorem XA {s:Str} (hs:s.length < 4611686018427387904):CO s=some (dz s):=by
 have:=Ur hs BIG 0 (by have:=iJ; omega) (by omega); simpa [CO] using this
def xW (p q:Bool):Int:=if p then -1 else if q then 1 else 0
def tH (x y:Int):Int:=xW (decide (x < y)) (decide (y < x))
def Kv (x y:Str):Int:=xW (Go.Op.bytesLess x y) (!(Go.Op.bytesLess x y || x == y))
theorem Cg (p q:Bool):vv p q=some (xW p q):=by
 unfold vv xW; cases p <;> cases q <;> rfl
theorem rU (x y:Int):cmp_Compare_int x y=some (tH x y):=by
 unfold cmp_Compare_int tH xW cmp_isNaN_int; by_cases h1:x < y <;> by_cases h2:y < x <;> simp [h1,h2]
theorem JB (x y:UInt8):qX x y=some (tH x.toNat y.toNat):=by
 unfold qX tH xW uE; by_cases h1:(x.toNat:Int) < y.toNat <;> by_cases h2:(y.toNat:Int) < x.toNat <;> simp [h1,h2]
theorem RP (x y:Str):mq x y=some (Kv x y):=by
 unfold mq Kv xW cmp_isNaN_string; cases h1:Go.Op.bytesLess x y <;> cases h2:(x == y) <;> simp
theorem Ae :∀ x:Str,Go.Op.bytesLess x x=false
 | []=>rfl
 | c :: x=>by
  unfold Go.Op.bytesLess; have:=Ae x; simp [this]
theorem adl (a b c:Int):Dz ([a,b,c]:List Int)=some (if a != 0 then a else if b != 0 then b else c):=by
 have:=bZ (F:=fun k (_:Unit) i=>wG [a,b,c] k i) (l:=[a,b,c]) (body:=fun _ acp _ r=>if acp != 0 then some acp else r ()) (fin:=fun _=>some 0) (by simp)
  (fun k s i=>rfl) ()
 unfold Dz; rw [this]; simp only [bY]; by_cases h1:a=0 <;> by_cases h2:b=0 <;> by_cases h3:c=0 <;> simp [h1,h2,h3]
def RQ (a b:Str):Int:=
 if ((dz a).length:Int) != ((dz b).length:Int) then tH (dz a).length (dz b).length else if !(dz a == dz b) then Kv (dz a) (dz b) else tH a.length b.length
theorem ama (s:Str):(dz s).length≤s.length:=(List.dropWhile_sublist _).length_le
theorem Ga {x y:Int}:tH x y=0↔x=y:=by
 unfold tH xW; by_cases h1:x < y <;> by_cases h2:y < x <;> simp [h1,h2] <;> omega
theorem abZ {x y:Str} (h:x≠y):Kv x y≠0:=by
 unfold Kv xW; cases h1:Go.Op.bytesLess x y <;> simp [h]
theorem adn (x:Str):Kv x x=0:=by
 unfold Kv xW; simp [Ae]
theorem QZ {a b:Str} (ha:a.length < 4611686018427387904) (hb:b.length < 4611686018427387904):wD a b=some (RQ a b):=by
 unfold wD RQ; rw [abg ha,abg hb]; simp only [av,rU,RP,adl,Option.some.injEq]; by_cases h1:((dz a).length:Int)=((dz b).length:Int)
 ·
  have e1:tH (dz a).length (dz b).length=0:=Ga.2 h1; rw [e1]; by_cases h2:dz a=dz b
  · rw [h2,adn]; simp
  ·
   have:=abZ h2; simp [h1,h2,this]
 ·
  have e1:tH (dz a).length (dz b).length≠0:=fun h=>h1 (Ga.1 h); rw [if_pos (by simpa using e1),if_pos (by simpa using h1)]
theorem ag_ {a b:Str} (ha:a.length < 4611686018427387904) (hb:b.length < 4611686018427387904):I5 a b=some (RQ a b):=by
 unfold I5 RQ; rw [XA ha,XA hb]; simp only [av,Cg]; by_cases h1:((dz a).length:Int)=((dz b).length:Int)
 ·
  by_cases h2:dz a=dz b
  · simp [h2,tH]
  · simp [h1,h2,Kv]
 · simp [h1,tH]
theorem Ut {s:Str} (h:s≠[]):0 < jv dF s↔dF (s.head h)=true:=by
 cases s with
 | nil=>exact absurd rfl h
 | cons c s=>rw [zK]; cases e:dF c <;> simp [e]
theorem JA {a b:Str} (ha:a.length < 4611686018427387904) (hb:b.length < 4611686018427387904):∀ (k k' i j:Nat),i≤a.length→j≤b.length→a.length < k + i→a.length < k' + i→
  jQ k (a.drop i) (b.drop j)=mY a b k' (i:Int) (j:Int)∧∃ c,mY a b k' (i:Int) (j:Int)=some c
 | 0,k',i,j,_,_,h,_=>by omega
 | k + 1,0,i,j,_,_,_,h=>by omega
 | k + 1,k' + 1,i,j,hi,hj,hk,hk'=>by
  rw [jQ,mY]; by_cases h1:i < a.length
  ·
   by_cases h2:j < b.length
   ·
    have ea:=List.drop_eq_getElem_cons h1; have eb:=List.drop_eq_getElem_cons h2; have na:a.drop i≠[]:=fun h=>by simp at h; omega
    have nb:b.drop j≠[]:=fun h=>by simp at h; omega
    have la:(a.drop i).length=a.length - i:=by simp
    have lb:(b.drop j).length=b.length - j:=by simp
    have sa:=AU dF (a.drop i); have sb:=AU dF (b.drop j); have pa:=Ut na; have pb:=Ut nb; have alZ:(a.drop i).head na=a[i]:=by simp
    have alY:(b.drop j).head nb=b[j]:=by simp
    rw [alZ] at pa; rw [alY] at pb; rw [if_pos (by simp [h1,h2]),if_pos (by simp; omega),Cm (by omega),Cm (by omega),vF h1,vF h2]; simp only [av,Cg,aeE]; have i0:idx (a.drop i) 0=some a[i]:=by rw [ea]; rfl
    have j0:idx (b.drop j) 0=some b[j]:=by rw [eb]; rfl
    have hone:(if dF a[i]=true then some (dF b[j]) else some false)=some (dF a[i] && dF b[j]):=by cases dF a[i] <;> simp
    rw [hone]; simp only [av]; cases hd:(dF a[i] && dF b[j]) with
    | true=>
     simp only [Bool.and_eq_true] at hd; have q1:=pa.2 hd.1; have q2:=pb.2 hd.2; rw [if_pos (by simp; omega)]; simp only [if_true]; rw [QN ha (by omega),QN hb (by omega),XJ sa,XJ sb]; simp only [av]
     have e1:sl a (i:Int) ((i + jv dF (a.drop i):Nat):Int)=some ((a.drop i).take (jv dF (a.drop i))):=by
      rw [QF (by omega) (by omega) (by omega)]; simp only [Int.toNat_natCast,Option.some.injEq]; rw [List.drop_take,Nat.add_sub_cancel_left]
     have e2:sl b (j:Int) ((j + jv dF (b.drop j):Nat):Int)=some ((b.drop j).take (jv dF (b.drop j))):=by
      rw [QF (by omega) (by omega) (by omega)]; simp only [Int.toNat_natCast,Option.some.injEq]; rw [List.drop_take,Nat.add_sub_cancel_left]
     rw [e1,e2]; simp only [av]; rw [QZ (by simp; omega) (by simp; omega),ag_ (by simp; omega) (by simp; omega)]; simp only [av]; by_cases hc:RQ ((a.drop i).take (jv dF (a.drop i))) ((b.drop j).take (jv dF (b.drop j)))=0
     ·
      rw [if_neg (by simp [hc]),if_neg (by simp [hc]),sV sa,sV sb]; simp only [av,List.drop_drop]; exact JA ha hb k k' _ _ (by omega) (by omega) (by omega) (by omega)
     ·
      rw [if_pos (by simpa using hc),if_pos (by simpa using hc)]; exact ⟨rfl,_,rfl⟩
    | false=>
     rw [if_neg (by
      simp only [Bool.and_eq_true,decide_eq_true_eq,not_and]; intro h3 h4; have:=pa.1 (by omega); have:=pb.1 (by omega)
      simp_all)]
     simp only [Bool.false_eq_true,if_false]; rw [i0,j0]; simp only [av,JB]; by_cases hc:(a[i].toNat:Int)=(b[j].toNat:Int)
     ·
      rw [if_neg (by simpa using hc)]; have:xW (decide ((a[i].toNat:Int) < (b[j].toNat:Int))) (decide ((b[j].toNat:Int) < (a[i].toNat:Int)))=0:=by simp [xW,hc]
      rw [this,if_neg (by simp),yg (by omega),yg (by omega)]; have s1:=sV (s:=a.drop i) (i:=1) (by omega); have s2:=sV (s:=b.drop j) (i:=1) (by omega); rw [show ((1:Nat):Int)=1 from rfl] at s1 s2; rw [s1,s2]; simp only [av,List.drop_drop]; exact JA ha hb k k' _ _ (by omega) (by omega) (by omega) (by omega)
     ·
      rw [if_pos (by simpa using hc)]; have e3:tH (a[i].toNat) (b[j].toNat)≠0:=fun h=>hc (Ga.1 h); have:xW (decide ((a[i].toNat:Int) < (b[j].toNat:Int))) (decide ((b[j].toNat:Int) < (a[i].toNat:Int)))=tH (a[i].toNat) (b[j].toNat):=rfl; rw [this,if_pos (by simpa using e3)]; exact ⟨rfl,_,rfl⟩
   ·
    have eb:b.drop j=[]:=by simp; omega
    rw [eb,if_neg (by simp),if_neg (by simp; omega),Cg,rU]; refine ⟨?_,_,rfl⟩; unfold tH; congr 2 <;> simp <;> omega
  ·
   have ea:a.drop i=[]:=by simp; omega
   rw [ea,if_neg (by simp),if_neg (by simp; omega),Cg,rU]; refine ⟨?_,_,rfl⟩; unfold tH; congr 2 <;> simp <;> omega
theorem RO {a b:Str} (ha:a.length < 4611686018427387904) (hb:b.length < 4611686018427387904):∃ c,iW a b=some c∧pX a b=some c:=by
 obtain ⟨h1,c,h2⟩:=JA ha hb BIG BIG 0 0 (by omega) (by omega) (by have:=iJ; omega) (by have:=iJ; omega); refine ⟨c,?_,by simpa [pX] using h2⟩; rw [←h2]; simpa [iW] using h1
end Go.Ft
namespace Go.Ft
open Go
theorem UR :∀ l,rA l l=0
 | []=>rfl
 | a :: l=>by simp [rA,UR l]
theorem UQ :∀ {l m:List Nat},rA l m=0→l=m
 | [],[],_=>rfl
 | [],_ :: _,h=>by simp [rA] at h
 | _ :: _,[],h=>by simp [rA] at h
 | a :: l,b :: m,h=>by
  simp only [rA] at h; by_cases h1:a < b
  · simp [h1] at h
  ·
   by_cases h2:b < a
   · simp [h1,h2] at h
   ·
    simp only [h1,h2,if_false] at h; rw [UQ h,show a=b from by omega]
theorem Ym :∀ l m:List Nat,rA m l=- rA l m
 | [],[]=>rfl
 | [],_ :: _=>rfl
 | _ :: _,[]=>rfl
 | a :: l,b :: m=>by
  simp only [rA]; by_cases h1:a < b
  · simp [h1,show ¬ b < a by omega]
  ·
   by_cases h2:b < a
   · simp [h1,h2]
   · simp only [h1,h2,if_false]; exact Ym l m
theorem Ri :∀ l m:List Nat,rA l m=-1∨rA l m=0∨rA l m=1
 | [],[]=>.inr (.inl rfl)
 | [],_ :: _=>.inl rfl
 | _ :: _,[]=>.inr (.inr rfl)
 | a :: l,b :: m=>by
  simp only [rA]; by_cases h1:a < b
  · simp [h1]
  ·
   by_cases h2:b < a
   · simp [h1,h2]
   · simp only [h1,h2,if_false]; exact Ri l m
theorem Rh :∀ {a b c:List Nat},rA a b < 0→rA b c < 0→rA a c < 0
 | [],[],c,h,_=>by simp [rA] at h
 | [],_ :: _,[],_,h=>by simp [rA] at h
 | [],_ :: _,_ :: _,_,_=>by simp [rA]
 | _ :: _,[],c,h,_=>by simp [rA] at h
 | _ :: _,_ :: _,[],_,h=>by simp [rA] at h
 | x :: a,y :: b,z :: c,h,k=>by
  simp only [rA] at h k ⊢; by_cases h1:x < y
  ·
   by_cases k1:y < z
   · simp [show x < z by omega]
   ·
    by_cases k2:z < y
    · simp [k1,k2] at k
    · simp [show x < z by omega]
  ·
   by_cases h2:y < x
   · simp [h1,h2] at h
   ·
    simp only [h1,h2,if_false] at h; by_cases k1:y < z
    · simp [show x < z by omega]
    ·
     by_cases k2:z < y
     · simp [k1,k2] at k
     ·
      simp only [k1,k2,if_false] at k; simp only [show ¬ x < z by omega,show ¬ z < x by omega,if_false]; exact Rh h k
theorem Rj :∀ (xs ys:Str) (u v:List Nat),xs.length=ys.length→rA (xs.map UInt8.toNat ++ u) (ys.map UInt8.toNat ++ v)=if xs=ys then rA u v else Kv xs ys
 | [],[],u,v,_=>by simp
 | [],_ :: _,_,_,h=>by simp at h
 | _ :: _,[],_,_,h=>by simp at h
 | x :: xs,y :: ys,u,v,h=>by
  simp only [List.map_cons,List.cons_append,rA]; have ih:=Rj xs ys u v (by simpa using h); have e1:(x < y)=(x.toNat < y.toNat):=by rw [UInt8.lt_iff_toNat_lt]
  have e2:(y < x)=(y.toNat < x.toNat):=by rw [UInt8.lt_iff_toNat_lt]
  by_cases h1:x.toNat < y.toNat
  ·
   have:x≠y:=fun e=>by subst e; omega
   simp [h1,this,Kv,xW,Go.Op.bytesLess,e1]
  ·
   by_cases h2:y.toNat < x.toNat
   ·
    have:x≠y:=fun e=>by subst e; omega
    simp [h1,h2,this,Kv,xW,Go.Op.bytesLess,e1]
   ·
    have:x=y:=UInt8.toNat_inj.1 (by omega); subst this; simp only [h1,if_false,ih,List.cons.injEq,true_and]; by_cases h3:xs=ys
    · simp [h3]
    ·
     simp only [h3,if_false,Kv,Go.Op.bytesLess,e1,h1,decide_false,Bool.false_or,beq_self_eq_true,Bool.true_and]; congr 1; simp
theorem J5 (s:Str):(s.take (jv dF s)).length=jv dF s:=by
 have:=AU dF s; simp; omega
theorem IG {c:UInt8} {s:Str} (h:dF c=true):0 < jv dF (c :: s):=by rw [zK,if_pos h]; omega
theorem N_ :∀ (k m:Nat) (s:Str),s.length≤k→s.length≤m→Rm k s=Rm m s
 | 0,0,_,_,_=>rfl
 | 0,m + 1,s,h,_=>by
  have:s=[]:=List.eq_nil_of_length_eq_zero (by omega); subst this; rfl
 | k + 1,0,s,_,h=>by
  have:s=[]:=List.eq_nil_of_length_eq_zero (by omega); subst this; rfl
 | k + 1,m + 1,[],_,_=>rfl
 | k + 1,m + 1,c :: s,h1,h2=>by
  simp only [Rm]; simp only [List.length_cons] at h1 h2; cases e:dF c with
  | true=>
   have:=IG (s:=s) e; have:=AU dF (c :: s); simp only [if_true]; rw [N_ k m _ (by simp; omega) (by simp; omega)]
  | false=>
   simp only [Bool.false_eq_true,if_false]; rw [N_ k m s (by omega) (by omega)]
theorem Yr {k:Nat} {s:Str} (h:s.length≤k):Rm k s=key s:=N_ _ _ _ h (Nat.le_refl _)
theorem GQ :key []=[]:=rfl
theorem wM {c:UInt8} {s:Str} (h:dF c=true):key (c :: s)=48 :: (dz ((c :: s).take (jv dF (c :: s)))).length :: ((dz ((c :: s).take (jv dF (c :: s)))).map UInt8.toNat ++ jv dF (c :: s) :: key ((c :: s).drop (jv dF (c :: s)))):=by
 have:=IG (s:=s) h; have:=AU dF (c :: s); show Rm (s.length + 1) (c :: s)=_; simp only [Rm,h,if_true]; rw [Yr (by simp; omega)]
theorem nk {c:UInt8} {s:Str} (h:dF c=false):key (c :: s)=c.toNat :: key s:=by
 show Rm (s.length + 1) (c :: s)=_; simp only [Rm,h,Bool.false_eq_true,if_false]; rw [Yr (Nat.le_refl _)]
theorem afQ (a b:Str) (u v:List Nat):rA ((dz a).length :: ((dz a).map UInt8.toNat ++ a.length :: u)) ((dz b).length :: ((dz b).map UInt8.toNat ++ b.length :: v))=if RQ a b=0 then rA u v else RQ a b:=by
 unfold RQ; simp only [rA]; by_cases h1:(dz a).length=(dz b).length
 ·
  rw [if_neg (by omega),if_neg (by omega),Rj _ _ _ _ h1]; have e:(((dz a).length:Int) != ((dz b).length:Int))=false:=by simp [h1]
  simp only [e,Bool.false_eq_true,if_false]; by_cases h2:dz a=dz b
  ·
   simp only [h2,if_true,beq_self_eq_true,Bool.not_true,Bool.false_eq_true,if_false,rA,tH,xW]; by_cases h3:a.length < b.length
   · simp [h3]
   ·
    by_cases h4:b.length < a.length
    · simp [h3,h4]
    · simp [h3,h4]
  ·
   have h3:=abZ h2; simp [h2,h3]
 ·
  have e:(((dz a).length:Int) != ((dz b).length:Int))=true:=by simp; omega
  simp only [e,if_true]; by_cases h2:(dz a).length < (dz b).length
  · simp [h2,tH,xW]
  ·
   have h3:(dz b).length < (dz a).length:=by omega
   simp [h2,h3,tH,xW]
theorem vJ {c:UInt8}:dF c=(decide (48≤c.toNat) && decide (c.toNat≤57)):=by
 unfold dF; congr 1
 · apply decide_eq_decide.2; omega
 · apply decide_eq_decide.2; omega
theorem Jd :∀ (n k:Nat) (a b:Str),a.length≤n→a.length < k→a.length < 4611686018427387904→b.length < 4611686018427387904→jQ k a b=some (gu a b)
 | _,0,_,_,_,h,_,_=>by omega
 | n,k + 1,a,b,hn,hk,ha,hb=>by
  rw [jQ]
  match a,b with
  | [],[]=>
   rw [if_neg (by simp),rU]; simp [gu,GQ,rA,tH,xW]
  | [],y :: b=>
   rw [if_neg (by simp),rU]
   have:key (y :: b)≠[]:=by
    cases e:dF y with
    | true=>rw [wM e]; simp
    | false=>rw [nk e]; simp
   cases e:key (y :: b) with
   | nil=>exact absurd e this
   | cons p q=>
    simp only [gu,GQ,e,rA,tH,xW]; rw [if_pos (by simp)]
  | x :: a,[]=>
   rw [if_neg (by simp),rU]
   have:key (x :: a)≠[]:=by
    cases e:dF x with
    | true=>rw [wM e]; simp
    | false=>rw [nk e]; simp
   cases e:key (x :: a) with
   | nil=>exact absurd e this
   | cons p q=>
    simp only [gu,GQ,e,rA,tH,xW]; rw [if_neg (by simp; omega),if_pos (by simp)]
  | x :: a,y :: b=>
   have sa:=AU dF (x :: a); have sb:=AU dF (y :: b); have i0:idx (x :: a) 0=some x:=rfl; have j0:idx (y :: b) 0=some y:=rfl; rw [if_pos (by simp),Cm ha,Cm hb]; simp only [av]; cases e1:dF x with
   | true=>
    have p1:=IG (s:=a) e1; cases e2:dF y with
    | true=>
     have p2:=IG (s:=b) e2; rw [if_pos (by simp; omega),XJ sa,XJ sb]; simp only [av]; rw [QZ (by simp; omega) (by simp; omega)]; simp only [av]; have hc:=afQ ((x :: a).take (jv dF (x :: a))) ((y :: b).take (jv dF (y :: b))) (key ((x :: a).drop (jv dF (x :: a)))) (key ((y :: b).drop (jv dF (y :: b)))); rw [J5,J5] at hc
     have e3:gu (x :: a) (y :: b)=if RQ ((x :: a).take (jv dF (x :: a))) ((y :: b).take (jv dF (y :: b)))=0 then rA (key ((x :: a).drop (jv dF (x :: a)))) (key ((y :: b).drop (jv dF (y :: b)))) else RQ ((x :: a).take (jv dF (x :: a))) ((y :: b).take (jv dF (y :: b))):=by
      rw [←hc,gu,wM e1,wM e2,rA,if_neg (by omega),if_neg (by omega)]
     rw [e3]; by_cases h0:RQ ((x :: a).take (jv dF (x :: a))) ((y :: b).take (jv dF (y :: b)))=0
     ·
      rw [if_neg (by simpa using h0),if_pos h0,sV sa,sV sb]; simp only [av]
      match n,hn with
      | n + 1,hn=>
       exact Jd n k _ _ (by simp at hn ⊢; omega) (by simp at hk ⊢; omega) (by simp at ha ⊢; omega) (by simp at hb ⊢; omega)
     · rw [if_pos (by simpa using h0),if_neg h0]
    | false=>
     have q2:jv dF (y :: b)=0:=by rw [zK,e2]; rfl
     rw [if_neg (by simp [q2]),i0,j0]; simp only [av,JB]; have d1:=vJ (c:=x); rw [e1] at d1; have d2:=vJ (c:=y); rw [e2] at d2; simp only [Bool.and_eq_true,Bool.false_eq,Bool.and_eq_false_iff,decide_eq_false_iff_not,Bool.true_eq,decide_eq_true_eq] at d1 d2; rw [if_pos (by simp; omega)]; rw [gu,wM e1,nk e2,rA,tH,xW]; by_cases h1:x.toNat < y.toNat
     · rw [if_pos (by simp; omega),if_pos (by omega)]
     · rw [if_neg (by simp; omega),if_pos (by simp; omega),if_neg (by omega),if_pos (by omega)]
   | false=>
    have q1:jv dF (x :: a)=0:=by rw [zK,e1]; rfl
    rw [if_neg (by simp [q1]),i0,j0]; simp only [av,JB]; by_cases h0:x=y
    ·
     subst h0; rw [if_neg (by simp)]; have s1:=sV (s:=x :: a) (i:=1) (by simp); have s2:=sV (s:=x :: b) (i:=1) (by simp); rw [show ((1:Nat):Int)=1 from rfl] at s1 s2; rw [s1,s2]; simp only [av,List.drop_succ_cons,List.drop_zero]; rw [gu,nk e1,nk e1,rA,if_neg (by omega),if_neg (by omega)]
     match n,hn with
     | n + 1,hn=>exact Jd n k a b (by simp at hn; omega) (by simp at hk; omega) (by simp at ha; omega) (by simp at hb; omega)
    ·
     have h1:x.toNat≠y.toNat:=fun h=>h0 (UInt8.toNat_inj.1 h); rw [if_pos (by simp; omega)]; have d1:=vJ (c:=x); rw [e1] at d1; simp only [Bool.and_eq_true,Bool.false_eq,Bool.and_eq_false_iff,decide_eq_false_iff_not] at d1; cases e2:dF y with
     | true=>
      have d2:=vJ (c:=y); rw [e2] at d2; simp only [Bool.and_eq_true,Bool.true_eq,decide_eq_true_eq] at d2; rw [gu,nk e1,wM e2,rA,tH,xW]; by_cases h1:x.toNat < y.toNat
      · rw [if_pos (by simp; omega),if_pos (by omega)]
      · rw [if_neg (by simp; omega),if_pos (by simp; omega),if_neg (by omega),if_pos (by omega)]
     | false=>
      rw [gu,nk e1,nk e2,rA,tH,xW]; by_cases h2:x.toNat < y.toNat
      · rw [if_pos (by simp; omega),if_pos (by omega)]
      · rw [if_neg (by simp; omega),if_pos (by simp; omega),if_neg (by omega),if_pos (by omega)]
theorem N7 {a b:Str} (ha:a.length < 4611686018427387904) (hb:b.length < 4611686018427387904):iW a b=some (gu a b):=
 Jd _ BIG a b (Nat.le_refl _) (by have:=iJ; omega) ha hb
theorem Q5 {a b:Str} (ha:a.length < 4611686018427387904) (hb:b.length < 4611686018427387904):pX a b=some (gu a b):=by
 obtain ⟨c,h1,h2⟩:=RO ha hb; rw [N7 ha hb] at h1; rw [h2,←h1]
theorem Wu :∀ (r:Str),r=List.replicate (r.length - (dz r).length) (48:UInt8) ++ dz r
 | []=>rfl
 | c :: r=>by
  unfold dz; rw [List.dropWhile_cons]; by_cases h:c=48
  ·
   subst h; have ih:=Wu r; have hl:=ama r; simp only [show (((48:UInt8).toNat:Int) == 48)=true from rfl,if_true]; change _=List.replicate ((48 :: r).length - (dz r).length) (48:UInt8) ++ dz r; rw [show (48 :: r).length - (dz r).length=(r.length - (dz r).length) + 1 by simp; omega,List.replicate_succ,List.cons_append,←ih]
  ·
   have:((c.toNat:Int) == 48)=false:=by
    simp only [beq_eq_false_iff_ne,ne_eq]; intro h2; exact h (UInt8.toNat_inj.1 (by show c.toNat=48; omega))
   simp [this]
theorem key_inj :∀ (n:Nat) (a b:Str),a.length≤n→key a=key b→a=b
 | _,[],[],_,_=>rfl
 | _,[],y :: b,_,h=>by
  cases e:dF y with
  | true=>rw [wM e,GQ] at h; cases h
  | false=>rw [nk e,GQ] at h; cases h
 | _,x :: a,[],_,h=>by
  cases e:dF x with
  | true=>rw [wM e,GQ] at h; cases h
  | false=>rw [nk e,GQ] at h; cases h
 | 0,x :: a,y :: b,h,_=>by simp at h
 | n + 1,x :: a,y :: b,hn,h=>by
  cases e1:dF x with
  | true=>
   cases e2:dF y with
   | true=>
    have p1:=IG (s:=a) e1; have sa:=AU dF (x :: a); rw [wM e1,wM e2] at h; simp only [List.cons.injEq,true_and] at h; obtain ⟨h1,h2⟩:=h; obtain ⟨h3,h4⟩:=List.append_inj h2 (by simpa using h1); simp only [List.cons.injEq] at h4
    have h5:dz ((x :: a).take (jv dF (x :: a)))=dz ((y :: b).take (jv dF (y :: b))):=by
     refine List.map_inj_right (f:=UInt8.toNat) (fun p q hpq=>UInt8.toNat_inj.1 hpq) |>.1 h3
    have h6:(x :: a).take (jv dF (x :: a))=(y :: b).take (jv dF (y :: b)):=by
     rw [Wu ((x :: a).take (jv dF (x :: a))),Wu ((y :: b).take (jv dF (y :: b))),h5,J5,J5,h4.1]
    have h7:=key_inj n _ _ (by simp at hn ⊢; omega) h4.2; rw [←List.take_append_drop (jv dF (x :: a)) (x :: a),h6,h7,List.take_append_drop]
   | false=>
    rw [wM e1,nk e2] at h; simp only [List.cons.injEq] at h; have d2:=vJ (c:=y); rw [e2,←h.1] at d2; simp at d2
  | false=>
   cases e2:dF y with
   | true=>
    rw [nk e1,wM e2] at h; simp only [List.cons.injEq] at h; have d2:=vJ (c:=x); rw [e1,h.1] at d2; simp at d2
   | false=>
    rw [nk e1,nk e2] at h; simp only [List.cons.injEq] at h; rw [UInt8.toNat_inj.1 h.1,key_inj n a b (by simp at hn; omega) h.2]
theorem Yb (a:Str):gu a a=0:=UR _
theorem Es {a b:Str} (h:gu a b=0):a=b:=key_inj _ a b (Nat.le_refl _) (UQ h)
theorem zX (a b:Str):gu b a=- gu a b:=Ym _ _
theorem MQ {a b c:Str} (h:gu a b < 0) (k:gu b c < 0):gu a c < 0:=Rh h k
theorem KF {a b c:Str} (h:¬ gu a b < 0) (k:¬ gu b c < 0):¬ gu a c < 0:=by
 intro hc; by_cases h0:gu a b=0
 · rw [Es h0] at hc; exact k hc
 ·
  by_cases k0:gu b c=0
  · rw [←Es k0] at hc; exact h hc
  ·
   have h1:gu b a < 0:=by rw [zX]; omega
   have k1:gu c b < 0:=by rw [zX]; omega
   have:=MQ k1 h1; rw [zX] at this; omega
end Go.Ft
