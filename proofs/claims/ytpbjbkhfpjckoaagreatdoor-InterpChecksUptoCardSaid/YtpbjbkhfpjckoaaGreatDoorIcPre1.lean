/- Proved here: plain facts on the functional texts that the walks want. -/
import Derived.Test.YtpbjbkhfpjckoaaGreatDoorIcFt1
set_option linter.unusedVariables false
set_option linter.unusedSimpArgs false
set_option linter.unusedSectionVars false
set_option maxHeartbeats 2000000
namespace Go.Ft
open Go
attribute [local congr] gK
theorem TK {n:Int} (h:-9223372036854775808≤n∧n < 9223372036854775808):bL n=n:=PS (by omega) (by omega)
theorem mh {i:Nat} (h:i < 4611686018427387904):bL ((i:Int) + 1)=((i + 1:Nat):Int):=by rw [TK (by omega)]; omega
theorem m_ {α:Type} {l:List α} {i:Nat} (h:i < l.length):idx l (i:Int)=some (l[i]):=by rw [VH,List.getElem?_eq_getElem h]
theorem jL :9223372036854775808 < BIG:=by decide
def dR {α S R:Type} (body:Nat→α→S→(S→Option R)→Option R) (fin:S→Option R):Nat→List α→S→Option R
 | _,[],s=>fin s
 | i,x :: r,s=>body i x s fun s'=>dR body fin (i + 1) r s'
theorem RJ {α S R:Type} {F:Nat→S→Int→Option R} {l:List α} {body:Nat→α→S→(S→Option R)→Option R} {fin:S→Option R} (hl:l.length < 4611686018427387904)
  (hF:∀ k s (i:Nat),F (k + 1) s i=if decide ((i:Int) < (l.length:Int)) then ay (idx l i) fun x=>body i x s fun s'=>F k s' (bL ((i:Int) + 1)) else fin s):
  ∀ (k i:Nat) (s:S),l.length < k + i→i≤l.length→F k s (i:Int)=dR body fin i (l.drop i) s
 | 0,i,s,h,h'=>by omega
 | k + 1,i,s,h,h'=>by
  rw [hF]; by_cases hi:i < l.length
  ·
   rw [List.drop_eq_getElem_cons hi,if_pos (by simp; omega),m_ hi,ak,dR]; congr 1; funext s'; rw [mh (by omega)]; exact RJ hl hF k (i + 1) s' (by omega) (by omega)
  ·
   have:i=l.length:=by omega
   subst this; rw [if_neg (by simp),List.drop_length,dR]
theorem dU {α S R:Type} {F:Nat→S→Int→Option R} {l:List α} {body:Nat→α→S→(S→Option R)→Option R} {fin:S→Option R} (hl:l.length < 4611686018427387904)
  (hF:∀ k s (i:Nat),F (k + 1) s i=if decide ((i:Int) < (l.length:Int)) then ay (idx l i) fun x=>body i x s fun s'=>F k s' (bL ((i:Int) + 1)) else fin s) (s:S):F BIG s 0=dR body fin 0 l s:=by
 have:=RJ hl hF BIG 0 s (by have:=jL; omega) (by omega); simpa using this
def isLet (c:UInt8):Bool:=(((decide (97≤(c.toNat:Int))) && (decide ((c.toNat:Int)≤122))) || ((decide (65≤(c.toNat:Int))) && (decide ((c.toNat:Int)≤90)))) || ((c.toNat:Int) == 95)
@[simp] theorem agW (c:UInt8):tF c=some (isLet c):=rfl
@[simp] theorem Vs (c:UInt8):lS c=some (bY c):=rfl
@[simp] theorem agB (c:UInt8):wM c=some (isLet c):=rfl
@[simp] theorem abU (c:UInt8):nk c=some (bY c):=rfl
@[simp] theorem ahZ (c:UInt8):Bu c=some (bY c):=rfl
@[simp] theorem Y4 (c:UInt8):zH c=some (bY c):=rfl
theorem wH (p:UInt8→Bool) (c:UInt8) (l:Str):iH p (c :: l)=if p c then iH p l + 1 else 0:=by
 unfold iH; rw [List.takeWhile_cons]; split <;> simp
theorem xC (p:UInt8→Bool) (l:Str):iH p l≤l.length:=by
 induction l with
 | nil=>simp [iH]
 | cons c l ih=>rw [wH]; split <;> simp <;> omega
theorem Qc {F:Nat→Int→Option Int} {s:Str} (hs:s.length < 4611686018427387904)
  (hF:∀ k (i:Nat),F (k + 1) i=ay (if decide ((i:Int) < (s.length:Int)) then ay (idx s i) fun x1=>some (bY x1) else some false) fun b1=>if b1 then F k (bL ((i:Int) + 1)) else some (i:Int)):
  ∀ (k i:Nat),s.length < k + i→i≤s.length→F k (i:Int)=some ((i + iH bY (s.drop i):Nat):Int)
 | 0,i,h,h'=>by omega
 | k + 1,i,h,h'=>by
  rw [hF]; by_cases hi:i < s.length
  ·
   rw [List.drop_eq_getElem_cons hi,wH,if_pos (by simp; omega),m_ hi]; simp only [ak]; cases e:bY s[i] with
   | false=>simp
   | true=>
    simp only [if_true]; rw [mh (by omega),Qc hs hF k (i + 1) (by omega) (by omega)]; simp only [Option.some.injEq,Int.natCast_inj]; omega
  ·
   have:i=s.length:=by omega
   subst this; simp [iH]
theorem zh {s:Str} (hs:s.length < 4611686018427387904):zI s=some (iH bY s:Int):=by
 have:=Qc (F:=vQ s) hs (fun k i=>rfl) BIG 0 (by have:=jL; omega) (by omega); simpa [zI] using this
theorem LZ {s:Str} (hs:s.length < 4611686018427387904) {i:Nat} (hi:i≤s.length):Ig s (i:Int)=some ((i + iH bY (s.drop i):Nat):Int):=
 Qc (F:=Ah s) hs (fun k i=>rfl) BIG i (by have:=jL; omega) hi
theorem tX {s:Str} {i:Nat} (h:i≤s.length):sl s (i:Int) (s.length:Int)=some (s.drop i):=by
 rw [bD (by omega) (by omega) (by omega)]; simp
theorem Vm {s:Str} {i:Nat} (h:i≤s.length):sl s 0 (i:Int)=some (s.take i):=by
 rw [bD (by omega) (by omega) (by omega)]; simp
theorem trimB (s:Str):∀ (k:Nat),s.length < k→s.length < 4611686018427387904→gG 48 k s=some (dz s):=by
 induction s with
 | nil=>intro k h _; cases k with
  | zero=>simp at h
  | succ k=>simp [gG,dz]
 | cons c s ih=>
  intro k h hs; cases k with
  | zero=>simp at h
  | succ k=>
   simp only [List.length_cons] at h hs; rw [gG,if_pos (by simp)]; have e0:idx (c :: s) 0=some c:=by simp [idx]
   rw [e0]; simp only [ak]; have e1:((48:UInt8).toNat:Int)=48:=rfl; rw [e1]; unfold dz; rw [List.dropWhile_cons]; cases e:((c.toNat:Int) == 48) with
   | false=>simp
   | true=>
    simp only [if_true]; have e2:=tX (s:=c :: s) (i:=1) (by simp); simp only [List.drop_one,List.tail_cons] at e2; rw [show ((1:Nat):Int)=1 from rfl] at e2; rw [e2]; simp only [ak]; exact ih k (by omega) (by omega)
theorem Vj {s:Str} (hs:s.length < 4611686018427387904):mE s ([48]:Str)=some (dz s):=by
 unfold mE; cases s with
 | nil=>simp [dz]
 | cons c s=>
  rw [if_neg (by simp),if_pos (by simp)]; have e0:idx ([48]:Str) 0=some 48:=rfl; rw [e0]; simp only [ak]; rw [if_pos (by decide)]; exact trimB _ BIG (by have:=jL; omega) hs
theorem OW {s:Str} (hs:s.length < 4611686018427387904):∀ (k i:Nat),s.length < k + i→i≤s.length→rY s k (i:Int)=some (dz (s.drop i))
 | 0,i,h,h'=>by omega
 | k + 1,i,h,h'=>by
  rw [rY]; by_cases hi:i < s.length
  ·
   rw [List.drop_eq_getElem_cons hi,if_pos (by simp; omega),m_ hi]; simp only [ak]; unfold dz; rw [List.dropWhile_cons]; cases e:((s[i].toNat:Int) == 48) with
   | false=>
    simp only [Bool.false_eq_true,if_false]; rw [tX (by omega),List.drop_eq_getElem_cons hi]
   | true=>
    simp only [if_true]; rw [mh (by omega)]; exact OW hs k (i + 1) (by omega) (by omega)
  ·
   have:i=s.length:=by omega
   subst this; rw [if_neg (by simp)]; simp only [ak,Bool.false_eq_true,if_false]; rw [tX (by omega)]; simp [dz]
theorem RG {s:Str} (hs:s.length < 4611686018427387904):zG s=some (dz s):=by
 have:=OW hs BIG 0 (by have:=jL; omega) (by omega); simpa [zG] using this
def yZ (p q:Bool):Int:=if p then -1 else if q then 1 else 0
def yG (x y:Int):Int:=yZ (decide (x < y)) (decide (y < x))
def KG (x y:Str):Int:=yZ (Go.Op.bytesLess x y) (!(Go.Op.bytesLess x y || x == y))
theorem yV (p q:Bool):rZ p q=some (yZ p q):=by
 unfold rZ yZ; cases p <;> cases q <;> rfl
theorem wT (x y:Int):cmp_Compare_int x y=some (yG x y):=by
 unfold cmp_Compare_int yG yZ cmp_isNaN_int; by_cases h1:x < y <;> by_cases h2:y < x <;> simp [h1,h2]
theorem EZ (x y:UInt8):o9 x y=some (yG x.toNat y.toNat):=by
 unfold o9 yG yZ rM; by_cases h1:(x.toNat:Int) < y.toNat <;> by_cases h2:(y.toNat:Int) < x.toNat <;> simp [h1,h2]
theorem UE (x y:Str):mO x y=some (KG x y):=by
 unfold mO KG yZ cmp_isNaN_string; cases h1:Go.Op.bytesLess x y <;> cases h2:(x == y) <;> simp
theorem CU :∀ x:Str,Go.Op.bytesLess x x=false
 | []=>rfl
 | c :: x=>by
  unfold Go.Op.bytesLess; have:=CU x; simp [this]
theorem XE (a b c:Int):AB ([a,b,c]:List Int)=some (if a != 0 then a else if b != 0 then b else c):=by
 have:=dU (F:=fun k (_:Unit) i=>tQ [a,b,c] k i) (l:=[a,b,c]) (body:=fun _ YG _ r=>if YG != 0 then some YG else r ()) (fin:=fun _=>some 0) (by simp)
  (fun k s i=>rfl) ()
 unfold AB; rw [this]; simp only [dR]; by_cases h1:a=0 <;> by_cases h2:b=0 <;> by_cases h3:c=0 <;> simp [h1,h2,h3]
def M9 (a b:Str):Int:=
 if ((dz a).length:Int) != ((dz b).length:Int) then yG (dz a).length (dz b).length else if !(dz a == dz b) then KG (dz a) (dz b) else yG a.length b.length
theorem ahy (s:Str):(dz s).length≤s.length:=(List.dropWhile_sublist _).length_le
theorem JJ {x y:Int}:yG x y=0↔x=y:=by
 unfold yG yZ; by_cases h1:x < y <;> by_cases h2:y < x <;> simp [h1,h2] <;> omega
theorem VU {x y:Str} (h:x≠y):KG x y≠0:=by
 unfold KG yZ; cases h1:Go.Op.bytesLess x y <;> simp [h]
theorem XF (x:Str):KG x x=0:=by
 unfold KG yZ; simp [CU]
theorem Md {a b:Str} (ha:a.length < 4611686018427387904) (hb:b.length < 4611686018427387904):tK a b=some (M9 a b):=by
 unfold tK M9; rw [Vj ha,Vj hb]; simp only [ak,wT,UE,XE,Option.some.injEq]; by_cases h1:((dz a).length:Int)=((dz b).length:Int)
 ·
  have e1:yG (dz a).length (dz b).length=0:=JJ.2 h1; rw [e1]; by_cases h2:dz a=dz b
  · rw [h2,XF]; simp
  ·
   have:=VU h2; simp [h1,h2,this]
 ·
  have e1:yG (dz a).length (dz b).length≠0:=fun h=>h1 (JJ.1 h); rw [if_pos (by simpa using e1),if_pos (by simpa using h1)]
theorem abO {a b:Str} (ha:a.length < 4611686018427387904) (hb:b.length < 4611686018427387904):EA a b=some (M9 a b):=by
 unfold EA M9; rw [RG ha,RG hb]; simp only [ak,yV]; by_cases h1:((dz a).length:Int)=((dz b).length:Int)
 ·
  by_cases h2:dz a=dz b
  · simp [h2,yG]
  · simp [h1,h2,KG]
 · simp [h1,yG]
theorem OY {s:Str} (h:s≠[]):0 < iH bY s↔bY (s.head h)=true:=by
 cases s with
 | nil=>exact absurd rfl h
 | cons c s=>rw [wH]; cases e:bY c <;> simp [e]
theorem EY {a b:Str} (ha:a.length < 4611686018427387904) (hb:b.length < 4611686018427387904):∀ (k k' i j:Nat),i≤a.length→j≤b.length→a.length < k + i→a.length < k' + i→
  iW k (a.drop i) (b.drop j)=kY a b k' (i:Int) (j:Int)∧∃ c,kY a b k' (i:Int) (j:Int)=some c
 | 0,k',i,j,_,_,h,_=>by omega
 | k + 1,0,i,j,_,_,_,h=>by omega
 | k + 1,k' + 1,i,j,hi,hj,hk,hk'=>by
  rw [iW,kY]; by_cases h1:i < a.length
  ·
   by_cases h2:j < b.length
   ·
    have ea:=List.drop_eq_getElem_cons h1; have eb:=List.drop_eq_getElem_cons h2; have na:a.drop i≠[]:=fun h=>by simp at h; omega
    have nb:b.drop j≠[]:=fun h=>by simp at h; omega
    have la:(a.drop i).length=a.length - i:=by simp
    have lb:(b.drop j).length=b.length - j:=by simp
    have sa:=xC bY (a.drop i); have sb:=xC bY (b.drop j); have pa:=OY na; have pb:=OY nb; have ahl:(a.drop i).head na=a[i]:=by simp
    have ahk:(b.drop j).head nb=b[j]:=by simp
    rw [ahl] at pa; rw [ahk] at pb; rw [if_pos (by simp [h1,h2]),if_pos (by simp; omega),zh (by omega),zh (by omega),m_ h1,m_ h2]; simp only [ak,yV,Y4]; have i0:idx (a.drop i) 0=some a[i]:=by rw [ea]; rfl
    have j0:idx (b.drop j) 0=some b[j]:=by rw [eb]; rfl
    have hone:(if bY a[i]=true then some (bY b[j]) else some false)=some (bY a[i] && bY b[j]):=by cases bY a[i] <;> simp
    rw [hone]; simp only [ak]; cases hd:(bY a[i] && bY b[j]) with
    | true=>
     simp only [Bool.and_eq_true] at hd; have q1:=pa.2 hd.1; have q2:=pb.2 hd.2; rw [if_pos (by simp; omega)]; simp only [if_true]; rw [LZ ha (by omega),LZ hb (by omega),Vm sa,Vm sb]; simp only [ak]
     have e1:sl a (i:Int) ((i + iH bY (a.drop i):Nat):Int)=some ((a.drop i).take (iH bY (a.drop i))):=by
      rw [bD (by omega) (by omega) (by omega)]; simp only [Int.toNat_natCast,Option.some.injEq]; rw [List.drop_take,Nat.add_sub_cancel_left]
     have e2:sl b (j:Int) ((j + iH bY (b.drop j):Nat):Int)=some ((b.drop j).take (iH bY (b.drop j))):=by
      rw [bD (by omega) (by omega) (by omega)]; simp only [Int.toNat_natCast,Option.some.injEq]; rw [List.drop_take,Nat.add_sub_cancel_left]
     rw [e1,e2]; simp only [ak]; rw [Md (by simp; omega) (by simp; omega),abO (by simp; omega) (by simp; omega)]; simp only [ak]; by_cases hc:M9 ((a.drop i).take (iH bY (a.drop i))) ((b.drop j).take (iH bY (b.drop j)))=0
     ·
      rw [if_neg (by simp [hc]),if_neg (by simp [hc]),tX sa,tX sb]; simp only [ak,List.drop_drop]; exact EY ha hb k k' _ _ (by omega) (by omega) (by omega) (by omega)
     ·
      rw [if_pos (by simpa using hc),if_pos (by simpa using hc)]; exact ⟨rfl,_,rfl⟩
    | false=>
     rw [if_neg (by
      simp only [Bool.and_eq_true,decide_eq_true_eq,not_and]; intro h3 h4; have:=pa.1 (by omega); have:=pb.1 (by omega)
      simp_all)]
     simp only [Bool.false_eq_true,if_false]; rw [i0,j0]; simp only [ak,EZ]; by_cases hc:(a[i].toNat:Int)=(b[j].toNat:Int)
     ·
      rw [if_neg (by simpa using hc)]; have:yZ (decide ((a[i].toNat:Int) < (b[j].toNat:Int))) (decide ((b[j].toNat:Int) < (a[i].toNat:Int)))=0:=by simp [yZ,hc]
      rw [this,if_neg (by simp),mh (by omega),mh (by omega)]; have s1:=tX (s:=a.drop i) (i:=1) (by omega); have s2:=tX (s:=b.drop j) (i:=1) (by omega); rw [show ((1:Nat):Int)=1 from rfl] at s1 s2; rw [s1,s2]; simp only [ak,List.drop_drop]; exact EY ha hb k k' _ _ (by omega) (by omega) (by omega) (by omega)
     ·
      rw [if_pos (by simpa using hc)]; have e3:yG (a[i].toNat) (b[j].toNat)≠0:=fun h=>hc (JJ.1 h); have:yZ (decide ((a[i].toNat:Int) < (b[j].toNat:Int))) (decide ((b[j].toNat:Int) < (a[i].toNat:Int)))=yG (a[i].toNat) (b[j].toNat):=rfl; rw [this,if_pos (by simpa using e3)]; exact ⟨rfl,_,rfl⟩
   ·
    have eb:b.drop j=[]:=by simp; omega
    rw [eb,if_neg (by simp),if_neg (by simp; omega),yV,wT]; refine ⟨?_,_,rfl⟩; unfold yG; congr 2 <;> simp <;> omega
  ·
   have ea:a.drop i=[]:=by simp; omega
   rw [ea,if_neg (by simp),if_neg (by simp; omega),yV,wT]; refine ⟨?_,_,rfl⟩; unfold yG; congr 2 <;> simp <;> omega
theorem M8 {a b:Str} (ha:a.length < 4611686018427387904) (hb:b.length < 4611686018427387904):∃ c,ow a b=some c∧nK a b=some c:=by
 obtain ⟨h1,c,h2⟩:=EY ha hb BIG BIG 0 0 (by omega) (by omega) (by have:=jL; omega) (by have:=jL; omega); refine ⟨c,?_,by simpa [nK] using h2⟩; rw [←h2]; simpa [ow] using h1
end Go.Ft
namespace Go.Ft
open Go
theorem Pf :∀ l,qI l l=0
 | []=>rfl
 | a :: l=>by simp [qI,Pf l]
theorem Pe :∀ {l m:List Nat},qI l m=0→l=m
 | [],[],_=>rfl
 | [],_ :: _,h=>by simp [qI] at h
 | _ :: _,[],h=>by simp [qI] at h
 | a :: l,b :: m,h=>by
  simp only [qI] at h; by_cases h1:a < b
  · simp [h1] at h
  ·
   by_cases h2:b < a
   · simp [h1,h2] at h
   ·
    simp only [h1,h2,if_false] at h; rw [Pe h,show a=b from by omega]
theorem Sd :∀ l m:List Nat,qI m l=- qI l m
 | [],[]=>rfl
 | [],_ :: _=>rfl
 | _ :: _,[]=>rfl
 | a :: l,b :: m=>by
  simp only [qI]; by_cases h1:a < b
  · simp [h1,show ¬ b < a by omega]
  ·
   by_cases h2:b < a
   · simp [h1,h2]
   · simp only [h1,h2,if_false]; exact Sd l m
theorem MC :∀ {a b c:List Nat},qI a b < 0→qI b c < 0→qI a c < 0
 | [],[],c,h,_=>by simp [qI] at h
 | [],_ :: _,[],_,h=>by simp [qI] at h
 | [],_ :: _,_ :: _,_,_=>by simp [qI]
 | _ :: _,[],c,h,_=>by simp [qI] at h
 | _ :: _,_ :: _,[],_,h=>by simp [qI] at h
 | x :: a,y :: b,z :: c,h,k=>by
  simp only [qI] at h k ⊢; by_cases h1:x < y
  ·
   by_cases k1:y < z
   · simp [show x < z by omega]
   ·
    by_cases k2:z < y
    · simp [k1,k2] at k
    · simp [show x < z by omega]
  ·
   by_cases h2:y < x
   · simp [h1,h2] at h
   ·
    simp only [h1,h2,if_false] at h; by_cases k1:y < z
    · simp [show x < z by omega]
    ·
     by_cases k2:z < y
     · simp [k1,k2] at k
     ·
      simp only [k1,k2,if_false] at k; simp only [show ¬ x < z by omega,show ¬ z < x by omega,if_false]; exact MC h k
theorem ME :∀ (xs ys:Str) (u v:List Nat),xs.length=ys.length→qI (xs.map UInt8.toNat ++ u) (ys.map UInt8.toNat ++ v)=if xs=ys then qI u v else KG xs ys
 | [],[],u,v,_=>by simp
 | [],_ :: _,_,_,h=>by simp at h
 | _ :: _,[],_,_,h=>by simp at h
 | x :: xs,y :: ys,u,v,h=>by
  simp only [List.map_cons,List.cons_append,qI]; have ih:=ME xs ys u v (by simpa using h); have e1:(x < y)=(x.toNat < y.toNat):=by rw [UInt8.lt_iff_toNat_lt]
  have e2:(y < x)=(y.toNat < x.toNat):=by rw [UInt8.lt_iff_toNat_lt]
  by_cases h1:x.toNat < y.toNat
  ·
   have:x≠y:=fun e=>by subst e; omega
   simp [h1,this,KG,yZ,Go.Op.bytesLess,e1]
  ·
   by_cases h2:y.toNat < x.toNat
   ·
    have:x≠y:=fun e=>by subst e; omega
    simp [h1,h2,this,KG,yZ,Go.Op.bytesLess,e1]
   ·
    have:x=y:=UInt8.toNat_inj.1 (by omega); subst this; simp only [h1,if_false,ih,List.cons.injEq,true_and]; by_cases h3:xs=ys
    · simp [h3]
    ·
     simp only [h3,if_false,KG,Go.Op.bytesLess,e1,h1,decide_false,Bool.false_or,beq_self_eq_true,Bool.true_and]; congr 1; simp
theorem Fh (s:Str):(s.take (iH bY s)).length=iH bY s:=by
 have:=xC bY s; simp; omega
theorem Es {c:UInt8} {s:Str} (h:bY c=true):0 < iH bY (c :: s):=by rw [wH,if_pos h]; omega
theorem Ju :∀ (k m:Nat) (s:Str),s.length≤k→s.length≤m→MG k s=MG m s
 | 0,0,_,_,_=>rfl
 | 0,m + 1,s,h,_=>by
  have:s=[]:=List.eq_nil_of_length_eq_zero (by omega); subst this; rfl
 | k + 1,0,s,_,h=>by
  have:s=[]:=List.eq_nil_of_length_eq_zero (by omega); subst this; rfl
 | k + 1,m + 1,[],_,_=>rfl
 | k + 1,m + 1,c :: s,h1,h2=>by
  simp only [MG]; simp only [List.length_cons] at h1 h2; cases e:bY c with
  | true=>
   have:=Es (s:=s) e; have:=xC bY (c :: s); simp only [if_true]; rw [Ju k m _ (by simp; omega) (by simp; omega)]
  | false=>
   simp only [Bool.false_eq_true,if_false]; rw [Ju k m s (by omega) (by omega)]
theorem Sk {k:Nat} {s:Str} (h:s.length≤k):MG k s=key s:=Ju _ _ _ h (Nat.le_refl _)
theorem Dr :key []=[]:=rfl
theorem t_ {c:UInt8} {s:Str} (h:bY c=true):key (c :: s)=48 :: (dz ((c :: s).take (iH bY (c :: s)))).length :: ((dz ((c :: s).take (iH bY (c :: s)))).map UInt8.toNat ++ iH bY (c :: s) :: key ((c :: s).drop (iH bY (c :: s)))):=by
 have:=Es (s:=s) h; have:=xC bY (c :: s); show MG (s.length + 1) (c :: s)=_; simp only [MG,h,if_true]; rw [Sk (by simp; omega)]
theorem lD {c:UInt8} {s:Str} (h:bY c=false):key (c :: s)=c.toNat :: key s:=by
 show MG (s.length + 1) (c :: s)=_; simp only [MG,h,Bool.false_eq_true,if_false]; rw [Sk (Nat.le_refl _)]
theorem aag (a b:Str) (u v:List Nat):qI ((dz a).length :: ((dz a).map UInt8.toNat ++ a.length :: u)) ((dz b).length :: ((dz b).map UInt8.toNat ++ b.length :: v))=if M9 a b=0 then qI u v else M9 a b:=by
 unfold M9; simp only [qI]; by_cases h1:(dz a).length=(dz b).length
 ·
  rw [if_neg (by omega),if_neg (by omega),ME _ _ _ _ h1]; have e:(((dz a).length:Int) != ((dz b).length:Int))=false:=by simp [h1]
  simp only [e,Bool.false_eq_true,if_false]; by_cases h2:dz a=dz b
  ·
   simp only [h2,if_true,beq_self_eq_true,Bool.not_true,Bool.false_eq_true,if_false,qI,yG,yZ]; by_cases h3:a.length < b.length
   · simp [h3]
   ·
    by_cases h4:b.length < a.length
    · simp [h3,h4]
    · simp [h3,h4]
  ·
   have h3:=VU h2; simp [h2,h3]
 ·
  have e:(((dz a).length:Int) != ((dz b).length:Int))=true:=by simp; omega
  simp only [e,if_true]; by_cases h2:(dz a).length < (dz b).length
  · simp [h2,yG,yZ]
  ·
   have h3:(dz b).length < (dz a).length:=by omega
   simp [h2,h3,yG,yZ]
theorem sF {c:UInt8}:bY c=(decide (48≤c.toNat) && decide (c.toNat≤57)):=by
 unfold bY; congr 1
 · apply decide_eq_decide.2; omega
 · apply decide_eq_decide.2; omega
theorem EH :∀ (n k:Nat) (a b:Str),a.length≤n→a.length < k→a.length < 4611686018427387904→b.length < 4611686018427387904→iW k a b=some (fU a b)
 | _,0,_,_,_,h,_,_=>by omega
 | n,k + 1,a,b,hn,hk,ha,hb=>by
  rw [iW]
  match a,b with
  | [],[]=>
   rw [if_neg (by simp),wT]; simp [fU,Dr,qI,yG,yZ]
  | [],y :: b=>
   rw [if_neg (by simp),wT]
   have:key (y :: b)≠[]:=by
    cases e:bY y with
    | true=>rw [t_ e]; simp
    | false=>rw [lD e]; simp
   cases e:key (y :: b) with
   | nil=>exact absurd e this
   | cons p q=>
    simp only [fU,Dr,e,qI,yG,yZ]; rw [if_pos (by simp)]
  | x :: a,[]=>
   rw [if_neg (by simp),wT]
   have:key (x :: a)≠[]:=by
    cases e:bY x with
    | true=>rw [t_ e]; simp
    | false=>rw [lD e]; simp
   cases e:key (x :: a) with
   | nil=>exact absurd e this
   | cons p q=>
    simp only [fU,Dr,e,qI,yG,yZ]; rw [if_neg (by simp; omega),if_pos (by simp)]
  | x :: a,y :: b=>
   have sa:=xC bY (x :: a); have sb:=xC bY (y :: b); have i0:idx (x :: a) 0=some x:=rfl; have j0:idx (y :: b) 0=some y:=rfl; rw [if_pos (by simp),zh ha,zh hb]; simp only [ak]; cases e1:bY x with
   | true=>
    have p1:=Es (s:=a) e1; cases e2:bY y with
    | true=>
     have p2:=Es (s:=b) e2; rw [if_pos (by simp; omega),Vm sa,Vm sb]; simp only [ak]; rw [Md (by simp; omega) (by simp; omega)]; simp only [ak]; have hc:=aag ((x :: a).take (iH bY (x :: a))) ((y :: b).take (iH bY (y :: b))) (key ((x :: a).drop (iH bY (x :: a)))) (key ((y :: b).drop (iH bY (y :: b)))); rw [Fh,Fh] at hc
     have e3:fU (x :: a) (y :: b)=if M9 ((x :: a).take (iH bY (x :: a))) ((y :: b).take (iH bY (y :: b)))=0 then qI (key ((x :: a).drop (iH bY (x :: a)))) (key ((y :: b).drop (iH bY (y :: b)))) else M9 ((x :: a).take (iH bY (x :: a))) ((y :: b).take (iH bY (y :: b))):=by
      rw [←hc,fU,t_ e1,t_ e2,qI,if_neg (by omega),if_neg (by omega)]
     rw [e3]; by_cases h0:M9 ((x :: a).take (iH bY (x :: a))) ((y :: b).take (iH bY (y :: b)))=0
     ·
      rw [if_neg (by simpa using h0),if_pos h0,tX sa,tX sb]; simp only [ak]
      match n,hn with
      | n + 1,hn=>
       exact EH n k _ _ (by simp at hn ⊢; omega) (by simp at hk ⊢; omega) (by simp at ha ⊢; omega) (by simp at hb ⊢; omega)
     · rw [if_pos (by simpa using h0),if_neg h0]
    | false=>
     have q2:iH bY (y :: b)=0:=by rw [wH,e2]; rfl
     rw [if_neg (by simp [q2]),i0,j0]; simp only [ak,EZ]; have d1:=sF (c:=x); rw [e1] at d1; have d2:=sF (c:=y); rw [e2] at d2; simp only [Bool.and_eq_true,Bool.false_eq,Bool.and_eq_false_iff,decide_eq_false_iff_not,Bool.true_eq,decide_eq_true_eq] at d1 d2; rw [if_pos (by simp; omega)]; rw [fU,t_ e1,lD e2,qI,yG,yZ]; by_cases h1:x.toNat < y.toNat
     · rw [if_pos (by simp; omega),if_pos (by omega)]
     · rw [if_neg (by simp; omega),if_pos (by simp; omega),if_neg (by omega),if_pos (by omega)]
   | false=>
    have q1:iH bY (x :: a)=0:=by rw [wH,e1]; rfl
    rw [if_neg (by simp [q1]),i0,j0]; simp only [ak,EZ]; by_cases h0:x=y
    ·
     subst h0; rw [if_neg (by simp)]; have s1:=tX (s:=x :: a) (i:=1) (by simp); have s2:=tX (s:=x :: b) (i:=1) (by simp); rw [show ((1:Nat):Int)=1 from rfl] at s1 s2; rw [s1,s2]; simp only [ak,List.drop_succ_cons,List.drop_zero]; rw [fU,lD e1,lD e1,qI,if_neg (by omega),if_neg (by omega)]
     match n,hn with
     | n + 1,hn=>exact EH n k a b (by simp at hn; omega) (by simp at hk; omega) (by simp at ha; omega) (by simp at hb; omega)
    ·
     have h1:x.toNat≠y.toNat:=fun h=>h0 (UInt8.toNat_inj.1 h); rw [if_pos (by simp; omega)]; have d1:=sF (c:=x); rw [e1] at d1; simp only [Bool.and_eq_true,Bool.false_eq,Bool.and_eq_false_iff,decide_eq_false_iff_not] at d1; cases e2:bY y with
     | true=>
      have d2:=sF (c:=y); rw [e2] at d2; simp only [Bool.and_eq_true,Bool.true_eq,decide_eq_true_eq] at d2; rw [fU,lD e1,t_ e2,qI,yG,yZ]; by_cases h1:x.toNat < y.toNat
      · rw [if_pos (by simp; omega),if_pos (by omega)]
      · rw [if_neg (by simp; omega),if_pos (by simp; omega),if_neg (by omega),if_pos (by omega)]
     | false=>
      rw [fU,lD e1,lD e2,qI,yG,yZ]; by_cases h2:x.toNat < y.toNat
      · rw [if_pos (by simp; omega),if_pos (by omega)]
      · rw [if_neg (by simp; omega),if_pos (by simp; omega),if_neg (by omega),if_pos (by omega)]
theorem O_ {a b:Str} (ha:a.length < 4611686018427387904) (hb:b.length < 4611686018427387904):ow a b=some (fU a b):=
 EH _ BIG a b (Nat.le_refl _) (by have:=jL; omega) ha hb
theorem Ud {a b:Str} (ha:a.length < 4611686018427387904) (hb:b.length < 4611686018427387904):nK a b=some (fU a b):=by
 obtain ⟨c,h1,h2⟩:=M8 ha hb; rw [O_ ha hb] at h1; rw [h2,←h1]
theorem QJ :∀ (r:Str),r=List.replicate (r.length - (dz r).length) (48:UInt8) ++ dz r
 | []=>rfl
 | c :: r=>by
  unfold dz; rw [List.dropWhile_cons]; by_cases h:c=48
  ·
   subst h; have ih:=QJ r; have hl:=ahy r; simp only [show (((48:UInt8).toNat:Int) == 48)=true from rfl,if_true]; change _=List.replicate ((48 :: r).length - (dz r).length) (48:UInt8) ++ dz r; rw [show (48 :: r).length - (dz r).length=(r.length - (dz r).length) + 1 by simp; omega,List.replicate_succ,List.cons_append,←ih]
  ·
   have:((c.toNat:Int) == 48)=false:=by
    simp only [beq_eq_false_iff_ne,ne_eq]; intro h2; exact h (UInt8.toNat_inj.1 (by show c.toNat=48; omega))
   simp [this]
theorem key_inj :∀ (n:Nat) (a b:Str),a.length≤n→key a=key b→a=b
 | _,[],[],_,_=>rfl
 | _,[],y :: b,_,h=>by
  cases e:bY y with
  | true=>rw [t_ e,Dr] at h; cases h
  | false=>rw [lD e,Dr] at h; cases h
 | _,x :: a,[],_,h=>by
  cases e:bY x with
  | true=>rw [t_ e,Dr] at h; cases h
  | false=>rw [lD e,Dr] at h; cases h
 | 0,x :: a,y :: b,h,_=>by simp at h
 | n + 1,x :: a,y :: b,hn,h=>by
  cases e1:bY x with
  | true=>
   cases e2:bY y with
   | true=>
    have p1:=Es (s:=a) e1; have sa:=xC bY (x :: a); rw [t_ e1,t_ e2] at h; simp only [List.cons.injEq,true_and] at h; obtain ⟨h1,h2⟩:=h; obtain ⟨h3,h4⟩:=List.append_inj h2 (by simpa using h1); simp only [List.cons.injEq] at h4
    have h5:dz ((x :: a).take (iH bY (x :: a)))=dz ((y :: b).take (iH bY (y :: b))):=by
     refine List.map_inj_right (f:=UInt8.toNat) (fun p q hpq=>UInt8.toNat_inj.1 hpq) |>.1 h3
    have h6:(x :: a).take (iH bY (x :: a))=(y :: b).take (iH bY (y :: b)):=by
     rw [QJ ((x :: a).take (iH bY (x :: a))),QJ ((y :: b).take (iH bY (y :: b))),h5,Fh,Fh,h4.1]
    have h7:=key_inj n _ _ (by simp at hn ⊢; omega) h4.2; rw [←List.take_append_drop (iH bY (x :: a)) (x :: a),h6,h7,List.take_append_drop]
   | false=>
    rw [t_ e1,lD e2] at h; simp only [List.cons.injEq] at h; have d2:=sF (c:=y); rw [e2,←h.1] at d2; simp at d2
  | false=>
   cases e2:bY y with
   | true=>
    rw [lD e1,t_ e2] at h; simp only [List.cons.injEq] at h; have d2:=sF (c:=x); rw [e1,h.1] at d2; simp at d2
   | false=>
    rw [lD e1,lD e2] at h; simp only [List.cons.injEq] at h; rw [UInt8.toNat_inj.1 h.1,key_inj n a b (by simp at hn; omega) h.2]
theorem EG (a:Str):fU a a=0:=Pf _
theorem uR {a b:Str} (h:fU a b=0):a=b:=key_inj _ a b (Nat.le_refl _) (Pe h)
theorem pR (a b:Str):fU b a=- fU a b:=Sd _ _
theorem vL {a b c:Str} (h:fU a b < 0) (k:fU b c < 0):fU a c < 0:=MC h k
theorem F9 {a b c:Str} (h:¬ fU a b < 0) (k:¬ fU b c < 0):¬ fU a c < 0:=by
 intro hc; by_cases h0:fU a b=0
 · rw [uR h0] at hc; exact k hc
 ·
  by_cases k0:fU b c=0
  · rw [←uR k0] at hc; exact h hc
  ·
   have h1:fU b a < 0:=by rw [pR]; omega
   have k1:fU c b < 0:=by rw [pR]; omega
   have:=vL k1 h1; rw [pR] at this; omega
def UR (l:List Str):Prop:=l.Pairwise fun x y=>fU x y < 0
theorem G5 :∀ {l m:List Str},UR l→UR m→(∀ x,x∈l↔x∈m)→l=m
 | [],[],_,_,_=>rfl
 | [],y :: m,_,_,h=>by have:=(h y).2 (by simp); simp at this
 | x :: l,[],_,_,h=>by have:=(h x).1 (by simp); simp at this
 | x :: l,y :: m,hl,hm,h=>by
  unfold UR at hl hm; rw [List.pairwise_cons] at hl hm
  have hxy:x=y:=by
   have h1:=(h x).1 (by simp); have h2:=(h y).2 (by simp); simp only [List.mem_cons] at h1 h2; rcases h1 with h1 | h1
   · exact h1
   ·
    rcases h2 with h2 | h2
    · exact h2.symm
    ·
     have a1:=hm.1 x h1; have a2:=hl.1 y h2; rw [pR] at a1; omega
  subst hxy; rw [G5 (l:=l) (m:=m) hl.2 hm.2]; intro z; have hz:=h z; simp only [List.mem_cons] at hz; constructor
  ·
   intro hzl; rcases hz.1 (.inr hzl) with e | e
   · subst e; have:=hl.1 z hzl; rw [EG] at this; omega
   · exact e
  ·
   intro hzl; rcases hz.2 (.inr hzl) with e | e
   · subst e; have:=hm.1 z hzl; rw [EG] at this; omega
   · exact e
theorem Ug :∀ {l:List Str} {x:Str},x∈dd l↔x∈l
 | [],x=>by simp [dd]
 | [y],x=>by simp [dd]
 | y :: z :: l,x=>by
  have ih:=Ug (l:=z :: l) (x:=x); unfold dd; by_cases h:y=z
  · subst h; rw [if_pos rfl,ih]; simp
  · rw [if_neg h,List.mem_cons,ih]; simp
theorem aar :∀ {l:List Str},l.Pairwise (fun x y=>¬ fU y x < 0)→UR (dd l)
 | [],_=>List.Pairwise.nil
 | [y],_=>by simp [dd,UR]
 | y :: z :: l,h=>by
  rw [List.pairwise_cons] at h; have ih:=aar h.2; unfold dd; by_cases e:y=z
  · rw [if_pos e]; exact ih
  ·
   rw [if_neg e]; unfold UR; rw [List.pairwise_cons]; refine ⟨fun w hw=>?_,ih⟩; rw [Ug] at hw
   have hyz:fU y z < 0:=by
    have h1:=h.1 z (by simp); have h2:fU y z≠0:=fun h2=>e (uR h2); rw [pR] at h1; omega
   rcases List.mem_cons.1 hw with hw | hw
   · subst hw; exact hyz
   ·
    have hzw:=(List.pairwise_cons.1 h.2).1 w hw; by_cases e2:fU z w=0
    · rw [←uR e2]; exact hyz
    ·
     rw [pR] at hzw; exact vL hyz (by omega)
theorem Im (l:List Str):(KY l).Perm l:=List.mergeSort_perm _ _
theorem Mh (l:List Str):(KY l).Pairwise fun x y=>¬ fU y x < 0:=by
 have h:=List.pairwise_mergeSort (le:=fun x y:Str=>!decide (fU y x < 0)) (fun a b c h1 h2=>by
  simp only [Bool.not_eq_true',decide_eq_false_iff_not] at h1 h2 ⊢
  exact F9 h2 h1) (fun a b=>by
  simp only [Bool.or_eq_true,Bool.not_eq_true',decide_eq_false_iff_not]; have:=pR a b
  omega) l
 refine h.imp fun h=>?_; simpa using h
theorem Al {l:List Str} {x:Str}:x∈uD l↔x∈l:=by rw [uD,Ug,(Im l).mem_iff]
theorem G6 (l:List Str):UR (uD l):=aar (Mh l)
end Go.Ft
