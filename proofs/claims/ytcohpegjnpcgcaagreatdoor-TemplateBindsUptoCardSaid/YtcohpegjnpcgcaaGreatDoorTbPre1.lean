/- Proved here: plain facts on the functional texts that the walks want. -/
import Derived.Test.YtcohpegjnpcgcaaGreatDoorTbFt1
import Derived.Test.YtcohpegjnpcgcaaGreatDoorTbPool1
set_option linter.unusedVariables false
set_option linter.unusedSimpArgs false
set_option linter.unusedSectionVars false
set_option maxHeartbeats 2000000
namespace Go.Ft
open Go
attribute [local congr] FV
theorem acU {n:Int} (h:-9223372036854775808≤n∧n < 9223372036854775808):dA n=n:=abx (by omega) (by omega)
theorem GV {i:Nat} (h:i < 4611686018427387904):dA ((i:Int) + 1)=((i + 1:Nat):Int):=by rw [acU (by omega)]; omega
theorem FW {α:Type} {l:List α} {i:Nat} (h:i < l.length):idx l (i:Int)=some (l[i]):=by rw [abX,List.getElem?_eq_getElem h]
theorem qB :9223372036854775808 < BIG:=by decide
def zu {α S R:Type} (body:Nat→α→S→(S→Option R)→Option R) (fin:S→Option R):Nat→List α→S→Option R
 | _,[],s=>fin s
 | i,x :: r,s=>body i x s fun s'=>zu body fin (i + 1) r s'
theorem UY {α S R:Type} {F:Nat→S→Int→Option R} {l:List α} {body:Nat→α→S→(S→Option R)→Option R} {fin:S→Option R} (hl:l.length < 4611686018427387904)
  (hF:∀ k s (i:Nat),F (k + 1) s i=if decide ((i:Int) < (l.length:Int)) then ay (idx l i) fun x=>body i x s fun s'=>F k s' (dA ((i:Int) + 1)) else fin s):
  ∀ (k i:Nat) (s:S),l.length < k + i→i≤l.length→F k s (i:Int)=zu body fin i (l.drop i) s
 | 0,i,s,h,h'=>by omega
 | k + 1,i,s,h,h'=>by
  rw [hF]; by_cases hi:i < l.length
  ·
   rw [List.drop_eq_getElem_cons hi,if_pos (by simp; omega),FW hi,bA,zu]; congr 1; funext s'; rw [GV (by omega)]; exact UY hl hF k (i + 1) s' (by omega) (by omega)
  ·
   have:i=l.length:=by omega
   subst this; rw [if_neg (by simp),List.drop_length,zu]
theorem zB {α S R:Type} {F:Nat→S→Int→Option R} {l:List α} {body:Nat→α→S→(S→Option R)→Option R} {fin:S→Option R} (hl:l.length < 4611686018427387904)
  (hF:∀ k s (i:Nat),F (k + 1) s i=if decide ((i:Int) < (l.length:Int)) then ay (idx l i) fun x=>body i x s fun s'=>F k s' (dA ((i:Int) + 1)) else fin s) (s:S):F BIG s 0=zu body fin 0 l s:=by
 have:=UY hl hF BIG 0 s (by have:=qB; omega) (by omega); simpa using this
def isLet (c:UInt8):Bool:=(((decide (97≤(c.toNat:Int))) && (decide ((c.toNat:Int)≤122))) || ((decide (65≤(c.toNat:Int))) && (decide ((c.toNat:Int)≤90)))) || ((c.toNat:Int) == 95)
@[simp] theorem afE (c:UInt8):wC c=some (isLet c):=rfl
@[simp] theorem agn (c:UInt8):yE c=some (fD c):=rfl
@[simp] theorem ae5 (c:UInt8):Wv c=some (isLet c):=rfl
@[simp] theorem agm (c:UInt8):YA c=some (fD c):=rfl
@[simp] theorem agr (c:UInt8):Aq c=some (fD c):=rfl
@[simp] theorem ZX (c:UInt8):Ci c=some (fD c):=rfl
theorem zA (p:UInt8→Bool) (c:UInt8) (l:Str):jL p (c :: l)=if p c then jL p l + 1 else 0:=by
 unfold jL; rw [List.takeWhile_cons]; split <;> simp
theorem Ag (p:UInt8→Bool) (l:Str):jL p l≤l.length:=by
 induction l with
 | nil=>simp [jL]
 | cons c l ih=>rw [zA]; split <;> simp <;> omega
theorem Tx {F:Nat→Int→Option Int} {s:Str} (hs:s.length < 4611686018427387904)
  (hF:∀ k (i:Nat),F (k + 1) i=ay (if decide ((i:Int) < (s.length:Int)) then ay (idx s i) fun x1=>some (fD x1) else some false) fun b1=>if b1 then F k (dA ((i:Int) + 1)) else some (i:Int)):
  ∀ (k i:Nat),s.length < k + i→i≤s.length→F k (i:Int)=some ((i + jL fD (s.drop i):Nat):Int)
 | 0,i,h,h'=>by omega
 | k + 1,i,h,h'=>by
  rw [hF]; by_cases hi:i < s.length
  ·
   rw [List.drop_eq_getElem_cons hi,zA,if_pos (by simp; omega),FW hi]; simp only [bA]; cases e:fD s[i] with
   | false=>simp
   | true=>
    simp only [if_true]; rw [GV (by omega),Tx hs hF k (i + 1) (by omega) (by omega)]; simp only [Option.some.injEq,Int.natCast_inj]; omega
  ·
   have:i=s.length:=by omega
   subst this; simp [jL]
theorem BO {s:Str} (hs:s.length < 4611686018427387904):Ck s=some (jL fD s:Int):=by
 have:=Tx (F:=yM s) hs (fun k i=>rfl) BIG 0 (by have:=qB; omega) (by omega); simpa [Ck] using this
theorem Pt {s:Str} (hs:s.length < 4611686018427387904) {i:Nat} (hi:i≤s.length):LA s (i:Int)=some ((i + jL fD (s.drop i):Nat):Int):=
 Tx (F:=Cz s) hs (fun k i=>rfl) BIG i (by have:=qB; omega) hi
theorem yg {s:Str} {i:Nat} (h:i≤s.length):sl s (i:Int) (s.length:Int)=some (s.drop i):=by
 rw [UU (by omega) (by omega) (by omega)]; simp
theorem XJ {s:Str} {i:Nat} (h:i≤s.length):sl s 0 (i:Int)=some (s.take i):=by
 rw [UU (by omega) (by omega) (by omega)]; simp
theorem trimB (s:Str):∀ (k:Nat),s.length < k→s.length < 4611686018427387904→jh 48 k s=some (dz s):=by
 induction s with
 | nil=>intro k h _; cases k with
  | zero=>simp at h
  | succ k=>simp [jh,dz]
 | cons c s ih=>
  intro k h hs; cases k with
  | zero=>simp at h
  | succ k=>
   simp only [List.length_cons] at h hs; rw [jh,if_pos (by simp)]; have e0:idx (c :: s) 0=some c:=by simp [idx]
   rw [e0]; simp only [bA]; have e1:((48:UInt8).toNat:Int)=48:=rfl; rw [e1]; unfold dz; rw [List.dropWhile_cons]; cases e:((c.toNat:Int) == 48) with
   | false=>simp
   | true=>
    simp only [if_true]; have e2:=yg (s:=c :: s) (i:=1) (by simp); simp only [List.drop_one,List.tail_cons] at e2; rw [show ((1:Nat):Int)=1 from rfl] at e2; rw [e2]; simp only [bA]; exact ih k (by omega) (by omega)
theorem XC {s:Str} (hs:s.length < 4611686018427387904):oz s ([48]:Str)=some (dz s):=by
 unfold oz; cases s with
 | nil=>simp [dz]
 | cons c s=>
  rw [if_neg (by simp),if_pos (by simp)]; have e0:idx ([48]:Str) 0=some 48:=rfl; rw [e0]; simp only [bA]; rw [if_pos (by decide)]; exact trimB _ BIG (by have:=qB; omega) hs
theorem Sd {s:Str} (hs:s.length < 4611686018427387904):∀ (k i:Nat),s.length < k + i→i≤s.length→vo s k (i:Int)=some (dz (s.drop i))
 | 0,i,h,h'=>by omega
 | k + 1,i,h,h'=>by
  rw [vo]; by_cases hi:i < s.length
  ·
   rw [List.drop_eq_getElem_cons hi,if_pos (by simp; omega),FW hi]; simp only [bA]; unfold dz; rw [List.dropWhile_cons]; cases e:((s[i].toNat:Int) == 48) with
   | false=>
    simp only [Bool.false_eq_true,if_false]; rw [yg (by omega),List.drop_eq_getElem_cons hi]
   | true=>
    simp only [if_true]; rw [GV (by omega)]; exact Sd hs k (i + 1) (by omega) (by omega)
  ·
   have:i=s.length:=by omega
   subst this; rw [if_neg (by simp)]; simp only [bA,Bool.false_eq_true,if_false]; rw [yg (by omega)]; simp [dz]
theorem UR {s:Str} (hs:s.length < 4611686018427387904):Ch s=some (dz s):=by
 have:=Sd hs BIG 0 (by have:=qB; omega) (by omega); simpa [Ch] using this
def BK (p q:Bool):Int:=if p then -1 else if q then 1 else 0
def Bn (x y:Int):Int:=BK (decide (x < y)) (decide (y < x))
def Ou (x y:Str):Int:=BK (Go.Op.bytesLess x y) (!(Go.Op.bytesLess x y || x == y))
theorem BJ (p q:Bool):vv p q=some (BK p q):=by
 unfold vv BK; cases p <;> cases q <;> rfl
theorem zP (x y:Int):cmp_Compare_int x y=some (Bn x y):=by
 unfold cmp_Compare_int Bn BK cmp_isNaN_int; by_cases h1:x < y <;> by_cases h2:y < x <;> simp [h1,h2]
theorem IJ (x y:UInt8):qW x y=some (Bn x.toNat y.toNat):=by
 unfold qW Bn BK uU; by_cases h1:(x.toNat:Int) < y.toNat <;> by_cases h2:(y.toNat:Int) < x.toNat <;> simp [h1,h2]
theorem Xc (x y:Str):mJ x y=some (Ou x y):=by
 unfold mJ Ou BK cmp_isNaN_string; cases h1:Go.Op.bytesLess x y <;> cases h2:(x == y) <;> simp
theorem E_ :∀ x:Str,Go.Op.bytesLess x x=false
 | []=>rfl
 | c :: x=>by
  unfold Go.Op.bytesLess; have:=E_ x; simp [this]
theorem YT (a b c:Int):Da ([a,b,c]:List Int)=some (if a != 0 then a else if b != 0 then b else c):=by
 have:=zB (F:=fun k (_:Unit) i=>wJ [a,b,c] k i) (l:=[a,b,c]) (body:=fun _ Ym _ r=>if Ym != 0 then some Ym else r ()) (fin:=fun _=>some 0) (by simp)
  (fun k s i=>rfl) ()
 unfold Da; rw [this]; simp only [zu]; by_cases h1:a=0 <;> by_cases h2:b=0 <;> by_cases h3:c=0 <;> simp [h1,h2,h3]
def Qo (a b:Str):Int:=
 if ((dz a).length:Int) != ((dz b).length:Int) then Bn (dz a).length (dz b).length else if !(dz a == dz b) then Ou (dz a) (dz b) else Bn a.length b.length
theorem af9 (s:Str):(dz s).length≤s.length:=(List.dropWhile_sublist _).length_le
theorem M7 {x y:Int}:Bn x y=0↔x=y:=by
 unfold Bn BK; by_cases h1:x < y <;> by_cases h2:y < x <;> simp [h1,h2] <;> omega
theorem X9 {x y:Str} (h:x≠y):Ou x y≠0:=by
 unfold Ou BK; cases h1:Go.Op.bytesLess x y <;> simp [h]
theorem YU (x:Str):Ou x x=0:=by
 unfold Ou BK; simp [E_]
theorem PE {a b:Str} (ha:a.length < 4611686018427387904) (hb:b.length < 4611686018427387904):wG a b=some (Qo a b):=by
 unfold wG Qo; rw [XC ha,XC hb]; simp only [bA,zP,Xc,YT,Option.some.injEq]; by_cases h1:((dz a).length:Int)=((dz b).length:Int)
 ·
  have e1:Bn (dz a).length (dz b).length=0:=M7.2 h1; rw [e1]; by_cases h2:dz a=dz b
  · rw [h2,YU]; simp
  ·
   have:=X9 h2; simp [h1,h2,this]
 ·
  have e1:Bn (dz a).length (dz b).length≠0:=fun h=>h1 (M7.1 h); rw [if_pos (by simpa using e1),if_pos (by simpa using h1)]
theorem abH {a b:Str} (ha:a.length < 4611686018427387904) (hb:b.length < 4611686018427387904):H_ a b=some (Qo a b):=by
 unfold H_ Qo; rw [UR ha,UR hb]; simp only [bA,BJ]; by_cases h1:((dz a).length:Int)=((dz b).length:Int)
 ·
  by_cases h2:dz a=dz b
  · simp [h2,Bn]
  · simp [h1,h2,Ou]
 · simp [h1,Bn]
theorem Sg {s:Str} (h:s≠[]):0 < jL fD s↔fD (s.head h)=true:=by
 cases s with
 | nil=>exact absurd rfl h
 | cons c s=>rw [zA]; cases e:fD c <;> simp [e]
theorem IG {a b:Str} (ha:a.length < 4611686018427387904) (hb:b.length < 4611686018427387904):∀ (k k' i j:Nat),i≤a.length→j≤b.length→a.length < k + i→a.length < k' + i→
  j_ k (a.drop i) (b.drop j)=mX a b k' (i:Int) (j:Int)∧∃ c,mX a b k' (i:Int) (j:Int)=some c
 | 0,k',i,j,_,_,h,_=>by omega
 | k + 1,0,i,j,_,_,_,h=>by omega
 | k + 1,k' + 1,i,j,hi,hj,hk,hk'=>by
  rw [j_,mX]; by_cases h1:i < a.length
  ·
   by_cases h2:j < b.length
   ·
    have ea:=List.drop_eq_getElem_cons h1; have eb:=List.drop_eq_getElem_cons h2; have na:a.drop i≠[]:=fun h=>by simp at h; omega
    have nb:b.drop j≠[]:=fun h=>by simp at h; omega
    have la:(a.drop i).length=a.length - i:=by simp
    have lb:(b.drop j).length=b.length - j:=by simp
    have sa:=Ag fD (a.drop i); have sb:=Ag fD (b.drop j); have pa:=Sg na; have pb:=Sg nb; have afY:(a.drop i).head na=a[i]:=by simp
    have afX:(b.drop j).head nb=b[j]:=by simp
    rw [afY] at pa; rw [afX] at pb; rw [if_pos (by simp [h1,h2]),if_pos (by simp; omega),BO (by omega),BO (by omega),FW h1,FW h2]; simp only [bA,BJ,ZX]; have i0:idx (a.drop i) 0=some a[i]:=by rw [ea]; rfl
    have j0:idx (b.drop j) 0=some b[j]:=by rw [eb]; rfl
    have hone:(if fD a[i]=true then some (fD b[j]) else some false)=some (fD a[i] && fD b[j]):=by cases fD a[i] <;> simp
    rw [hone]; simp only [bA]; cases hd:(fD a[i] && fD b[j]) with
    | true=>
     simp only [Bool.and_eq_true] at hd; have q1:=pa.2 hd.1; have q2:=pb.2 hd.2; rw [if_pos (by simp; omega)]; simp only [if_true]; rw [Pt ha (by omega),Pt hb (by omega),XJ sa,XJ sb]; simp only [bA]
     have e1:sl a (i:Int) ((i + jL fD (a.drop i):Nat):Int)=some ((a.drop i).take (jL fD (a.drop i))):=by
      rw [UU (by omega) (by omega) (by omega)]; simp only [Int.toNat_natCast,Option.some.injEq]; rw [List.drop_take,Nat.add_sub_cancel_left]
     have e2:sl b (j:Int) ((j + jL fD (b.drop j):Nat):Int)=some ((b.drop j).take (jL fD (b.drop j))):=by
      rw [UU (by omega) (by omega) (by omega)]; simp only [Int.toNat_natCast,Option.some.injEq]; rw [List.drop_take,Nat.add_sub_cancel_left]
     rw [e1,e2]; simp only [bA]; rw [PE (by simp; omega) (by simp; omega),abH (by simp; omega) (by simp; omega)]; simp only [bA]; by_cases hc:Qo ((a.drop i).take (jL fD (a.drop i))) ((b.drop j).take (jL fD (b.drop j)))=0
     ·
      rw [if_neg (by simp [hc]),if_neg (by simp [hc]),yg sa,yg sb]; simp only [bA,List.drop_drop]; exact IG ha hb k k' _ _ (by omega) (by omega) (by omega) (by omega)
     ·
      rw [if_pos (by simpa using hc),if_pos (by simpa using hc)]; exact ⟨rfl,_,rfl⟩
    | false=>
     rw [if_neg (by
      simp only [Bool.and_eq_true,decide_eq_true_eq,not_and]; intro h3 h4; have:=pa.1 (by omega); have:=pb.1 (by omega)
      simp_all)]
     simp only [Bool.false_eq_true,if_false]; rw [i0,j0]; simp only [bA,IJ]; by_cases hc:(a[i].toNat:Int)=(b[j].toNat:Int)
     ·
      rw [if_neg (by simpa using hc)]; have:BK (decide ((a[i].toNat:Int) < (b[j].toNat:Int))) (decide ((b[j].toNat:Int) < (a[i].toNat:Int)))=0:=by simp [BK,hc]
      rw [this,if_neg (by simp),GV (by omega),GV (by omega)]; have s1:=yg (s:=a.drop i) (i:=1) (by omega); have s2:=yg (s:=b.drop j) (i:=1) (by omega); rw [show ((1:Nat):Int)=1 from rfl] at s1 s2; rw [s1,s2]; simp only [bA,List.drop_drop]; exact IG ha hb k k' _ _ (by omega) (by omega) (by omega) (by omega)
     ·
      rw [if_pos (by simpa using hc)]; have e3:Bn (a[i].toNat) (b[j].toNat)≠0:=fun h=>hc (M7.1 h); have:BK (decide ((a[i].toNat:Int) < (b[j].toNat:Int))) (decide ((b[j].toNat:Int) < (a[i].toNat:Int)))=Bn (a[i].toNat) (b[j].toNat):=rfl; rw [this,if_pos (by simpa using e3)]; exact ⟨rfl,_,rfl⟩
   ·
    have eb:b.drop j=[]:=by simp; omega
    rw [eb,if_neg (by simp),if_neg (by simp; omega),BJ,zP]; refine ⟨?_,_,rfl⟩; unfold Bn; congr 2 <;> simp <;> omega
  ·
   have ea:a.drop i=[]:=by simp; omega
   rw [ea,if_neg (by simp),if_neg (by simp; omega),BJ,zP]; refine ⟨?_,_,rfl⟩; unfold Bn; congr 2 <;> simp <;> omega
theorem Xb {a b:Str} (ha:a.length < 4611686018427387904) (hb:b.length < 4611686018427387904):∃ c,lM a b=some c∧uw a b=some c:=by
 obtain ⟨h1,c,h2⟩:=IG ha hb BIG BIG 0 0 (by omega) (by omega) (by have:=qB; omega) (by have:=qB; omega); refine ⟨c,?_,by simpa [uw] using h2⟩; rw [←h2]; simpa [lM] using h1
end Go.Ft
namespace Go.Ft
open Go
theorem Sy :∀ l,tO l l=0
 | []=>rfl
 | a :: l=>by simp [tO,Sy l]
theorem Sw :∀ {l m:List Nat},tO l m=0→l=m
 | [],[],_=>rfl
 | [],_ :: _,h=>by simp [tO] at h
 | _ :: _,[],h=>by simp [tO] at h
 | a :: l,b :: m,h=>by
  simp only [tO] at h; by_cases h1:a < b
  · simp [h1] at h
  ·
   by_cases h2:b < a
   · simp [h1,h2] at h
   ·
    simp only [h1,h2,if_false] at h; rw [Sw h,show a=b from by omega]
theorem Vi :∀ l m:List Nat,tO m l=- tO l m
 | [],[]=>rfl
 | [],_ :: _=>rfl
 | _ :: _,[]=>rfl
 | a :: l,b :: m=>by
  simp only [tO]; by_cases h1:a < b
  · simp [h1,show ¬ b < a by omega]
  ·
   by_cases h2:b < a
   · simp [h1,h2]
   · simp only [h1,h2,if_false]; exact Vi l m
theorem P5 :∀ {a b c:List Nat},tO a b < 0→tO b c < 0→tO a c < 0
 | [],[],c,h,_=>by simp [tO] at h
 | [],_ :: _,[],_,h=>by simp [tO] at h
 | [],_ :: _,_ :: _,_,_=>by simp [tO]
 | _ :: _,[],c,h,_=>by simp [tO] at h
 | _ :: _,_ :: _,[],_,h=>by simp [tO] at h
 | x :: a,y :: b,z :: c,h,k=>by
  simp only [tO] at h k ⊢; by_cases h1:x < y
  ·
   by_cases k1:y < z
   · simp [show x < z by omega]
   ·
    by_cases k2:z < y
    · simp [k1,k2] at k
    · simp [show x < z by omega]
  ·
   by_cases h2:y < x
   · simp [h1,h2] at h
   ·
    simp only [h1,h2,if_false] at h; by_cases k1:y < z
    · simp [show x < z by omega]
    ·
     by_cases k2:z < y
     · simp [k1,k2] at k
     ·
      simp only [k1,k2,if_false] at k; simp only [show ¬ x < z by omega,show ¬ z < x by omega,if_false]; exact P5 h k
theorem P6 :∀ (xs ys:Str) (u v:List Nat),xs.length=ys.length→tO (xs.map UInt8.toNat ++ u) (ys.map UInt8.toNat ++ v)=if xs=ys then tO u v else Ou xs ys
 | [],[],u,v,_=>by simp
 | [],_ :: _,_,_,h=>by simp at h
 | _ :: _,[],_,_,h=>by simp at h
 | x :: xs,y :: ys,u,v,h=>by
  simp only [List.map_cons,List.cons_append,tO]; have ih:=P6 xs ys u v (by simpa using h); have e1:(x < y)=(x.toNat < y.toNat):=by rw [UInt8.lt_iff_toNat_lt]
  have e2:(y < x)=(y.toNat < x.toNat):=by rw [UInt8.lt_iff_toNat_lt]
  by_cases h1:x.toNat < y.toNat
  ·
   have:x≠y:=fun e=>by subst e; omega
   simp [h1,this,Ou,BK,Go.Op.bytesLess,e1]
  ·
   by_cases h2:y.toNat < x.toNat
   ·
    have:x≠y:=fun e=>by subst e; omega
    simp [h1,h2,this,Ou,BK,Go.Op.bytesLess,e1]
   ·
    have:x=y:=UInt8.toNat_inj.1 (by omega); subst this; simp only [h1,if_false,ih,List.cons.injEq,true_and]; by_cases h3:xs=ys
    · simp [h3]
    ·
     simp only [h3,if_false,Ou,Go.Op.bytesLess,e1,h1,decide_false,Bool.false_or,beq_self_eq_true,Bool.true_and]; congr 1; simp
theorem Js (s:Str):(s.take (jL fD s)).length=jL fD s:=by
 have:=Ag fD s; simp; omega
theorem HZ {c:UInt8} {s:Str} (h:fD c=true):0 < jL fD (c :: s):=by rw [zA,if_pos h]; omega
theorem MS :∀ (k m:Nat) (s:Str),s.length≤k→s.length≤m→P_ k s=P_ m s
 | 0,0,_,_,_=>rfl
 | 0,m + 1,s,h,_=>by
  have:s=[]:=List.eq_nil_of_length_eq_zero (by omega); subst this; rfl
 | k + 1,0,s,_,h=>by
  have:s=[]:=List.eq_nil_of_length_eq_zero (by omega); subst this; rfl
 | k + 1,m + 1,[],_,_=>rfl
 | k + 1,m + 1,c :: s,h1,h2=>by
  simp only [P_]; simp only [List.length_cons] at h1 h2; cases e:fD c with
  | true=>
   have:=HZ (s:=s) e; have:=Ag fD (c :: s); simp only [if_true]; rw [MS k m _ (by simp; omega) (by simp; omega)]
  | false=>
   simp only [Bool.false_eq_true,if_false]; rw [MS k m s (by omega) (by omega)]
theorem Vk {k:Nat} {s:Str} (h:s.length≤k):P_ k s=key s:=MS _ _ _ h (Nat.le_refl _)
theorem FU :key []=[]:=rfl
theorem wU {c:UInt8} {s:Str} (h:fD c=true):key (c :: s)=48 :: (dz ((c :: s).take (jL fD (c :: s)))).length :: ((dz ((c :: s).take (jL fD (c :: s)))).map UInt8.toNat ++ jL fD (c :: s) :: key ((c :: s).drop (jL fD (c :: s)))):=by
 have:=HZ (s:=s) h; have:=Ag fD (c :: s); show P_ (s.length + 1) (c :: s)=_; simp only [P_,h,if_true]; rw [Vk (by simp; omega)]
theorem nu {c:UInt8} {s:Str} (h:fD c=false):key (c :: s)=c.toNat :: key s:=by
 show P_ (s.length + 1) (c :: s)=_; simp only [P_,h,Bool.false_eq_true,if_false]; rw [Vk (Nat.le_refl _)]
theorem aaO (a b:Str) (u v:List Nat):tO ((dz a).length :: ((dz a).map UInt8.toNat ++ a.length :: u)) ((dz b).length :: ((dz b).map UInt8.toNat ++ b.length :: v))=if Qo a b=0 then tO u v else Qo a b:=by
 unfold Qo; simp only [tO]; by_cases h1:(dz a).length=(dz b).length
 ·
  rw [if_neg (by omega),if_neg (by omega),P6 _ _ _ _ h1]; have e:(((dz a).length:Int) != ((dz b).length:Int))=false:=by simp [h1]
  simp only [e,Bool.false_eq_true,if_false]; by_cases h2:dz a=dz b
  ·
   simp only [h2,if_true,beq_self_eq_true,Bool.not_true,Bool.false_eq_true,if_false,tO,Bn,BK]; by_cases h3:a.length < b.length
   · simp [h3]
   ·
    by_cases h4:b.length < a.length
    · simp [h3,h4]
    · simp [h3,h4]
  ·
   have h3:=X9 h2; simp [h2,h3]
 ·
  have e:(((dz a).length:Int) != ((dz b).length:Int))=true:=by simp; omega
  simp only [e,if_true]; by_cases h2:(dz a).length < (dz b).length
  · simp [h2,Bn,BK]
  ·
   have h3:(dz b).length < (dz a).length:=by omega
   simp [h2,h3,Bn,BK]
theorem vF {c:UInt8}:fD c=(decide (48≤c.toNat) && decide (c.toNat≤57)):=by
 unfold fD; congr 1
 · apply decide_eq_decide.2; omega
 · apply decide_eq_decide.2; omega
theorem Im :∀ (n k:Nat) (a b:Str),a.length≤n→a.length < k→a.length < 4611686018427387904→b.length < 4611686018427387904→j_ k a b=some (l8 a b)
 | _,0,_,_,_,h,_,_=>by omega
 | n,k + 1,a,b,hn,hk,ha,hb=>by
  rw [j_]
  match a,b with
  | [],[]=>
   rw [if_neg (by simp),zP]; simp [l8,FU,tO,Bn,BK]
  | [],y :: b=>
   rw [if_neg (by simp),zP]
   have:key (y :: b)≠[]:=by
    cases e:fD y with
    | true=>rw [wU e]; simp
    | false=>rw [nu e]; simp
   cases e:key (y :: b) with
   | nil=>exact absurd e this
   | cons p q=>
    simp only [l8,FU,e,tO,Bn,BK]; rw [if_pos (by simp)]
  | x :: a,[]=>
   rw [if_neg (by simp),zP]
   have:key (x :: a)≠[]:=by
    cases e:fD x with
    | true=>rw [wU e]; simp
    | false=>rw [nu e]; simp
   cases e:key (x :: a) with
   | nil=>exact absurd e this
   | cons p q=>
    simp only [l8,FU,e,tO,Bn,BK]; rw [if_neg (by simp; omega),if_pos (by simp)]
  | x :: a,y :: b=>
   have sa:=Ag fD (x :: a); have sb:=Ag fD (y :: b); have i0:idx (x :: a) 0=some x:=rfl; have j0:idx (y :: b) 0=some y:=rfl; rw [if_pos (by simp),BO ha,BO hb]; simp only [bA]; cases e1:fD x with
   | true=>
    have p1:=HZ (s:=a) e1; cases e2:fD y with
    | true=>
     have p2:=HZ (s:=b) e2; rw [if_pos (by simp; omega),XJ sa,XJ sb]; simp only [bA]; rw [PE (by simp; omega) (by simp; omega)]; simp only [bA]; have hc:=aaO ((x :: a).take (jL fD (x :: a))) ((y :: b).take (jL fD (y :: b))) (key ((x :: a).drop (jL fD (x :: a)))) (key ((y :: b).drop (jL fD (y :: b)))); rw [Js,Js] at hc
     have e3:l8 (x :: a) (y :: b)=if Qo ((x :: a).take (jL fD (x :: a))) ((y :: b).take (jL fD (y :: b)))=0 then tO (key ((x :: a).drop (jL fD (x :: a)))) (key ((y :: b).drop (jL fD (y :: b)))) else Qo ((x :: a).take (jL fD (x :: a))) ((y :: b).take (jL fD (y :: b))):=by
      rw [←hc,l8,wU e1,wU e2,tO,if_neg (by omega),if_neg (by omega)]
     rw [e3]; by_cases h0:Qo ((x :: a).take (jL fD (x :: a))) ((y :: b).take (jL fD (y :: b)))=0
     ·
      rw [if_neg (by simpa using h0),if_pos h0,yg sa,yg sb]; simp only [bA]
      match n,hn with
      | n + 1,hn=>
       exact Im n k _ _ (by simp at hn ⊢; omega) (by simp at hk ⊢; omega) (by simp at ha ⊢; omega) (by simp at hb ⊢; omega)
     · rw [if_pos (by simpa using h0),if_neg h0]
    | false=>
     have q2:jL fD (y :: b)=0:=by rw [zA,e2]; rfl
     rw [if_neg (by simp [q2]),i0,j0]; simp only [bA,IJ]; have d1:=vF (c:=x); rw [e1] at d1; have d2:=vF (c:=y); rw [e2] at d2; simp only [Bool.and_eq_true,Bool.false_eq,Bool.and_eq_false_iff,decide_eq_false_iff_not,Bool.true_eq,decide_eq_true_eq] at d1 d2; rw [if_pos (by simp; omega)]; rw [l8,wU e1,nu e2,tO,Bn,BK]; by_cases h1:x.toNat < y.toNat
     · rw [if_pos (by simp; omega),if_pos (by omega)]
     · rw [if_neg (by simp; omega),if_pos (by simp; omega),if_neg (by omega),if_pos (by omega)]
   | false=>
    have q1:jL fD (x :: a)=0:=by rw [zA,e1]; rfl
    rw [if_neg (by simp [q1]),i0,j0]; simp only [bA,IJ]; by_cases h0:x=y
    ·
     subst h0; rw [if_neg (by simp)]; have s1:=yg (s:=x :: a) (i:=1) (by simp); have s2:=yg (s:=x :: b) (i:=1) (by simp); rw [show ((1:Nat):Int)=1 from rfl] at s1 s2; rw [s1,s2]; simp only [bA,List.drop_succ_cons,List.drop_zero]; rw [l8,nu e1,nu e1,tO,if_neg (by omega),if_neg (by omega)]
     match n,hn with
     | n + 1,hn=>exact Im n k a b (by simp at hn; omega) (by simp at hk; omega) (by simp at ha; omega) (by simp at hb; omega)
    ·
     have h1:x.toNat≠y.toNat:=fun h=>h0 (UInt8.toNat_inj.1 h); rw [if_pos (by simp; omega)]; have d1:=vF (c:=x); rw [e1] at d1; simp only [Bool.and_eq_true,Bool.false_eq,Bool.and_eq_false_iff,decide_eq_false_iff_not] at d1; cases e2:fD y with
     | true=>
      have d2:=vF (c:=y); rw [e2] at d2; simp only [Bool.and_eq_true,Bool.true_eq,decide_eq_true_eq] at d2; rw [l8,nu e1,wU e2,tO,Bn,BK]; by_cases h1:x.toNat < y.toNat
      · rw [if_pos (by simp; omega),if_pos (by omega)]
      · rw [if_neg (by simp; omega),if_pos (by simp; omega),if_neg (by omega),if_pos (by omega)]
     | false=>
      rw [l8,nu e1,nu e2,tO,Bn,BK]; by_cases h2:x.toNat < y.toNat
      · rw [if_pos (by simp; omega),if_pos (by omega)]
      · rw [if_neg (by simp; omega),if_pos (by simp; omega),if_neg (by omega),if_pos (by omega)]
theorem YH {a b:Str} (ha:a.length < 4611686018427387904) (hb:b.length < 4611686018427387904):lM a b=some (l8 a b):=
 Im _ BIG a b (Nat.le_refl _) (by have:=qB; omega) ha hb
theorem T_ :∀ (r:Str),r=List.replicate (r.length - (dz r).length) (48:UInt8) ++ dz r
 | []=>rfl
 | c :: r=>by
  unfold dz; rw [List.dropWhile_cons]; by_cases h:c=48
  ·
   subst h; have ih:=T_ r; have hl:=af9 r; simp only [show (((48:UInt8).toNat:Int) == 48)=true from rfl,if_true]; change _=List.replicate ((48 :: r).length - (dz r).length) (48:UInt8) ++ dz r; rw [show (48 :: r).length - (dz r).length=(r.length - (dz r).length) + 1 by simp; omega,List.replicate_succ,List.cons_append,←ih]
  ·
   have:((c.toNat:Int) == 48)=false:=by
    simp only [beq_eq_false_iff_ne,ne_eq]; intro h2; exact h (UInt8.toNat_inj.1 (by show c.toNat=48; omega))
   simp [this]
theorem key_inj :∀ (n:Nat) (a b:Str),a.length≤n→key a=key b→a=b
 | _,[],[],_,_=>rfl
 | _,[],y :: b,_,h=>by
  cases e:fD y with
  | true=>rw [wU e,FU] at h; cases h
  | false=>rw [nu e,FU] at h; cases h
 | _,x :: a,[],_,h=>by
  cases e:fD x with
  | true=>rw [wU e,FU] at h; cases h
  | false=>rw [nu e,FU] at h; cases h
 | 0,x :: a,y :: b,h,_=>by simp at h
 | n + 1,x :: a,y :: b,hn,h=>by
  cases e1:fD x with
  | true=>
   cases e2:fD y with
   | true=>
    have p1:=HZ (s:=a) e1; have sa:=Ag fD (x :: a); rw [wU e1,wU e2] at h; simp only [List.cons.injEq,true_and] at h; obtain ⟨h1,h2⟩:=h; obtain ⟨h3,h4⟩:=List.append_inj h2 (by simpa using h1); simp only [List.cons.injEq] at h4
    have h5:dz ((x :: a).take (jL fD (x :: a)))=dz ((y :: b).take (jL fD (y :: b))):=by
     refine List.map_inj_right (f:=UInt8.toNat) (fun p q hpq=>UInt8.toNat_inj.1 hpq) |>.1 h3
    have h6:(x :: a).take (jL fD (x :: a))=(y :: b).take (jL fD (y :: b)):=by
     rw [T_ ((x :: a).take (jL fD (x :: a))),T_ ((y :: b).take (jL fD (y :: b))),h5,Js,Js,h4.1]
    have h7:=key_inj n _ _ (by simp at hn ⊢; omega) h4.2; rw [←List.take_append_drop (jL fD (x :: a)) (x :: a),h6,h7,List.take_append_drop]
   | false=>
    rw [wU e1,nu e2] at h; simp only [List.cons.injEq] at h; have d2:=vF (c:=y); rw [e2,←h.1] at d2; simp at d2
  | false=>
   cases e2:fD y with
   | true=>
    rw [nu e1,wU e2] at h; simp only [List.cons.injEq] at h; have d2:=vF (c:=x); rw [e1,h.1] at d2; simp at d2
   | false=>
    rw [nu e1,nu e2] at h; simp only [List.cons.injEq] at h; rw [UInt8.toNat_inj.1 h.1,key_inj n a b (by simp at hn; omega) h.2]
theorem Vd (a:Str):l8 a a=0:=Sy _
theorem Il {a b:Str} (h:l8 a b=0):a=b:=key_inj _ a b (Nat.le_refl _) (Sw h)
theorem FN (a b:Str):l8 b a=- l8 a b:=Vi _ _
theorem LJ {a b c:Str} (h:l8 a b < 0) (k:l8 b c < 0):l8 a c < 0:=P5 h k
theorem Rm {a b c:Str} (h:¬ l8 a b < 0) (k:¬ l8 b c < 0):¬ l8 a c < 0:=by
 intro hc; by_cases h0:l8 a b=0
 · rw [Il h0] at hc; exact k hc
 ·
  by_cases k0:l8 b c=0
  · rw [←Il k0] at hc; exact h hc
  ·
   have h1:l8 b a < 0:=by rw [FN]; omega
   have k1:l8 c b < 0:=by rw [FN]; omega
   have:=LJ k1 h1; rw [FN] at this; omega
end Go.Ft
