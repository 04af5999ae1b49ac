/- Proved here: plain facts on the functional texts that the walks want. -/
import Derived.Test.YtcohpegjnpcgcaaGreatDoorTnFt1
import Derived.Test.YtcohpegjnpcgcaaGreatDoorTnPool1
set_option linter.unusedVariables false
set_option linter.unusedSimpArgs false
set_option linter.unusedSectionVars false
set_option maxHeartbeats 2000000
namespace Go.Ft
open Go
attribute [local congr] acV
theorem acM {n:Int} (h:-9223372036854775808≤n∧n < 9223372036854775808):dG n=n:=X5 (by omega) (by omega)
theorem SL {i:Nat} (h:i < 4611686018427387904):dG ((i:Int) + 1)=((i + 1:Nat):Int):=by rw [acM (by omega)]; omega
theorem acW {α:Type} {l:List α} {i:Nat} (h:i < l.length):idx l (i:Int)=some (l[i]):=by rw [GN,List.getElem?_eq_getElem h]
theorem acI :9223372036854775808 < BIG:=by decide
def acD {α S R:Type} (body:Nat→α→S→(S→Option R)→Option R) (fin:S→Option R):Nat→List α→S→Option R
 | _,[],s=>fin s
 | i,x :: r,s=>body i x s fun s'=>acD body fin (i + 1) r s'
theorem acJ {α S R:Type} {F:Nat→S→Int→Option R} {l:List α} {body:Nat→α→S→(S→Option R)→Option R} {fin:S→Option R} (hl:l.length < 4611686018427387904)
  (hF:∀ k s (i:Nat),F (k + 1) s i=if decide ((i:Int) < (l.length:Int)) then av (idx l i) fun x=>body i x s fun s'=>F k s' (dG ((i:Int) + 1)) else fin s):
  ∀ (k i:Nat) (s:S),l.length < k + i→i≤l.length→F k s (i:Int)=acD body fin i (l.drop i) s
 | 0,i,s,h,h'=>by omega
 | k + 1,i,s,h,h'=>by
  rw [hF]; by_cases hi:i < l.length
  ·
   rw [List.drop_eq_getElem_cons hi,if_pos (by simp; omega),acW hi,eX,acD]; congr 1; funext s'; rw [SL (by omega)]; exact acJ hl hF k (i + 1) s' (by omega) (by omega)
  ·
   have:i=l.length:=by omega
   subst this; rw [if_neg (by simp),List.drop_length,acD]
theorem ac6 {α S R:Type} {F:Nat→S→Int→Option R} {l:List α} {body:Nat→α→S→(S→Option R)→Option R} {fin:S→Option R} (hl:l.length < 4611686018427387904)
  (hF:∀ k s (i:Nat),F (k + 1) s i=if decide ((i:Int) < (l.length:Int)) then av (idx l i) fun x=>body i x s fun s'=>F k s' (dG ((i:Int) + 1)) else fin s) (s:S):F BIG s 0=acD body fin 0 l s:=by
 have:=acJ hl hF BIG 0 s (by have:=acI; omega) (by omega); simpa using this
def isLet (c:UInt8):Bool:=(((decide (97≤(c.toNat:Int))) && (decide ((c.toNat:Int)≤122))) || ((decide (65≤(c.toNat:Int))) && (decide ((c.toNat:Int)≤90)))) || ((c.toNat:Int) == 95)
@[simp] theorem adK (c:UInt8):yG c=some (isLet c):=rfl
@[simp] theorem adP (c:UInt8):zU c=some (RX c):=rfl
@[simp] theorem adI (c:UInt8):acO c=some (isLet c):=rfl
@[simp] theorem adO (c:UInt8):ac_ c=some (RX c):=rfl
@[simp] theorem adS (c:UInt8):BJ c=some (RX c):=rfl
@[simp] theorem adJ (c:UInt8):adg c=some (RX c):=rfl
theorem aaC (p:UInt8→Bool) (c:UInt8) (l:Str):Ub p (c :: l)=if p c then Ub p l + 1 else 0:=by
 unfold Ub; rw [List.takeWhile_cons]; split <;> simp
theorem aaX (p:UInt8→Bool) (l:Str):Ub p l≤l.length:=by
 induction l with
 | nil=>simp [Ub]
 | cons c l ih=>rw [aaC]; split <;> simp <;> omega
theorem acZ {F:Nat→Int→Option Int} {s:Str} (hs:s.length < 4611686018427387904)
  (hF:∀ k (i:Nat),F (k + 1) i=av (if decide ((i:Int) < (s.length:Int)) then av (idx s i) fun x1=>some (RX x1) else some false) fun b1=>if b1 then F k (dG ((i:Int) + 1)) else some (i:Int)):
  ∀ (k i:Nat),s.length < k + i→i≤s.length→F k (i:Int)=some ((i + Ub RX (s.drop i):Nat):Int)
 | 0,i,h,h'=>by omega
 | k + 1,i,h,h'=>by
  rw [hF]; by_cases hi:i < s.length
  ·
   rw [List.drop_eq_getElem_cons hi,aaC,if_pos (by simp; omega),acW hi]; simp only [eX]; cases e:RX s[i] with
   | false=>simp
   | true=>
    simp only [if_true]; rw [SL (by omega),acZ hs hF k (i + 1) (by omega) (by omega)]; simp only [Option.some.injEq,Int.natCast_inj]; omega
  ·
   have:i=s.length:=by omega
   subst this; simp [Ub]
theorem abh {s:Str} (hs:s.length < 4611686018427387904):GQ s=some (Ub RX s:Int):=by
 have:=acZ (F:=zX s) hs (fun k i=>rfl) BIG 0 (by have:=acI; omega) (by omega); simpa [GQ] using this
theorem abg {s:Str} {i:Nat} (h:i≤s.length):sl s (i:Int) (s.length:Int)=some (s.drop i):=by
 rw [adp (by omega) (by omega) (by omega)]; simp
theorem ado {s:Str} {i:Nat} (h:i≤s.length):sl s 0 (i:Int)=some (s.take i):=by
 rw [adp (by omega) (by omega) (by omega)]; simp
theorem trimB (s:Str):∀ (k:Nat),s.length < k→s.length < 4611686018427387904→mG 48 k s=some (dz s):=by
 induction s with
 | nil=>intro k h _; cases k with
  | zero=>simp at h
  | succ k=>simp [mG,dz]
 | cons c s ih=>
  intro k h hs; cases k with
  | zero=>simp at h
  | succ k=>
   simp only [List.length_cons] at h hs; rw [mG,if_pos (by simp)]; have e0:idx (c :: s) 0=some c:=by simp [idx]
   rw [e0]; simp only [eX]; have e1:((48:UInt8).toNat:Int)=48:=rfl; rw [e1]; unfold dz; rw [List.dropWhile_cons]; cases e:((c.toNat:Int) == 48) with
   | false=>simp
   | true=>
    simp only [if_true]; have e2:=abg (s:=c :: s) (i:=1) (by simp); simp only [List.drop_one,List.tail_cons] at e2; rw [show ((1:Nat):Int)=1 from rfl] at e2; rw [e2]; simp only [eX]; exact ih k (by omega) (by omega)
theorem acU {s:Str} (hs:s.length < 4611686018427387904):uf s ([48]:Str)=some (dz s):=by
 unfold uf; cases s with
 | nil=>simp [dz]
 | cons c s=>
  rw [if_neg (by simp),if_pos (by simp)]; have e0:idx ([48]:Str) 0=some 48:=rfl; rw [e0]; simp only [eX]; rw [if_pos (by decide)]; exact trimB _ BIG (by have:=acI; omega) hs
def aa0 (p q:Bool):Int:=if p then -1 else if q then 1 else 0
def aa3 (x y:Int):Int:=aa0 (decide (x < y)) (decide (y < x))
def acC (x y:Str):Int:=aa0 (Go.Op.bytesLess x y) (!(Go.Op.bytesLess x y || x == y))
theorem aa2 (x y:Int):cmp_Compare_int x y=some (aa3 x y):=by
 unfold cmp_Compare_int aa3 aa0 cmp_isNaN_int; by_cases h1:x < y <;> by_cases h2:y < x <;> simp [h1,h2]
theorem acf (x y:UInt8):yj x y=some (aa3 x.toNat y.toNat):=by
 unfold yj aa3 aa0 xB; by_cases h1:(x.toNat:Int) < y.toNat <;> by_cases h2:(y.toNat:Int) < x.toNat <;> simp [h1,h2]
theorem acT (x y:Str):qI x y=some (acC x y):=by
 unfold qI acC aa0 cmp_isNaN_string; cases h1:Go.Op.bytesLess x y <;> cases h2:(x == y) <;> simp
theorem aaZ :∀ x:Str,Go.Op.bytesLess x x=false
 | []=>rfl
 | c :: x=>by
  unfold Go.Op.bytesLess; have:=aaZ x; simp [this]
theorem adk (a b c:Int):I_ ([a,b,c]:List Int)=some (if a != 0 then a else if b != 0 then b else c):=by
 have:=ac6 (F:=fun k (_:Unit) i=>yL [a,b,c] k i) (l:=[a,b,c]) (body:=fun _ Zd _ r=>if Zd != 0 then some Zd else r ()) (fin:=fun _=>some 0) (by simp)
  (fun k s i=>rfl) ()
 unfold I_; rw [this]; simp only [acD]; by_cases h1:a=0 <;> by_cases h2:b=0 <;> by_cases h3:c=0 <;> simp [h1,h2,h3]
def acN (a b:Str):Int:=
 if ((dz a).length:Int) != ((dz b).length:Int) then aa3 (dz a).length (dz b).length else if !(dz a == dz b) then acC (dz a) (dz b) else aa3 a.length b.length
theorem adM (s:Str):(dz s).length≤s.length:=(List.dropWhile_sublist _).length_le
theorem acG {x y:Int}:aa3 x y=0↔x=y:=by
 unfold aa3 aa0; by_cases h1:x < y <;> by_cases h2:y < x <;> simp [h1,h2] <;> omega
theorem ac3 {x y:Str} (h:x≠y):acC x y≠0:=by
 unfold acC aa0; cases h1:Go.Op.bytesLess x y <;> simp [h]
theorem adl (x:Str):acC x x=0:=by
 unfold acC aa0; simp [aaZ]
theorem acQ {a b:Str} (ha:a.length < 4611686018427387904) (hb:b.length < 4611686018427387904):Cw a b=some (acN a b):=by
 unfold Cw acN; rw [acU ha,acU hb]; simp only [eX,aa2,acT,adk,Option.some.injEq]; by_cases h1:((dz a).length:Int)=((dz b).length:Int)
 ·
  have e1:aa3 (dz a).length (dz b).length=0:=acG.2 h1; rw [e1]; by_cases h2:dz a=dz b
  · rw [h2,adl]; simp
  ·
   have:=ac3 h2; simp [h1,h2,this]
 ·
  have e1:aa3 (dz a).length (dz b).length≠0:=fun h=>h1 (acG.1 h); rw [if_pos (by simpa using e1),if_pos (by simpa using h1)]
end Go.Ft
namespace Go.Ft
open Go
theorem acF :∀ l,abX l l=0
 | []=>rfl
 | a :: l=>by simp [abX,acF l]
theorem acE :∀ {l m:List Nat},abX l m=0→l=m
 | [],[],_=>rfl
 | [],_ :: _,h=>by simp [abX] at h
 | _ :: _,[],h=>by simp [abX] at h
 | a :: l,b :: m,h=>by
  simp only [abX] at h; by_cases h1:a < b
  · simp [h1] at h
  ·
   by_cases h2:b < a
   · simp [h1,h2] at h
   ·
    simp only [h1,h2,if_false] at h; rw [acE h,show a=b from by omega]
theorem acK :∀ l m:List Nat,abX m l=- abX l m
 | [],[]=>rfl
 | [],_ :: _=>rfl
 | _ :: _,[]=>rfl
 | a :: l,b :: m=>by
  simp only [abX]; by_cases h1:a < b
  · simp [h1,show ¬ b < a by omega]
  ·
   by_cases h2:b < a
   · simp [h1,h2]
   · simp only [h1,h2,if_false]; exact acK l m
theorem acA :∀ {a b c:List Nat},abX a b < 0→abX b c < 0→abX a c < 0
 | [],[],c,h,_=>by simp [abX] at h
 | [],_ :: _,[],_,h=>by simp [abX] at h
 | [],_ :: _,_ :: _,_,_=>by simp [abX]
 | _ :: _,[],c,h,_=>by simp [abX] at h
 | _ :: _,_ :: _,[],_,h=>by simp [abX] at h
 | x :: a,y :: b,z :: c,h,k=>by
  simp only [abX] at h k ⊢; by_cases h1:x < y
  ·
   by_cases k1:y < z
   · simp [show x < z by omega]
   ·
    by_cases k2:z < y
    · simp [k1,k2] at k
    · simp [show x < z by omega]
  ·
   by_cases h2:y < x
   · simp [h1,h2] at h
   ·
    simp only [h1,h2,if_false] at h; by_cases k1:y < z
    · simp [show x < z by omega]
    ·
     by_cases k2:z < y
     · simp [k1,k2] at k
     ·
      simp only [k1,k2,if_false] at k; simp only [show ¬ x < z by omega,show ¬ z < x by omega,if_false]; exact acA h k
theorem acB :∀ (xs ys:Str) (u v:List Nat),xs.length=ys.length→abX (xs.map UInt8.toNat ++ u) (ys.map UInt8.toNat ++ v)=if xs=ys then abX u v else acC xs ys
 | [],[],u,v,_=>by simp
 | [],_ :: _,_,_,h=>by simp at h
 | _ :: _,[],_,_,h=>by simp at h
 | x :: xs,y :: ys,u,v,h=>by
  simp only [List.map_cons,List.cons_append,abX]; have ih:=acB xs ys u v (by simpa using h); have e1:(x < y)=(x.toNat < y.toNat):=by rw [UInt8.lt_iff_toNat_lt]
  have e2:(y < x)=(y.toNat < x.toNat):=by rw [UInt8.lt_iff_toNat_lt]
  by_cases h1:x.toNat < y.toNat
  ·
   have:x≠y:=fun e=>by subst e; omega
   simp [h1,this,acC,aa0,Go.Op.bytesLess,e1]
  ·
   by_cases h2:y.toNat < x.toNat
   ·
    have:x≠y:=fun e=>by subst e; omega
    simp [h1,h2,this,acC,aa0,Go.Op.bytesLess,e1]
   ·
    have:x=y:=UInt8.toNat_inj.1 (by omega); subst this; simp only [h1,if_false,ih,List.cons.injEq,true_and]; by_cases h3:xs=ys
    · simp [h3]
    ·
     simp only [h3,if_false,acC,Go.Op.bytesLess,e1,h1,decide_false,Bool.false_or,beq_self_eq_true,Bool.true_and]; congr 1; simp
theorem abf (s:Str):(s.take (Ub RX s)).length=Ub RX s:=by
 have:=aaX RX s; simp; omega
theorem aa9 {c:UInt8} {s:Str} (h:RX c=true):0 < Ub RX (c :: s):=by rw [aaC,if_pos h]; omega
theorem abj :∀ (k m:Nat) (s:Str),s.length≤k→s.length≤m→aax k s=aax m s
 | 0,0,_,_,_=>rfl
 | 0,m + 1,s,h,_=>by
  have:s=[]:=List.eq_nil_of_length_eq_zero (by omega); subst this; rfl
 | k + 1,0,s,_,h=>by
  have:s=[]:=List.eq_nil_of_length_eq_zero (by omega); subst this; rfl
 | k + 1,m + 1,[],_,_=>rfl
 | k + 1,m + 1,c :: s,h1,h2=>by
  simp only [aax]; simp only [List.length_cons] at h1 h2; cases e:RX c with
  | true=>
   have:=aa9 (s:=s) e; have:=aaX RX (c :: s); simp only [if_true]; rw [abj k m _ (by simp; omega) (by simp; omega)]
  | false=>
   simp only [Bool.false_eq_true,if_false]; rw [abj k m s (by omega) (by omega)]
theorem acL {k:Nat} {s:Str} (h:s.length≤k):aax k s=key s:=abj _ _ _ h (Nat.le_refl _)
theorem aa1 :key []=[]:=rfl
theorem aai {c:UInt8} {s:Str} (h:RX c=true):key (c :: s)=48 :: (dz ((c :: s).take (Ub RX (c :: s)))).length :: ((dz ((c :: s).take (Ub RX (c :: s)))).map UInt8.toNat ++ Ub RX (c :: s) :: key ((c :: s).drop (Ub RX (c :: s)))):=by
 have:=aa9 (s:=s) h; have:=aaX RX (c :: s); show aax (s.length + 1) (c :: s)=_; simp only [aax,h,if_true]; rw [acL (by simp; omega)]
theorem aag {c:UInt8} {s:Str} (h:RX c=false):key (c :: s)=c.toNat :: key s:=by
 show aax (s.length + 1) (c :: s)=_; simp only [aax,h,Bool.false_eq_true,if_false]; rw [acL (Nat.le_refl _)]
theorem adn (a b:Str) (u v:List Nat):abX ((dz a).length :: ((dz a).map UInt8.toNat ++ a.length :: u)) ((dz b).length :: ((dz b).map UInt8.toNat ++ b.length :: v))=if acN a b=0 then abX u v else acN a b:=by
 unfold acN; simp only [abX]; by_cases h1:(dz a).length=(dz b).length
 ·
  rw [if_neg (by omega),if_neg (by omega),acB _ _ _ _ h1]; have e:(((dz a).length:Int) != ((dz b).length:Int))=false:=by simp [h1]
  simp only [e,Bool.false_eq_true,if_false]; by_cases h2:dz a=dz b
  ·
   simp only [h2,if_true,beq_self_eq_true,Bool.not_true,Bool.false_eq_true,if_false,abX,aa3,aa0]; by_cases h3:a.length < b.length
   · simp [h3]
   ·
    by_cases h4:b.length < a.length
    · simp [h3,h4]
    · simp [h3,h4]
  ·
   have h3:=ac3 h2; simp [h2,h3]
 ·
  have e:(((dz a).length:Int) != ((dz b).length:Int))=true:=by simp; omega
  simp only [e,if_true]; by_cases h2:(dz a).length < (dz b).length
  · simp [h2,aa3,aa0]
  ·
   have h3:(dz b).length < (dz a).length:=by omega
   simp [h2,h3,aa3,aa0]
theorem aah {c:UInt8}:RX c=(decide (48≤c.toNat) && decide (c.toNat≤57)):=by
 unfold RX; congr 1
 · apply decide_eq_decide.2; omega
 · apply decide_eq_decide.2; omega
theorem abe :∀ (n k:Nat) (a b:Str),a.length≤n→a.length < k→a.length < 4611686018427387904→b.length < 4611686018427387904→pW k a b=some (Tq a b)
 | _,0,_,_,_,h,_,_=>by omega
 | n,k + 1,a,b,hn,hk,ha,hb=>by
  rw [pW]
  match a,b with
  | [],[]=>
   rw [if_neg (by simp),aa2]; simp [Tq,aa1,abX,aa3,aa0]
  | [],y :: b=>
   rw [if_neg (by simp),aa2]
   have:key (y :: b)≠[]:=by
    cases e:RX y with
    | true=>rw [aai e]; simp
    | false=>rw [aag e]; simp
   cases e:key (y :: b) with
   | nil=>exact absurd e this
   | cons p q=>
    simp only [Tq,aa1,e,abX,aa3,aa0]; rw [if_pos (by simp)]
  | x :: a,[]=>
   rw [if_neg (by simp),aa2]
   have:key (x :: a)≠[]:=by
    cases e:RX x with
    | true=>rw [aai e]; simp
    | false=>rw [aag e]; simp
   cases e:key (x :: a) with
   | nil=>exact absurd e this
   | cons p q=>
    simp only [Tq,aa1,e,abX,aa3,aa0]; rw [if_neg (by simp; omega),if_pos (by simp)]
  | x :: a,y :: b=>
   have sa:=aaX RX (x :: a); have sb:=aaX RX (y :: b); have i0:idx (x :: a) 0=some x:=rfl; have j0:idx (y :: b) 0=some y:=rfl; rw [if_pos (by simp),abh ha,abh hb]; simp only [eX]; cases e1:RX x with
   | true=>
    have p1:=aa9 (s:=a) e1; cases e2:RX y with
    | true=>
     have p2:=aa9 (s:=b) e2; rw [if_pos (by simp; omega),ado sa,ado sb]; simp only [eX]; rw [acQ (by simp; omega) (by simp; omega)]; simp only [eX]; have hc:=adn ((x :: a).take (Ub RX (x :: a))) ((y :: b).take (Ub RX (y :: b))) (key ((x :: a).drop (Ub RX (x :: a)))) (key ((y :: b).drop (Ub RX (y :: b)))); rw [abf,abf] at hc
     have e3:Tq (x :: a) (y :: b)=if acN ((x :: a).take (Ub RX (x :: a))) ((y :: b).take (Ub RX (y :: b)))=0 then abX (key ((x :: a).drop (Ub RX (x :: a)))) (key ((y :: b).drop (Ub RX (y :: b)))) else acN ((x :: a).take (Ub RX (x :: a))) ((y :: b).take (Ub RX (y :: b))):=by
      rw [←hc,Tq,aai e1,aai e2,abX,if_neg (by omega),if_neg (by omega)]
     rw [e3]; by_cases h0:acN ((x :: a).take (Ub RX (x :: a))) ((y :: b).take (Ub RX (y :: b)))=0
     ·
      rw [if_neg (by simpa using h0),if_pos h0,abg sa,abg sb]; simp only [eX]
      match n,hn with
      | n + 1,hn=>
       exact abe n k _ _ (by simp at hn ⊢; omega) (by simp at hk ⊢; omega) (by simp at ha ⊢; omega) (by simp at hb ⊢; omega)
     · rw [if_pos (by simpa using h0),if_neg h0]
    | false=>
     have q2:Ub RX (y :: b)=0:=by rw [aaC,e2]; rfl
     rw [if_neg (by simp [q2]),i0,j0]; simp only [eX,acf]; have d1:=aah (c:=x); rw [e1] at d1; have d2:=aah (c:=y); rw [e2] at d2; simp only [Bool.and_eq_true,Bool.false_eq,Bool.and_eq_false_iff,decide_eq_false_iff_not,Bool.true_eq,decide_eq_true_eq] at d1 d2; rw [if_pos (by simp; omega)]; rw [Tq,aai e1,aag e2,abX,aa3,aa0]; by_cases h1:x.toNat < y.toNat
     · rw [if_pos (by simp; omega),if_pos (by omega)]
     · rw [if_neg (by simp; omega),if_pos (by simp; omega),if_neg (by omega),if_pos (by omega)]
   | false=>
    have q1:Ub RX (x :: a)=0:=by rw [aaC,e1]; rfl
    rw [if_neg (by simp [q1]),i0,j0]; simp only [eX,acf]; by_cases h0:x=y
    ·
     subst h0; rw [if_neg (by simp)]; have s1:=abg (s:=x :: a) (i:=1) (by simp); have s2:=abg (s:=x :: b) (i:=1) (by simp); rw [show ((1:Nat):Int)=1 from rfl] at s1 s2; rw [s1,s2]; simp only [eX,List.drop_succ_cons,List.drop_zero]; rw [Tq,aag e1,aag e1,abX,if_neg (by omega),if_neg (by omega)]
     match n,hn with
     | n + 1,hn=>exact abe n k a b (by simp at hn; omega) (by simp at hk; omega) (by simp at ha; omega) (by simp at hb; omega)
    ·
     have h1:x.toNat≠y.toNat:=fun h=>h0 (UInt8.toNat_inj.1 h); rw [if_pos (by simp; omega)]; have d1:=aah (c:=x); rw [e1] at d1; simp only [Bool.and_eq_true,Bool.false_eq,Bool.and_eq_false_iff,decide_eq_false_iff_not] at d1; cases e2:RX y with
     | true=>
      have d2:=aah (c:=y); rw [e2] at d2; simp only [Bool.and_eq_true,Bool.true_eq,decide_eq_true_eq] at d2; rw [Tq,aag e1,aai e2,abX,aa3,aa0]; by_cases h1:x.toNat < y.toNat
      · rw [if_pos (by simp; omega),if_pos (by omega)]
      · rw [if_neg (by simp; omega),if_pos (by simp; omega),if_neg (by omega),if_pos (by omega)]
     | false=>
      rw [Tq,aag e1,aag e2,abX,aa3,aa0]; by_cases h2:x.toNat < y.toNat
      · rw [if_pos (by simp; omega),if_pos (by omega)]
      · rw [if_neg (by simp; omega),if_pos (by simp; omega),if_neg (by omega),if_pos (by omega)]
theorem aaY {a b:Str} (ha:a.length < 4611686018427387904) (hb:b.length < 4611686018427387904):ru a b=some (Tq a b):=
 abe _ BIG a b (Nat.le_refl _) (by have:=acI; omega) ha hb
theorem acH :∀ (r:Str),r=List.replicate (r.length - (dz r).length) (48:UInt8) ++ dz r
 | []=>rfl
 | c :: r=>by
  unfold dz; rw [List.dropWhile_cons]; by_cases h:c=48
  ·
   subst h; have ih:=acH r; have hl:=adM r; simp only [show (((48:UInt8).toNat:Int) == 48)=true from rfl,if_true]; change _=List.replicate ((48 :: r).length - (dz r).length) (48:UInt8) ++ dz r; rw [show (48 :: r).length - (dz r).length=(r.length - (dz r).length) + 1 by simp; omega,List.replicate_succ,List.cons_append,←ih]
  ·
   have:((c.toNat:Int) == 48)=false:=by
    simp only [beq_eq_false_iff_ne,ne_eq]; intro h2; exact h (UInt8.toNat_inj.1 (by show c.toNat=48; omega))
   simp [this]
theorem key_inj :∀ (n:Nat) (a b:Str),a.length≤n→key a=key b→a=b
 | _,[],[],_,_=>rfl
 | _,[],y :: b,_,h=>by
  cases e:RX y with
  | true=>rw [aai e,aa1] at h; cases h
  | false=>rw [aag e,aa1] at h; cases h
 | _,x :: a,[],_,h=>by
  cases e:RX x with
  | true=>rw [aai e,aa1] at h; cases h
  | false=>rw [aag e,aa1] at h; cases h
 | 0,x :: a,y :: b,h,_=>by simp at h
 | n + 1,x :: a,y :: b,hn,h=>by
  cases e1:RX x with
  | true=>
   cases e2:RX y with
   | true=>
    have p1:=aa9 (s:=a) e1; have sa:=aaX RX (x :: a); rw [aai e1,aai e2] at h; simp only [List.cons.injEq,true_and] at h; obtain ⟨h1,h2⟩:=h; obtain ⟨h3,h4⟩:=List.append_inj h2 (by simpa using h1); simp only [List.cons.injEq] at h4
    have h5:dz ((x :: a).take (Ub RX (x :: a)))=dz ((y :: b).take (Ub RX (y :: b))):=by
     refine List.map_inj_right (f:=UInt8.toNat) (fun p q hpq=>UInt8.toNat_inj.1 hpq) |>.1 h3
    have h6:(x :: a).take (Ub RX (x :: a))=(y :: b).take (Ub RX (y :: b)):=by
     rw [acH ((x :: a).take (Ub RX (x :: a))),acH ((y :: b).take (Ub RX (y :: b))),h5,abf,abf,h4.1]
    have h7:=key_inj n _ _ (by simp at hn ⊢; omega) h4.2; rw [←List.take_append_drop (Ub RX (x :: a)) (x :: a),h6,h7,List.take_append_drop]
   | false=>
    rw [aai e1,aag e2] at h; simp only [List.cons.injEq] at h; have d2:=aah (c:=y); rw [e2,←h.1] at d2; simp at d2
  | false=>
   cases e2:RX y with
   | true=>
    rw [aag e1,aai e2] at h; simp only [List.cons.injEq] at h; have d2:=aah (c:=x); rw [e1,h.1] at d2; simp at d2
   | false=>
    rw [aag e1,aag e2] at h; simp only [List.cons.injEq] at h; rw [UInt8.toNat_inj.1 h.1,key_inj n a b (by simp at hn; omega) h.2]
theorem Y1 (a:Str):Tq a a=0:=acF _
theorem Y0 {a b:Str} (h:Tq a b=0):a=b:=key_inj _ a b (Nat.le_refl _) (acE h)
theorem aaq (a b:Str):Tq b a=- Tq a b:=acK _ _
theorem Yj {a b c:Str} (h:Tq a b < 0) (k:Tq b c < 0):Tq a c < 0:=acA h k
theorem XR {a b c:Str} (h:¬ Tq a b < 0) (k:¬ Tq b c < 0):¬ Tq a c < 0:=by
 intro hc; by_cases h0:Tq a b=0
 · rw [Y0 h0] at hc; exact k hc
 ·
  by_cases k0:Tq b c=0
  · rw [←Y0 k0] at hc; exact h hc
  ·
   have h1:Tq b a < 0:=by rw [aaq]; omega
   have k1:Tq c b < 0:=by rw [aaq]; omega
   have:=Yj k1 h1; rw [aaq] at this; omega
end Go.Ft
