/- Proved here: plain facts on the functional texts. -/
import Derived.Test.YtdgljcpjcgldfaaGreatDoorAbFt1
set_option linter.unusedVariables false
set_option linter.unusedSimpArgs false
set_option linter.unusedSectionVars false
set_option maxHeartbeats 2000000
namespace Go.Ft
open Go
attribute [local congr] tC
theorem Jk {n:Int} (h:-9223372036854775808≤n∧n < 9223372036854775808):fJ n=n:=Hq (by omega) (by omega)
theorem vE {i:Nat} (h:i < 4611686018427387904):fJ ((i:Int) + 1)=((i + 1:Nat):Int):=by rw [Jk (by omega)]; omega
theorem lI {α:Type} {l:List α} {i:Nat} (h:i < l.length):idx l (i:Int)=some (l[i]):=by rw [Ic,List.getElem?_eq_getElem h]
theorem gM :9223372036854775808 < BIG:=by decide
def yG {α S R:Type} (body:Nat→α→S→(S→Option R)→Option R) (fin:S→Option R):Nat→List α→S→Option R
 | _,[],s=>fin s
 | i,x :: r,s=>body i x s fun s'=>yG body fin (i + 1) r s'
theorem Bt {α S R:Type} {F:Nat→S→Int→Option R} {l:List α} {body:Nat→α→S→(S→Option R)→Option R} {fin:S→Option R} (hl:l.length < 4611686018427387904)
  (hF:∀ k s (i:Nat),F (k + 1) s i=if decide ((i:Int) < (l.length:Int)) then aj (idx l i) fun x=>body i x s fun s'=>F k s' (fJ ((i:Int) + 1)) else fin s):
  ∀ (k i:Nat) (s:S),l.length < k + i→i≤l.length→F k s (i:Int)=yG body fin i (l.drop i) s
 | 0,i,s,h,h'=>by omega
 | k + 1,i,s,h,h'=>by
  rw [hF]; by_cases hi:i < l.length
  ·
   rw [List.drop_eq_getElem_cons hi,if_pos (by simp; omega),lI hi,ay,yG]; congr 1; funext s'; rw [vE (by omega)]; exact Bt hl hF k (i + 1) s' (by omega) (by omega)
  ·
   have:i=l.length:=by omega
   subst this; rw [if_neg (by simp),List.drop_length,yG]
theorem Ez {α S R:Type} {F:Nat→S→Int→Option R} {l:List α} {body:Nat→α→S→(S→Option R)→Option R} {fin:S→Option R} (hl:l.length < 4611686018427387904)
  (hF:∀ k s (i:Nat),F (k + 1) s i=if decide ((i:Int) < (l.length:Int)) then aj (idx l i) fun x=>body i x s fun s'=>F k s' (fJ ((i:Int) + 1)) else fin s) (s:S):F BIG s 0=yG body fin 0 l s:=by
 have:=Bt hl hF BIG 0 s (by have:=gM; omega) (by omega); simpa using this
@[simp] theorem Ie (c:UInt8):kr c=some (aW c):=rfl
@[simp] theorem FM (c:UInt8):kW c=some (aW c):=rfl
theorem jO (p:UInt8→Bool) (c:UInt8) (l:Str):dF p (c :: l)=if p c then dF p l + 1 else 0:=by
 unfold dF; rw [List.takeWhile_cons]; split <;> simp
theorem lq (p:UInt8→Bool) (l:Str):dF p l≤l.length:=by
 induction l with
 | nil=>simp [dF]
 | cons c l ih=>rw [jO]; split <;> simp <;> omega
theorem zq {F:Nat→Int→Option Int} {s:Str} (hs:s.length < 4611686018427387904)
  (hF:∀ k (i:Nat),F (k + 1) i=aj (if decide ((i:Int) < (s.length:Int)) then aj (idx s i) fun x1=>some (aW x1) else some false) fun b1=>if b1 then F k (fJ ((i:Int) + 1)) else some (i:Int)):
  ∀ (k i:Nat),s.length < k + i→i≤s.length→F k (i:Int)=some ((i + dF aW (s.drop i):Nat):Int)
 | 0,i,h,h'=>by omega
 | k + 1,i,h,h'=>by
  rw [hF]; by_cases hi:i < s.length
  ·
   rw [List.drop_eq_getElem_cons hi,jO,if_pos (by simp; omega),lI hi]; simp only [ay]; cases e:aW s[i] with
   | false=>simp
   | true=>
    simp only [if_true]; rw [vE (by omega),zq hs hF k (i + 1) (by omega) (by omega)]; simp only [Option.some.injEq,Int.natCast_inj]; omega
  ·
   have:i=s.length:=by omega
   subst this; simp [dF]
theorem kM {s:Str} (hs:s.length < 4611686018427387904):kX s=some (dF aW s:Int):=by
 have:=zq (F:=jF s) hs (fun k i=>rfl) BIG 0 (by have:=gM; omega) (by omega); simpa [kX] using this
theorem vX {s:Str} (hs:s.length < 4611686018427387904) {i:Nat} (hi:i≤s.length):rR s (i:Int)=some ((i + dF aW (s.drop i):Nat):Int):=
 zq (F:=lC s) hs (fun k i=>rfl) BIG i (by have:=gM; omega) hi
theorem fU {s:Str} {i:Nat} (h:i≤s.length):sl s (i:Int) (s.length:Int)=some (s.drop i):=by
 rw [DU (by omega) (by omega) (by omega)]; simp
theorem vJ {s:Str} {i:Nat} (h:i≤s.length):sl s 0 (i:Int)=some (s.take i):=by
 rw [DU (by omega) (by omega) (by omega)]; simp
theorem trimB (s:Str):∀ (k:Nat),s.length < k→s.length < 4611686018427387904→bN 48 k s=some (dz s):=by
 induction s with
 | nil=>intro k h _; cases k with
  | zero=>simp at h
  | succ k=>simp [bN,dz]
 | cons c s ih=>
  intro k h hs; cases k with
  | zero=>simp at h
  | succ k=>
   simp only [List.length_cons] at h hs; rw [bN,if_pos (by simp)]; have e0:idx (c :: s) 0=some c:=by simp [idx]
   rw [e0]; simp only [ay]; have e1:((48:UInt8).toNat:Int)=48:=rfl; rw [e1]; unfold dz; rw [List.dropWhile_cons]; cases e:((c.toNat:Int) == 48) with
   | false=>simp
   | true=>
    simp only [if_true]; have e2:=fU (s:=c :: s) (i:=1) (by simp); simp only [List.drop_one,List.tail_cons] at e2; rw [show ((1:Nat):Int)=1 from rfl] at e2; rw [e2]; simp only [ay]; exact ih k (by omega) (by omega)
theorem DL {s:Str} (hs:s.length < 4611686018427387904):eH s ([48]:Str)=some (dz s):=by
 unfold eH; cases s with
 | nil=>simp [dz]
 | cons c s=>
  rw [if_neg (by simp),if_pos (by simp)]; have e0:idx ([48]:Str) 0=some 48:=rfl; rw [e0]; simp only [ay]; rw [if_pos (by decide)]; exact trimB _ BIG (by have:=gM; omega) hs
theorem yx {s:Str} (hs:s.length < 4611686018427387904):∀ (k i:Nat),s.length < k + i→i≤s.length→iG s k (i:Int)=some (dz (s.drop i))
 | 0,i,h,h'=>by omega
 | k + 1,i,h,h'=>by
  rw [iG]; by_cases hi:i < s.length
  ·
   rw [List.drop_eq_getElem_cons hi,if_pos (by simp; omega),lI hi]; simp only [ay]; unfold dz; rw [List.dropWhile_cons]; cases e:((s[i].toNat:Int) == 48) with
   | false=>
    simp only [Bool.false_eq_true,if_false]; rw [fU (by omega),List.drop_eq_getElem_cons hi]
   | true=>
    simp only [if_true]; rw [vE (by omega)]; exact yx hs k (i + 1) (by omega) (by omega)
  ·
   have:i=s.length:=by omega
   subst this; rw [if_neg (by simp)]; simp only [ay,Bool.false_eq_true,if_false]; rw [fU (by omega)]; simp [dz]
theorem Bq {s:Str} (hs:s.length < 4611686018427387904):kV s=some (dz s):=by
 have:=yx hs BIG 0 (by have:=gM; omega) (by omega); simpa [kV] using this
def kL (p q:Bool):Int:=if p then -1 else if q then 1 else 0
def kH (x y:Int):Int:=kL (decide (x < y)) (decide (y < x))
def uP (x y:Str):Int:=kL (Go.Op.bytesLess x y) (!(Go.Op.bytesLess x y || x == y))
theorem kK (p q:Bool):iH p q=some (kL p q):=by
 unfold iH kL; cases p <;> cases q <;> rfl
theorem jU (x y:Int):cmp_Compare_int x y=some (kH x y):=by
 unfold cmp_Compare_int kH kL cmp_isNaN_int; by_cases h1:x < y <;> by_cases h2:y < x <;> simp [h1,h2]
theorem pG (x y:UInt8):fP x y=some (kH x.toNat y.toNat):=by
 unfold fP kH kL iy; by_cases h1:(x.toNat:Int) < y.toNat <;> by_cases h2:(y.toNat:Int) < x.toNat <;> simp [h1,h2]
theorem Dj (x y:Str):eT x y=some (uP x y):=by
 unfold eT uP kL cmp_isNaN_string; cases h1:Go.Op.bytesLess x y <;> cases h2:(x == y) <;> simp
theorem nC :∀ x:Str,Go.Op.bytesLess x x=false
 | []=>rfl
 | c :: x=>by
  unfold Go.Op.bytesLess; have:=nC x; simp [this]
theorem ER (a b c:Int):lN ([a,b,c]:List Int)=some (if a != 0 then a else if b != 0 then b else c):=by
 have:=Ez (F:=fun k (_:Unit) i=>iV [a,b,c] k i) (l:=[a,b,c]) (body:=fun _ Ep _ r=>if Ep != 0 then some Ep else r ()) (fin:=fun _=>some 0) (by simp)
  (fun k s i=>rfl) ()
 unfold lN; rw [this]; simp only [yG]; by_cases h1:a=0 <;> by_cases h2:b=0 <;> by_cases h3:c=0 <;> simp [h1,h2,h3]
def w_ (a b:Str):Int:=
 if ((dz a).length:Int) != ((dz b).length:Int) then kH (dz a).length (dz b).length else if !(dz a == dz b) then uP (dz a) (dz b) else kH a.length b.length
theorem tQ {x y:Int}:kH x y=0↔x=y:=by
 unfold kH kL; by_cases h1:x < y <;> by_cases h2:y < x <;> simp [h1,h2] <;> omega
theorem Ec {x y:Str} (h:x≠y):uP x y≠0:=by
 unfold uP kL; cases h1:Go.Op.bytesLess x y <;> simp [h]
theorem ES (x:Str):uP x x=0:=by
 unfold uP kL; simp [nC]
theorem wh {a b:Str} (ha:a.length < 4611686018427387904) (hb:b.length < 4611686018427387904):iU a b=some (w_ a b):=by
 unfold iU w_; rw [DL ha,DL hb]; simp only [ay,jU,Dj,ER,Option.some.injEq]; by_cases h1:((dz a).length:Int)=((dz b).length:Int)
 ·
  have e1:kH (dz a).length (dz b).length=0:=tQ.2 h1; rw [e1]; by_cases h2:dz a=dz b
  · rw [h2,ES]; simp
  ·
   have:=Ec h2; simp [h1,h2,this]
 ·
  have e1:kH (dz a).length (dz b).length≠0:=fun h=>h1 (tQ.1 h); rw [if_pos (by simpa using e1),if_pos (by simpa using h1)]
theorem Hy {a b:Str} (ha:a.length < 4611686018427387904) (hb:b.length < 4611686018427387904):o7 a b=some (w_ a b):=by
 unfold o7 w_; rw [Bq ha,Bq hb]; simp only [ay,kK]; by_cases h1:((dz a).length:Int)=((dz b).length:Int)
 ·
  by_cases h2:dz a=dz b
  · simp [h2,kH]
  · simp [h1,h2,uP]
 · simp [h1,kH]
theorem yB {s:Str} (h:s≠[]):0 < dF aW s↔aW (s.head h)=true:=by
 cases s with
 | nil=>exact absurd rfl h
 | cons c s=>rw [jO]; cases e:aW c <;> simp [e]
theorem pF {a b:Str} (ha:a.length < 4611686018427387904) (hb:b.length < 4611686018427387904):∀ (k k' i j:Nat),i≤a.length→j≤b.length→a.length < k + i→a.length < k' + i→
  b_ k (a.drop i) (b.drop j)=dR a b k' (i:Int) (j:Int)∧∃ c,dR a b k' (i:Int) (j:Int)=some c
 | 0,k',i,j,_,_,h,_=>by omega
 | k + 1,0,i,j,_,_,_,h=>by omega
 | k + 1,k' + 1,i,j,hi,hj,hk,hk'=>by
  rw [b_,dR]; by_cases h1:i < a.length
  ·
   by_cases h2:j < b.length
   ·
    have ea:=List.drop_eq_getElem_cons h1; have eb:=List.drop_eq_getElem_cons h2; have na:a.drop i≠[]:=fun h=>by simp at h; omega
    have nb:b.drop j≠[]:=fun h=>by simp at h; omega
    have la:(a.drop i).length=a.length - i:=by simp
    have lb:(b.drop j).length=b.length - j:=by simp
    have sa:=lq aW (a.drop i); have sb:=lq aW (b.drop j); have pa:=yB na; have pb:=yB nb; have La:(a.drop i).head na=a[i]:=by simp
    have K_:(b.drop j).head nb=b[j]:=by simp
    rw [La] at pa; rw [K_] at pb; rw [if_pos (by simp [h1,h2]),if_pos (by simp; omega),kM (by omega),kM (by omega),lI h1,lI h2]; simp only [ay,kK,FM]; have i0:idx (a.drop i) 0=some a[i]:=by rw [ea]; rfl
    have j0:idx (b.drop j) 0=some b[j]:=by rw [eb]; rfl
    have hone:(if aW a[i]=true then some (aW b[j]) else some false)=some (aW a[i] && aW b[j]):=by cases aW a[i] <;> simp
    rw [hone]; simp only [ay]; cases hd:(aW a[i] && aW b[j]) with
    | true=>
     simp only [Bool.and_eq_true] at hd; have q1:=pa.2 hd.1; have q2:=pb.2 hd.2; rw [if_pos (by simp; omega)]; simp only [if_true]; rw [vX ha (by omega),vX hb (by omega),vJ sa,vJ sb]; simp only [ay]
     have e1:sl a (i:Int) ((i + dF aW (a.drop i):Nat):Int)=some ((a.drop i).take (dF aW (a.drop i))):=by
      rw [DU (by omega) (by omega) (by omega)]; simp only [Int.toNat_natCast,Option.some.injEq]; rw [List.drop_take,Nat.add_sub_cancel_left]
     have e2:sl b (j:Int) ((j + dF aW (b.drop j):Nat):Int)=some ((b.drop j).take (dF aW (b.drop j))):=by
      rw [DU (by omega) (by omega) (by omega)]; simp only [Int.toNat_natCast,Option.some.injEq]; rw [List.drop_take,Nat.add_sub_cancel_left]
     rw [e1,e2]; simp only [ay]; rw [wh (by simp; omega) (by simp; omega),Hy (by simp; omega) (by simp; omega)]; simp only [ay]; by_cases hc:w_ ((a.drop i).take (dF aW (a.drop i))) ((b.drop j).take (dF aW (b.drop j)))=0
     ·
      rw [if_neg (by simp [hc]),if_neg (by simp [hc]),fU sa,fU sb]; simp only [ay,List.drop_drop]; exact pF ha hb k k' _ _ (by omega) (by omega) (by omega) (by omega)
     ·
      rw [if_pos (by simpa using hc),if_pos (by simpa using hc)]; exact ⟨rfl,_,rfl⟩
    | false=>
     rw [if_neg (by
      simp only [Bool.and_eq_true,decide_eq_true_eq,not_and]; intro h3 h4; have:=pa.1 (by omega); have:=pb.1 (by omega)
      simp_all)]
     simp only [Bool.false_eq_true,if_false]; rw [i0,j0]; simp only [ay,pG]; by_cases hc:(a[i].toNat:Int)=(b[j].toNat:Int)
     ·
      rw [if_neg (by simpa using hc)]; have:kL (decide ((a[i].toNat:Int) < (b[j].toNat:Int))) (decide ((b[j].toNat:Int) < (a[i].toNat:Int)))=0:=by simp [kL,hc]
      rw [this,if_neg (by simp),vE (by omega),vE (by omega)]; have s1:=fU (s:=a.drop i) (i:=1) (by omega); have s2:=fU (s:=b.drop j) (i:=1) (by omega); rw [show ((1:Nat):Int)=1 from rfl] at s1 s2; rw [s1,s2]; simp only [ay,List.drop_drop]; exact pF ha hb k k' _ _ (by omega) (by omega) (by omega) (by omega)
     ·
      rw [if_pos (by simpa using hc)]; have e3:kH (a[i].toNat) (b[j].toNat)≠0:=fun h=>hc (tQ.1 h); have:kL (decide ((a[i].toNat:Int) < (b[j].toNat:Int))) (decide ((b[j].toNat:Int) < (a[i].toNat:Int)))=kH (a[i].toNat) (b[j].toNat):=rfl; rw [this,if_pos (by simpa using e3)]; exact ⟨rfl,_,rfl⟩
   ·
    have eb:b.drop j=[]:=by simp; omega
    rw [eb,if_neg (by simp),if_neg (by simp; omega),kK,jU]; refine ⟨?_,_,rfl⟩; unfold kH; congr 2 <;> simp <;> omega
  ·
   have ea:a.drop i=[]:=by simp; omega
   rw [ea,if_neg (by simp),if_neg (by simp; omega),kK,jU]; refine ⟨?_,_,rfl⟩; unfold kH; congr 2 <;> simp <;> omega
theorem Di {a b:Str} (ha:a.length < 4611686018427387904) (hb:b.length < 4611686018427387904):∃ c,gH a b=some c∧gX a b=some c:=by
 obtain ⟨h1,c,h2⟩:=pF ha hb BIG BIG 0 0 (by omega) (by omega) (by have:=gM; omega) (by have:=gM; omega); refine ⟨c,?_,by simpa [gX] using h2⟩; rw [←h2]; simpa [gH] using h1
end Go.Ft
namespace Go.Ft
open Go
theorem wz :∀ (xs ys:Str) (u v:List Nat),xs.length=ys.length→oF (xs.map UInt8.toNat ++ u) (ys.map UInt8.toNat ++ v)=if xs=ys then oF u v else uP xs ys
 | [],[],u,v,_=>by simp
 | [],_ :: _,_,_,h=>by simp at h
 | _ :: _,[],_,_,h=>by simp at h
 | x :: xs,y :: ys,u,v,h=>by
  simp only [List.map_cons,List.cons_append,oF]; have ih:=wz xs ys u v (by simpa using h); have e1:(x < y)=(x.toNat < y.toNat):=by rw [UInt8.lt_iff_toNat_lt]
  have e2:(y < x)=(y.toNat < x.toNat):=by rw [UInt8.lt_iff_toNat_lt]
  by_cases h1:x.toNat < y.toNat
  ·
   have:x≠y:=fun e=>by subst e; omega
   simp [h1,this,uP,kL,Go.Op.bytesLess,e1]
  ·
   by_cases h2:y.toNat < x.toNat
   ·
    have:x≠y:=fun e=>by subst e; omega
    simp [h1,h2,this,uP,kL,Go.Op.bytesLess,e1]
   ·
    have:x=y:=UInt8.toNat_inj.1 (by omega); subst this; simp only [h1,if_false,ih,List.cons.injEq,true_and]; by_cases h3:xs=ys
    · simp [h3]
    ·
     simp only [h3,if_false,uP,Go.Op.bytesLess,e1,h1,decide_false,Bool.false_or,beq_self_eq_true,Bool.true_and]; congr 1; simp
theorem yC (s:Str):(s.take (dF aW s)).length=dF aW s:=by
 have:=lq aW s; simp; omega
theorem rD {c:UInt8} {s:Str} (h:aW c=true):0 < dF aW (c :: s):=by rw [jO,if_pos h]; omega
theorem tu :∀ (k m:Nat) (s:Str),s.length≤k→s.length≤m→wI k s=wI m s
 | 0,0,_,_,_=>rfl
 | 0,m + 1,s,h,_=>by
  have:s=[]:=List.eq_nil_of_length_eq_zero (by omega); subst this; rfl
 | k + 1,0,s,_,h=>by
  have:s=[]:=List.eq_nil_of_length_eq_zero (by omega); subst this; rfl
 | k + 1,m + 1,[],_,_=>rfl
 | k + 1,m + 1,c :: s,h1,h2=>by
  simp only [wI]; simp only [List.length_cons] at h1 h2; cases e:aW c with
  | true=>
   have:=rD (s:=s) e; have:=lq aW (c :: s); simp only [if_true]; rw [tu k m _ (by simp; omega) (by simp; omega)]
  | false=>
   simp only [Bool.false_eq_true,if_false]; rw [tu k m s (by omega) (by omega)]
theorem BZ {k:Nat} {s:Str} (h:s.length≤k):wI k s=key s:=tu _ _ _ h (Nat.le_refl _)
theorem zH :key []=[]:=rfl
theorem qd {c:UInt8} {s:Str} (h:aW c=true):key (c :: s)=48 :: (dz ((c :: s).take (dF aW (c :: s)))).length :: ((dz ((c :: s).take (dF aW (c :: s)))).map UInt8.toNat ++ dF aW (c :: s) :: key ((c :: s).drop (dF aW (c :: s)))):=by
 have:=rD (s:=s) h; have:=lq aW (c :: s); show wI (s.length + 1) (c :: s)=_; simp only [wI,h,if_true]; rw [BZ (by simp; omega)]
theorem jm {c:UInt8} {s:Str} (h:aW c=false):key (c :: s)=c.toNat :: key s:=by
 show wI (s.length + 1) (c :: s)=_; simp only [wI,h,Bool.false_eq_true,if_false]; rw [BZ (Nat.le_refl _)]
theorem GA (a b:Str) (u v:List Nat):oF ((dz a).length :: ((dz a).map UInt8.toNat ++ a.length :: u)) ((dz b).length :: ((dz b).map UInt8.toNat ++ b.length :: v))=if w_ a b=0 then oF u v else w_ a b:=by
 unfold w_; simp only [oF]; by_cases h1:(dz a).length=(dz b).length
 ·
  rw [if_neg (by omega),if_neg (by omega),wz _ _ _ _ h1]; have e:(((dz a).length:Int) != ((dz b).length:Int))=false:=by simp [h1]
  simp only [e,Bool.false_eq_true,if_false]; by_cases h2:dz a=dz b
  ·
   simp only [h2,if_true,beq_self_eq_true,Bool.not_true,Bool.false_eq_true,if_false,oF,kH,kL]; by_cases h3:a.length < b.length
   · simp [h3]
   ·
    by_cases h4:b.length < a.length
    · simp [h3,h4]
    · simp [h3,h4]
  ·
   have h3:=Ec h2; simp [h2,h3]
 ·
  have e:(((dz a).length:Int) != ((dz b).length:Int))=true:=by simp; omega
  simp only [e,if_true]; by_cases h2:(dz a).length < (dz b).length
  · simp [h2,kH,kL]
  ·
   have h3:(dz b).length < (dz a).length:=by omega
   simp [h2,h3,kH,kL]
theorem kR {c:UInt8}:aW c=(decide (48≤c.toNat) && decide (c.toNat≤57)):=by
 unfold aW; congr 1
 · apply decide_eq_decide.2; omega
 · apply decide_eq_decide.2; omega
theorem pq :∀ (n k:Nat) (a b:Str),a.length≤n→a.length < k→a.length < 4611686018427387904→b.length < 4611686018427387904→b_ k a b=some (iY a b)
 | _,0,_,_,_,h,_,_=>by omega
 | n,k + 1,a,b,hn,hk,ha,hb=>by
  rw [b_]
  match a,b with
  | [],[]=>
   rw [if_neg (by simp),jU]; simp [iY,zH,oF,kH,kL]
  | [],y :: b=>
   rw [if_neg (by simp),jU]
   have:key (y :: b)≠[]:=by
    cases e:aW y with
    | true=>rw [qd e]; simp
    | false=>rw [jm e]; simp
   cases e:key (y :: b) with
   | nil=>exact absurd e this
   | cons p q=>
    simp only [iY,zH,e,oF,kH,kL]; rw [if_pos (by simp)]
  | x :: a,[]=>
   rw [if_neg (by simp),jU]
   have:key (x :: a)≠[]:=by
    cases e:aW x with
    | true=>rw [qd e]; simp
    | false=>rw [jm e]; simp
   cases e:key (x :: a) with
   | nil=>exact absurd e this
   | cons p q=>
    simp only [iY,zH,e,oF,kH,kL]; rw [if_neg (by simp; omega),if_pos (by simp)]
  | x :: a,y :: b=>
   have sa:=lq aW (x :: a); have sb:=lq aW (y :: b); have i0:idx (x :: a) 0=some x:=rfl; have j0:idx (y :: b) 0=some y:=rfl; rw [if_pos (by simp),kM ha,kM hb]; simp only [ay]; cases e1:aW x with
   | true=>
    have p1:=rD (s:=a) e1; cases e2:aW y with
    | true=>
     have p2:=rD (s:=b) e2; rw [if_pos (by simp; omega),vJ sa,vJ sb]; simp only [ay]; rw [wh (by simp; omega) (by simp; omega)]; simp only [ay]; have hc:=GA ((x :: a).take (dF aW (x :: a))) ((y :: b).take (dF aW (y :: b))) (key ((x :: a).drop (dF aW (x :: a)))) (key ((y :: b).drop (dF aW (y :: b)))); rw [yC,yC] at hc
     have e3:iY (x :: a) (y :: b)=if w_ ((x :: a).take (dF aW (x :: a))) ((y :: b).take (dF aW (y :: b)))=0 then oF (key ((x :: a).drop (dF aW (x :: a)))) (key ((y :: b).drop (dF aW (y :: b)))) else w_ ((x :: a).take (dF aW (x :: a))) ((y :: b).take (dF aW (y :: b))):=by
      rw [←hc,iY,qd e1,qd e2,oF,if_neg (by omega),if_neg (by omega)]
     rw [e3]; by_cases h0:w_ ((x :: a).take (dF aW (x :: a))) ((y :: b).take (dF aW (y :: b)))=0
     ·
      rw [if_neg (by simpa using h0),if_pos h0,fU sa,fU sb]; simp only [ay]
      match n,hn with
      | n + 1,hn=>
       exact pq n k _ _ (by simp at hn ⊢; omega) (by simp at hk ⊢; omega) (by simp at ha ⊢; omega) (by simp at hb ⊢; omega)
     · rw [if_pos (by simpa using h0),if_neg h0]
    | false=>
     have q2:dF aW (y :: b)=0:=by rw [jO,e2]; rfl
     rw [if_neg (by simp [q2]),i0,j0]; simp only [ay,pG]; have d1:=kR (c:=x); rw [e1] at d1; have d2:=kR (c:=y); rw [e2] at d2; simp only [Bool.and_eq_true,Bool.false_eq,Bool.and_eq_false_iff,decide_eq_false_iff_not,Bool.true_eq,decide_eq_true_eq] at d1 d2; rw [if_pos (by simp; omega)]; rw [iY,qd e1,jm e2,oF,kH,kL]; by_cases h1:x.toNat < y.toNat
     · rw [if_pos (by simp; omega),if_pos (by omega)]
     · rw [if_neg (by simp; omega),if_pos (by simp; omega),if_neg (by omega),if_pos (by omega)]
   | false=>
    have q1:dF aW (x :: a)=0:=by rw [jO,e1]; rfl
    rw [if_neg (by simp [q1]),i0,j0]; simp only [ay,pG]; by_cases h0:x=y
    ·
     subst h0; rw [if_neg (by simp)]; have s1:=fU (s:=x :: a) (i:=1) (by simp); have s2:=fU (s:=x :: b) (i:=1) (by simp); rw [show ((1:Nat):Int)=1 from rfl] at s1 s2; rw [s1,s2]; simp only [ay,List.drop_succ_cons,List.drop_zero]; rw [iY,jm e1,jm e1,oF,if_neg (by omega),if_neg (by omega)]
     match n,hn with
     | n + 1,hn=>exact pq n k a b (by simp at hn; omega) (by simp at hk; omega) (by simp at ha; omega) (by simp at hb; omega)
    ·
     have h1:x.toNat≠y.toNat:=fun h=>h0 (UInt8.toNat_inj.1 h); rw [if_pos (by simp; omega)]; have d1:=kR (c:=x); rw [e1] at d1; simp only [Bool.and_eq_true,Bool.false_eq,Bool.and_eq_false_iff,decide_eq_false_iff_not] at d1; cases e2:aW y with
     | true=>
      have d2:=kR (c:=y); rw [e2] at d2; simp only [Bool.and_eq_true,Bool.true_eq,decide_eq_true_eq] at d2; rw [iY,jm e1,qd e2,oF,kH,kL]; by_cases h1:x.toNat < y.toNat
      · rw [if_pos (by simp; omega),if_pos (by omega)]
      · rw [if_neg (by simp; omega),if_pos (by simp; omega),if_neg (by omega),if_pos (by omega)]
     | false=>
      rw [iY,jm e1,jm e2,oF,kH,kL]; by_cases h2:x.toNat < y.toNat
      · rw [if_pos (by simp; omega),if_pos (by omega)]
      · rw [if_neg (by simp; omega),if_pos (by simp; omega),if_neg (by omega),if_pos (by omega)]
theorem sW {a b:Str} (ha:a.length < 4611686018427387904) (hb:b.length < 4611686018427387904):gH a b=some (iY a b):=
 pq _ BIG a b (Nat.le_refl _) (by have:=gM; omega) ha hb
theorem Da {a b:Str} (ha:a.length < 4611686018427387904) (hb:b.length < 4611686018427387904):gX a b=some (iY a b):=by
 obtain ⟨c,h1,h2⟩:=Di ha hb; rw [sW ha hb] at h1; rw [h2,←h1]
end Go.Ft
namespace Go.Ft
open Go
attribute [local congr] tC
def qP (c:UInt8):Bool:=(decide (97≤(c.toNat:Int)) && decide ((c.toNat:Int)≤122)) || aW c
def xP (c:UInt8):Bool:=((c.toNat:Int) == 95) || ((c.toNat:Int) == 45) || ((c.toNat:Int) == 46)
def nm :Str→Bool
 | []=>false
 | c :: r=>decide (r.length≤63) && qP c && r.all fun c=>qP c || xP c
def allI {α:Type} (p:Nat→α→Bool):Nat→List α→Bool
 | _,[]=>true
 | i,x :: r=>p i x && allI p (i + 1) r
theorem p9 {α:Type} {F:Nat→Int→Option Bool} {l:List α} (p:Nat→α→Bool) (hl:l.length < 4611686018427387904) (hfin:∀ k (i:Nat),¬ i < l.length→F (k + 1) i=some true)
  (hF:∀ k (i:Nat) (h:i < l.length),F (k + 1) i=if p i l[i] then F k (fJ ((i:Int) + 1)) else some false):∀ (k i:Nat),l.length < k + i→i≤l.length→F k (i:Int)=some (allI p i (l.drop i))
 | 0,i,h,h'=>by omega
 | k + 1,i,h,h'=>by
  by_cases hi:i < l.length
  ·
   rw [hF k i hi,vE (by omega),List.drop_eq_getElem_cons hi,allI]; cases hp:p i l[i] with
   | true=>simpa using p9 p hl hfin hF k (i + 1) (by omega) (by omega)
   | false=>simp
  · rw [hfin k i hi,List.drop_eq_nil_of_le (by omega),allI]
theorem tY {α:Type} {p:Nat→α→Bool} {q:α→Bool} (h:∀ i x,1≤i→p i x=q x):∀ (i:Nat) (l:List α),1≤i→allI p i l=l.all q
 | i,[],_=>rfl
 | i,x :: l,hi=>by rw [allI,h i x hi,tY h (i + 1) l (by omega),List.all_cons]
theorem Gb (i:Nat) (c:UInt8):f_ (i:Int) c=some (qP c || (decide (0 < (i:Int)) && xP c)):=by
 unfold f_ qP xP; by_cases h:(decide (97≤(c.toNat:Int)) && decide ((c.toNat:Int)≤122))=true
 · rw [if_pos h,ay,h]; simp
 · rw [if_neg h,Ie,ay]; simp only [Bool.not_eq_true] at h; rw [h,Bool.false_or]
theorem jX {s:Str} (hs:s.length < 4611686018427387904):gq s=some (nm s):=by
 unfold gq; by_cases h:(decide (0 < (s.length:Int)) && decide ((s.length:Int)≤64))=true
 ·
  rw [if_pos h,Dz (by simp only [List.length_nil,Jg]; simp at h; omega),ay,List.nil_append]; unfold iJ
  have hk:=p9 (F:=cB s f_) (l:=s) (fun i c=>qP c || (decide (0 < (i:Int)) && xP c)) hs (fun k i hi=>by rw [cB]; simp; omega)
   (fun k i hi=>by
    rw [cB,lI hi]; simp only [show ((i:Int) < (s.length:Int)) from by omega,decide_true,if_true,ay,Gb]
    cases (qP s[i] || (decide (0 < (i:Int)) && xP s[i])) <;> simp) BIG 0 (by have:=gM; omega) (by omega)
  rw [show ((0:Nat):Int)=0 from rfl] at hk; rw [hk]; cases s with
  | nil=>simp at h
  | cons c r=>
   simp only [List.drop_zero,allI,nm]; rw [tY (q:=fun c=>qP c || xP c) (fun i x hi=>by simp [show 0 < i from by omega]) 1 r (by omega)]; have:r.length≤63:=by simp at h; omega
   simp [this]
 ·
  rw [if_neg h]; cases s with
  | nil=>rfl
  | cons c r=>
   simp at h; simp [nm,show ¬ r.length≤63 from by omega]
theorem yK (c:UInt8):lD c=some (qP c):=rfl
theorem ji {s:Str} (hs:s.length < 4611686018427387904):jE s=some (nm s):=by
 unfold jE; cases s with
 | nil=>simp [nm]
 | cons c r=>
  by_cases h:r.length≤63
  ·
   have h1:((decide ((((c :: r:Str)).length:Int) < 1)) || (decide (64 < (((c :: r:Str)).length:Int))))=false:=by simp; omega
   have h2:idx (c :: r) 0=some c:=by have:=lI (l:=c :: r) (i:=0) (by simp); simpa using this
   rw [h1,h2]; simp only [Bool.false_eq_true,if_false,ay,yK]
   have hk:=p9 (F:=gW (c :: r)) (l:=c :: r) (fun i c=>qP c || xP c) hs (fun k i hi=>by rw [gW]; simp at hi ⊢; omega)
    (fun k i hi=>by
     rw [gW,lI hi]; simp only [show ((i:Int) < ((c :: r:Str).length:Int)) from by omega,decide_true,if_true,ay,yK,xP]; generalize (c :: r)[i]=d; cases qP d with
     | true=>simp
     | false=>
      by_cases a1:(d.toNat:Int)=95
      · simp [a1]
      ·
       by_cases a2:(d.toNat:Int)=45
       · simp [a2]
       ·
        by_cases a3:(d.toNat:Int)=46
        · simp [a3]
        · simp [a1,a2,a3]) BIG 0 (by have:=gM; omega) (by omega)
   rw [show ((0:Nat):Int)=0 from rfl] at hk; cases hc:qP c with
   | false=>simp [nm,hc]
   | true=>
    simp only [Bool.not_true,Bool.false_eq_true,if_false,hk,List.drop_zero,allI,hc,Bool.true_or,Bool.true_and]; rw [tY (q:=fun c=>qP c || xP c) (fun i x hi=>rfl) 1 r (by omega)]; simp [nm,h,hc]
  ·
   have h1:((decide ((((c :: r:Str)).length:Int) < 1)) || (decide (64 < (((c :: r:Str)).length:Int))))=true:=by simp; omega
   rw [h1]; simp [nm,h]
def jq (c:UInt8):Bool:=c == 60 || c == 62 || c == 61
theorem zG {c:UInt8} (h:(qP c || xP c)=true):jq c=false:=by
 cases ho:jq c with
 | false=>rfl
 | true=>
  exfalso; simp only [jq,Bool.or_eq_true,beq_iff_eq] at ho; rcases ho with (rfl | rfl) | rfl <;> revert h <;> decide
theorem zD {s:Str} (h:nm s=true):∀ c∈s,jq c=false:=by
 cases s with
 | nil=>cases h
 | cons d r=>
  simp only [nm,Bool.and_eq_true] at h; intro c hc; rcases List.mem_cons.1 hc with rfl | hc
  · exact zG (by rw [h.1.2,Bool.true_or])
  · exact zG (List.all_eq_true.1 h.2 c hc)
theorem DY {t:Str}:nm (33 :: t)=false:=by
 simp [nm,show qP 33=false from by decide]
theorem uw (s:Str):∀ (k:Nat) (n i:Int),dX s k n i=dx s k n i
 | 0,n,i=>by rw [dX,dx]
 | k + 1,n,i=>by
  rw [dX,dx]; split
  ·
   cases hc:idx s i with
   | none=>rfl
   | some c=>
    simp only [ay]; by_cases h1:decide ((c.toNat:Int) < 48)=true
    · rw [h1]; simp
    ·
     simp only [Bool.not_eq_true] at h1; rw [h1]; simp only [Bool.false_or,Bool.false_eq_true,if_false,ay]; rw [uw s k]
  · rfl
theorem number_eq {s:Str} (hs:s.length≤1048577):iI s=fZ s:=by
 unfold iI fZ; rw [Dz (by simp only [List.length_nil,Jg]; omega),List.nil_append]; simp only [ay,uw]
theorem wZ (s:Str) (hs:s.length < 4611686018427387904):∀ (k i:Nat) (n:Int),s.length < k + i→i≤s.length→
  ∃ r,dx s k n (i:Int)=some r∧(r.2=true→∀ c∈s.drop i,aW c=true)
 | 0,i,n,h,h'=>by omega
 | k + 1,i,n,h,h'=>by
  rw [dx]; by_cases hi:i < s.length
  ·
   rw [lI hi]; simp only [show ((i:Int) < (s.length:Int)) from by omega,decide_true,if_true,ay]; by_cases hd:aW s[i]=true
   ·
    have h1:decide ((s[i].toNat:Int) < 48)=false:=by simp [aW] at hd ⊢; omega
    have h2:decide (57 < (s[i].toNat:Int))=false:=by simp [aW] at hd ⊢; omega
    rw [h1,h2]; simp only [Bool.false_eq_true,if_false,ay]; rw [vE (by omega)]; obtain ⟨r,hr1,hr2⟩:=wZ s hs k (i + 1) _ (by omega) (by omega); refine ⟨r,hr1,fun hr c hc=>?_⟩; rw [List.drop_eq_getElem_cons hi] at hc; rcases List.mem_cons.1 hc with rfl | hc
    · exact hd
    · exact hr2 hr c hc
   ·
    refine ⟨(0,false),?_,fun h=>by cases h⟩
    have:(aj (if decide ((s[i].toNat:Int) < 48)=true then some true else some (decide (57 < (s[i].toNat:Int)))) fun b3=>if b3=true then some ((0:Int),false) else dx s k (fJ (fJ (10 * n) + ((s[i] - 48).toNat:Int))) (fJ ((i:Int) + 1)))=some (0,false):=by
     by_cases h1:(s[i].toNat:Int) < 48
     · simp [h1]
     ·
      have h2:57 < (s[i].toNat:Int):=by simp [aW] at hd; omega
      simp [h1,h2]
    simpa using this
  ·
   refine ⟨_,by simp [show ¬ ((i:Int) < (s.length:Int)) from by omega]; rfl,fun _ c hc=>?_⟩; rw [List.drop_eq_nil_of_le (by omega)] at hc; cases hc
def dg (s:Str):Bool:=((fZ s).getD (0,false)).2
theorem tO {s:Str} (hs:s.length < 4611686018427387904):(∃ n,fZ s=some (n,dg s))∧(dg s=true→s≠[]∧∀ c∈s,aW c=true):=by
 have key:∃ r,fZ s=some r∧(r.2=true→s≠[]∧∀ c∈s,aW c=true):=by
  unfold fZ; by_cases h1:((s == ([]:Str)) || (decide (16 < (s.length:Int))))=true
  · rw [h1]; exact ⟨(0,false),by simp,fun h=>by cases h⟩
  ·
   simp only [Bool.not_eq_true] at h1; rw [h1]; simp only [Bool.or_eq_false_iff,beq_eq_false_iff_ne,ne_eq] at h1; obtain ⟨r,hr1,hr2⟩:=wZ s hs BIG 0 0 (by have:=gM; omega) (by omega)
   have hfin:∀ b,∃ r,(if b=true then some ((0:Int),false) else dx s BIG 0 0)=some r∧(r.2=true→s≠[]∧∀ c∈s,aW c=true):=fun b=>by
    cases b with
    | true=>exact ⟨(0,false),by simp,fun h=>by cases h⟩
    | false=>exact ⟨r,by simpa using hr1,fun h=>⟨h1.1,by simpa using hr2 h⟩⟩
   by_cases h2:1 < (s.length:Int)
   ·
    have hi:idx s 0=some s[0]:=by have:=lI (l:=s) (i:=0) (by omega); simpa using this
    simp only [h2,decide_true,if_true,hi,ay,Bool.false_eq_true,if_false]; exact hfin _
   ·
    simp only [h2,decide_false,Bool.false_eq_true,if_false,ay]; simpa using hfin false
 obtain ⟨r,h1,h2⟩:=key; have e:dg s=r.2:=by unfold dg; rw [h1]; rfl
 rw [e]; exact ⟨⟨r.1,h1⟩,h2⟩
theorem J5 {c:UInt8} (h:aW c=true):jq c=false:=zG (by unfold qP; rw [h]; simp)
end Go.Ft
namespace Go.Ft
open Go
attribute [local congr] tC
theorem yS :∀ {s t:Str} {i:Nat},dK s t=some i→s=s.take i ++ (t ++ s.drop (i + t.length))
 | [],t,i,h=>by
  unfold dK at h; split at h
  ·
   cases h; rename_i ht; simp at ht; subst ht; rfl
  · cases h
 | b :: l,t,i,h=>by
  unfold dK at h; split at h
  ·
   cases h; rename_i ht; obtain ⟨r,hr⟩:=List.isPrefixOf_iff_prefix.1 ht; rw [←hr]; simp
  ·
   cases hi:dK l t with
   | none=>rw [hi] at h; cases h
   | some j=>
    rw [hi] at h; cases h; have:=yS hi; rw [show j + 1 + t.length=(j + t.length) + 1 from by omega]; simp only [List.take_succ_cons,List.drop_succ_cons,List.cons_append]; rw [←this]
theorem uo {c:UInt8} {t r:Str}:∀ (a:Str),(∀ x∈a,x≠c)→dK (a ++ ((c :: t) ++ r)) (c :: t)=some a.length
 | [],_=>by
  show dK (c :: (t ++ r)) (c :: t)=some 0; unfold dK; rw [if_pos (show (c :: t).isPrefixOf (c :: (t ++ r))=true from List.isPrefixOf_iff_prefix.2 ⟨r,rfl⟩)]
 | x :: a,h=>by
  show dK (x :: (a ++ ((c :: t) ++ r))) (c :: t)=some (a.length + 1); unfold dK; have hx:x≠c:=h x List.mem_cons_self
  rw [if_neg (by
   intro hp; obtain ⟨r',hr⟩:=List.isPrefixOf_iff_prefix.1 hp; simp only [List.cons_append,List.cons.injEq] at hr
   exact hx hr.1.symm)]
  rw [uo a (fun y hy=>h y (List.mem_cons_of_mem _ hy))]; rfl
theorem um {c:UInt8} {t:Str}:∀ (s:Str),(∀ x∈s,x≠c)→dK s (c :: t)=none
 | [],_=>rfl
 | x :: a,h=>by
  unfold dK; have hx:x≠c:=h x List.mem_cons_self
  rw [if_neg (by
   intro hp; obtain ⟨r',hr⟩:=List.isPrefixOf_iff_prefix.1 hp; simp only [List.cons_append,List.cons.injEq] at hr
   exact hx hr.1.symm)]
  rw [um a (fun y hy=>h y (List.mem_cons_of_mem _ hy))]; rfl
def vK :Nat→Str
 | 3=>[62,61]
 | 4=>[60,61]
 | _=>[61]
structure u7 (s:Str) (f:Nat) (a r:Str):Prop where
 hf:f=3∨f=4∨f=5
 eq:s=a ++ (vK f ++ r)
 name:nm a=true
 num:dg r=true
theorem zl {a b:Str} (ha:∀ c∈a,jq c=false) (hb:∀ c t,b=c :: t→jq c=true):(a ++ b).takeWhile (fun c=>!jq c)=a∧(a ++ b).dropWhile (fun c=>!jq c)=b:=by
 induction a with
 | nil=>
  cases b with
  | nil=>exact ⟨rfl,rfl⟩
  | cons c t=>simp [hb c t rfl]
 | cons x a ih=>
  have hx:=ha x List.mem_cons_self; obtain ⟨h1,h2⟩:=ih fun c hc=>ha c (List.mem_cons_of_mem _ hc); simp [hx,h1,h2]
theorem u7.parts {s a r:Str} {f:Nat} (h:u7 s f a r):s.takeWhile (fun c=>!jq c)=a∧s.dropWhile (fun c=>!jq c)=vK f ++ r:=by
 rw [h.eq]; refine zl (zD h.name) fun c t e=>?_; rcases h.hf with hf | hf | hf <;> subst hf <;> simp only [vK,List.cons_append,List.nil_append,List.cons.injEq] at e <;> rw [←e.1] <;> rfl
theorem u7.C8 {s a r:Str} {f:Nat} (hs:s.length≤1048576) (h:u7 s f a r):r≠[]∧∀ c∈r,jq c=false:=by
 have hr:r.length≤s.length:=by rw [h.eq]; simp; omega
 obtain ⟨_,h2⟩:=tO (s:=r) (by omega); exact ⟨(h2 h.num).1,fun c hc=>J5 ((h2 h.num).2 c hc)⟩
theorem wm {c d:UInt8} (h:jq c=false) (hd:jq d=true):c≠d:=fun e=>by subst e; rw [hd] at h; cases h
theorem u7.index {s a r:Str} {f:Nat} (h:u7 s f a r):dK s (vK f)=some a.length:=by
 have ha:=zD h.name; rw [h.eq]; rcases h.hf with hf | hf | hf <;> subst hf <;> exact uo a fun x hx=>wm (ha x hx) rfl
theorem u7.no_index {s a r t:Str} {f:Nat} {c:UInt8} (hs:s.length≤1048576) (h:u7 s f a r) (hc:jq c=true) (hn:∀ x∈vK f,x≠c):dK s (c :: t)=none:=by
 have ha:=zD h.name; have hr:=(h.C8 hs).2; refine um s fun x hx=>?_; rw [h.eq] at hx; rcases List.mem_append.1 hx with hx | hx
 · exact wm (ha x hx) hc
 ·
  rcases List.mem_append.1 hx with hx | hx
  · exact hn x hx
  · exact wm (hr x hx) hc
def oG :aP:=aP.mk 0 ([]:Str) 0
theorem Gx {s t:Str} (hs:s.length≤1048576):strings_Cut s t=some (match dK s t with | none=>(s,[],false) | some i=>(s.take i,s.drop (i + t.length),true)):=by
 unfold strings_Cut; rw [if_pos (by omega)]; cases dK s t <;> rfl
theorem oP {s t:Str} {f:Nat} {i:Nat} (hs:s.length≤1048576) (hf:f=3∨f=4∨f=5) (ht:vK f=t) (hi:dK s t=some i) (hno:∀ f' a r,f'≠f→¬ u7 s f' a r) (g:Option (aP × Bool)):
  ∃ x ok,(qI (strings_Cut s t) fun name1 iR mJ=>if (!mJ)=true then g else mF (iI iR) fun n1 ok1=>aj (if (!ok1)=true then some true else aj (gq name1) fun x3=>some (!x3)) fun b1=>
    if b1=true then some (oG,false) else some (aP.mk (f:Int) name1 n1,true))=some (x,ok)∧
   ((∃ a r,u7 s f a r∧x.form=f∧x.name=a)∨(x=oG∧∀ f' a r,¬ u7 s f' a r)):=by
 subst ht; have he:=yS hi; rw [Gx hs,hi]; have hl:(s.drop (i + (vK f).length)).length≤s.length:=by simp
 have hl2:(s.take i).length≤s.length:=by simp; omega
 obtain ⟨⟨n,hn⟩,_⟩:=tO (s:=s.drop (i + (vK f).length)) (by omega); rw [←number_eq (by omega)] at hn; have hnm:=jX (s:=s.take i) (by omega); simp only [ru,Bool.not_true,Bool.false_eq_true,if_false,hn,lU,hnm,ay]
 have bad:(nm (s.take i) && dg (s.drop (i + (vK f).length)))=false→∀ f' a r,¬ u7 s f' a r:=by
  intro hb f' a r hc; by_cases Ma:f'=f
  ·
   subst Ma; have h1:=hc.index; rw [hi] at h1; have h1:i=a.length:=Option.some.inj h1; have h2:s.take i=a:=by rw [hc.eq,h1]; simp
   have h3:s.drop (i + (vK f').length)=r:=by rw [hc.eq,h1,←List.append_assoc,←List.length_append,List.drop_left]
   rw [h2,h3,hc.name,hc.num] at hb; cases hb
  · exact hno f' a r Ma hc
 cases hd:dg (s.drop (i + (vK f).length)) with
 | false=>
  refine ⟨oG,false,by simp,.inr ⟨rfl,bad (by rw [hd,Bool.and_false])⟩⟩
 | true=>
  cases hm:nm (s.take i) with
  | false=>exact ⟨oG,false,by simp,.inr ⟨rfl,bad (by rw [hm,Bool.false_and])⟩⟩
  | true=>exact ⟨aP.mk (f:Int) (s.take i) n,true,by simp,.inl ⟨_,_,⟨hf,he,hm,hd⟩,rfl,rfl⟩⟩
theorem qK {s t:Str} (hs:s.length≤1048576) (hi:dK s t=none) (g:Option (aP × Bool)) (k:Str→Str→Option (aP × Bool)):
  (qI (strings_Cut s t) fun name1 iR mJ=>if (!mJ)=true then g else k name1 iR)=g:=by
 rw [Gx hs,hi]; simp
theorem Cq {s:Str} (hs:s.length≤1048576):∃ x ok,gZ s=some (x,ok)∧((∃ f a r,u7 s f a r∧x.form=(f:Int)∧x.name=a)∨(x=oG∧∀ f a r,¬ u7 s f a r)):=by
 unfold gZ; obtain ⟨B,hB⟩:∃ B,BIG=B + 4:=⟨BIG - 4,by have:=gM; omega⟩; rw [hB]; have e1:fJ ((0:Int) + 1)=1:=by decide
 have e2:fJ ((1:Int) + 1)=2:=by decide
 have e3:fJ ((2:Int) + 1)=3:=by decide
 have i0:idx jl 0=some ⟨([62,61]:Str),3⟩:=rfl; have i1:idx jl 1=some ⟨([60,61]:Str),4⟩:=rfl; have i2:idx jl 2=some ⟨([61]:Str),5⟩:=rfl; rw [cO,i0]; simp only [show decide ((0:Int) < 3)=true from by decide,if_true,ay,e1]
 have fin:∀ {X:Option (aP × Bool)} {f:Nat},(∃ x ok,X=some (x,ok)∧((∃ a r,u7 s f a r∧x.form=f∧x.name=a)∨(x=oG∧∀ f' a r,¬ u7 s f' a r)))→
   ∃ x ok,X=some (x,ok)∧((∃ f a r,u7 s f a r∧x.form=(f:Int)∧x.name=a)∨(x=oG∧∀ f a r,¬ u7 s f a r)):=by
  rintro X f ⟨x,ok,h1,h2⟩; refine ⟨x,ok,h1,?_⟩; rcases h2 with ⟨a,r,h⟩ | h
  · exact .inl ⟨f,a,r,h⟩
  · exact .inr h
 cases h0:dK s ([62,61]:Str) with
 | some i=>
  exact fin (oP (f:=3) hs (.inl rfl) rfl h0 (fun f' a r hne hc=>by
   have:dK s (62 :: [61])=none:=hc.no_index hs rfl (by rcases hc.hf with h | h | h <;> subst h <;> first | (exact absurd rfl hne) | decide)
   rw [h0] at this; cases this) _)
 | none=>
  rw [qK hs h0]; have n3:∀ a r,¬ u7 s 3 a r:=fun a r hc=>by have:=hc.index; rw [show vK 3=([62,61]:Str) from rfl,h0] at this; cases this
  rw [cO,i1]; simp only [show decide ((1:Int) < 3)=true from by decide,if_true,ay,e2]; cases h1:dK s ([60,61]:Str) with
  | some i=>
   exact fin (oP (f:=4) hs (.inr (.inl rfl)) rfl h1 (fun f' a r hne hc=>by
    have:dK s (60 :: [61])=none:=hc.no_index hs rfl (by rcases hc.hf with h | h | h <;> subst h <;> first | (exact absurd hc (n3 a r)) | (exact absurd rfl hne) | decide)
    rw [h1] at this; cases this) _)
  | none=>
   rw [qK hs h1]; have n4:∀ a r,¬ u7 s 4 a r:=fun a r hc=>by have:=hc.index; rw [show vK 4=([60,61]:Str) from rfl,h1] at this; cases this
   rw [cO,i2]; simp only [show decide ((2:Int) < 3)=true from by decide,if_true,ay,e3]; cases h2:dK s ([61]:Str) with
   | some i=>
    exact fin (oP (f:=5) hs (.inr (.inr rfl)) rfl h2 (fun f' a r hne hc=>by
     rcases hc.hf with h | h | h <;> subst h
     · exact n3 a r hc
     · exact n4 a r hc
     · exact hne rfl) _)
   | none=>
    rw [qK hs h2]; have n5:∀ a r,¬ u7 s 5 a r:=fun a r hc=>by have:=hc.index; rw [show vK 5=([61]:Str) from rfl,h2] at this; cases this
    rw [cO]; refine ⟨oG,false,by simp [oG],.inr ⟨rfl,fun f a r hc=>?_⟩⟩; rcases hc.hf with h | h | h <;> subst h
    · exact n3 a r hc
    · exact n4 a r hc
    · exact n5 a r hc
end Go.Ft
namespace Go.Ft
open Go
attribute [local congr] tC
theorem Gn (c:UInt8):jq c=(((c.toNat:Int) == 60) || ((c.toNat:Int) == 62) || ((c.toNat:Int) == 61)):=by
 unfold jq; rw [Bool.eq_iff_iff]; simp only [Bool.or_eq_true,beq_iff_eq,←UInt8.toNat_inj]; simp only [show (60:UInt8).toNat=60 from rfl,show (62:UInt8).toNat=62 from rfl,show (61:UInt8).toNat=61 from rfl]; omega
theorem vH {s:Str} (hs:s.length < 4611686018427387904):∀ (k i:Nat),s.length < k + i→i≤s.length→(∀ c∈s.take i,jq c=false)→
  iE s k (i:Int)=some (s.takeWhile (fun c=>!jq c),s.dropWhile (fun c=>!jq c))
 | 0,i,h,h',_=>by omega
 | k + 1,i,h,h',ha=>by
  rw [iE]; by_cases hi:i < s.length
  ·
   rw [lI hi]; simp only [show ((i:Int) < (s.length:Int)) from by omega,decide_true,if_true,ay]; have hop:=Gn s[i]; by_cases ho:jq s[i]=true
   ·
    have:(aj (if ((s[i].toNat:Int) == 60)=true then some true else some ((s[i].toNat:Int) == 62)) fun b1=>aj (if b1=true then some true else some ((s[i].toNat:Int) == 61)) fun b2=>some b2)=some true:=by
     rw [ho] at hop; cases h1:((s[i].toNat:Int) == 60) with
     | true=>simp
     | false=>
      cases h2:((s[i].toNat:Int) == 62) with
      | true=>simp
      | false=>
       rw [h1,h2] at hop; have h3:(s[i].toNat:Int)=61:=by simpa using hop.symm
       simp [h3]
    obtain ⟨e1,e2⟩:=zl (a:=s.take i) (b:=s.drop i) ha (fun c t e=>by
     rw [List.drop_eq_getElem_cons hi] at e; cases e
     exact ho)
    rw [List.take_append_drop] at e1 e2; rw [e1,e2]; rw [ho] at hop; rw [vJ (by omega),fU (by omega)]; cases h1:((s[i].toNat:Int) == 60) with
    | true=>simp
    | false=>
     cases h2:((s[i].toNat:Int) == 62) with
     | true=>simp
     | false=>
      rw [h1,h2] at hop; have h3:(s[i].toNat:Int)=61:=by simpa using hop.symm
      simp [h3]
   ·
    simp only [Bool.not_eq_true] at ho; rw [ho] at hop; have hop:=hop.symm; simp only [Bool.or_eq_false_iff] at hop; obtain ⟨⟨h1,h2⟩,h3⟩:=hop; rw [h1,h2,h3]; simp only [Bool.false_eq_true,if_false,ay]; rw [vE (by omega)]; refine vH hs k (i + 1) (by omega) (by omega) fun c hc=>?_; rw [List.take_succ_eq_append_getElem hi] at hc; rcases List.mem_append.1 hc with hc | hc
    · exact ha c hc
    · simp at hc; rw [hc]; exact ho
  ·
   have:i=s.length:=by omega
   subst this; rw [List.take_length] at ha; obtain ⟨e1,e2⟩:=zl (a:=s) (b:=[]) ha (fun c t e=>by cases e); rw [List.append_nil] at e1 e2; rw [e1,e2]; simp
theorem FE {s:Str} (hs:s.length < 4611686018427387904):mX s=some (s.takeWhile (fun c=>!jq c),s.dropWhile (fun c=>!jq c)):=by
 unfold mX; simpa using vH hs BIG 0 (by have:=gM; omega) (by omega) (by simp)
theorem HV {f:Int} {a r:Str} (ha:a.length≤1048576) (hr:r.length≤1048576):∃ y,gV f a r=some y∧(y.form=f∧y.name=a∧nm a=true∧dg r=true∨y=⟨0,[],0⟩∧(nm a && dg r)=false):=by
 unfold gV; obtain ⟨⟨n,hn⟩,_⟩:=tO (s:=r) (by omega); rw [hn,ji (by omega)]; simp only [lU,ay]; cases dg r with
 | false=>exact ⟨⟨0,[],0⟩,by simp,.inr ⟨rfl,by simp⟩⟩
 | true=>
  cases nm a with
  | false=>exact ⟨⟨0,[],0⟩,by simp,.inr ⟨rfl,rfl⟩⟩
  | true=>exact ⟨⟨f,a,n⟩,by simp,.inl ⟨rfl,rfl,rfl,rfl⟩⟩
theorem FC (b t:Str):(if decide (2 < (b.length:Int))=true then aj (sl b 0 2) fun x=>some (x == t) else some false)=some (decide (2 < b.length) && (b.take 2 == t)):=by
 by_cases h:2 < b.length
 ·
  have:=vJ (s:=b) (i:=2) (by omega); rw [show ((2:Nat):Int)=2 from rfl] at this; simp [this,show (2:Int) < (b.length:Int) from by omega,h]
 · simp [show ¬ (2:Int) < (b.length:Int) from by omega,h]
theorem F5 (b:Str):(if decide (1 < (b.length:Int))=true then aj (idx b 0) fun x=>some ((x.toNat:Int) == 61) else some false)=some (decide (1 < b.length) && (b.take 1 == ([61]:Str))):=by
 cases b with
 | nil=>rfl
 | cons c t=>
  have h2:idx (c :: t) 0=some c:=by have:=lI (l:=c :: t) (i:=0) (by simp); simpa using this
  have h3:((c.toNat:Int) == 61)=(c == 61):=by
   rw [Bool.eq_iff_iff]; simp only [beq_iff_eq,←UInt8.toNat_inj]; simp only [show (61:UInt8).toNat=61 from rfl]; omega
  rw [h2,ay,h3]; by_cases h:0 < t.length
  · simp [h,show (1:Int) < (t.length:Int) + 1 from by omega]
  · simp [h,show ¬ (1:Int) < (t.length:Int) + 1 from by omega]
theorem DN {s:Str} (hs:s.length≤1048576) (A B:Str) (hA:A=s.takeWhile (fun c=>!jq c)) (hB:B=s.dropWhile (fun c=>!jq c)) (x:aP) (hx:(∃ f a r,u7 s f a r∧x.form=(f:Int)∧x.name=a)∨(x=oG∧∀ f a r,¬ u7 s f a r)):
  ∃ y,(if (decide (2 < B.length) && (B.take 2 == ([62,61]:Str)))=true then aj (sl B 2 (B.length:Int)) fun x7=>gV 3 A x7
   else if (decide (2 < B.length) && (B.take 2 == ([60,61]:Str)))=true then aj (sl B 2 (B.length:Int)) fun Jj=>gV 4 A Jj
   else if (decide (1 < B.length) && (B.take 1 == ([61]:Str)))=true then aj (sl B 1 (B.length:Int)) fun LX=>gV 5 A LX
   else some (aB.mk 0 ([]:Str) 0))=some y∧x.form=y.form∧x.name=y.name:=by
 have M4:s=A ++ B:=by rw [hA,hB,List.takeWhile_append_dropWhile]
 have hlen:s.length=A.length + B.length:=by rw [M4,List.length_append]
 have NW:A.length≤1048576:=by omega
 have hBl:B.length≤1048576:=by omega
 have fr:∀ i,i≤B.length→sl B (i:Int) (B.length:Int)=some (B.drop i):=fun i hi=>fU hi
 have key:∀ (f:Nat),f=3∨f=4∨f=5→∀ r,r.length≤1048576→B=vK f ++ r→∃ y,gV (f:Int) A r=some y∧x.form=y.form∧x.name=y.name:=by
  intro f hf r hr he; obtain ⟨y,h1,h2⟩:=HV (f:=(f:Int)) (a:=A) (r:=r) NW hr; refine ⟨y,h1,?_⟩; rcases h2 with ⟨h3,h4,h5,h6⟩ | ⟨h3,h4⟩
  ·
   have hc:u7 s f A r:=⟨hf,by rw [←he]; exact M4,h5,h6⟩; rcases hx with ⟨f',a',r',hc',e1,e2⟩ | ⟨_,hn⟩
   ·
    obtain ⟨p1,p2⟩:=hc'.parts; obtain ⟨q1,q2⟩:=hc.parts; have ha:a'=A:=by rw [←p1,q1]
    have Ma:f'=f:=by
     have:=p2.symm.trans q2; have z:=(hc'.C8 hs).2; rcases hf with h | h | h <;> subst h <;> rcases hc'.hf with h | h | h <;> subst h <;> first | rfl | (simp [vK] at this)
    exact ⟨by rw [e1,h3,Ma],by rw [e2,h4,ha]⟩
   · exact absurd hc (hn _ _ _)
  ·
   subst h3; rcases hx with ⟨f',a',r',hc',e1,e2⟩ | ⟨hz,hn⟩
   ·
    exfalso; obtain ⟨p1,p2⟩:=hc'.parts; have ha:a'=A:=by rw [←p1,hA]
    have hb:vK f' ++ r'=vK f ++ r:=by rw [←p2,←hB,he]
    have hr':r'=r:=by
     rcases hf with h | h | h <;> subst h <;> rcases hc'.hf with h | h | h <;> subst h <;> simp [vK] at hb <;> exact hb
    rw [←ha,←hr',hc'.name,hc'.num] at h4; cases h4
   · subst hz; exact ⟨rfl,rfl⟩
 have len2:∀ (u:Str),u.length=2→B.take 2=u→2 < B.length→B=u ++ B.drop 2:=fun u hu h1 h2=>by rw [←h1,List.take_append_drop]
 by_cases c3:(decide (2 < B.length) && (B.take 2 == ([62,61]:Str)))=true
 ·
  rw [if_pos c3]; simp only [Bool.and_eq_true,decide_eq_true_eq,beq_iff_eq] at c3; have:=fr 2 (by omega); rw [show ((2:Nat):Int)=2 from rfl] at this; rw [this,ay]; exact key 3 (.inl rfl) (B.drop 2) (by simp; omega) (len2 _ rfl c3.2 c3.1)
 ·
  rw [if_neg c3]; by_cases c4:(decide (2 < B.length) && (B.take 2 == ([60,61]:Str)))=true
  ·
   rw [if_pos c4]; simp only [Bool.and_eq_true,decide_eq_true_eq,beq_iff_eq] at c4; have:=fr 2 (by omega); rw [show ((2:Nat):Int)=2 from rfl] at this; rw [this,ay]; exact key 4 (.inr (.inl rfl)) (B.drop 2) (by simp; omega) (len2 _ rfl c4.2 c4.1)
  ·
   rw [if_neg c4]; by_cases c5:(decide (1 < B.length) && (B.take 1 == ([61]:Str)))=true
   ·
    rw [if_pos c5]; simp only [Bool.and_eq_true,decide_eq_true_eq,beq_iff_eq] at c5; have:=fr 1 (by omega); rw [show ((1:Nat):Int)=1 from rfl] at this; rw [this,ay]; exact key 5 (.inr (.inr rfl)) (B.drop 1) (by simp; omega) (by show B=[61] ++ B.drop 1; rw [←c5.2,List.take_append_drop])
   ·
    rw [if_neg c5]; refine ⟨_,rfl,?_⟩; rcases hx with ⟨f',a',r',hc',e1,e2⟩ | ⟨hz,hn⟩
    ·
     exfalso; obtain ⟨p1,p2⟩:=hc'.parts; have hb:B=vK f' ++ r':=by rw [hB,p2]
     have hr:=(hc'.C8 hs).1; have hrl:0 < r'.length:=List.length_pos_iff.2 hr; rcases hc'.hf with h | h | h <;> subst h
     · apply c3; rw [hb]; simp [vK]; omega
     · apply c4; rw [hb]; simp [vK]; omega
     · apply c5; rw [hb]; simp [vK]; omega
    · subst hz; exact ⟨rfl,rfl⟩
theorem CZ {s:Str} (hs:s.length≤1048576):∃ x y,ko s=some x∧oZ s=some y∧x.form=y.form∧x.name=y.name:=by
 unfold ko oZ; rw [jX (by omega),FE (by omega)]; obtain ⟨x,ok,hc,hx⟩:=Cq hs
 have hd:idx s 0=s[0]?:=by
  cases s with
  | nil=>rfl
  | cons c t=>have:=lI (l:=c :: t) (i:=0) (by simp); simpa using this
 cases s with
 | nil=>
  obtain ⟨y,h1,h2⟩:=DN hs _ _ rfl rfl x hx; refine ⟨x,y,?_,?_,h2⟩
  · simp [nm,strings_CutPrefix,dH,dG,hc]
  ·
   simp only [lU,FC,F5,ay]; simpa [nm,ji (s:=[]) (by simp)] using h1
 | cons c t=>
  simp only [List.getElem?_cons_zero] at hd; have ht:t.length≤1048576:=by simp at hs; omega
  have hpre:strings_CutPrefix (c :: t) ([33]:Str)=some (if c=33 then (t,true) else (c :: t,false)):=by
   unfold strings_CutPrefix dH dG; have e1:=vJ (s:=c :: t) (i:=1) (by simp); have e2:=fU (s:=c :: t) (i:=1) (by simp); rw [show ((1:Nat):Int)=1 from rfl] at e1 e2; have h1:decide ((([33]:Str).length:Int)≤((c :: t:Str).length:Int))=true:=by simp; omega
   rw [h1]; simp only [if_true,List.length_singleton,show ((1:Nat):Int)=1 from rfl,e1,e2,ay,List.take_succ_cons,List.take_zero,List.drop_succ_cons,List.drop_zero]; by_cases hc:c=33
   · simp [hc]
   · simp [hc]
  have e2:=fU (s:=c :: t) (i:=1) (by simp); rw [show ((1:Nat):Int)=1 from rfl] at e2; simp only [List.drop_succ_cons,List.drop_zero] at e2; rw [hpre,hd]; have h0:decide (0 < ((c :: t:Str).length:Int))=true:=by simp
  rw [h0]; simp only [if_true,ay]; by_cases Lh:c=33
  ·
   subst Lh; have hb:(((33:UInt8).toNat:Int) == 33)=true:=rfl; rw [hb,DY,e2]; simp only [ji (s:=t) (by omega),Bool.false_eq_true,if_false,if_true,lU,ay,jX (s:=t) (by omega)]; cases nm t with
   | true=>exact ⟨⟨2,t,0⟩,⟨2,t,0⟩,by simp,by simp,rfl,rfl⟩
   | false=>
    have hz:x=oG:=by
     rcases hx with ⟨f,a,r,hC,_⟩ | ⟨h,_⟩
     ·
      exfalso; have hn:=hC.name; have he:=hC.eq; cases a with
      | nil=>cases hn
      | cons d a=>
       simp only [List.cons_append,List.cons.injEq] at he; rw [←he.1,DY] at hn; cases hn
     · exact h
    refine ⟨x,⟨0,[],0⟩,by simp [hc],by simp,?_,?_⟩ <;> rw [hz] <;> rfl
  ·
   have hb:((c.toNat:Int) == 33)=false:=by
    rw [beq_eq_false_iff_ne]; intro h; apply Lh; rw [←UInt8.toNat_inj]; simp only [show (33:UInt8).toNat=33 from rfl]; omega
   rw [hb]; simp only [Bool.false_eq_true,if_false,Lh,lU,ay,FC,F5]; cases hn:nm (c :: t) with
   | true=>
    have hall:=zD hn; obtain ⟨e3,e4⟩:=zl (a:=c :: t) (b:=[]) hall (fun c t e=>by cases e); rw [List.append_nil] at e3 e4; rw [e3,e4]; refine ⟨⟨1,c :: t,0⟩,⟨1,c :: t,0⟩,by simp,?_,rfl,rfl⟩; rw [ji (by omega),hn]; simp
   | false=>
    obtain ⟨y,h1,h2⟩:=DN hs _ _ rfl rfl x hx; refine ⟨x,y,by simp [hc],?_,h2⟩
    have hb2:(if ((c :: t).dropWhile (fun c=>!jq c) == ([]:Str))=true then jE ((c :: t).takeWhile (fun c=>!jq c)) else some false)=some false:=by
     by_cases he:(c :: t).dropWhile (fun c=>!jq c)=[]
     ·
      have ha:(c :: t).takeWhile (fun c=>!jq c)=c :: t:=by
       have:=List.takeWhile_append_dropWhile (p:=fun c=>!jq c) (l:=c :: t); rw [he,List.append_nil] at this; exact this
      rw [he,ha,ji (by omega),hn]; simp
     · simp [he]
    rw [hb2]; simpa using h1
end Go.Ft
namespace Go.Ft
open Go
attribute [local congr] tC
theorem BS (a:Str):∀ (y:List (Str × Int)) (b:Str),oD (m_ y a 1) b=if b=a then 1 else oD y b
 | [],b=>by
  by_cases h:b=a
  · subst h; simp [m_,oD]
  · simp [m_,oD,h]
 | (c,v) :: y,b=>by
  unfold m_; by_cases h:a=c
  ·
   subst h; by_cases hb:b=a
   · subst hb; simp [oD]
   · simp [oD,hb]
  ·
   have:(a == c)=false:=beq_eq_false_iff_ne.2 h; rw [this]; simp only [Bool.false_eq_true,if_false,oD]; by_cases hb:b=c
   ·
    subst hb; simp [show ¬ b=a from fun e=>h e.symm]
   · simp [hb,BS a y b]
theorem wD {s:Str} (hs:s.length≤1048576):∃ x b y,fD s=some (x,b,(x.form == 1) || (x.form == 5))∧gF s=some y∧(((x.form == 1) || (x.form == 5))=true→y.form≠0∧y.name=x.name)∧(((x.form == 1) || (x.form == 5))=false→y.form=0):=by
 obtain ⟨x,y,h1,h2,h3,h4⟩:=CZ hs; unfold fD gF; rw [h1,h2]; simp only [ay]; by_cases hf:((x.form == 1) || (x.form == 5))=true
 ·
  have hc:((y.form != 1) && (y.form != 5))=false:=by
   rw [←h3]; cases a:(x.form == 1) <;> cases b:(x.form == 5) <;> simp_all [bne]
  rw [hc]; refine ⟨x,_,y,rfl,by simp,fun _=>⟨fun h0=>?_,h4.symm⟩,fun h=>by rw [hf] at h; cases h⟩; rw [h3,h0] at hf; cases hf
 ·
  simp only [Bool.not_eq_true] at hf
  have hc:((y.form != 1) && (y.form != 5))=true:=by
   rw [←h3]; cases a:(x.form == 1) <;> cases b:(x.form == 5) <;> simp_all [bne]
  rw [hc]; exact ⟨x,_,⟨0,[],0⟩,rfl,by simp,fun h=>(by rw [hf] at h; cases h),fun _=>rfl⟩
open Classical in
theorem Ca {l:List Str} (hl:l.length≤1048576) (N:Nat→Str) {i:Nat} (hi:i < l.length) (hN:∀ j (h:j < l.length),j≤i→∃ y,gF l[j]=some y∧y.name=N j) (g:Int→Option Int):
  ∀ (k kx:Nat),i < k + kx→kx≤i→iF l (i:Int) g k (kx:Int)=if (∃ j,kx≤j∧j < i∧N j=N i) then some 7 else
   aj (if decide (0 < (i:Int))=true then aj (idx l (fJ ((i:Int) - 1))) fun e4=>aj (idx l (i:Int)) fun e5=>aj (gX e4 e5) fun x4=>some (decide (0≤x4)) else some false) fun b1=>if b1=true then some 22 else g (fJ ((i:Int) + 1))
 | 0,kx,h,h'=>by omega
 | k + 1,kx,h,h'=>by
  rw [iF]; by_cases hk:kx < i
  ·
   obtain ⟨y1,a1,a2⟩:=hN kx (by omega) (by omega); obtain ⟨y2,b1,b2⟩:=hN i hi (Nat.le_refl _); rw [lI (show kx < l.length by omega),lI hi]; simp only [show ((kx:Int) < (i:Int)) from by omega,decide_true,if_true,ay,a1,b1,a2,b2]; by_cases he:N kx=N i
   · rw [if_pos (by simpa using he),if_pos ⟨kx,Nat.le_refl _,hk,he⟩]
   ·
    rw [if_neg (by simpa using he),vE (by omega),Ca hl N hi hN g k (kx + 1) (by omega) (by omega)]
    have:(∃ j,kx + 1≤j∧j < i∧N j=N i)↔∃ j,kx≤j∧j < i∧N j=N i:=by
     constructor
     · rintro ⟨j,c1,c2,c3⟩; exact ⟨j,by omega,c2,c3⟩
     ·
      rintro ⟨j,c1,c2,c3⟩; refine ⟨j,?_,c2,c3⟩; rcases Nat.lt_or_ge kx j with h | h
      · exact h
      ·
       have:j=kx:=by omega
       subst this; exact absurd c3 he
    simp only [this]; rw [lI hi]; rfl
  ·
   have:kx=i:=by omega
   subst this; rw [if_neg (show ¬ decide ((kx:Int) < (kx:Int))=true by simp),if_neg (show ¬ (∃ j,kx≤j∧j < kx∧N j=N kx) by rintro ⟨j,c1,c2,_⟩; omega)]
theorem vF {l:List Str} (hl:l.length≤1048576) (hs:∀ s∈l,s.length≤1048576) (N:Nat→Str):∀ (k i:Nat) (y:List (Str × Int)),l.length < k + i→i≤l.length→
  (∀ j (h:j < l.length),j < i→∃ y,gF l[j]=some y∧y.name=N j)→(∀ j (h:j < l.length),∀ x b ok,fD l[j]=some (x,b,ok)→x.name=N j)→(∀ n,oD y n≠0↔∃ j,j < i∧N j=n)→dM l k (i:Int) y=d9 l k (i:Int)
 | 0,i,y,h,h',_,_,_=>by omega
 | k + 1,i,y,h,h',hb,hN,hy=>by
  rw [dM,d9]; by_cases hi:i < l.length
  ·
   obtain ⟨x,b,z,h1,h2,h3,h4⟩:=wD (hs l[i] (List.getElem_mem hi)); have hxn:=hN i hi _ _ _ h1; rw [lI hi]; simp only [show ((i:Int) < (l.length:Int)) from by omega,decide_true,if_true,ay,h1,h2,ru]; cases hok:((x.form == 1) || (x.form == 5)) with
   | false=>
    have hz:=h4 hok; simp [hz]
   | true=>
    obtain ⟨hz1,hz2⟩:=h3 hok; have hz:(z.form == 0)=false:=beq_eq_false_iff_ne.2 hz1; rw [hz]; simp only [Bool.not_true,Bool.false_eq_true,if_false]
    have hb':∀ j (h:j < l.length),j≤i→∃ y,gF l[j]=some y∧y.name=N j:=fun j hj hji=>by
     rcases Nat.lt_or_ge j i with h | h
     · exact hb j hj h
     ·
      have:j=i:=by omega
      subst this; exact ⟨z,h2,by rw [hz2,hxn]⟩
    have hin:=Ca hl N hi hb' (d9 l k) BIG 0 (by have:=gM; omega) (by omega); rw [show ((0:Nat):Int)=0 from rfl] at hin; rw [hin]
    have I8:(oD y x.name != 0)=true↔∃ j,0≤j∧j < i∧N j=N i:=by
     rw [bne_iff_ne,hy,hxn]; exact ⟨fun ⟨j,a,b⟩=>⟨j,Nat.zero_le _,a,b⟩,fun ⟨j,_,a,b⟩=>⟨j,a,b⟩⟩
    by_cases hsn:(oD y x.name != 0)=true
    · rw [if_pos hsn,if_pos (I8.1 hsn)]
    ·
     rw [if_neg hsn,if_neg (fun h=>hsn (I8.2 h))]; have hsi:=hs l[i] (List.getElem_mem hi)
     have hnext:dM l k (fJ ((i:Int) + 1)) (m_ y x.name 1)=d9 l k (fJ ((i:Int) + 1)):=by
      rw [vE (by omega)]; refine vF hl hs N k (i + 1) _ (by omega) (by omega) (fun j hj hji=>hb' j hj (by omega)) hN fun n=>?_; rw [BS]; by_cases hn:n=x.name
      ·
       rw [if_pos hn]; exact ⟨fun _=>⟨i,by omega,by rw [←hxn,hn]⟩,fun _=>by decide⟩
      ·
       rw [if_neg hn,hy]; constructor
       · rintro ⟨j,a,b⟩; exact ⟨j,by omega,b⟩
       ·
        rintro ⟨j,a,b⟩; refine ⟨j,?_,b⟩; rcases Nat.lt_or_ge j i with h | h
        · exact h
        ·
         have:j=i:=by omega
         subst this; exact absurd (by rw [←b,hxn]) hn
     unfold gG; by_cases h0:i=0
     ·
      subst h0; simpa using hnext
     ·
      have e0:((i:Int) == 0)=false:=by rw [beq_eq_false_iff_ne]; omega
      have e1:fJ ((i:Int) - 1)=((i - 1:Nat):Int):=by rw [Jk (by omega)]; omega
      have hsj:=hs (l[i - 1]'(by omega)) (List.getElem_mem (by omega)); rw [e0,e1,lI hi,lI (show i - 1 < l.length by omega)]; simp only [Bool.false_eq_true,if_false,ay,sW (a:=l[i - 1]'(by omega)) (b:=l[i]) (by omega) (by omega),Da (a:=l[i - 1]'(by omega)) (b:=l[i]) (by omega) (by omega),show ((0:Int) < (i:Int)) from by omega,decide_true,if_true]; by_cases hc:iY (l[i - 1]'(by omega)) l[i] < 0
      · simpa [hc,show ¬ (0≤iY (l[i - 1]'(by omega)) l[i]) from by omega] using hnext
      · simp [hc,show (0≤iY (l[i - 1]'(by omega)) l[i]) from by omega]
  · simp [show ¬ ((i:Int) < (l.length:Int)) from by omega]
theorem wC {l:List Str} (hs:∀ s∈l,s.length≤1048576):g_ l=mY l:=by
 unfold g_ mY; by_cases h:32 < (l.length:Int)
 · simp [h]
 ·
  simp only [h,decide_false,Bool.false_eq_true,if_false]
  have:=vF (l:=l) (by omega) hs (fun j=>match fD (l[j]?.getD []) with | some (x,_,_)=>x.name | none=>[]) BIG 0 [] (by have:=gM; omega) (by omega) (fun j hj hji=>by omega)
   (fun j hj x b ok he=>by simp [List.getElem?_eq_getElem hj,he]) (fun n=>by simp [oD])
  simpa using this
theorem yw {l:List Str} (hs:∀ s∈l,s.length≤1048576) (hl:l.length≤1048576):∀ (k i:Nat) (y:List (Str × Int)),l.length < k + i→i≤l.length→∃ e,dM l k (i:Int) y=some e
 | 0,i,y,h,h'=>by omega
 | k + 1,i,y,h,h'=>by
  rw [dM]; by_cases hi:i < l.length
  ·
   obtain ⟨x,b,z,h1,h2,h3,h4⟩:=wD (hs l[i] (List.getElem_mem hi)); rw [lI hi]; simp only [show ((i:Int) < (l.length:Int)) from by omega,decide_true,if_true,ay,h1,ru]; split
   · exact ⟨_,rfl⟩
   ·
    split
    · exact ⟨_,rfl⟩
    ·
     have hsi:=hs l[i] (List.getElem_mem hi)
     have ha:∃ q,gG l (i:Int)=some q:=by
      unfold gG; by_cases h0:i=0
      · subst h0; exact ⟨true,rfl⟩
      ·
       have e0:((i:Int) == 0)=false:=by rw [beq_eq_false_iff_ne]; omega
       have e1:fJ ((i:Int) - 1)=((i - 1:Nat):Int):=by rw [Jk (by omega)]; omega
       have hsj:=hs (l[i - 1]'(by omega)) (List.getElem_mem (by omega)); rw [e0,e1,lI hi,lI (show i - 1 < l.length by omega)]; simp only [Bool.false_eq_true,if_false,ay,sW (a:=l[i - 1]'(by omega)) (b:=l[i]) (by omega) (by omega)]; exact ⟨_,rfl⟩
     obtain ⟨q,hq⟩:=ha; rw [hq,ay]; split
     · exact ⟨_,rfl⟩
     ·
      rw [vE (by omega)]; exact yw hs hl k (i + 1) _ (by omega) (by omega)
  · exact ⟨0,by simp [show ¬ ((i:Int) < (l.length:Int)) from by omega]⟩
theorem uM {l:List Str} (hs:∀ s∈l,s.length≤1048576):∃ e,g_ l=some e:=by
 unfold g_; by_cases h:32 < (l.length:Int)
 · simp [h]
 ·
  simp only [h,decide_false,Bool.false_eq_true,if_false]; exact yw hs (by omega) BIG 0 [] (by have:=gM; omega) (by omega)
end Go.Ft
namespace Go.Ft
open Go
attribute [local congr] tC
theorem pY {α:Type} {F:Nat→Int→Option Bool} {l:List α} (hl:l.length < 4611686018427387904) (hfin:∀ k (i:Nat),¬ i < l.length→F (k + 1) i=some true)
  (hF:∀ k (i:Nat) (h:i < l.length),F (k + 1) i=F k (fJ ((i:Int) + 1))):F BIG 0=some true:=by
 have:=p9 (F:=F) (l:=l) (fun _ _=>true) hl hfin (fun k i h=>by rw [hF k i h]; simp) BIG 0 (by have:=gM; omega) (by omega)
 have h2:∀ (i:Nat) (m:List α),allI (fun _ _=>true) i m=true:=fun i m=>by
  induction m generalizing i with
  | nil=>rfl
  | cons x m ih=>simp [allI,ih]
 rw [h2] at this; simpa using this
theorem CV {a:List Str} (h:a.length < 4611686018427387904):mW a a=some true:=by
 unfold mW; simp only [bne_self_eq_false,Bool.false_eq_true,if_false]; refine pY (F:=fV a a) h (fun k i hi=>?_) fun k i hi=>?_
 · rw [fV]; simp; omega
 · rw [fV,lI hi]; simp [hi]
theorem BM :kg [] []=some true:=by
 unfold kg; simp only [bne_self_eq_false,Bool.false_eq_true,if_false]; refine pY (F:=fM [] []) (l:=([]:List Int)) (by simp) (fun k i hi=>?_) fun k i hi=>?_
 · rw [fM]; simp; omega
 · simp at hi
theorem Eu :mV [] []=some true:=by
 unfold mV; simp only [bne_self_eq_false,Bool.false_eq_true,if_false]; refine pY (F:=iB [] []) (l:=([]:List aV)) (by simp) (fun k i hi=>?_) fun k i hi=>?_
 · rw [iB]; simp; omega
 · simp at hi
theorem xI {a:aX} (h:a.worker.labels.length≤1048576) (h1:a.worker.tokens=[]) (h2:a.tasks=[]):j6 a a=some true:=by
 unfold j6 rQ; simp [CV (a:=a.worker.labels) (by omega),h1,h2,BM,Eu]
def fresh (w:av):av:=av.mk w.iD w.labels w.trust w.slots w.bq 0 0 0 []
theorem CU :iQ []=some true:=by
 unfold iQ; refine pY (F:=eG []) (l:=([]:List Int)) (by simp) (fun k i hi=>?_) fun k i hi=>?_
 · rw [eG]; simp; omega
 · simp at hi
theorem Bv (w:av) (h:w.tokens=[]):iC w BIG 0=some (if w.slots < 0 then 15 else 0):=by
 obtain ⟨B,hB⟩:∃ B,BIG=B + 1:=⟨BIG - 1,by have:=gM; omega⟩; rw [hB,iC,h]; by_cases hs:w.slots < 0 <;> simp [hs]
theorem Eo {w:av} (hi:w.iD.length≤1048576) (hs:∀ s∈w.labels,s.length≤1048576):jy (fresh w)=kU (fresh w)∧∃ e,kU (fresh w)=some e:=by
 unfold jy kU; rw [Bv (fresh w) rfl]; simp only [fresh,jX (s:=w.iD) (by omega),ji (s:=w.iD) (by omega),ay,←wC hs]; obtain ⟨e,he⟩:=uM hs; rw [he]; simp only [ay,j3,gU,oW,CU]; cases nm w.iD with
 | false=>exact ⟨rfl,_,rfl⟩
 | true=>
  simp only [Bool.not_true,Bool.false_eq_true,if_false]; by_cases h0:(e != 0)=true
  · rw [if_pos h0,if_pos h0]; exact ⟨rfl,_,rfl⟩
  ·
   rw [if_neg h0,if_neg h0]; by_cases t1:w.trust < 0
   ·
    have t1':¬ (0≤w.trust):=by omega
    simp [t1,t1']
   ·
    have t1':0≤w.trust:=by omega
    by_cases t2:2 < w.trust
    ·
     have t2':¬ (w.trust≤2):=by omega
     simp [t1,t1',t2,t2']
    ·
     have t2':w.trust≤2:=by omega
     by_cases t3:w.slots < 1
     ·
      have LY:¬ (1≤w.slots):=by omega
      simp [t1,t1',t2,t2',t3,LY]
     ·
      have LY:1≤w.slots:=by omega
      by_cases t4:64 < w.slots
      ·
       have Mr:¬ (w.slots≤64):=by omega
       simp [t1,t1',t2,t2',t3,LY,t4,Mr]
      ·
       have Mr:w.slots≤64:=by omega
       have t5:¬ w.slots < 0:=by omega
       simp [t1,t1',t2,t2',t3,LY,t4,Mr,t5]
theorem DT :∀ {l:List Str} {s:Str},s∈l→s.length + 1≤(l.map fun z:Str=>z.length + 1).sum
 | x :: l,s,h=>by
  simp only [List.map_cons,List.sum_cons]; rcases List.mem_cons.1 h with rfl | h
  · omega
  · have:=DT h; omega
theorem Gj :∀ (l:List Str),l.length≤(l.map fun z:Str=>z.length + 1).sum
 | []=>Nat.le_refl _
 | x :: l=>by have:=Gj l; simp only [List.map_cons,List.sum_cons,List.length_cons]; omega
theorem uL (w1:av) (eZ:Int) (h:av.bulk w1 + 1≤1048576) (hw:av.wf w1) (hn:-9223372036854775808≤eZ∧eZ≤9223372036854775807):iW w1 eZ=some true:=by
 have hlv:qc=some true:=rfl; unfold av.bulk at h; have hi:w1.iD.length≤1048576:=by omega
 have hsum:(w1.labels.map fun z:Str=>z.length + 1).sum≤1048576:=by omega
 have hs:∀ s∈w1.labels,s.length≤1048576:=fun s hs=>by
  have:=DT hs; omega
 have hl:w1.labels.length≤1048576:=by
  have:=Gj w1.labels; omega
 unfold iW; by_cases Nv:40 < (w1.labels.length:Int)
 · simp [Nv,hlv]
 ·
  obtain ⟨e1,e,e2⟩:=Eo hi hs; have hz:j6 (aX.mk (av.mk ([]:Str) [] 0 0 false 0 0 0 []) false false 0 0 0 []) (aX.mk (av.mk ([]:Str) [] 0 0 false 0 0 0 []) false false 0 0 0 [])=some true:=xI (by simp) rfl rfl; have hg:j6 (aX.mk (fresh w1) true false eZ eZ 0 []) (aX.mk (fresh w1) true false eZ eZ 0 [])=some true:=xI hl rfl rfl
  have key:∃ a f,nE w1 eZ=some (a,f)∧rP w1 eZ=some (a,f)∧j6 a a=some true:=by
   unfold nE rP dD jQ pW; rw [Dz (by simp only [List.length_nil,Jg]; omega),List.nil_append]; simp only [ay]; rw [show av.mk w1.iD w1.labels w1.trust w1.slots w1.bq 0 0 0 []=fresh w1 from rfl,e1,e2]; simp only [ay]; by_cases he:e=0
   ·
    subst he; by_cases n1:eZ < 0
    ·
     have n2:¬ (1125899906842624 < eZ):=by omega
     have n3:¬ ((0:Int) < eZ):=by omega
     have n4:((0:Int) != eZ)=true:=by rw [bne_iff_ne]; omega
     simp only [n1,n2,n3,n4,if_false,if_true,bne_self_eq_false,Bool.false_eq_true,beq_self_eq_true,decide_true,Bool.true_and,Bool.true_or,show ((2:Int) != 0)=true from by decide]; exact ⟨_,_,rfl,rfl,hz⟩
    ·
     by_cases n2:1125899906842624 < eZ
     ·
      have n4:((1125899906842624:Int) != eZ)=true:=by rw [bne_iff_ne]; omega
      simp only [n1,n2,n4,if_false,if_true,bne_self_eq_false,Bool.false_eq_true,beq_self_eq_true,decide_true,decide_false,Bool.true_and,Bool.false_or,show ((0:Int) < 1125899906842624) from by decide,show ((2:Int) != 0)=true from by decide]; exact ⟨_,_,rfl,rfl,hz⟩
     ·
      have n5:(if (0:Int) < eZ then eZ else 0)=eZ:=by split <;> omega
      simp only [n1,n2,n5,if_false,bne_self_eq_false,Bool.false_eq_true,beq_self_eq_true,decide_false,Bool.true_and,Bool.false_or]; exact ⟨_,_,rfl,rfl,hg⟩
   ·
    have c1:(e != 0)=true:=by rw [bne_iff_ne]; exact he
    have c2:(e == 0)=false:=beq_eq_false_iff_ne.2 he; simp only [c1,c2,if_true,Bool.false_and,Bool.false_eq_true,if_false]; exact ⟨_,_,rfl,rfl,hz⟩
  obtain ⟨a,f,k1,k2,k3⟩:=key; simp [Nv,k1,k2,k3,hlv]
end Go.Ft
