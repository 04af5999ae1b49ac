/- Proved here: plain facts on the functional texts that the walks want. -/
import Derived.Test.YtpbjbkhfpjckoaaGreatDoorIjFt1
import Derived.Test.YtpbjbkhfpjckoaaGreatDoorIjPool1
set_option linter.unusedVariables false
set_option linter.unusedSimpArgs false
set_option linter.defProp false
set_option linter.unusedSectionVars false
set_option maxHeartbeats 2000000
namespace Go.Ft
open Go
attribute [local congr] fH
theorem rA{n:Int}(h:-9223372036854775808≤n∧n<9223372036854775808):bV n=n:=V5 (by omega) (by omega)
theorem kr{i:Nat}(h:i<4611686018427387904):bV ((i:Int)+1)=((i+1:Nat):Int):=by rw[rA (by omega)];omega
theorem jL{α:Type}{l:List α}{i:Nat}(h:i<l.length):idx l (i:Int)=some (l[i]):=by rw[ab_,aoh h]
theorem iL:9223372036854775808<BIG:=by decide
def fu{α S R:Type}(body:Nat→α→S→(S→Option R)→Option R)(fin:S→Option R):Nat→List α→S→Option R
 | _,[],s=>fin s
 | i,x::r,s=>body i x s fun s'=>fu body fin (i+1) r s'
theorem Yl{α S R:Type}{F:Nat→S→Int→Option R}{l:List α}{body:Nat→α→S→(S→Option R)→Option R}{fin:S→Option R}(hl:l.length<4611686018427387904)
  (hF:∀k s (i:Nat),F (k+1) s i=if decide ((i:Int)<(l.length:Int))then av (idx l i) fun x=>body i x s fun s'=>F k s' (bV ((i:Int)+1))else fin s):
  ∀(k i:Nat) (s:S),l.length<k+i→i≤l.length→F k s (i:Int)=fu body fin i (l.drop i) s
 | 0,i,s,h,h'=>by omega
 | k+1,i,s,h,h'=>by
  rw[hF];by_cases hi:i<l.length
  ·rw[aoe hi,aoa (by simp;omega),jL hi,aj,fu];congr 1;funext s';rw[kr (by omega)];exact Yl hl hF k (i+1) s' (by omega) (by omega)
  ·have:i=l.length:=by omega
   subst this;rw[an9 (by simp),List.drop_length,fu]
theorem fC{α S R:Type}{F:Nat→S→Int→Option R}{l:List α}{body:Nat→α→S→(S→Option R)→Option R}{fin:S→Option R}(hl:l.length<4611686018427387904)
  (hF:∀k s (i:Nat),F (k+1) s i=if decide ((i:Int)<(l.length:Int))then av (idx l i) fun x=>body i x s fun s'=>F k s' (bV ((i:Int)+1))else fin s) (s:S):F BIG s 0=fu body fin 0 l s:=by
 have:=Yl hl hF BIG 0 s (by have:=iL;omega) (by omega);simpa using this
def isLet(c:UInt8):Bool:=(((decide (97≤(c.toNat:Int)))&&(decide ((c.toNat:Int)≤122)))||((decide (65≤(c.toNat:Int)))&&(decide ((c.toNat:Int)≤90))))||((c.toNat:Int)==95)
@[simp] theorem alZ(c:UInt8):vT c=some (isLet c):=rfl
@[simp] theorem ab2(c:UInt8):om c=some (dV c):=rfl
@[simp] theorem alG(c:UInt8):KD c=some (isLet c):=rfl
@[simp] theorem ahT(c:UInt8):Cb c=some (dV c):=rfl
@[simp] theorem amI(c:UInt8):DW c=some (dV c):=rfl
@[simp] theorem ae_(c:UInt8):JB c=some (dV c):=rfl
theorem za(p:UInt8→Bool)(c:UInt8)(l:Str):jM p (c::l)=if p c then jM p l+1 else 0:=by
 unfold jM;rw[List.takeWhile_cons];split<;>simp
theorem Ac(p:UInt8→Bool)(l:Str):jM p l≤l.length:=by
 induction l with
 | nil=>simp[jM]
 | cons c l ih=>rw[za];split<;>simp<;>omega
theorem Wq{F:Nat→Int→Option Int}{s:Str}(hs:s.length<4611686018427387904)
  (hF:∀k (i:Nat),F (k+1) i=av (if decide ((i:Int)<(s.length:Int))then av (idx s i) fun x1=>some (dV x1)else some false) fun b1=>if b1 then F k (bV ((i:Int)+1))else some (i:Int)):
  ∀(k i:Nat),s.length<k+i→i≤s.length→F k (i:Int)=some ((i+jM dV (s.drop i):Nat):Int)
 | 0,i,h,h'=>by omega
 | k+1,i,h,h'=>by
  rw[hF];by_cases hi:i<s.length
  ·rw[aoe hi,za,aoa (by simp;omega),jL hi];simp only[aj];cases e:dV s[i]with
   | false=>simp
   | true=>
    simp only[aoc];rw[kr (by omega),Wq hs hF k (i+1) (by omega) (by omega)];simp only[aoi,apr];omega
  ·have:i=s.length:=by omega
   subst this;simp[jM]
theorem BF{s:Str}(hs:s.length<4611686018427387904):Cg s=some (jM dV s:Int):=by
 have:=Wq (F:=yF s) hs (fun k i=>rfl) BIG 0 (by have:=iL;omega) (by omega);simpa[Cg]using this
theorem Rf{s:Str}(hs:s.length<4611686018427387904){i:Nat}(hi:i≤s.length):WJ s (i:Int)=some ((i+jM dV (s.drop i):Nat):Int):=
 Wq (F:=KF s) hs (fun k i=>rfl) BIG i (by have:=iL;omega) hi
theorem nk{s:Str}{i:Nat}(h:i≤s.length):sl s (i:Int) (s.length:Int)=some (s.drop i):=by
 rw[bS (by omega) (by omega) (by omega)];simp
theorem Yk{s:Str}{i:Nat}(h:i≤s.length):sl s 0 (i:Int)=some (s.take i):=by
 rw[bS (by omega) (by omega) (by omega)];simp
theorem trimB(s:Str):∀(k:Nat),s.length<k→s.length<4611686018427387904→iR 48 k s=some (dz s):=by
 induction s with
 | nil=>intro k h _;cases k with
  | zero=>simp at h
  | succ k=>simp[iR,dz]
 | cons c s ih=>
  intro k h hs;cases k with
  | zero=>simp at h
  | succ k=>
   simp only[aog]at h hs;rw[iR,aoa (by simp)];have e0:idx (c::s) 0=some c:=by simp[idx]
   rw[e0];simp only[aj];have e1:((48:UInt8).toNat:Int)=48:=rfl;rw[e1];unfold dz;rw[apP];cases e:((c.toNat:Int)==48)with
   | false=>simp
   | true=>
    simp only[aoc];have e2:=nk (s:=c::s) (i:=1) (by simp);simp only[List.drop_one,List.tail_cons]at e2;rw[show ((1:Nat):Int)=1 from rfl]at e2;rw[e2];simp only[aj];exact ih k (by omega) (by omega)
theorem abL{s:Str}(hs:s.length<4611686018427387904):oH s ([48]:Str)=some (dz s):=by
 unfold oH;cases s with
 | nil=>simp[dz]
 | cons c s=>
  rw[an9 (by simp),aoa (by simp)];have e0:idx ([48]:Str) 0=some 48:=rfl;rw[e0];simp only[aj];rw[aoa (by decide)];exact trimB _ BIG (by have:=iL;omega) hs
theorem U4{s:Str}(hs:s.length<4611686018427387904):∀(k i:Nat),s.length<k+i→i≤s.length→Bp s k (i:Int)=some (dz (s.drop i))
 | 0,i,h,h'=>by omega
 | k+1,i,h,h'=>by
  rw[Bp];by_cases hi:i<s.length
  ·rw[aoe hi,aoa (by simp;omega),jL hi];simp only[aj];unfold dz;rw[apP];cases e:((s[i].toNat:Int)==48)with
   | false=>
    simp only[an_,aob];rw[nk (by omega),aoe hi]
   | true=>
    simp only[aoc];rw[kr (by omega)];exact U4 hs k (i+1) (by omega) (by omega)
  ·have:i=s.length:=by omega
   subst this;rw[an9 (by simp)];simp only[aj,an_,aob];rw[nk (by omega)];simp[dz]
theorem Yi{s:Str}(hs:s.length<4611686018427387904):JA s=some (dz s):=by
 have:=U4 hs BIG 0 (by have:=iL;omega) (by omega);simpa[JA]using this
def vU(p q:Bool):Int:=if p then -1 else if q then 1 else 0
def qw(x y:Int):Int:=vU (decide (x<y)) (decide (y<x))
def Df(x y:Str):Int:=vU (Go.Op.bytesLess x y) (!(Go.Op.bytesLess x y||x==y))
theorem Bq(p q:Bool):zo p q=some (vU p q):=by
 unfold zo vU;cases p<;>cases q<;>rfl
theorem rT(x y:Int):cmp_Compare_int x y=some (qw x y):=by
 unfold cmp_Compare_int qw vU cmp_isNaN_int;by_cases h1:x<y<;>by_cases h2:y<x<;>simp[h1,h2]
theorem IZ(x y:UInt8):qU x y=some (qw x.toNat y.toNat):=by
 unfold qU qw vU uH;by_cases h1:(x.toNat:Int)<y.toNat<;>by_cases h2:(y.toNat:Int)<x.toNat<;>simp[h1,h2]
theorem SA(x y:Str):mK x y=some (Df x y):=by
 unfold mK Df vU cmp_isNaN_string;cases h1:Go.Op.bytesLess x y<;>cases h2:(x==y)<;>simp
theorem zG:∀x:Str,Go.Op.bytesLess x x=false
 | []=>rfl
 | c::x=>by
  unfold Go.Op.bytesLess;have:=zG x;simp[this]
theorem adZ(a b c:Int):Dc ([a,b,c]:List Int)=some (if a !=0 then a else if b !=0 then b else c):=by
 have:=fC (F:=fun k (_:Unit) i=>wz [a,b,c] k i) (l:=[a,b,c]) (body:=fun _ acX _ r=>if acX !=0 then some acX else r ()) (fin:=fun _=>some 0) (by simp)
  (fun k s i=>rfl) ()
 unfold Dc;rw[this];simp only[fu];by_cases h1:a=0<;>by_cases h2:b=0<;>by_cases h3:c=0<;>simp[h1,h2,h3]
def SB(a b:Str):Int:=
 if ((dz a).length:Int) !=((dz b).length:Int)then qw (dz a).length (dz b).length else if !(dz a==dz b)then Df (dz a) (dz b)else qw a.length b.length
theorem amr(s:Str):(dz s).length≤s.length:=(List.dropWhile_sublist _).length_le
theorem EW{x y:Int}:qw x y=0↔x=y:=by
 unfold qw vU;by_cases h1:x<y<;>by_cases h2:y<x<;>simp[h1,h2]<;>omega
theorem acB{x y:Str}(h:x≠y):Df x y≠0:=by
 unfold Df vU;cases h1:Go.Op.bytesLess x y<;>simp[h]
theorem ad1(x:Str):Df x x=0:=by
 unfold Df vU;simp[zG]
theorem Rz{a b:Str}(ha:a.length<4611686018427387904)(hb:b.length<4611686018427387904):vX a b=some (SB a b):=by
 unfold vX SB;rw[abL ha,abL hb];simp only[aj,rT,SA,adZ,aoi];by_cases h1:((dz a).length:Int)=((dz b).length:Int)
 ·have e1:qw (dz a).length (dz b).length=0:=EW.2 h1;rw[e1];by_cases h2:dz a=dz b
  ·rw[h2,ad1];simp
  ·have:=acB h2;simp[h1,h2,this]
 ·have e1:qw (dz a).length (dz b).length≠0:=fun h=>h1 (EW.1 h);rw[aoa (by simpa using e1),aoa (by simpa using h1)]
theorem ahL{a b:Str}(ha:a.length<4611686018427387904)(hb:b.length<4611686018427387904):Rc a b=some (SB a b):=by
 unfold Rc SB;rw[Yi ha,Yi hb];simp only[aj,Bq];by_cases h1:((dz a).length:Int)=((dz b).length:Int)
 ·by_cases h2:dz a=dz b
  ·simp[h2,qw]
  ·simp[h1,h2,Df]
 ·simp[h1,qw]
theorem U7{s:Str}(h:s≠[]):0<jM dV s↔dV (s.head h)=true:=by
 cases s with
 | nil=>exact absurd rfl h
 | cons c s=>rw[za];cases e:dV c<;>simp[e]
theorem IY{a b:Str}(ha:a.length<4611686018427387904)(hb:b.length<4611686018427387904):∀(k k' i j:Nat),i≤a.length→j≤b.length→a.length<k+i→a.length<k'+i→
  kG k (a.drop i) (b.drop j)=qG a b k' (i:Int) (j:Int)∧∃c,qG a b k' (i:Int) (j:Int)=some c
 | 0,k',i,j,_,_,h,_=>by omega
 | k+1,0,i,j,_,_,_,h=>by omega
 | k+1,k'+1,i,j,hi,hj,hk,hk'=>by
  rw[kG,qG];by_cases h1:i<a.length
  ·by_cases h2:j<b.length
   ·have ea:=aoe h1;have eb:=aoe h2;have na:a.drop i≠[]:=fun h=>by simp at h;omega
    have nb:b.drop j≠[]:=fun h=>by simp at h;omega
    have la:(a.drop i).length=a.length-i:=by simp
    have lb:(b.drop j).length=b.length-j:=by simp
    have sa:=Ac dV (a.drop i);have sb:=Ac dV (b.drop j);have pa:=U7 na;have pb:=U7 nb;have amj:(a.drop i).head na=a[i]:=by simp
    have ami:(b.drop j).head nb=b[j]:=by simp
    rw[amj]at pa;rw[ami]at pb;rw[aoa (by simp[h1,h2]),aoa (by simp;omega),BF (by omega),BF (by omega),jL h1,jL h2];simp only[aj,Bq,ae_];have i0:idx (a.drop i) 0=some a[i]:=by rw[ea];rfl
    have j0:idx (b.drop j) 0=some b[j]:=by rw[eb];rfl
    have hone:(if dV a[i]=true then some (dV b[j])else some false)=some (dV a[i]&&dV b[j]):=by cases dV a[i]<;>simp
    rw[hone];simp only[aj];cases hd:(dV a[i]&&dV b[j])with
    | true=>
     simp only[aoj]at hd;have q1:=pa.2 hd.1;have q2:=pb.2 hd.2;rw[aoa (by simp;omega)];simp only[aoc];rw[Rf ha (by omega),Rf hb (by omega),Yk sa,Yk sb];simp only[aj]
     have e1:sl a (i:Int) ((i+jM dV (a.drop i):Nat):Int)=some ((a.drop i).take (jM dV (a.drop i))):=by
      rw[bS (by omega) (by omega) (by omega)];simp only[aof,aoi];rw[ape,apz]
     have e2:sl b (j:Int) ((j+jM dV (b.drop j):Nat):Int)=some ((b.drop j).take (jM dV (b.drop j))):=by
      rw[bS (by omega) (by omega) (by omega)];simp only[aof,aoi];rw[ape,apz]
     rw[e1,e2];simp only[aj];rw[Rz (by simp;omega) (by simp;omega),ahL (by simp;omega) (by simp;omega)];simp only[aj];by_cases hc:SB ((a.drop i).take (jM dV (a.drop i))) ((b.drop j).take (jM dV (b.drop j)))=0
     ·rw[an9 (by simp[hc]),an9 (by simp[hc]),nk sa,nk sb];simp only[aj,aoS];exact IY ha hb k k' _ _ (by omega) (by omega) (by omega) (by omega)
     ·rw[aoa (by simpa using hc),aoa (by simpa using hc)];exact⟨rfl,_,rfl⟩
    | false=>
     rw[an9 (by
      simp only[aoj,aod,not_and];intro h3 h4;have:=pa.1 (by omega);have:=pb.1 (by omega)
      simp_all)]
     simp only[an_,aob];rw[i0,j0];simp only[aj,IZ];by_cases hc:(a[i].toNat:Int)=(b[j].toNat:Int)
     ·rw[an9 (by simpa using hc)];have:vU (decide ((a[i].toNat:Int)<(b[j].toNat:Int))) (decide ((b[j].toNat:Int)<(a[i].toNat:Int)))=0:=by simp[vU,hc]
      rw[this,an9 (by simp),kr (by omega),kr (by omega)];have s1:=nk (s:=a.drop i) (i:=1) (by omega);have s2:=nk (s:=b.drop j) (i:=1) (by omega);rw[show ((1:Nat):Int)=1 from rfl]at s1 s2;rw[s1,s2];simp only[aj,aoS];exact IY ha hb k k' _ _ (by omega) (by omega) (by omega) (by omega)
     ·rw[aoa (by simpa using hc)];have e3:qw (a[i].toNat) (b[j].toNat)≠0:=fun h=>hc (EW.1 h);have:vU (decide ((a[i].toNat:Int)<(b[j].toNat:Int))) (decide ((b[j].toNat:Int)<(a[i].toNat:Int)))=qw (a[i].toNat) (b[j].toNat):=rfl;rw[this,aoa (by simpa using e3)];exact⟨rfl,_,rfl⟩
   ·have eb:b.drop j=[]:=by simp;omega
    rw[eb,an9 (by simp),an9 (by simp;omega),Bq,rT];refine⟨?_,_,rfl⟩;unfold qw;congr 2<;>simp<;>omega
  ·have ea:a.drop i=[]:=by simp;omega
   rw[ea,an9 (by simp),an9 (by simp;omega),Bq,rT];refine⟨?_,_,rfl⟩;unfold qw;congr 2<;>simp<;>omega
theorem Sz{a b:Str}(ha:a.length<4611686018427387904)(hb:b.length<4611686018427387904):∃c,jC a b=some c∧qY a b=some c:=by
 obtain⟨h1,c,h2⟩:=IY ha hb BIG BIG 0 0 (by omega) (by omega) (by have:=iL;omega) (by have:=iL;omega);refine⟨c,?_,by simpa[qY]using h2⟩;rw[←h2];simpa[jC]using h1
end Go.Ft
namespace Go.Ft
open Go
theorem Vq:∀l,qX l l=0
 | []=>rfl
 | a::l=>by simp[qX,Vq l]
theorem Vp:∀ {l m:List Nat},qX l m=0→l=m
 | [],[],_=>rfl
 | [],_::_,h=>by simp[qX]at h
 | _::_,[],h=>by simp[qX]at h
 | a::l,b::m,h=>by
  simp only[qX]at h;by_cases h1:a<b
  ·simp[h1]at h
  ·by_cases h2:b<a
   ·simp[h1,h2]at h
   ·simp only[h1,h2,aob]at h;rw[Vp h,show a=b from by omega]
theorem YU:∀l m:List Nat,qX m l=- qX l m
 | [],[]=>rfl
 | [],_::_=>rfl
 | _::_,[]=>rfl
 | a::l,b::m=>by
  simp only[qX];by_cases h1:a<b
  ·simp[h1,show ¬b<a by omega]
  ·by_cases h2:b<a
   ·simp[h1,h2]
   ·simp only[h1,h2,aob];exact YU l m
theorem RY:∀l m:List Nat,qX l m=-1∨qX l m=0∨qX l m=1
 | [],[]=>.inr (.inl rfl)
 | [],_::_=>.inl rfl
 | _::_,[]=>.inr (.inr rfl)
 | a::l,b::m=>by
  simp only[qX];by_cases h1:a<b
  ·simp[h1]
  ·by_cases h2:b<a
   ·simp[h1,h2]
   ·simp only[h1,h2,aob];exact RY l m
theorem RV:∀ {a b c:List Nat},qX a b<0→qX b c<0→qX a c<0
 | [],[],c,h,_=>by simp[qX]at h
 | [],_::_,[],_,h=>by simp[qX]at h
 | [],_::_,_::_,_,_=>by simp[qX]
 | _::_,[],c,h,_=>by simp[qX]at h
 | _::_,_::_,[],_,h=>by simp[qX]at h
 | x::a,y::b,z::c,h,k=>by
  simp only[qX]at h k⊢;by_cases h1:x<y
  ·by_cases k1:y<z
   ·simp[show x<z by omega]
   ·by_cases k2:z<y
    ·simp[k1,k2]at k
    ·simp[show x<z by omega]
  ·by_cases h2:y<x
   ·simp[h1,h2]at h
   ·simp only[h1,h2,aob]at h;by_cases k1:y<z
    ·simp[show x<z by omega]
    ·by_cases k2:z<y
     ·simp[k1,k2]at k
     ·simp only[k1,k2,aob]at k;simp only[show ¬x<z by omega,show ¬z<x by omega,aob];exact RV h k
theorem RZ:∀(xs ys:Str) (u v:List Nat),xs.length=ys.length→qX (xs.map UInt8.toNat++u) (ys.map UInt8.toNat++v)=if xs=ys then qX u v else Df xs ys
 | [],[],u,v,_=>by simp
 | [],_::_,_,_,h=>by simp at h
 | _::_,[],_,_,h=>by simp at h
 | x::xs,y::ys,u,v,h=>by
  simp only[aot,ao7,qX];have ih:=RZ xs ys u v (by simpa using h);have e1:(x<y)=(x.toNat<y.toNat):=by rw[UInt8.lt_iff_toNat_lt]
  have e2:(y<x)=(y.toNat<x.toNat):=by rw[UInt8.lt_iff_toNat_lt]
  by_cases h1:x.toNat<y.toNat
  ·have:x≠y:=fun e=>by subst e;omega
   simp[h1,this,Df,vU,Go.Op.bytesLess,e1]
  ·by_cases h2:y.toNat<x.toNat
   ·have:x≠y:=fun e=>by subst e;omega
    simp[h1,h2,this,Df,vU,Go.Op.bytesLess,e1]
   ·have:x=y:=aoD.1 (by omega);subst this;simp only[h1,aob,ih,aoP,true_and];by_cases h3:xs=ys
    ·simp[h3]
    ·simp only[h3,aob,Df,Go.Op.bytesLess,e1,h1,aoV,aoW,aoM,aoN];congr 1;simp
theorem Ju(s:Str):(s.take (jM dV s)).length=jM dV s:=by
 have:=Ac dV s;simp;omega
theorem Hu{c:UInt8}{s:Str}(h:dV c=true):0<jM dV (c::s):=by rw[za,aoa h];omega
theorem Nv:∀(k m:Nat) (s:Str),s.length≤k→s.length≤m→R4 k s=R4 m s
 | 0,0,_,_,_=>rfl
 | 0,m+1,s,h,_=>by
  have:s=[]:=aoI (by omega);subst this;rfl
 | k+1,0,s,_,h=>by
  have:s=[]:=aoI (by omega);subst this;rfl
 | k+1,m+1,[],_,_=>rfl
 | k+1,m+1,c::s,h1,h2=>by
  simp only[R4];simp only[aog]at h1 h2;cases e:dV c with
  | true=>
   have:=Hu (s:=s) e;have:=Ac dV (c::s);simp only[aoc];rw[Nv k m _ (by simp;omega) (by simp;omega)]
  | false=>
   simp only[an_,aob];rw[Nv k m s (by omega) (by omega)]
theorem Y2{k:Nat}{s:Str}(h:s.length≤k):R4 k s=key s:=Nv _ _ _ h (aon _)
theorem FR:key []=[]:=rfl
theorem wG{c:UInt8}{s:Str}(h:dV c=true):key (c::s)=48::(dz ((c::s).take (jM dV (c::s)))).length::((dz ((c::s).take (jM dV (c::s)))).map UInt8.toNat++jM dV (c::s)::key ((c::s).drop (jM dV (c::s)))):=by
 have:=Hu (s:=s) h;have:=Ac dV (c::s);show R4 (s.length+1) (c::s)=_;simp only[R4,h,aoc];rw[Y2 (by simp;omega)]
theorem ny{c:UInt8}{s:Str}(h:dV c=false):key (c::s)=c.toNat::key s:=by
 show R4 (s.length+1) (c::s)=_;simp only[R4,h,an_,aob];rw[Y2 (aon _)]
theorem agF(a b:Str)(u v:List Nat):qX ((dz a).length::((dz a).map UInt8.toNat++a.length::u)) ((dz b).length::((dz b).map UInt8.toNat++b.length::v))=if SB a b=0 then qX u v else SB a b:=by
 unfold SB;simp only[qX];by_cases h1:(dz a).length=(dz b).length
 ·rw[an9 (by omega),an9 (by omega),RZ _ _ _ _ h1];have e:(((dz a).length:Int) !=((dz b).length:Int))=false:=by simp[h1]
  simp only[e,an_,aob];by_cases h2:dz a=dz b
  ·simp only[h2,aoc,aoM,aos,an_,aob,qX,qw,vU];by_cases h3:a.length<b.length
   ·simp[h3]
   ·by_cases h4:b.length<a.length
    ·simp[h3,h4]
    ·simp[h3,h4]
  ·have h3:=acB h2;simp[h2,h3]
 ·have e:(((dz a).length:Int) !=((dz b).length:Int))=true:=by simp;omega
  simp only[e,aoc];by_cases h2:(dz a).length<(dz b).length
  ·simp[h2,qw,vU]
  ·have h3:(dz b).length<(dz a).length:=by omega
   simp[h2,h3,qw,vU]
theorem vg{c:UInt8}:dV c=(decide (48≤c.toNat)&&decide (c.toNat≤57)):=by
 unfold dV;congr 1
 ·apply decide_eq_decide.2;omega
 ·apply decide_eq_decide.2;omega
theorem Io:∀(n k:Nat) (a b:Str),a.length≤n→a.length<k→a.length<4611686018427387904→b.length<4611686018427387904→kG k a b=some (gI a b)
 | _,0,_,_,_,h,_,_=>by omega
 | n,k+1,a,b,hn,hk,ha,hb=>by
  rw[kG]
  match a,b with
  | [],[]=>
   rw[an9 (by simp),rT];simp[gI,FR,qX,qw,vU]
  | [],y::b=>
   rw[an9 (by simp),rT]
   have:key (y::b)≠[]:=by
    cases e:dV y with
    | true=>rw[wG e];simp
    | false=>rw[ny e];simp
   cases e:key (y::b)with
   | nil=>exact absurd e this
   | cons p q=>
    simp only[gI,FR,e,qX,qw,vU];rw[aoa (by simp)]
  | x::a,[]=>
   rw[an9 (by simp),rT]
   have:key (x::a)≠[]:=by
    cases e:dV x with
    | true=>rw[wG e];simp
    | false=>rw[ny e];simp
   cases e:key (x::a)with
   | nil=>exact absurd e this
   | cons p q=>
    simp only[gI,FR,e,qX,qw,vU];rw[an9 (by simp;omega),aoa (by simp)]
  | x::a,y::b=>
   have sa:=Ac dV (x::a);have sb:=Ac dV (y::b);have i0:idx (x::a) 0=some x:=rfl;have j0:idx (y::b) 0=some y:=rfl;rw[aoa (by simp),BF ha,BF hb];simp only[aj];cases e1:dV x with
   | true=>
    have p1:=Hu (s:=a) e1;cases e2:dV y with
    | true=>
     have p2:=Hu (s:=b) e2;rw[aoa (by simp;omega),Yk sa,Yk sb];simp only[aj];rw[Rz (by simp;omega) (by simp;omega)];simp only[aj];have hc:=agF ((x::a).take (jM dV (x::a))) ((y::b).take (jM dV (y::b))) (key ((x::a).drop (jM dV (x::a)))) (key ((y::b).drop (jM dV (y::b))));rw[Ju,Ju]at hc
     have e3:gI (x::a) (y::b)=if SB ((x::a).take (jM dV (x::a))) ((y::b).take (jM dV (y::b)))=0 then qX (key ((x::a).drop (jM dV (x::a)))) (key ((y::b).drop (jM dV (y::b))))else SB ((x::a).take (jM dV (x::a))) ((y::b).take (jM dV (y::b))):=by
      rw[←hc,gI,wG e1,wG e2,qX,an9 (by omega),an9 (by omega)]
     rw[e3];by_cases h0:SB ((x::a).take (jM dV (x::a))) ((y::b).take (jM dV (y::b)))=0
     ·rw[an9 (by simpa using h0),aoa h0,nk sa,nk sb];simp only[aj]
      match n,hn with
      | n+1,hn=>
       exact Io n k _ _ (by simp at hn⊢;omega) (by simp at hk⊢;omega) (by simp at ha⊢;omega) (by simp at hb⊢;omega)
     ·rw[aoa (by simpa using h0),an9 h0]
    | false=>
     have q2:jM dV (y::b)=0:=by rw[za,e2];rfl
     rw[an9 (by simp[q2]),i0,j0];simp only[aj,IZ];have d1:=vg (c:=x);rw[e1]at d1;have d2:=vg (c:=y);rw[e2]at d2;simp only[aoj,Bool.false_eq,aoZ,aow,Bool.true_eq,aod]at d1 d2;rw[aoa (by simp;omega)];rw[gI,wG e1,ny e2,qX,qw,vU];by_cases h1:x.toNat<y.toNat
     ·rw[aoa (by simp;omega),aoa (by omega)]
     ·rw[an9 (by simp;omega),aoa (by simp;omega),an9 (by omega),aoa (by omega)]
   | false=>
    have q1:jM dV (x::a)=0:=by rw[za,e1];rfl
    rw[an9 (by simp[q1]),i0,j0];simp only[aj,IZ];by_cases h0:x=y
    ·subst h0;rw[an9 (by simp)];have s1:=nk (s:=x::a) (i:=1) (by simp);have s2:=nk (s:=x::b) (i:=1) (by simp);rw[show ((1:Nat):Int)=1 from rfl]at s1 s2;rw[s1,s2];simp only[aj,ao5,aoR];rw[gI,ny e1,ny e1,qX,an9 (by omega),an9 (by omega)]
     match n,hn with
     | n+1,hn=>exact Io n k a b (by simp at hn;omega) (by simp at hk;omega) (by simp at ha;omega) (by simp at hb;omega)
    ·have h1:x.toNat≠y.toNat:=fun h=>h0 (aoD.1 h);rw[aoa (by simp;omega)];have d1:=vg (c:=x);rw[e1]at d1;simp only[Bool.false_eq,aoZ,aow]at d1;cases e2:dV y with
     | true=>
      have d2:=vg (c:=y);rw[e2]at d2;simp only[aoj,Bool.true_eq,aod]at d2;rw[gI,ny e1,wG e2,qX,qw,vU];by_cases h1:x.toNat<y.toNat
      ·rw[aoa (by simp;omega),aoa (by omega)]
      ·rw[an9 (by simp;omega),aoa (by simp;omega),an9 (by omega),aoa (by omega)]
     | false=>
      rw[gI,ny e1,ny e2,qX,qw,vU];by_cases h2:x.toNat<y.toNat
      ·rw[aoa (by simp;omega),aoa (by omega)]
      ·rw[an9 (by simp;omega),aoa (by simp;omega),an9 (by omega),aoa (by omega)]
theorem JC{a b:Str}(ha:a.length<4611686018427387904)(hb:b.length<4611686018427387904):jC a b=some (gI a b):=
 Io _ BIG a b (aon _) (by have:=iL;omega) ha hb
theorem KO{a b:Str}(ha:a.length<4611686018427387904)(hb:b.length<4611686018427387904):qY a b=some (gI a b):=by
 obtain⟨c,h1,h2⟩:=Sz ha hb;rw[JC ha hb]at h1;rw[h2,←h1]
theorem Xp:∀(r:Str),r=List.replicate (r.length-(dz r).length) (48:UInt8)++dz r
 | []=>rfl
 | c::r=>by
  unfold dz;rw[apP];by_cases h:c=48
  ·subst h;have ih:=Xp r;have hl:=amr r;simp only[show (((48:UInt8).toNat:Int)==48)=true from rfl,aoc];change _=List.replicate ((48::r).length-(dz r).length) (48:UInt8)++dz r;rw[show (48::r).length-(dz r).length=(r.length-(dz r).length)+1 by simp;omega,List.replicate_succ,ao7,←ih]
  ·have:((c.toNat:Int)==48)=false:=by
    simp only[aok,apd];intro h2;exact h (aoD.1 (by show c.toNat=48;omega))
   simp[this]
theorem key_inj:∀(n:Nat) (a b:Str),a.length≤n→key a=key b→a=b
 | _,[],[],_,_=>rfl
 | _,[],y::b,_,h=>by
  cases e:dV y with
  | true=>rw[wG e,FR]at h;cases h
  | false=>rw[ny e,FR]at h;cases h
 | _,x::a,[],_,h=>by
  cases e:dV x with
  | true=>rw[wG e,FR]at h;cases h
  | false=>rw[ny e,FR]at h;cases h
 | 0,x::a,y::b,h,_=>by simp at h
 | n+1,x::a,y::b,hn,h=>by
  cases e1:dV x with
  | true=>
   cases e2:dV y with
   | true=>
    have p1:=Hu (s:=a) e1;have sa:=Ac dV (x::a);rw[wG e1,wG e2]at h;simp only[aoP,true_and]at h;obtain⟨h1,h2⟩:=h;obtain⟨h3,h4⟩:=List.append_inj h2 (by simpa using h1);simp only[aoP]at h4
    have h5:dz ((x::a).take (jM dV (x::a)))=dz ((y::b).take (jM dV (y::b))):=by
     refine List.map_inj_right (f:=UInt8.toNat) (fun p q hpq=>aoD.1 hpq) |>.1 h3
    have h6:(x::a).take (jM dV (x::a))=(y::b).take (jM dV (y::b)):=by
     rw[Xp ((x::a).take (jM dV (x::a))),Xp ((y::b).take (jM dV (y::b))),h5,Ju,Ju,h4.1]
    have h7:=key_inj n _ _ (by simp at hn⊢;omega) h4.2;rw[←List.take_append_drop (jM dV (x::a)) (x::a),h6,h7,List.take_append_drop]
   | false=>
    rw[wG e1,ny e2]at h;simp only[aoP]at h;have d2:=vg (c:=y);rw[e2,←h.1]at d2;simp at d2
  | false=>
   cases e2:dV y with
   | true=>
    rw[ny e1,wG e2]at h;simp only[aoP]at h;have d2:=vg (c:=x);rw[e1,h.1]at d2;simp at d2
   | false=>
    rw[ny e1,ny e2]at h;simp only[aoP]at h;rw[aoD.1 h.1,key_inj n a b (by simp at hn;omega) h.2]
theorem OI(a:Str):gI a a=0:=Vq _
theorem xB{a b:Str}(h:gI a b=0):a=b:=key_inj _ a b (aon _) (Vp h)
theorem rJ(a b:Str):gI b a=- gI a b:=YU _ _
theorem Bv{a b c:Str}(h:gI a b<0)(k:gI b c<0):gI a c<0:=RV h k
theorem Es{a b c:Str}(h:¬gI a b<0)(k:¬gI b c<0):¬gI a c<0:=by
 intro hc;by_cases h0:gI a b=0
 ·rw[xB h0]at hc;exact k hc
 ·by_cases k0:gI b c=0
  ·rw[←xB k0]at hc;exact h hc
  ·have h1:gI b a<0:=by rw[rJ];omega
   have k1:gI c b<0:=by rw[rJ];omega
   have:=Bv k1 h1;rw[rJ]at this;omega
end Go.Ft
