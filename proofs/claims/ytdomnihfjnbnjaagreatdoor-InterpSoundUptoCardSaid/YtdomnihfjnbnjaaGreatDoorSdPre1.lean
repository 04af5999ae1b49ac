/- Proved here: plain facts on the functional texts that the walks want. -/
import Derived.Test.YtdomnihfjnbnjaaGreatDoorSdFt1
import Derived.Test.YtdomnihfjnbnjaaGreatDoorSdPool1
set_option linter.unusedVariables false
set_option linter.unusedSimpArgs false
set_option linter.defProp false
set_option linter.unusedSectionVars false
set_option maxHeartbeats 2000000
namespace Go.Ft
open Go
attribute [local congr] eO
theorem zq{n:Int}(h:-9223372036854775808≤n∧n<9223372036854775808):bF n=n:=XT (by omega) (by omega)
theorem mD{i:Nat}(h:i<4611686018427387904):bF ((i:Int)+1)=((i+1:Nat):Int):=by rw[zq (by omega)];omega
theorem mF{α:Type}{l:List α}{i:Nat}(h:i<l.length):idx l (i:Int)=some (l[i]):=by rw[aea,asb h]
theorem gX:9223372036854775808<BIG:=by decide
def dD{α S R:Type}(body:Nat→α→S→(S→Option R)→Option R)(fin:S→Option R):Nat→List α→S→Option R
 | _,[],s=>fin s
 | i,x::r,s=>body i x s fun s'=>dD body fin (i+1) r s'
theorem Z4{α S R:Type}{F:Nat→S→Int→Option R}{l:List α}{body:Nat→α→S→(S→Option R)→Option R}{fin:S→Option R}(hl:l.length<4611686018427387904)
  (hF:∀k s (i:Nat),F (k+1) s i=if decide ((i:Int)<(l.length:Int))then au (idx l i) fun x=>body i x s fun s'=>F k s' (bF ((i:Int)+1))else fin s):
  ∀(k i:Nat) (s:S),l.length<k+i→i≤l.length→F k s (i:Int)=dD body fin i (l.drop i) s
 | 0,i,s,h,h'=>by omega
 | k+1,i,s,h,h'=>by
  rw[hF];by_cases hi:i<l.length
  ·rw[ar0 hi,arK (by simp;omega),mF hi,aj,dD];congr 1;funext s';rw[mD (by omega)];exact Z4 hl hF k (i+1) s' (by omega) (by omega)
  ·have:i=l.length:=by omega
   subst this;rw[arF (by simp),List.drop_length,dD]
theorem dI{α S R:Type}{F:Nat→S→Int→Option R}{l:List α}{body:Nat→α→S→(S→Option R)→Option R}{fin:S→Option R}(hl:l.length<4611686018427387904)
  (hF:∀k s (i:Nat),F (k+1) s i=if decide ((i:Int)<(l.length:Int))then au (idx l i) fun x=>body i x s fun s'=>F k s' (bF ((i:Int)+1))else fin s) (s:S):F BIG s 0=dD body fin 0 l s:=by
 have:=Z4 hl hF BIG 0 s (by have:=gX;omega) (by omega);simpa using this
def isLet(c:UInt8):Bool:=(((decide (97≤(c.toNat:Int)))&&(decide ((c.toNat:Int)≤122)))||((decide (65≤(c.toNat:Int)))&&(decide ((c.toNat:Int)≤90))))||((c.toNat:Int)==95)
@[simp] theorem aqa(c:UInt8):xg c=some (isLet c):=rfl
@[simp] theorem adY(c:UInt8):oC c=some (dF c):=rfl
@[simp] theorem apJ(c:UInt8):AL c=some (isLet c):=rfl
@[simp] theorem alf(c:UInt8):qx c=some (dF c):=rfl
@[simp] theorem ark(c:UInt8):FQ c=some (dF c):=rfl
@[simp] theorem ahW(c:UInt8):Ec c=some (dF c):=rfl
theorem Ay(p:UInt8→Bool)(c:UInt8)(l:Str):jM p (c::l)=if p c then jM p l+1 else 0:=by
 unfold jM;rw[List.takeWhile_cons];split<;>simp
theorem BX(p:UInt8→Bool)(l:Str):jM p l≤l.length:=by
 induction l with
 | nil=>simp[jM]
 | cons c l ih=>rw[Ay];split<;>simp<;>omega
theorem Ye{F:Nat→Int→Option Int}{s:Str}(hs:s.length<4611686018427387904)
  (hF:∀k (i:Nat),F (k+1) i=au (if decide ((i:Int)<(s.length:Int))then au (idx s i) fun x1=>some (dF x1)else some false) fun b1=>if b1 then F k (bF ((i:Int)+1))else some (i:Int)):
  ∀(k i:Nat),s.length<k+i→i≤s.length→F k (i:Int)=some ((i+jM dF (s.drop i):Nat):Int)
 | 0,i,h,h'=>by omega
 | k+1,i,h,h'=>by
  rw[hF];by_cases hi:i<s.length
  ·rw[ar0 hi,Ay,arK (by simp;omega),mF hi];simp only[aj];cases e:dF s[i]with
   | false=>simp
   | true=>
    simp only[arO];rw[mD (by omega),Ye hs hF k (i+1) (by omega) (by omega)];simp only[asB,atO];omega
  ·have:i=s.length:=by omega
   subst this;simp[jM]
theorem Dz{s:Str}(hs:s.length<4611686018427387904):Ee s=some (jM dF s:Int):=by
 have:=Ye (F:=zU s) hs (fun k i=>rfl) BIG 0 (by have:=gX;omega) (by omega);simpa[Ee]using this
theorem Tz{s:Str}(hs:s.length<4611686018427387904){i:Nat}(hi:i≤s.length):NZ s (i:Int)=some ((i+jM dF (s.drop i):Nat):Int):=
 Ye (F:=EK s) hs (fun k i=>rfl) BIG i (by have:=gX;omega) hi
theorem sZ{s:Str}{i:Nat}(h:i≤s.length):sl s (i:Int) (s.length:Int)=some (s.drop i):=by
 rw[bI (by omega) (by omega) (by omega)];simp
theorem Z0{s:Str}{i:Nat}(h:i≤s.length):sl s 0 (i:Int)=some (s.take i):=by
 rw[bI (by omega) (by omega) (by omega)];simp
theorem trimB(s:Str):∀(k:Nat),s.length<k→s.length<4611686018427387904→iK 48 k s=some (dz s):=by
 induction s with
 | nil=>intro k h _;cases k with
  | zero=>simp at h
  | succ k=>simp[iK,dz]
 | cons c s ih=>
  intro k h hs;cases k with
  | zero=>simp at h
  | succ k=>
   simp only[ase]at h hs;rw[iK,arK (by simp)];have e0:idx (c::s) 0=some c:=by simp[idx]
   rw[e0];simp only[aj];have e1:((48:UInt8).toNat:Int)=48:=rfl;rw[e1];unfold dz;rw[aub];cases e:((c.toNat:Int)==48)with
   | false=>simp
   | true=>
    simp only[arO];have e2:=sZ (s:=c::s) (i:=1) (by simp);simp only[List.drop_one,List.tail_cons]at e2;rw[show ((1:Nat):Int)=1 from rfl]at e2;rw[e2];simp only[aj];exact ih k (by omega) (by omega)
theorem adF{s:Str}(hs:s.length<4611686018427387904):o7 s ([48]:Str)=some (dz s):=by
 unfold o7;cases s with
 | nil=>simp[dz]
 | cons c s=>
  rw[arF (by simp),arK (by simp)];have e0:idx ([48]:Str) 0=some 48:=rfl;rw[e0];simp only[aj];rw[arK (by decide)];exact trimB _ BIG (by have:=gX;omega) hs
theorem WI{s:Str}(hs:s.length<4611686018427387904):∀(k i:Nat),s.length<k+i→i≤s.length→wu s k (i:Int)=some (dz (s.drop i))
 | 0,i,h,h'=>by omega
 | k+1,i,h,h'=>by
  rw[wu];by_cases hi:i<s.length
  ·rw[ar0 hi,arK (by simp;omega),mF hi];simp only[aj];unfold dz;rw[aub];cases e:((s[i].toNat:Int)==48)with
   | false=>
    simp only[arG,arN];rw[sZ (by omega),ar0 hi]
   | true=>
    simp only[arO];rw[mD (by omega)];exact WI hs k (i+1) (by omega) (by omega)
  ·have:i=s.length:=by omega
   subst this;rw[arF (by simp)];simp only[aj,arG,arN];rw[sZ (by omega)];simp[dz]
theorem ZN{s:Str}(hs:s.length<4611686018427387904):Eb s=some (dz s):=by
 have:=WI hs BIG 0 (by have:=gX;omega) (by omega);simpa[Eb]using this
def zk(p q:Bool):Int:=if p then -1 else if q then 1 else 0
def uQ(x y:Int):Int:=zk (decide (x<y)) (decide (y<x))
def LH(x y:Str):Int:=zk (Go.Op.bytesLess x y) (!(Go.Op.bytesLess x y||x==y))
theorem Dq(p q:Bool):wz p q=some (zk p q):=by
 unfold wz zk;cases p<;>cases q<;>rfl
theorem tO(x y:Int):cmp_Compare_int x y=some (uQ x y):=by
 unfold cmp_Compare_int uQ zk cmp_isNaN_int;by_cases h1:x<y<;>by_cases h2:y<x<;>simp[h1,h2]
theorem KE(x y:UInt8):sG x y=some (uQ x.toNat y.toNat):=by
 unfold sG uQ zk vN;by_cases h1:(x.toNat:Int)<y.toNat<;>by_cases h2:(y.toNat:Int)<x.toNat<;>simp[h1,h2]
theorem UD(x y:Str):mX x y=some (LH x y):=by
 unfold mX LH zk cmp_isNaN_string;cases h1:Go.Op.bytesLess x y<;>cases h2:(x==y)<;>simp
theorem Bg:∀x:Str,Go.Op.bytesLess x x=false
 | []=>rfl
 | c::x=>by
  unfold Go.Op.bytesLess;have:=Bg x;simp[this]
theorem agc(a b c:Int):E5 ([a,b,c]:List Int)=some (if a !=0 then a else if b !=0 then b else c):=by
 have:=dI (F:=fun k (_:Unit) i=>xH [a,b,c] k i) (l:=[a,b,c]) (body:=fun _ ahe _ r=>if ahe !=0 then some ahe else r ()) (fin:=fun _=>some 0) (by simp)
  (fun k s i=>rfl) ()
 unfold E5;rw[this];simp only[dD];by_cases h1:a=0<;>by_cases h2:b=0<;>by_cases h3:c=0<;>simp[h1,h2,h3]
def UE(a b:Str):Int:=
 if ((dz a).length:Int) !=((dz b).length:Int)then uQ (dz a).length (dz b).length else if !(dz a==dz b)then LH (dz a) (dz b)else uQ a.length b.length
theorem aqQ(s:Str):(dz s).length≤s.length:=(List.dropWhile_sublist _).length_le
theorem Hg{x y:Int}:uQ x y=0↔x=y:=by
 unfold uQ zk;by_cases h1:x<y<;>by_cases h2:y<x<;>simp[h1,h2]<;>omega
theorem aeA{x y:Str}(h:x≠y):LH x y≠0:=by
 unfold LH zk;cases h1:Go.Op.bytesLess x y<;>simp[h]
theorem agd(x:Str):LH x x=0:=by
 unfold LH zk;simp[Bg]
theorem TL{a b:Str}(ha:a.length<4611686018427387904)(hb:b.length<4611686018427387904):xB a b=some (UE a b):=by
 unfold xB UE;rw[adF ha,adF hb];simp only[aj,tO,UD,agc,asB];by_cases h1:((dz a).length:Int)=((dz b).length:Int)
 ·have e1:uQ (dz a).length (dz b).length=0:=Hg.2 h1;rw[e1];by_cases h2:dz a=dz b
  ·rw[h2,agd];simp
  ·have:=aeA h2;simp[h1,h2,this]
 ·have e1:uQ (dz a).length (dz b).length≠0:=fun h=>h1 (Hg.1 h);rw[arK (by simpa using e1),arK (by simpa using h1)]
theorem ak6{a b:Str}(ha:a.length<4611686018427387904)(hb:b.length<4611686018427387904):JY a b=some (UE a b):=by
 unfold JY UE;rw[ZN ha,ZN hb];simp only[aj,Dq];by_cases h1:((dz a).length:Int)=((dz b).length:Int)
 ·by_cases h2:dz a=dz b
  ·simp[h2,uQ]
  ·simp[h1,h2,LH]
 ·simp[h1,uQ]
theorem WL{s:Str}(h:s≠[]):0<jM dF s↔dF (s.head h)=true:=by
 cases s with
 | nil=>exact absurd rfl h
 | cons c s=>rw[Ay];cases e:dF c<;>simp[e]
theorem KD{a b:Str}(ha:a.length<4611686018427387904)(hb:b.length<4611686018427387904):∀(k k' i j:Nat),i≤a.length→j≤b.length→a.length<k+i→a.length<k'+i→
  j5 k (a.drop i) (b.drop j)=ny a b k' (i:Int) (j:Int)∧∃c,ny a b k' (i:Int) (j:Int)=some c
 | 0,k',i,j,_,_,h,_=>by omega
 | k+1,0,i,j,_,_,_,h=>by omega
 | k+1,k'+1,i,j,hi,hj,hk,hk'=>by
  rw[j5,ny];by_cases h1:i<a.length
  ·by_cases h2:j<b.length
   ·have ea:=ar0 h1;have eb:=ar0 h2;have na:a.drop i≠[]:=fun h=>by simp at h;omega
    have nb:b.drop j≠[]:=fun h=>by simp at h;omega
    have la:(a.drop i).length=a.length-i:=by simp
    have lb:(b.drop j).length=b.length-j:=by simp
    have sa:=BX dF (a.drop i);have sb:=BX dF (b.drop j);have pa:=WL na;have pb:=WL nb;have aqF:(a.drop i).head na=a[i]:=by simp
    have aqE:(b.drop j).head nb=b[j]:=by simp
    rw[aqF]at pa;rw[aqE]at pb;rw[arK (by simp[h1,h2]),arK (by simp;omega),Dz (by omega),Dz (by omega),mF h1,mF h2];simp only[aj,Dq,ahW];have i0:idx (a.drop i) 0=some a[i]:=by rw[ea];rfl
    have j0:idx (b.drop j) 0=some b[j]:=by rw[eb];rfl
    have hone:(if dF a[i]=true then some (dF b[j])else some false)=some (dF a[i]&&dF b[j]):=by cases dF a[i]<;>simp
    rw[hone];simp only[aj];cases hd:(dF a[i]&&dF b[j])with
    | true=>
     simp only[arV]at hd;have q1:=pa.2 hd.1;have q2:=pb.2 hd.2;rw[arK (by simp;omega)];simp only[arO];rw[Tz ha (by omega),Tz hb (by omega),Z0 sa,Z0 sb];simp only[aj]
     have e1:sl a (i:Int) ((i+jM dF (a.drop i):Nat):Int)=some ((a.drop i).take (jM dF (a.drop i))):=by
      rw[bI (by omega) (by omega) (by omega)];simp only[ar7,asB];rw[atz,atW]
     have e2:sl b (j:Int) ((j+jM dF (b.drop j):Nat):Int)=some ((b.drop j).take (jM dF (b.drop j))):=by
      rw[bI (by omega) (by omega) (by omega)];simp only[ar7,asB];rw[atz,atW]
     rw[e1,e2];simp only[aj];rw[TL (by simp;omega) (by simp;omega),ak6 (by simp;omega) (by simp;omega)];simp only[aj];by_cases hc:UE ((a.drop i).take (jM dF (a.drop i))) ((b.drop j).take (jM dF (b.drop j)))=0
     ·rw[arF (by simp[hc]),arF (by simp[hc]),sZ sa,sZ sb];simp only[aj,ato];exact KD ha hb k k' _ _ (by omega) (by omega) (by omega) (by omega)
     ·rw[arK (by simpa using hc),arK (by simpa using hc)];exact⟨rfl,_,rfl⟩
    | false=>
     rw[arF (by
      simp only[arV,arP,not_and];intro h3 h4;have:=pa.1 (by omega);have:=pb.1 (by omega)
      simp_all)]
     simp only[arG,arN];rw[i0,j0];simp only[aj,KE];by_cases hc:(a[i].toNat:Int)=(b[j].toNat:Int)
     ·rw[arF (by simpa using hc)];have:zk (decide ((a[i].toNat:Int)<(b[j].toNat:Int))) (decide ((b[j].toNat:Int)<(a[i].toNat:Int)))=0:=by simp[zk,hc]
      rw[this,arF (by simp),mD (by omega),mD (by omega)];have s1:=sZ (s:=a.drop i) (i:=1) (by omega);have s2:=sZ (s:=b.drop j) (i:=1) (by omega);rw[show ((1:Nat):Int)=1 from rfl]at s1 s2;rw[s1,s2];simp only[aj,ato];exact KD ha hb k k' _ _ (by omega) (by omega) (by omega) (by omega)
     ·rw[arK (by simpa using hc)];have e3:uQ (a[i].toNat) (b[j].toNat)≠0:=fun h=>hc (Hg.1 h);have:zk (decide ((a[i].toNat:Int)<(b[j].toNat:Int))) (decide ((b[j].toNat:Int)<(a[i].toNat:Int)))=uQ (a[i].toNat) (b[j].toNat):=rfl;rw[this,arK (by simpa using e3)];exact⟨rfl,_,rfl⟩
   ·have eb:b.drop j=[]:=by simp;omega
    rw[eb,arF (by simp),arF (by simp;omega),Dq,tO];refine⟨?_,_,rfl⟩;unfold uQ;congr 2<;>simp<;>omega
  ·have ea:a.drop i=[]:=by simp;omega
   rw[ea,arF (by simp),arF (by simp;omega),Dq,tO];refine⟨?_,_,rfl⟩;unfold uQ;congr 2<;>simp<;>omega
theorem UC{a b:Str}(ha:a.length<4611686018427387904)(hb:b.length<4611686018427387904):∃c,iR a b=some c∧qE a b=some c:=by
 obtain⟨h1,c,h2⟩:=KD ha hb BIG BIG 0 0 (by omega) (by omega) (by have:=gX;omega) (by have:=gX;omega);refine⟨c,?_,by simpa[qE]using h2⟩;rw[←h2];simpa[iR]using h1
end Go.Ft
namespace Go.Ft
open Go
theorem Xh:∀l,sK l l=0
 | []=>rfl
 | a::l=>by simp[sK,Xh l]
theorem Xg:∀ {l m:List Nat},sK l m=0→l=m
 | [],[],_=>rfl
 | [],_::_,h=>by simp[sK]at h
 | _::_,[],h=>by simp[sK]at h
 | a::l,b::m,h=>by
  simp only[sK]at h;by_cases h1:a<b
  ·simp[h1]at h
  ·by_cases h2:b<a
   ·simp[h1,h2]at h
   ·simp only[h1,h2,arN]at h;rw[Xg h,show a=b from by omega]
theorem aaw:∀l m:List Nat,sK m l=- sK l m
 | [],[]=>rfl
 | [],_::_=>rfl
 | _::_,[]=>rfl
 | a::l,b::m=>by
  simp only[sK];by_cases h1:a<b
  ·simp[h1,show ¬b<a by omega]
  ·by_cases h2:b<a
   ·simp[h1,h2]
   ·simp only[h1,h2,arN];exact aaw l m
theorem Ub:∀l m:List Nat,sK l m=-1∨sK l m=0∨sK l m=1
 | [],[]=>.inr (.inl rfl)
 | [],_::_=>.inl rfl
 | _::_,[]=>.inr (.inr rfl)
 | a::l,b::m=>by
  simp only[sK];by_cases h1:a<b
  ·simp[h1]
  ·by_cases h2:b<a
   ·simp[h1,h2]
   ·simp only[h1,h2,arN];exact Ub l m
theorem Ua:∀ {a b c:List Nat},sK a b<0→sK b c<0→sK a c<0
 | [],[],c,h,_=>by simp[sK]at h
 | [],_::_,[],_,h=>by simp[sK]at h
 | [],_::_,_::_,_,_=>by simp[sK]
 | _::_,[],c,h,_=>by simp[sK]at h
 | _::_,_::_,[],_,h=>by simp[sK]at h
 | x::a,y::b,z::c,h,k=>by
  simp only[sK]at h k⊢;by_cases h1:x<y
  ·by_cases k1:y<z
   ·simp[show x<z by omega]
   ·by_cases k2:z<y
    ·simp[k1,k2]at k
    ·simp[show x<z by omega]
  ·by_cases h2:y<x
   ·simp[h1,h2]at h
   ·simp only[h1,h2,arN]at h;by_cases k1:y<z
    ·simp[show x<z by omega]
    ·by_cases k2:z<y
     ·simp[k1,k2]at k
     ·simp only[k1,k2,arN]at k;simp only[show ¬x<z by omega,show ¬z<x by omega,arN];exact Ua h k
theorem Uc:∀(xs ys:Str) (u v:List Nat),xs.length=ys.length→sK (xs.map UInt8.toNat++u) (ys.map UInt8.toNat++v)=if xs=ys then sK u v else LH xs ys
 | [],[],u,v,_=>by simp
 | [],_::_,_,_,h=>by simp at h
 | _::_,[],_,_,h=>by simp at h
 | x::xs,y::ys,u,v,h=>by
  simp only[asy,atu,sK];have ih:=Uc xs ys u v (by simpa using h);have e1:(x<y)=(x.toNat<y.toNat):=by rw[UInt8.lt_iff_toNat_lt]
  have e2:(y<x)=(y.toNat<x.toNat):=by rw[UInt8.lt_iff_toNat_lt]
  by_cases h1:x.toNat<y.toNat
  ·have:x≠y:=fun e=>by subst e;omega
   simp[h1,this,LH,zk,Go.Op.bytesLess,e1]
  ·by_cases h2:y.toNat<x.toNat
   ·have:x≠y:=fun e=>by subst e;omega
    simp[h1,h2,this,LH,zk,Go.Op.bytesLess,e1]
   ·have:x=y:=as0.1 (by omega);subst this;simp only[h1,arN,ih,as8,true_and];by_cases h3:xs=ys
    ·simp[h3]
    ·simp only[h3,arN,LH,Go.Op.bytesLess,e1,h1,ath,asT,atd,as6];congr 1;simp
theorem KY(s:Str):(s.take (jM dF s)).length=jM dF s:=by
 have:=BX dF s;simp;omega
theorem JH{c:UInt8}{s:Str}(h:dF c=true):0<jM dF (c::s):=by rw[Ay,arK h];omega
theorem P5:∀(k m:Nat) (s:Str),s.length≤k→s.length≤m→Uf k s=Uf m s
 | 0,0,_,_,_=>rfl
 | 0,m+1,s,h,_=>by
  have:s=[]:=as5 (by omega);subst this;rfl
 | k+1,0,s,_,h=>by
  have:s=[]:=as5 (by omega);subst this;rfl
 | k+1,m+1,[],_,_=>rfl
 | k+1,m+1,c::s,h1,h2=>by
  simp only[Uf];simp only[ase]at h1 h2;cases e:dF c with
  | true=>
   have:=JH (s:=s) e;have:=BX dF (c::s);simp only[arO];rw[P5 k m _ (by simp;omega) (by simp;omega)]
  | false=>
   simp only[arG,arN];rw[P5 k m s (by omega) (by omega)]
theorem aaD{k:Nat}{s:Str}(h:s.length≤k):Uf k s=key s:=P5 _ _ _ h (asx _)
theorem Iu:key []=[]:=rfl
theorem xO{c:UInt8}{s:Str}(h:dF c=true):key (c::s)=48::(dz ((c::s).take (jM dF (c::s)))).length::((dz ((c::s).take (jM dF (c::s)))).map UInt8.toNat++jM dF (c::s)::key ((c::s).drop (jM dF (c::s)))):=by
 have:=JH (s:=s) h;have:=BX dF (c::s);show Uf (s.length+1) (c::s)=_;simp only[Uf,h,arO];rw[aaD (by simp;omega)]
theorem nI{c:UInt8}{s:Str}(h:dF c=false):key (c::s)=c.toNat::key s:=by
 show Uf (s.length+1) (c::s)=_;simp only[Uf,h,arG,arN];rw[aaD (asx _)]
theorem ajj(a b:Str)(u v:List Nat):sK ((dz a).length::((dz a).map UInt8.toNat++a.length::u)) ((dz b).length::((dz b).map UInt8.toNat++b.length::v))=if UE a b=0 then sK u v else UE a b:=by
 unfold UE;simp only[sK];by_cases h1:(dz a).length=(dz b).length
 ·rw[arF (by omega),arF (by omega),Uc _ _ _ _ h1];have e:(((dz a).length:Int) !=((dz b).length:Int))=false:=by simp[h1]
  simp only[e,arG,arN];by_cases h2:dz a=dz b
  ·simp only[h2,arO,atd,asC,arG,arN,sK,uQ,zk];by_cases h3:a.length<b.length
   ·simp[h3]
   ·by_cases h4:b.length<a.length
    ·simp[h3,h4]
    ·simp[h3,h4]
  ·have h3:=aeA h2;simp[h2,h3]
 ·have e:(((dz a).length:Int) !=((dz b).length:Int))=true:=by simp;omega
  simp only[e,arO];by_cases h2:(dz a).length<(dz b).length
  ·simp[h2,uQ,zk]
  ·have h3:(dz b).length<(dz a).length:=by omega
   simp[h2,h3,uQ,zk]
theorem wJ{c:UInt8}:dF c=(decide (48≤c.toNat)&&decide (c.toNat≤57)):=by
 unfold dF;congr 1
 ·apply decide_eq_decide.2;omega
 ·apply decide_eq_decide.2;omega
theorem J7:∀(n k:Nat) (a b:Str),a.length≤n→a.length<k→a.length<4611686018427387904→b.length<4611686018427387904→j5 k a b=some (gF a b)
 | _,0,_,_,_,h,_,_=>by omega
 | n,k+1,a,b,hn,hk,ha,hb=>by
  rw[j5]
  match a,b with
  | [],[]=>
   rw[arF (by simp),tO];simp[gF,Iu,sK,uQ,zk]
  | [],y::b=>
   rw[arF (by simp),tO]
   have:key (y::b)≠[]:=by
    cases e:dF y with
    | true=>rw[xO e];simp
    | false=>rw[nI e];simp
   cases e:key (y::b)with
   | nil=>exact absurd e this
   | cons p q=>
    simp only[gF,Iu,e,sK,uQ,zk];rw[arK (by simp)]
  | x::a,[]=>
   rw[arF (by simp),tO]
   have:key (x::a)≠[]:=by
    cases e:dF x with
    | true=>rw[xO e];simp
    | false=>rw[nI e];simp
   cases e:key (x::a)with
   | nil=>exact absurd e this
   | cons p q=>
    simp only[gF,Iu,e,sK,uQ,zk];rw[arF (by simp;omega),arK (by simp)]
  | x::a,y::b=>
   have sa:=BX dF (x::a);have sb:=BX dF (y::b);have i0:idx (x::a) 0=some x:=rfl;have j0:idx (y::b) 0=some y:=rfl;rw[arK (by simp),Dz ha,Dz hb];simp only[aj];cases e1:dF x with
   | true=>
    have p1:=JH (s:=a) e1;cases e2:dF y with
    | true=>
     have p2:=JH (s:=b) e2;rw[arK (by simp;omega),Z0 sa,Z0 sb];simp only[aj];rw[TL (by simp;omega) (by simp;omega)];simp only[aj];have hc:=ajj ((x::a).take (jM dF (x::a))) ((y::b).take (jM dF (y::b))) (key ((x::a).drop (jM dF (x::a)))) (key ((y::b).drop (jM dF (y::b))));rw[KY,KY]at hc
     have e3:gF (x::a) (y::b)=if UE ((x::a).take (jM dF (x::a))) ((y::b).take (jM dF (y::b)))=0 then sK (key ((x::a).drop (jM dF (x::a)))) (key ((y::b).drop (jM dF (y::b))))else UE ((x::a).take (jM dF (x::a))) ((y::b).take (jM dF (y::b))):=by
      rw[←hc,gF,xO e1,xO e2,sK,arF (by omega),arF (by omega)]
     rw[e3];by_cases h0:UE ((x::a).take (jM dF (x::a))) ((y::b).take (jM dF (y::b)))=0
     ·rw[arF (by simpa using h0),arK h0,sZ sa,sZ sb];simp only[aj]
      match n,hn with
      | n+1,hn=>
       exact J7 n k _ _ (by simp at hn⊢;omega) (by simp at hk⊢;omega) (by simp at ha⊢;omega) (by simp at hb⊢;omega)
     ·rw[arK (by simpa using h0),arF h0]
    | false=>
     have q2:jM dF (y::b)=0:=by rw[Ay,e2];rfl
     rw[arF (by simp[q2]),i0,j0];simp only[aj,KE];have d1:=wJ (c:=x);rw[e1]at d1;have d2:=wJ (c:=y);rw[e2]at d2;simp only[arV,Bool.false_eq,atm,asI,Bool.true_eq,arP]at d1 d2;rw[arK (by simp;omega)];rw[gF,xO e1,nI e2,sK,uQ,zk];by_cases h1:x.toNat<y.toNat
     ·rw[arK (by simp;omega),arK (by omega)]
     ·rw[arF (by simp;omega),arK (by simp;omega),arF (by omega),arK (by omega)]
   | false=>
    have q1:jM dF (x::a)=0:=by rw[Ay,e1];rfl
    rw[arF (by simp[q1]),i0,j0];simp only[aj,KE];by_cases h0:x=y
    ·subst h0;rw[arF (by simp)];have s1:=sZ (s:=x::a) (i:=1) (by simp);have s2:=sZ (s:=x::b) (i:=1) (by simp);rw[show ((1:Nat):Int)=1 from rfl]at s1 s2;rw[s1,s2];simp only[aj,atr,atl];rw[gF,nI e1,nI e1,sK,arF (by omega),arF (by omega)]
     match n,hn with
     | n+1,hn=>exact J7 n k a b (by simp at hn;omega) (by simp at hk;omega) (by simp at ha;omega) (by simp at hb;omega)
    ·have h1:x.toNat≠y.toNat:=fun h=>h0 (as0.1 h);rw[arK (by simp;omega)];have d1:=wJ (c:=x);rw[e1]at d1;simp only[Bool.false_eq,atm,asI]at d1;cases e2:dF y with
     | true=>
      have d2:=wJ (c:=y);rw[e2]at d2;simp only[arV,Bool.true_eq,arP]at d2;rw[gF,nI e1,xO e2,sK,uQ,zk];by_cases h1:x.toNat<y.toNat
      ·rw[arK (by simp;omega),arK (by omega)]
      ·rw[arF (by simp;omega),arK (by simp;omega),arF (by omega),arK (by omega)]
     | false=>
      rw[gF,nI e1,nI e2,sK,uQ,zk];by_cases h2:x.toNat<y.toNat
      ·rw[arK (by simp;omega),arK (by omega)]
      ·rw[arF (by simp;omega),arK (by simp;omega),arF (by omega),arK (by omega)]
theorem K_{a b:Str}(ha:a.length<4611686018427387904)(hb:b.length<4611686018427387904):iR a b=some (gF a b):=
 J7 _ BIG a b (asx _) (by have:=gX;omega) ha hb
theorem TP{a b:Str}(ha:a.length<4611686018427387904)(hb:b.length<4611686018427387904):qE a b=some (gF a b):=by
 obtain⟨c,h1,h2⟩:=UC ha hb;rw[K_ ha hb]at h1;rw[h2,←h1]
theorem YU:∀(r:Str),r=List.replicate (r.length-(dz r).length) (48:UInt8)++dz r
 | []=>rfl
 | c::r=>by
  unfold dz;rw[aub];by_cases h:c=48
  ·subst h;have ih:=YU r;have hl:=aqQ r;simp only[show (((48:UInt8).toNat:Int)==48)=true from rfl,arO];change _=List.replicate ((48::r).length-(dz r).length) (48:UInt8)++dz r;rw[show (48::r).length-(dz r).length=(r.length-(dz r).length)+1 by simp;omega,List.replicate_succ,atu,←ih]
  ·have:((c.toNat:Int)==48)=false:=by
    simp only[asr,atD];intro h2;exact h (as0.1 (by show c.toNat=48;omega))
   simp[this]
theorem key_inj:∀(n:Nat) (a b:Str),a.length≤n→key a=key b→a=b
 | _,[],[],_,_=>rfl
 | _,[],y::b,_,h=>by
  cases e:dF y with
  | true=>rw[xO e,Iu]at h;cases h
  | false=>rw[nI e,Iu]at h;cases h
 | _,x::a,[],_,h=>by
  cases e:dF x with
  | true=>rw[xO e,Iu]at h;cases h
  | false=>rw[nI e,Iu]at h;cases h
 | 0,x::a,y::b,h,_=>by simp at h
 | n+1,x::a,y::b,hn,h=>by
  cases e1:dF x with
  | true=>
   cases e2:dF y with
   | true=>
    have p1:=JH (s:=a) e1;have sa:=BX dF (x::a);rw[xO e1,xO e2]at h;simp only[as8,true_and]at h;obtain⟨h1,h2⟩:=h;obtain⟨h3,h4⟩:=List.append_inj h2 (by simpa using h1);simp only[as8]at h4
    have h5:dz ((x::a).take (jM dF (x::a)))=dz ((y::b).take (jM dF (y::b))):=by
     refine List.map_inj_right (f:=UInt8.toNat) (fun p q hpq=>as0.1 hpq) |>.1 h3
    have h6:(x::a).take (jM dF (x::a))=(y::b).take (jM dF (y::b)):=by
     rw[YU ((x::a).take (jM dF (x::a))),YU ((y::b).take (jM dF (y::b))),h5,KY,KY,h4.1]
    have h7:=key_inj n _ _ (by simp at hn⊢;omega) h4.2;rw[←List.take_append_drop (jM dF (x::a)) (x::a),h6,h7,List.take_append_drop]
   | false=>
    rw[xO e1,nI e2]at h;simp only[as8]at h;have d2:=wJ (c:=y);rw[e2,←h.1]at d2;simp at d2
  | false=>
   cases e2:dF y with
   | true=>
    rw[nI e1,xO e2]at h;simp only[as8]at h;have d2:=wJ (c:=x);rw[e1,h.1]at d2;simp at d2
   | false=>
    rw[nI e1,nI e2]at h;simp only[as8]at h;rw[as0.1 h.1,key_inj n a b (by simp at hn;omega) h.2]
theorem Q8(a:Str):gF a a=0:=Xh _
theorem Ch{a b:Str}(h:gF a b=0):a=b:=key_inj _ a b (asx _) (Xg h)
theorem yA(a b:Str):gF b a=- gF a b:=aaw _ _
theorem Im{a b c:Str}(h:gF a b<0)(k:gF b c<0):gF a c<0:=Ua h k
theorem Gi{a b c:Str}(h:¬gF a b<0)(k:¬gF b c<0):¬gF a c<0:=by
 intro hc;by_cases h0:gF a b=0
 ·rw[Ch h0]at hc;exact k hc
 ·by_cases k0:gF b c=0
  ·rw[←Ch k0]at hc;exact h hc
  ·have h1:gF b a<0:=by rw[yA];omega
   have k1:gF c b<0:=by rw[yA];omega
   have:=Im k1 h1;rw[yA]at this;omega
end Go.Ft
