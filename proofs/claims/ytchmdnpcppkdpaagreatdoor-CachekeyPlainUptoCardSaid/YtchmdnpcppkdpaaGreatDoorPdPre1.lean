/- Proved here: plain facts on the functional texts that the walks want. -/
import Derived.Test.YtchmdnpcppkdpaaGreatDoorPdFt1
import Derived.Test.YtchmdnpcppkdpaaGreatDoorPdPool1
set_option linter.unusedVariables false
set_option linter.unusedSimpArgs false
set_option linter.defProp false
set_option linter.unusedSectionVars false
set_option maxHeartbeats 2000000
namespace Go.Ft
open Go
attribute [local congr] fD
theorem qN{n:Int}(h:-9223372036854775808≤n∧n<9223372036854775808):bq n=n:=Uy (by omega) (by omega)
theorem iG{i:Nat}(h:i<4611686018427387904):bq ((i:Int)+1)=((i+1:Nat):Int):=by rw[qN (by omega)];omega
theorem gK{α:Type}{l:List α}{i:Nat}(h:i<l.length):idx l (i:Int)=some (l[i]):=by rw[aaO,an6 h]
theorem dX:9223372036854775808<BIG:=by decide
def eX{α S R:Type}(body:Nat→α→S→(S→Option R)→Option R)(fin:S→Option R):Nat→List α→S→Option R
 | _,[],s=>fin s
 | i,x::r,s=>body i x s fun s'=>eX body fin (i+1) r s'
theorem WO{α S R:Type}{F:Nat→S→Int→Option R}{l:List α}{body:Nat→α→S→(S→Option R)→Option R}{fin:S→Option R}(hl:l.length<4611686018427387904)
  (hF:∀k s (i:Nat),F (k+1) s i=if decide ((i:Int)<(l.length:Int))then av (idx l i) fun x=>body i x s fun s'=>F k s' (bq ((i:Int)+1))else fin s):
  ∀(k i:Nat) (s:S),l.length<k+i→i≤l.length→F k s (i:Int)=eX body fin i (l.drop i) s
 | 0,i,s,h,h'=>by omega
 | k+1,i,s,h,h'=>by
  rw[hF];by_cases hi:i<l.length
  ·rw[an0 hi,anN (by simp;omega),gK hi,aj,eX];congr 1;funext s';rw[iG (by omega)];exact WO hl hF k (i+1) s' (by omega) (by omega)
  ·have:i=l.length:=by omega
   subst this;rw[anG (by simp),List.drop_length,eX]
theorem fu{α S R:Type}{F:Nat→S→Int→Option R}{l:List α}{body:Nat→α→S→(S→Option R)→Option R}{fin:S→Option R}(hl:l.length<4611686018427387904)
  (hF:∀k s (i:Nat),F (k+1) s i=if decide ((i:Int)<(l.length:Int))then av (idx l i) fun x=>body i x s fun s'=>F k s' (bq ((i:Int)+1))else fin s) (s:S):F BIG s 0=eX body fin 0 l s:=by
 have:=WO hl hF BIG 0 s (by have:=dX;omega) (by omega);simpa using this
def isLet(c:UInt8):Bool:=(((decide (97≤(c.toNat:Int)))&&(decide ((c.toNat:Int)≤122)))||((decide (65≤(c.toNat:Int)))&&(decide ((c.toNat:Int)≤90))))||((c.toNat:Int)==95)
@[simp] theorem alW(c:UInt8):vK c=some (isLet c):=rfl
@[simp] theorem aaE(c:UInt8):mV c=some (dh c):=rfl
@[simp] theorem alu(c:UInt8):EM c=some (isLet c):=rfl
@[simp] theorem ahe(c:UInt8):rD c=some (dh c):=rfl
@[simp] theorem am3(c:UInt8):Dk c=some (dh c):=rfl
@[simp] theorem aec(c:UInt8):Ip c=some (dh c):=rfl
theorem yN(p:UInt8→Bool)(c:UInt8)(l:Str):iY p (c::l)=if p c then iY p l+1 else 0:=by
 unfold iY;rw[List.takeWhile_cons];split<;>simp
theorem zS(p:UInt8→Bool)(l:Str):iY p l≤l.length:=by
 induction l with
 | nil=>simp[iY]
 | cons c l ih=>rw[yN];split<;>simp<;>omega
theorem UN{F:Nat→Int→Option Int}{s:Str}(hs:s.length<4611686018427387904)
  (hF:∀k (i:Nat),F (k+1) i=av (if decide ((i:Int)<(s.length:Int))then av (idx s i) fun x1=>some (dh x1)else some false) fun b1=>if b1 then F k (bq ((i:Int)+1))else some (i:Int)):
  ∀(k i:Nat),s.length<k+i→i≤s.length→F k (i:Int)=some ((i+iY dh (s.drop i):Nat):Int)
 | 0,i,h,h'=>by omega
 | k+1,i,h,h'=>by
  rw[hF];by_cases hi:i<s.length
  ·rw[an0 hi,yN,anN (by simp;omega),gK hi];simp only[aj];cases e:dh s[i]with
   | false=>simp
   | true=>
    simp only[anX];rw[iG (by omega),UN hs hF k (i+1) (by omega) (by omega)];simp only[aoq,apu];omega
  ·have:i=s.length:=by omega
   subst this;simp[iY]
theorem Bo{s:Str}(hs:s.length<4611686018427387904):BL s=some (iY dh s:Int):=by
 have:=UN (F:=xY s) hs (fun k i=>rfl) BIG 0 (by have:=dX;omega) (by omega);simpa[BL]using this
theorem PU{s:Str}(hs:s.length<4611686018427387904){i:Nat}(hi:i≤s.length):U0 s (i:Int)=some ((i+iY dh (s.drop i):Nat):Int):=
 UN (F:=JJ s) hs (fun k i=>rfl) BIG i (by have:=dX;omega) hi
theorem kS{s:Str}{i:Nat}(h:i≤s.length):sl s (i:Int) (s.length:Int)=some (s.drop i):=by
 rw[bG (by omega) (by omega) (by omega)];simp
theorem Pn{s:Str}{i:Nat}(h:i≤s.length):sl s 0 (i:Int)=some (s.take i):=by
 rw[bG (by omega) (by omega) (by omega)];simp
theorem trimB(s:Str):∀(k:Nat),s.length<k→s.length<4611686018427387904→iq 48 k s=some (dz s):=by
 induction s with
 | nil=>intro k h _;cases k with
  | zero=>simp at h
  | succ k=>simp[iq,dz]
 | cons c s ih=>
  intro k h hs;cases k with
  | zero=>simp at h
  | succ k=>
   simp only[an5]at h hs;rw[iq,anN (by simp)];have e0:idx (c::s) 0=some c:=by simp[idx]
   rw[e0];simp only[aj];have e1:((48:UInt8).toNat:Int)=48:=rfl;rw[e1];unfold dz;rw[apI];cases e:((c.toNat:Int)==48)with
   | false=>simp
   | true=>
    simp only[anX];have e2:=kS (s:=c::s) (i:=1) (by simp);simp only[List.drop_one,List.tail_cons]at e2;rw[show ((1:Nat):Int)=1 from rfl]at e2;rw[e2];simp only[aj];exact ih k (by omega) (by omega)
theorem aao{s:Str}(hs:s.length<4611686018427387904):nL s ([48]:Str)=some (dz s):=by
 unfold nL;cases s with
 | nil=>simp[dz]
 | cons c s=>
  rw[anG (by simp),anN (by simp)];have e0:idx ([48]:Str) 0=some 48:=rfl;rw[e0];simp only[aj];rw[anN (by decide)];exact trimB _ BIG (by have:=dX;omega) hs
theorem Te{s:Str}(hs:s.length<4611686018427387904):∀(k i:Nat),s.length<k+i→i≤s.length→Ba s k (i:Int)=some (dz (s.drop i))
 | 0,i,h,h'=>by omega
 | k+1,i,h,h'=>by
  rw[Ba];by_cases hi:i<s.length
  ·rw[an0 hi,anN (by simp;omega),gK hi];simp only[aj];unfold dz;rw[apI];cases e:((s[i].toNat:Int)==48)with
   | false=>
    simp only[anL,anW];rw[kS (by omega),an0 hi]
   | true=>
    simp only[anX];rw[iG (by omega)];exact Te hs k (i+1) (by omega) (by omega)
  ·have:i=s.length:=by omega
   subst this;rw[anG (by simp)];simp only[aj,anL,anW];rw[kS (by omega)];simp[dz]
theorem WI{s:Str}(hs:s.length<4611686018427387904):Io s=some (dz s):=by
 have:=Te hs BIG 0 (by have:=dX;omega) (by omega);simpa[Io]using this
def w_(p q:Bool):Int:=if p then -1 else if q then 1 else 0
def sI(x y:Int):Int:=w_ (decide (x<y)) (decide (y<x))
def I4(x y:Str):Int:=w_ (Go.Op.bytesLess x y) (!(Go.Op.bytesLess x y||x==y))
theorem Bb(p q:Bool):yS p q=some (w_ p q):=by
 unfold yS w_;cases p<;>cases q<;>rfl
theorem qM(x y:Int):cmp_Compare_int x y=some (sI x y):=by
 unfold cmp_Compare_int sI w_ cmp_isNaN_int;by_cases h1:x<y<;>by_cases h2:y<x<;>simp[h1,h2]
theorem Hz(x y:UInt8):qy x y=some (sI x.toNat y.toNat):=by
 unfold qy sI w_ ug;by_cases h1:(x.toNat:Int)<y.toNat<;>by_cases h2:(y.toNat:Int)<x.toNat<;>simp[h1,h2]
theorem QU(x y:Str):lH x y=some (I4 x y):=by
 unfold lH I4 w_ cmp_isNaN_string;cases h1:Go.Op.bytesLess x y<;>cases h2:(x==y)<;>simp
theorem zn:∀x:Str,Go.Op.bytesLess x x=false
 | []=>rfl
 | c::x=>by
  unfold Go.Op.bytesLess;have:=zn x;simp[this]
theorem acJ(a b c:Int):CG ([a,b,c]:List Int)=some (if a !=0 then a else if b !=0 then b else c):=by
 have:=fu (F:=fun k (_:Unit) i=>vS [a,b,c] k i) (l:=[a,b,c]) (body:=fun _ ady _ r=>if ady !=0 then some ady else r ()) (fin:=fun _=>some 0) (by simp)
  (fun k s i=>rfl) ()
 unfold CG;rw[this];simp only[eX];by_cases h1:a=0<;>by_cases h2:b=0<;>by_cases h3:c=0<;>simp[h1,h2,h3]
def QV(a b:Str):Int:=
 if ((dz a).length:Int) !=((dz b).length:Int)then sI (dz a).length (dz b).length else if !(dz a==dz b)then I4 (dz a) (dz b)else sI a.length b.length
theorem amE(s:Str):(dz s).length≤s.length:=(List.dropWhile_sublist _).length_le
theorem Em{x y:Int}:sI x y=0↔x=y:=by
 unfold sI w_;by_cases h1:x<y<;>by_cases h2:y<x<;>simp[h1,h2]<;>omega
theorem aa9{x y:Str}(h:x≠y):I4 x y≠0:=by
 unfold I4 w_;cases h1:Go.Op.bytesLess x y<;>simp[h]
theorem acK(x:Str):I4 x x=0:=by
 unfold I4 w_;simp[zn]
theorem P_{a b:Str}(ha:a.length<4611686018427387904)(hb:b.length<4611686018427387904):vO a b=some (QV a b):=by
 unfold vO QV;rw[aao ha,aao hb];simp only[aj,qM,QU,acJ,aoq];by_cases h1:((dz a).length:Int)=((dz b).length:Int)
 ·have e1:sI (dz a).length (dz b).length=0:=Em.2 h1;rw[e1];by_cases h2:dz a=dz b
  ·rw[h2,acK];simp
  ·have:=aa9 h2;simp[h1,h2,this]
 ·have e1:sI (dz a).length (dz b).length≠0:=fun h=>h1 (Em.1 h);rw[anN (by simpa using e1),anN (by simpa using h1)]
theorem ag7{a b:Str}(ha:a.length<4611686018427387904)(hb:b.length<4611686018427387904):PS a b=some (QV a b):=by
 unfold PS QV;rw[WI ha,WI hb];simp only[aj,Bb];by_cases h1:((dz a).length:Int)=((dz b).length:Int)
 ·by_cases h2:dz a=dz b
  ·simp[h2,sI]
  ·simp[h1,h2,I4]
 ·simp[h1,sI]
theorem Ti{s:Str}(h:s≠[]):0<iY dh s↔dh (s.head h)=true:=by
 cases s with
 | nil=>exact absurd rfl h
 | cons c s=>rw[yN];cases e:dh c<;>simp[e]
theorem Hw{a b:Str}(ha:a.length<4611686018427387904)(hb:b.length<4611686018427387904):∀(k k' i j:Nat),i≤a.length→j≤b.length→a.length<k+i→a.length<k'+i→
  jA k (a.drop i) (b.drop j)=p8 a b k' (i:Int) (j:Int)∧∃c,p8 a b k' (i:Int) (j:Int)=some c
 | 0,k',i,j,_,_,h,_=>by omega
 | k+1,0,i,j,_,_,_,h=>by omega
 | k+1,k'+1,i,j,hi,hj,hk,hk'=>by
  rw[jA,p8];by_cases h1:i<a.length
  ·by_cases h2:j<b.length
   ·have ea:=an0 h1;have eb:=an0 h2;have na:a.drop i≠[]:=fun h=>by simp at h;omega
    have nb:b.drop j≠[]:=fun h=>by simp at h;omega
    have la:(a.drop i).length=a.length-i:=by simp
    have lb:(b.drop j).length=b.length-j:=by simp
    have sa:=zS dh (a.drop i);have sb:=zS dh (b.drop j);have pa:=Ti na;have pb:=Ti nb;have ams:(a.drop i).head na=a[i]:=by simp
    have amr:(b.drop j).head nb=b[j]:=by simp
    rw[ams]at pa;rw[amr]at pb;rw[anN (by simp[h1,h2]),anN (by simp;omega),Bo (by omega),Bo (by omega),gK h1,gK h2];simp only[aj,Bb,aec];have i0:idx (a.drop i) 0=some a[i]:=by rw[ea];rfl
    have j0:idx (b.drop j) 0=some b[j]:=by rw[eb];rfl
    have hone:(if dh a[i]=true then some (dh b[j])else some false)=some (dh a[i]&&dh b[j]):=by cases dh a[i]<;>simp
    rw[hone];simp only[aj];cases hd:(dh a[i]&&dh b[j])with
    | true=>
     simp only[an_]at hd;have q1:=pa.2 hd.1;have q2:=pb.2 hd.2;rw[anN (by simp;omega)];simp only[anX];rw[PU ha (by omega),PU hb (by omega),Pn sa,Pn sb];simp only[aj]
     have e1:sl a (i:Int) ((i+iY dh (a.drop i):Nat):Int)=some ((a.drop i).take (iY dh (a.drop i))):=by
      rw[bG (by omega) (by omega) (by omega)];simp only[an1,aoq];rw[apj,apB]
     have e2:sl b (j:Int) ((j+iY dh (b.drop j):Nat):Int)=some ((b.drop j).take (iY dh (b.drop j))):=by
      rw[bG (by omega) (by omega) (by omega)];simp only[an1,aoq];rw[apj,apB]
     rw[e1,e2];simp only[aj];rw[P_ (by simp;omega) (by simp;omega),ag7 (by simp;omega) (by simp;omega)];simp only[aj];by_cases hc:QV ((a.drop i).take (iY dh (a.drop i))) ((b.drop j).take (iY dh (b.drop j)))=0
     ·rw[anG (by simp[hc]),anG (by simp[hc]),kS sa,kS sb];simp only[aj,ao1];exact Hw ha hb k k' _ _ (by omega) (by omega) (by omega) (by omega)
     ·rw[anN (by simpa using hc),anN (by simpa using hc)];exact⟨rfl,_,rfl⟩
    | false=>
     rw[anG (by
      simp only[an_,anZ,not_and];intro h3 h4;have:=pa.1 (by omega);have:=pb.1 (by omega)
      simp_all)]
     simp only[anL,anW];rw[i0,j0];simp only[aj,Hz];by_cases hc:(a[i].toNat:Int)=(b[j].toNat:Int)
     ·rw[anG (by simpa using hc)];have:w_ (decide ((a[i].toNat:Int)<(b[j].toNat:Int))) (decide ((b[j].toNat:Int)<(a[i].toNat:Int)))=0:=by simp[w_,hc]
      rw[this,anG (by simp),iG (by omega),iG (by omega)];have s1:=kS (s:=a.drop i) (i:=1) (by omega);have s2:=kS (s:=b.drop j) (i:=1) (by omega);rw[show ((1:Nat):Int)=1 from rfl]at s1 s2;rw[s1,s2];simp only[aj,ao1];exact Hw ha hb k k' _ _ (by omega) (by omega) (by omega) (by omega)
     ·rw[anN (by simpa using hc)];have e3:sI (a[i].toNat) (b[j].toNat)≠0:=fun h=>hc (Em.1 h);have:w_ (decide ((a[i].toNat:Int)<(b[j].toNat:Int))) (decide ((b[j].toNat:Int)<(a[i].toNat:Int)))=sI (a[i].toNat) (b[j].toNat):=rfl;rw[this,anN (by simpa using e3)];exact⟨rfl,_,rfl⟩
   ·have eb:b.drop j=[]:=by simp;omega
    rw[eb,anG (by simp),anG (by simp;omega),Bb,qM];refine⟨?_,_,rfl⟩;unfold sI;congr 2<;>simp<;>omega
  ·have ea:a.drop i=[]:=by simp;omega
   rw[ea,anG (by simp),anG (by simp;omega),Bb,qM];refine⟨?_,_,rfl⟩;unfold sI;congr 2<;>simp<;>omega
theorem QT{a b:Str}(ha:a.length<4611686018427387904)(hb:b.length<4611686018427387904):∃c,iC a b=some c∧sW a b=some c:=by
 obtain⟨h1,c,h2⟩:=Hw ha hb BIG BIG 0 0 (by omega) (by omega) (by have:=dX;omega) (by have:=dX;omega);refine⟨c,?_,by simpa[sW]using h2⟩;rw[←h2];simpa[iC]using h1
end Go.Ft
namespace Go.Ft
open Go
theorem TT:∀l,qz l l=0
 | []=>rfl
 | a::l=>by simp[qz,TT l]
theorem TS:∀ {l m:List Nat},qz l m=0→l=m
 | [],[],_=>rfl
 | [],_::_,h=>by simp[qz]at h
 | _::_,[],h=>by simp[qz]at h
 | a::l,b::m,h=>by
  simp only[qz]at h;by_cases h1:a<b
  ·simp[h1]at h
  ·by_cases h2:b<a
   ·simp[h1,h2]at h
   ·simp only[h1,h2,anW]at h;rw[TS h,show a=b from by omega]
theorem Xr:∀l m:List Nat,qz m l=- qz l m
 | [],[]=>rfl
 | [],_::_=>rfl
 | _::_,[]=>rfl
 | a::l,b::m=>by
  simp only[qz];by_cases h1:a<b
  ·simp[h1,show ¬b<a by omega]
  ·by_cases h2:b<a
   ·simp[h1,h2]
   ·simp only[h1,h2,anW];exact Xr l m
theorem Qr:∀l m:List Nat,qz l m=-1∨qz l m=0∨qz l m=1
 | [],[]=>.inr (.inl rfl)
 | [],_::_=>.inl rfl
 | _::_,[]=>.inr (.inr rfl)
 | a::l,b::m=>by
  simp only[qz];by_cases h1:a<b
  ·simp[h1]
  ·by_cases h2:b<a
   ·simp[h1,h2]
   ·simp only[h1,h2,anW];exact Qr l m
theorem Qq:∀ {a b c:List Nat},qz a b<0→qz b c<0→qz a c<0
 | [],[],c,h,_=>by simp[qz]at h
 | [],_::_,[],_,h=>by simp[qz]at h
 | [],_::_,_::_,_,_=>by simp[qz]
 | _::_,[],c,h,_=>by simp[qz]at h
 | _::_,_::_,[],_,h=>by simp[qz]at h
 | x::a,y::b,z::c,h,k=>by
  simp only[qz]at h k⊢;by_cases h1:x<y
  ·by_cases k1:y<z
   ·simp[show x<z by omega]
   ·by_cases k2:z<y
    ·simp[k1,k2]at k
    ·simp[show x<z by omega]
  ·by_cases h2:y<x
   ·simp[h1,h2]at h
   ·simp only[h1,h2,anW]at h;by_cases k1:y<z
    ·simp[show x<z by omega]
    ·by_cases k2:z<y
     ·simp[k1,k2]at k
     ·simp only[k1,k2,anW]at k;simp only[show ¬x<z by omega,show ¬z<x by omega,anW];exact Qq h k
theorem Qs:∀(xs ys:Str) (u v:List Nat),xs.length=ys.length→qz (xs.map UInt8.toNat++u) (ys.map UInt8.toNat++v)=if xs=ys then qz u v else I4 xs ys
 | [],[],u,v,_=>by simp
 | [],_::_,_,_,h=>by simp at h
 | _::_,[],_,_,h=>by simp at h
 | x::xs,y::ys,u,v,h=>by
  simp only[aor,apc,qz];have ih:=Qs xs ys u v (by simpa using h);have e1:(x<y)=(x.toNat<y.toNat):=by rw[UInt8.lt_iff_toNat_lt]
  have e2:(y<x)=(y.toNat<x.toNat):=by rw[UInt8.lt_iff_toNat_lt]
  by_cases h1:x.toNat<y.toNat
  ·have:x≠y:=fun e=>by subst e;omega
   simp[h1,this,I4,w_,Go.Op.bytesLess,e1]
  ·by_cases h2:y.toNat<x.toNat
   ·have:x≠y:=fun e=>by subst e;omega
    simp[h1,h2,this,I4,w_,Go.Op.bytesLess,e1]
   ·have:x=y:=aoB.1 (by omega);subst this;simp only[h1,anW,ih,aoW,true_and];by_cases h3:xs=ys
    ·simp[h3]
    ·simp only[h3,anW,I4,Go.Op.bytesLess,e1,h1,aoO,ao2,ao0,aoU];congr 1;simp
theorem Ij(s:Str):(s.take (iY dh s)).length=iY dh s:=by
 have:=zS dh s;simp;omega
theorem Gc{c:UInt8}{s:Str}(h:dh c=true):0<iY dh (c::s):=by rw[yN,anN h];omega
theorem MI:∀(k m:Nat) (s:Str),s.length≤k→s.length≤m→Qv k s=Qv m s
 | 0,0,_,_,_=>rfl
 | 0,m+1,s,h,_=>by
  have:s=[]:=aoL (by omega);subst this;rfl
 | k+1,0,s,_,h=>by
  have:s=[]:=aoL (by omega);subst this;rfl
 | k+1,m+1,[],_,_=>rfl
 | k+1,m+1,c::s,h1,h2=>by
  simp only[Qv];simp only[an5]at h1 h2;cases e:dh c with
  | true=>
   have:=Gc (s:=s) e;have:=zS dh (c::s);simp only[anX];rw[MI k m _ (by simp;omega) (by simp;omega)]
  | false=>
   simp only[anL,anW];rw[MI k m s (by omega) (by omega)]
theorem Xx{k:Nat}{s:Str}(h:s.length≤k):Qv k s=key s:=MI _ _ _ h (aod _)
theorem EW:key []=[]:=rfl
theorem vY{c:UInt8}{s:Str}(h:dh c=true):key (c::s)=48::(dz ((c::s).take (iY dh (c::s)))).length::((dz ((c::s).take (iY dh (c::s)))).map UInt8.toNat++iY dh (c::s)::key ((c::s).drop (iY dh (c::s)))):=by
 have:=Gc (s:=s) h;have:=zS dh (c::s);show Qv (s.length+1) (c::s)=_;simp only[Qv,h,anX];rw[Xx (by simp;omega)]
theorem l9{c:UInt8}{s:Str}(h:dh c=false):key (c::s)=c.toNat::key s:=by
 show Qv (s.length+1) (c::s)=_;simp only[Qv,h,anL,anW];rw[Xx (aod _)]
theorem afn(a b:Str)(u v:List Nat):qz ((dz a).length::((dz a).map UInt8.toNat++a.length::u)) ((dz b).length::((dz b).map UInt8.toNat++b.length::v))=if QV a b=0 then qz u v else QV a b:=by
 unfold QV;simp only[qz];by_cases h1:(dz a).length=(dz b).length
 ·rw[anG (by omega),anG (by omega),Qs _ _ _ _ h1];have e:(((dz a).length:Int) !=((dz b).length:Int))=false:=by simp[h1]
  simp only[e,anL,anW];by_cases h2:dz a=dz b
  ·simp only[h2,anX,ao0,aot,anL,anW,qz,sI,w_];by_cases h3:a.length<b.length
   ·simp[h3]
   ·by_cases h4:b.length<a.length
    ·simp[h3,h4]
    ·simp[h3,h4]
  ·have h3:=aa9 h2;simp[h2,h3]
 ·have e:(((dz a).length:Int) !=((dz b).length:Int))=true:=by simp;omega
  simp only[e,anX];by_cases h2:(dz a).length<(dz b).length
  ·simp[h2,sI,w_]
  ·have h3:(dz b).length<(dz a).length:=by omega
   simp[h2,h3,sI,w_]
theorem uY{c:UInt8}:dh c=(decide (48≤c.toNat)&&decide (c.toNat≤57)):=by
 unfold dh;congr 1
 ·apply decide_eq_decide.2;omega
 ·apply decide_eq_decide.2;omega
theorem GH:∀(n k:Nat) (a b:Str),a.length≤n→a.length<k→a.length<4611686018427387904→b.length<4611686018427387904→jA k a b=some (f_ a b)
 | _,0,_,_,_,h,_,_=>by omega
 | n,k+1,a,b,hn,hk,ha,hb=>by
  rw[jA]
  match a,b with
  | [],[]=>
   rw[anG (by simp),qM];simp[f_,EW,qz,sI,w_]
  | [],y::b=>
   rw[anG (by simp),qM]
   have:key (y::b)≠[]:=by
    cases e:dh y with
    | true=>rw[vY e];simp
    | false=>rw[l9 e];simp
   cases e:key (y::b)with
   | nil=>exact absurd e this
   | cons p q=>
    simp only[f_,EW,e,qz,sI,w_];rw[anN (by simp)]
  | x::a,[]=>
   rw[anG (by simp),qM]
   have:key (x::a)≠[]:=by
    cases e:dh x with
    | true=>rw[vY e];simp
    | false=>rw[l9 e];simp
   cases e:key (x::a)with
   | nil=>exact absurd e this
   | cons p q=>
    simp only[f_,EW,e,qz,sI,w_];rw[anG (by simp;omega),anN (by simp)]
  | x::a,y::b=>
   have sa:=zS dh (x::a);have sb:=zS dh (y::b);have i0:idx (x::a) 0=some x:=rfl;have j0:idx (y::b) 0=some y:=rfl;rw[anN (by simp),Bo ha,Bo hb];simp only[aj];cases e1:dh x with
   | true=>
    have p1:=Gc (s:=a) e1;cases e2:dh y with
    | true=>
     have p2:=Gc (s:=b) e2;rw[anN (by simp;omega),Pn sa,Pn sb];simp only[aj];rw[P_ (by simp;omega) (by simp;omega)];simp only[aj];have hc:=afn ((x::a).take (iY dh (x::a))) ((y::b).take (iY dh (y::b))) (key ((x::a).drop (iY dh (x::a)))) (key ((y::b).drop (iY dh (y::b))));rw[Ij,Ij]at hc
     have e3:f_ (x::a) (y::b)=if QV ((x::a).take (iY dh (x::a))) ((y::b).take (iY dh (y::b)))=0 then qz (key ((x::a).drop (iY dh (x::a)))) (key ((y::b).drop (iY dh (y::b))))else QV ((x::a).take (iY dh (x::a))) ((y::b).take (iY dh (y::b))):=by
      rw[←hc,f_,vY e1,vY e2,qz,anG (by omega),anG (by omega)]
     rw[e3];by_cases h0:QV ((x::a).take (iY dh (x::a))) ((y::b).take (iY dh (y::b)))=0
     ·rw[anG (by simpa using h0),anN h0,kS sa,kS sb];simp only[aj]
      match n,hn with
      | n+1,hn=>
       exact GH n k _ _ (by simp at hn⊢;omega) (by simp at hk⊢;omega) (by simp at ha⊢;omega) (by simp at hb⊢;omega)
     ·rw[anN (by simpa using h0),anG h0]
    | false=>
     have q2:iY dh (y::b)=0:=by rw[yN,e2];rfl
     rw[anG (by simp[q2]),i0,j0];simp only[aj,Hz];have d1:=uY (c:=x);rw[e1]at d1;have d2:=uY (c:=y);rw[e2]at d2;simp only[an_,Bool.false_eq,ao7,aoz,Bool.true_eq,anZ]at d1 d2;rw[anN (by simp;omega)];rw[f_,vY e1,l9 e2,qz,sI,w_];by_cases h1:x.toNat<y.toNat
     ·rw[anN (by simp;omega),anN (by omega)]
     ·rw[anG (by simp;omega),anN (by simp;omega),anG (by omega),anN (by omega)]
   | false=>
    have q1:iY dh (x::a)=0:=by rw[yN,e1];rfl
    rw[anG (by simp[q1]),i0,j0];simp only[aj,Hz];by_cases h0:x=y
    ·subst h0;rw[anG (by simp)];have s1:=kS (s:=x::a) (i:=1) (by simp);have s2:=kS (s:=x::b) (i:=1) (by simp);rw[show ((1:Nat):Int)=1 from rfl]at s1 s2;rw[s1,s2];simp only[aj,apb,aoV];rw[f_,l9 e1,l9 e1,qz,anG (by omega),anG (by omega)]
     match n,hn with
     | n+1,hn=>exact GH n k a b (by simp at hn;omega) (by simp at hk;omega) (by simp at ha;omega) (by simp at hb;omega)
    ·have h1:x.toNat≠y.toNat:=fun h=>h0 (aoB.1 h);rw[anN (by simp;omega)];have d1:=uY (c:=x);rw[e1]at d1;simp only[Bool.false_eq,ao7,aoz]at d1;cases e2:dh y with
     | true=>
      have d2:=uY (c:=y);rw[e2]at d2;simp only[an_,Bool.true_eq,anZ]at d2;rw[f_,l9 e1,vY e2,qz,sI,w_];by_cases h1:x.toNat<y.toNat
      ·rw[anN (by simp;omega),anN (by omega)]
      ·rw[anG (by simp;omega),anN (by simp;omega),anG (by omega),anN (by omega)]
     | false=>
      rw[f_,l9 e1,l9 e2,qz,sI,w_];by_cases h2:x.toNat<y.toNat
      ·rw[anN (by simp;omega),anN (by omega)]
      ·rw[anG (by simp;omega),anN (by simp;omega),anG (by omega),anN (by omega)]
theorem Mx{a b:Str}(ha:a.length<4611686018427387904)(hb:b.length<4611686018427387904):iC a b=some (f_ a b):=
 GH _ BIG a b (aod _) (by have:=dX;omega) ha hb
theorem Qd{a b:Str}(ha:a.length<4611686018427387904)(hb:b.length<4611686018427387904):sW a b=some (f_ a b):=by
 obtain⟨c,h1,h2⟩:=QT ha hb;rw[Mx ha hb]at h1;rw[h2,←h1]
theorem Vy:∀(r:Str),r=List.replicate (r.length-(dz r).length) (48:UInt8)++dz r
 | []=>rfl
 | c::r=>by
  unfold dz;rw[apI];by_cases h:c=48
  ·subst h;have ih:=Vy r;have hl:=amE r;simp only[show (((48:UInt8).toNat:Int)==48)=true from rfl,anX];change _=List.replicate ((48::r).length-(dz r).length) (48:UInt8)++dz r;rw[show (48::r).length-(dz r).length=(r.length-(dz r).length)+1 by simp;omega,List.replicate_succ,apc,←ih]
  ·have:((c.toNat:Int)==48)=false:=by
    simp only[an7,apl];intro h2;exact h (aoB.1 (by show c.toNat=48;omega))
   simp[this]
theorem key_inj:∀(n:Nat) (a b:Str),a.length≤n→key a=key b→a=b
 | _,[],[],_,_=>rfl
 | _,[],y::b,_,h=>by
  cases e:dh y with
  | true=>rw[vY e,EW]at h;cases h
  | false=>rw[l9 e,EW]at h;cases h
 | _,x::a,[],_,h=>by
  cases e:dh x with
  | true=>rw[vY e,EW]at h;cases h
  | false=>rw[l9 e,EW]at h;cases h
 | 0,x::a,y::b,h,_=>by simp at h
 | n+1,x::a,y::b,hn,h=>by
  cases e1:dh x with
  | true=>
   cases e2:dh y with
   | true=>
    have p1:=Gc (s:=a) e1;have sa:=zS dh (x::a);rw[vY e1,vY e2]at h;simp only[aoW,true_and]at h;obtain⟨h1,h2⟩:=h;obtain⟨h3,h4⟩:=List.append_inj h2 (by simpa using h1);simp only[aoW]at h4
    have h5:dz ((x::a).take (iY dh (x::a)))=dz ((y::b).take (iY dh (y::b))):=by
     refine List.map_inj_right (f:=UInt8.toNat) (fun p q hpq=>aoB.1 hpq) |>.1 h3
    have h6:(x::a).take (iY dh (x::a))=(y::b).take (iY dh (y::b)):=by
     rw[Vy ((x::a).take (iY dh (x::a))),Vy ((y::b).take (iY dh (y::b))),h5,Ij,Ij,h4.1]
    have h7:=key_inj n _ _ (by simp at hn⊢;omega) h4.2;rw[←List.take_append_drop (iY dh (x::a)) (x::a),h6,h7,List.take_append_drop]
   | false=>
    rw[vY e1,l9 e2]at h;simp only[aoW]at h;have d2:=uY (c:=y);rw[e2,←h.1]at d2;simp at d2
  | false=>
   cases e2:dh y with
   | true=>
    rw[l9 e1,vY e2]at h;simp only[aoW]at h;have d2:=uY (c:=x);rw[e1,h.1]at d2;simp at d2
   | false=>
    rw[l9 e1,l9 e2]at h;simp only[aoW]at h;rw[aoB.1 h.1,key_inj n a b (by simp at hn;omega) h.2]
theorem Xl(a:Str):f_ a a=0:=TT _
theorem Df{a b:Str}(h:f_ a b=0):a=b:=key_inj _ a b (aod _) (TS h)
theorem yU(a b:Str):f_ b a=- f_ a b:=Xr _ _
theorem KZ{a b c:Str}(h:f_ a b<0)(k:f_ b c<0):f_ a c<0:=Qq h k
theorem Jh{a b c:Str}(h:¬f_ a b<0)(k:¬f_ b c<0):¬f_ a c<0:=by
 intro hc;by_cases h0:f_ a b=0
 ·rw[Df h0]at hc;exact k hc
 ·by_cases k0:f_ b c=0
  ·rw[←Df k0]at hc;exact h hc
  ·have h1:f_ b a<0:=by rw[yU];omega
   have k1:f_ c b<0:=by rw[yU];omega
   have:=KZ k1 h1;rw[yU]at this;omega
end Go.Ft
