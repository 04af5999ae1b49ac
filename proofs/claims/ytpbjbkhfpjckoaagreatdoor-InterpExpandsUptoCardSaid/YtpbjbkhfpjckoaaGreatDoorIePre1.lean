/- Proved here: plain facts on the functional texts that the walks want. -/
import Derived.Test.YtpbjbkhfpjckoaaGreatDoorIeFt1
import Derived.Test.YtpbjbkhfpjckoaaGreatDoorIePool1
set_option linter.unusedVariables false
set_option linter.unusedSimpArgs false
set_option linter.defProp false
set_option linter.unusedSectionVars false
set_option maxHeartbeats 2000000
namespace Go.Ft
open Go
attribute [local congr] gq
theorem rY{n:Int}(h:-9223372036854775808≤n∧n<9223372036854775808):bq n=n:=Wj (by omega) (by omega)
theorem mh{i:Nat}(h:i<4611686018427387904):bq ((i:Int)+1)=((i+1:Nat):Int):=by rw[rY (by omega)];omega
theorem lX{α:Type}{l:List α}{i:Nat}(h:i<l.length):idx l (i:Int)=some (l[i]):=by rw[acp,aq1 h]
theorem iW:9223372036854775808<BIG:=by decide
def eB{α S R:Type}(body:Nat→α→S→(S→Option R)→Option R)(fin:S→Option R):Nat→List α→S→Option R
 | _,[],s=>fin s
 | i,x::r,s=>body i x s fun s'=>eB body fin (i+1) r s'
theorem Yy{α S R:Type}{F:Nat→S→Int→Option R}{l:List α}{body:Nat→α→S→(S→Option R)→Option R}{fin:S→Option R}(hl:l.length<4611686018427387904)
  (hF:∀k s (i:Nat),F (k+1) s i=if decide ((i:Int)<(l.length:Int))then av (idx l i) fun x=>body i x s fun s'=>F k s' (bq ((i:Int)+1))else fin s):
  ∀(k i:Nat) (s:S),l.length<k+i→i≤l.length→F k s (i:Int)=eB body fin i (l.drop i) s
 | 0,i,s,h,h'=>by omega
 | k+1,i,s,h,h'=>by
  rw[hF];by_cases hi:i<l.length
  ·rw[aqZ hi,aqJ (by simp;omega),lX hi,ak,eB];congr 1;funext s';rw[mh (by omega)];exact Yy hl hF k (i+1) s' (by omega) (by omega)
  ·have:i=l.length:=by omega
   subst this;rw[aqH (by simp),List.drop_length,eB]
theorem eH{α S R:Type}{F:Nat→S→Int→Option R}{l:List α}{body:Nat→α→S→(S→Option R)→Option R}{fin:S→Option R}(hl:l.length<4611686018427387904)
  (hF:∀k s (i:Nat),F (k+1) s i=if decide ((i:Int)<(l.length:Int))then av (idx l i) fun x=>body i x s fun s'=>F k s' (bq ((i:Int)+1))else fin s) (s:S):F BIG s 0=eB body fin 0 l s:=by
 have:=Yy hl hF BIG 0 s (by have:=iW;omega) (by omega);simpa using this
def isLet(c:UInt8):Bool:=(((decide (97≤(c.toNat:Int)))&&(decide ((c.toNat:Int)≤122)))||((decide (65≤(c.toNat:Int)))&&(decide ((c.toNat:Int)≤90))))||((c.toNat:Int)==95)
@[simp] theorem aoV(c:UInt8):wT c=some (isLet c):=rfl
@[simp] theorem acf(c:UInt8):oh c=some (dI c):=rfl
@[simp] theorem aoC(c:UInt8):Au c=some (isLet c):=rfl
@[simp] theorem ajA(c:UInt8):pU c=some (dI c):=rfl
@[simp] theorem ap0(c:UInt8):Fb c=some (dI c):=rfl
@[simp] theorem af5(c:UInt8):Dr c=some (dI c):=rfl
theorem Ak(p:UInt8→Bool)(c:UInt8)(l:Str):jr p (c::l)=if p c then jr p l+1 else 0:=by
 unfold jr;rw[List.takeWhile_cons];split<;>simp
theorem Bu(p:UInt8→Bool)(l:Str):jr p l≤l.length:=by
 induction l with
 | nil=>simp[jr]
 | cons c l ih=>rw[Ak];split<;>simp<;>omega
theorem WG{F:Nat→Int→Option Int}{s:Str}(hs:s.length<4611686018427387904)
  (hF:∀k (i:Nat),F (k+1) i=av (if decide ((i:Int)<(s.length:Int))then av (idx s i) fun x1=>some (dI x1)else some false) fun b1=>if b1 then F k (bq ((i:Int)+1))else some (i:Int)):
  ∀(k i:Nat),s.length<k+i→i≤s.length→F k (i:Int)=some ((i+jr dI (s.drop i):Nat):Int)
 | 0,i,h,h'=>by omega
 | k+1,i,h,h'=>by
  rw[hF];by_cases hi:i<s.length
  ·rw[aqZ hi,Ak,aqJ (by simp;omega),lX hi];simp only[ak];cases e:dI s[i]with
   | false=>simp
   | true=>
    simp only[aqV];rw[mh (by omega),WG hs hF k (i+1) (by omega) (by omega)];simp only[aro,asr];omega
  ·have:i=s.length:=by omega
   subst this;simp[jr]
theorem CS{s:Str}(hs:s.length<4611686018427387904):Dt s=some (jr dI s:Int):=by
 have:=WG (F:=zO s) hs (fun k i=>rfl) BIG 0 (by have:=iW;omega) (by omega);simpa[Dt]using this
theorem RG{s:Str}(hs:s.length<4611686018427387904){i:Nat}(hi:i≤s.length):MZ s (i:Int)=some ((i+jr dI (s.drop i):Nat):Int):=
 WG (F:=Ed s) hs (fun k i=>rfl) BIG i (by have:=iW;omega) hi
theorem r9{s:Str}{i:Nat}(h:i≤s.length):sl s (i:Int) (s.length:Int)=some (s.drop i):=by
 rw[bL (by omega) (by omega) (by omega)];simp
theorem Yx{s:Str}{i:Nat}(h:i≤s.length):sl s 0 (i:Int)=some (s.take i):=by
 rw[bL (by omega) (by omega) (by omega)];simp
theorem trimB(s:Str):∀(k:Nat),s.length<k→s.length<4611686018427387904→iJ 48 k s=some (dz s):=by
 induction s with
 | nil=>intro k h _;cases k with
  | zero=>simp at h
  | succ k=>simp[iJ,dz]
 | cons c s ih=>
  intro k h hs;cases k with
  | zero=>simp at h
  | succ k=>
   simp only[aq2]at h hs;rw[iJ,aqJ (by simp)];have e0:idx (c::s) 0=some c:=by simp[idx]
   rw[e0];simp only[ak];have e1:((48:UInt8).toNat:Int)=48:=rfl;rw[e1];unfold dz;rw[asM];cases e:((c.toNat:Int)==48)with
   | false=>simp
   | true=>
    simp only[aqV];have e2:=r9 (s:=c::s) (i:=1) (by simp);simp only[List.drop_one,List.tail_cons]at e2;rw[show ((1:Nat):Int)=1 from rfl]at e2;rw[e2];simp only[ak];exact ih k (by omega) (by omega)
theorem abZ{s:Str}(hs:s.length<4611686018427387904):oM s ([48]:Str)=some (dz s):=by
 unfold oM;cases s with
 | nil=>simp[dz]
 | cons c s=>
  rw[aqH (by simp),aqJ (by simp)];have e0:idx ([48]:Str) 0=some 48:=rfl;rw[e0];simp only[ak];rw[aqJ (by decide)];exact trimB _ BIG (by have:=iW;omega) hs
theorem Ve{s:Str}(hs:s.length<4611686018427387904):∀(k i:Nat),s.length<k+i→i≤s.length→vR s k (i:Int)=some (dz (s.drop i))
 | 0,i,h,h'=>by omega
 | k+1,i,h,h'=>by
  rw[vR];by_cases hi:i<s.length
  ·rw[aqZ hi,aqJ (by simp;omega),lX hi];simp only[ak];unfold dz;rw[asM];cases e:((s[i].toNat:Int)==48)with
   | false=>
    simp only[aqS,aqT];rw[r9 (by omega),aqZ hi]
   | true=>
    simp only[aqV];rw[mh (by omega)];exact Ve hs k (i+1) (by omega) (by omega)
  ·have:i=s.length:=by omega
   subst this;rw[aqH (by simp)];simp only[ak,aqS,aqT];rw[r9 (by omega)];simp[dz]
theorem Yu{s:Str}(hs:s.length<4611686018427387904):Dq s=some (dz s):=by
 have:=Ve hs BIG 0 (by have:=iW;omega) (by omega);simpa[Dq]using this
def wU(p q:Bool):Int:=if p then -1 else if q then 1 else 0
def qG(x y:Int):Int:=wU (decide (x<y)) (decide (y<x))
def EB(x y:Str):Int:=wU (Go.Op.bytesLess x y) (!(Go.Op.bytesLess x y||x==y))
theorem Cy(p q:Bool):vS p q=some (wU p q):=by
 unfold vS wU;cases p<;>cases q<;>rfl
theorem sN(x y:Int):cmp_Compare_int x y=some (qG x y):=by
 unfold cmp_Compare_int qG wU cmp_isNaN_int;by_cases h1:x<y<;>by_cases h2:y<x<;>simp[h1,h2]
theorem J4(x y:UInt8):rH x y=some (qG x.toNat y.toNat):=by
 unfold rH qG wU vB;by_cases h1:(x.toNat:Int)<y.toNat<;>by_cases h2:(y.toNat:Int)<x.toNat<;>simp[h1,h2]
theorem SV(x y:Str):mK x y=some (EB x y):=by
 unfold mK EB wU cmp_isNaN_string;cases h1:Go.Op.bytesLess x y<;>cases h2:(x==y)<;>simp
theorem AL:∀x:Str,Go.Op.bytesLess x x=false
 | []=>rfl
 | c::x=>by
  unfold Go.Op.bytesLess;have:=AL x;simp[this]
theorem aek(a b c:Int):EA ([a,b,c]:List Int)=some (if a !=0 then a else if b !=0 then b else c):=by
 have:=eH (F:=fun k (_:Unit) i=>xu [a,b,c] k i) (l:=[a,b,c]) (body:=fun _ afs _ r=>if afs !=0 then some afs else r ()) (fin:=fun _=>some 0) (by simp)
  (fun k s i=>rfl) ()
 unfold EA;rw[this];simp only[eB];by_cases h1:a=0<;>by_cases h2:b=0<;>by_cases h3:c=0<;>simp[h1,h2,h3]
def SX(a b:Str):Int:=
 if ((dz a).length:Int) !=((dz b).length:Int)then qG (dz a).length (dz b).length else if !(dz a==dz b)then EB (dz a) (dz b)else qG a.length b.length
theorem apy(s:Str):(dz s).length≤s.length:=(List.dropWhile_sublist _).length_le
theorem GK{x y:Int}:qG x y=0↔x=y:=by
 unfold qG wU;by_cases h1:x<y<;>by_cases h2:y<x<;>simp[h1,h2]<;>omega
theorem acQ{x y:Str}(h:x≠y):EB x y≠0:=by
 unfold EB wU;cases h1:Go.Op.bytesLess x y<;>simp[h]
theorem ael(x:Str):EB x x=0:=by
 unfold EB wU;simp[AL]
theorem RV{a b:Str}(ha:a.length<4611686018427387904)(hb:b.length<4611686018427387904):wX a b=some (SX a b):=by
 unfold wX SX;rw[abZ ha,abZ hb];simp only[ak,sN,SV,aek,aro];by_cases h1:((dz a).length:Int)=((dz b).length:Int)
 ·have e1:qG (dz a).length (dz b).length=0:=GK.2 h1;rw[e1];by_cases h2:dz a=dz b
  ·rw[h2,ael];simp
  ·have:=acQ h2;simp[h1,h2,this]
 ·have e1:qG (dz a).length (dz b).length≠0:=fun h=>h1 (GK.1 h);rw[aqJ (by simpa using e1),aqJ (by simpa using h1)]
theorem ajs{a b:Str}(ha:a.length<4611686018427387904)(hb:b.length<4611686018427387904):Jt a b=some (SX a b):=by
 unfold Jt SX;rw[Yu ha,Yu hb];simp only[ak,Cy];by_cases h1:((dz a).length:Int)=((dz b).length:Int)
 ·by_cases h2:dz a=dz b
  ·simp[h2,qG]
  ·simp[h1,h2,EB]
 ·simp[h1,qG]
theorem Vh{s:Str}(h:s≠[]):0<jr dI s↔dI (s.head h)=true:=by
 cases s with
 | nil=>exact absurd rfl h
 | cons c s=>rw[Ak];cases e:dI c<;>simp[e]
theorem J3{a b:Str}(ha:a.length<4611686018427387904)(hb:b.length<4611686018427387904):∀(k k' i j:Nat),i≤a.length→j≤b.length→a.length<k+i→a.length<k'+i→
  jQ k (a.drop i) (b.drop j)=m_ a b k' (i:Int) (j:Int)∧∃c,m_ a b k' (i:Int) (j:Int)=some c
 | 0,k',i,j,_,_,h,_=>by omega
 | k+1,0,i,j,_,_,_,h=>by omega
 | k+1,k'+1,i,j,hi,hj,hk,hk'=>by
  rw[jQ,m_];by_cases h1:i<a.length
  ·by_cases h2:j<b.length
   ·have ea:=aqZ h1;have eb:=aqZ h2;have na:a.drop i≠[]:=fun h=>by simp at h;omega
    have nb:b.drop j≠[]:=fun h=>by simp at h;omega
    have la:(a.drop i).length=a.length-i:=by simp
    have lb:(b.drop j).length=b.length-j:=by simp
    have sa:=Bu dI (a.drop i);have sb:=Bu dI (b.drop j);have pa:=Vh na;have pb:=Vh nb;have apn:(a.drop i).head na=a[i]:=by simp
    have apm:(b.drop j).head nb=b[j]:=by simp
    rw[apn]at pa;rw[apm]at pb;rw[aqJ (by simp[h1,h2]),aqJ (by simp;omega),CS (by omega),CS (by omega),lX h1,lX h2];simp only[ak,Cy,af5];have i0:idx (a.drop i) 0=some a[i]:=by rw[ea];rfl
    have j0:idx (b.drop j) 0=some b[j]:=by rw[eb];rfl
    have hone:(if dI a[i]=true then some (dI b[j])else some false)=some (dI a[i]&&dI b[j]):=by cases dI a[i]<;>simp
    rw[hone];simp only[ak];cases hd:(dI a[i]&&dI b[j])with
    | true=>
     simp only[aq5]at hd;have q1:=pa.2 hd.1;have q2:=pb.2 hd.2;rw[aqJ (by simp;omega)];simp only[aqV];rw[RG ha (by omega),RG hb (by omega),Yx sa,Yx sb];simp only[ak]
     have e1:sl a (i:Int) ((i+jr dI (a.drop i):Nat):Int)=some ((a.drop i).take (jr dI (a.drop i))):=by
      rw[bL (by omega) (by omega) (by omega)];simp only[aq0,aro];rw[asf,asA]
     have e2:sl b (j:Int) ((j+jr dI (b.drop j):Nat):Int)=some ((b.drop j).take (jr dI (b.drop j))):=by
      rw[bL (by omega) (by omega) (by omega)];simp only[aq0,aro];rw[asf,asA]
     rw[e1,e2];simp only[ak];rw[RV (by simp;omega) (by simp;omega),ajs (by simp;omega) (by simp;omega)];simp only[ak];by_cases hc:SX ((a.drop i).take (jr dI (a.drop i))) ((b.drop j).take (jr dI (b.drop j)))=0
     ·rw[aqH (by simp[hc]),aqH (by simp[hc]),r9 sa,r9 sb];simp only[ak,arW];exact J3 ha hb k k' _ _ (by omega) (by omega) (by omega) (by omega)
     ·rw[aqJ (by simpa using hc),aqJ (by simpa using hc)];exact⟨rfl,_,rfl⟩
    | false=>
     rw[aqH (by
      simp only[aq5,aqW,not_and];intro h3 h4;have:=pa.1 (by omega);have:=pb.1 (by omega)
      simp_all)]
     simp only[aqS,aqT];rw[i0,j0];simp only[ak,J4];by_cases hc:(a[i].toNat:Int)=(b[j].toNat:Int)
     ·rw[aqH (by simpa using hc)];have:wU (decide ((a[i].toNat:Int)<(b[j].toNat:Int))) (decide ((b[j].toNat:Int)<(a[i].toNat:Int)))=0:=by simp[wU,hc]
      rw[this,aqH (by simp),mh (by omega),mh (by omega)];have s1:=r9 (s:=a.drop i) (i:=1) (by omega);have s2:=r9 (s:=b.drop j) (i:=1) (by omega);rw[show ((1:Nat):Int)=1 from rfl]at s1 s2;rw[s1,s2];simp only[ak,arW];exact J3 ha hb k k' _ _ (by omega) (by omega) (by omega) (by omega)
     ·rw[aqJ (by simpa using hc)];have e3:qG (a[i].toNat) (b[j].toNat)≠0:=fun h=>hc (GK.1 h);have:wU (decide ((a[i].toNat:Int)<(b[j].toNat:Int))) (decide ((b[j].toNat:Int)<(a[i].toNat:Int)))=qG (a[i].toNat) (b[j].toNat):=rfl;rw[this,aqJ (by simpa using e3)];exact⟨rfl,_,rfl⟩
   ·have eb:b.drop j=[]:=by simp;omega
    rw[eb,aqH (by simp),aqH (by simp;omega),Cy,sN];refine⟨?_,_,rfl⟩;unfold qG;congr 2<;>simp<;>omega
  ·have ea:a.drop i=[]:=by simp;omega
   rw[ea,aqH (by simp),aqH (by simp;omega),Cy,sN];refine⟨?_,_,rfl⟩;unfold qG;congr 2<;>simp<;>omega
theorem SS{a b:Str}(ha:a.length<4611686018427387904)(hb:b.length<4611686018427387904):∃c,iN a b=some c∧oJ a b=some c:=by
 obtain⟨h1,c,h2⟩:=J3 ha hb BIG BIG 0 0 (by omega) (by omega) (by have:=iW;omega) (by have:=iW;omega);refine⟨c,?_,by simpa[oJ]using h2⟩;rw[←h2];simpa[iN]using h1
end Go.Ft
namespace Go.Ft
open Go
theorem Vy:∀l,rO l l=0
 | []=>rfl
 | a::l=>by simp[rO,Vy l]
theorem Vx:∀ {l m:List Nat},rO l m=0→l=m
 | [],[],_=>rfl
 | [],_::_,h=>by simp[rO]at h
 | _::_,[],h=>by simp[rO]at h
 | a::l,b::m,h=>by
  simp only[rO]at h;by_cases h1:a<b
  ·simp[h1]at h
  ·by_cases h2:b<a
   ·simp[h1,h2]at h
   ·simp only[h1,h2,aqT]at h;rw[Vx h,show a=b from by omega]
theorem Y2:∀l m:List Nat,rO m l=- rO l m
 | [],[]=>rfl
 | [],_::_=>rfl
 | _::_,[]=>rfl
 | a::l,b::m=>by
  simp only[rO];by_cases h1:a<b
  ·simp[h1,show ¬b<a by omega]
  ·by_cases h2:b<a
   ·simp[h1,h2]
   ·simp only[h1,h2,aqT];exact Y2 l m
theorem Si:∀l m:List Nat,rO l m=-1∨rO l m=0∨rO l m=1
 | [],[]=>.inr (.inl rfl)
 | [],_::_=>.inl rfl
 | _::_,[]=>.inr (.inr rfl)
 | a::l,b::m=>by
  simp only[rO];by_cases h1:a<b
  ·simp[h1]
  ·by_cases h2:b<a
   ·simp[h1,h2]
   ·simp only[h1,h2,aqT];exact Si l m
theorem Sg:∀ {a b c:List Nat},rO a b<0→rO b c<0→rO a c<0
 | [],[],c,h,_=>by simp[rO]at h
 | [],_::_,[],_,h=>by simp[rO]at h
 | [],_::_,_::_,_,_=>by simp[rO]
 | _::_,[],c,h,_=>by simp[rO]at h
 | _::_,_::_,[],_,h=>by simp[rO]at h
 | x::a,y::b,z::c,h,k=>by
  simp only[rO]at h k⊢;by_cases h1:x<y
  ·by_cases k1:y<z
   ·simp[show x<z by omega]
   ·by_cases k2:z<y
    ·simp[k1,k2]at k
    ·simp[show x<z by omega]
  ·by_cases h2:y<x
   ·simp[h1,h2]at h
   ·simp only[h1,h2,aqT]at h;by_cases k1:y<z
    ·simp[show x<z by omega]
    ·by_cases k2:z<y
     ·simp[k1,k2]at k
     ·simp only[k1,k2,aqT]at k;simp only[show ¬x<z by omega,show ¬z<x by omega,aqT];exact Sg h k
theorem Sj:∀(xs ys:Str) (u v:List Nat),xs.length=ys.length→rO (xs.map UInt8.toNat++u) (ys.map UInt8.toNat++v)=if xs=ys then rO u v else EB xs ys
 | [],[],u,v,_=>by simp
 | [],_::_,_,_,h=>by simp at h
 | _::_,[],_,_,h=>by simp at h
 | x::xs,y::ys,u,v,h=>by
  simp only[arq,ar7,rO];have ih:=Sj xs ys u v (by simpa using h);have e1:(x<y)=(x.toNat<y.toNat):=by rw[UInt8.lt_iff_toNat_lt]
  have e2:(y<x)=(y.toNat<x.toNat):=by rw[UInt8.lt_iff_toNat_lt]
  by_cases h1:x.toNat<y.toNat
  ·have:x≠y:=fun e=>by subst e;omega
   simp[h1,this,EB,wU,Go.Op.bytesLess,e1]
  ·by_cases h2:y.toNat<x.toNat
   ·have:x≠y:=fun e=>by subst e;omega
    simp[h1,h2,this,EB,wU,Go.Op.bytesLess,e1]
   ·have:x=y:=arD.1 (by omega);subst this;simp only[h1,aqT,ih,arS,true_and];by_cases h3:xs=ys
    ·simp[h3]
    ·simp only[h3,aqT,EB,Go.Op.bytesLess,e1,h1,arZ,ar0,arO,arQ];congr 1;simp
theorem Kq(s:Str):(s.take (jr dI s)).length=jr dI s:=by
 have:=Bu dI s;simp;omega
theorem Jj{c:UInt8}{s:Str}(h:dI c=true):0<jr dI (c::s):=by rw[Ak,aqJ h];omega
theorem Oy:∀(k m:Nat) (s:Str),s.length≤k→s.length≤m→Sl k s=Sl m s
 | 0,0,_,_,_=>rfl
 | 0,m+1,s,h,_=>by
  have:s=[]:=arI (by omega);subst this;rfl
 | k+1,0,s,_,h=>by
  have:s=[]:=arI (by omega);subst this;rfl
 | k+1,m+1,[],_,_=>rfl
 | k+1,m+1,c::s,h1,h2=>by
  simp only[Sl];simp only[aq2]at h1 h2;cases e:dI c with
  | true=>
   have:=Jj (s:=s) e;have:=Bu dI (c::s);simp only[aqV];rw[Oy k m _ (by simp;omega) (by simp;omega)]
  | false=>
   simp only[aqS,aqT];rw[Oy k m s (by omega) (by omega)]
theorem Y8{k:Nat}{s:Str}(h:s.length≤k):Sl k s=key s:=Oy _ _ _ h (aq9 _)
theorem H_:key []=[]:=rfl
theorem xG{c:UInt8}{s:Str}(h:dI c=true):key (c::s)=48::(dz ((c::s).take (jr dI (c::s)))).length::((dz ((c::s).take (jr dI (c::s)))).map UInt8.toNat++jr dI (c::s)::key ((c::s).drop (jr dI (c::s)))):=by
 have:=Jj (s:=s) h;have:=Bu dI (c::s);show Sl (s.length+1) (c::s)=_;simp only[Sl,h,aqV];rw[Y8 (by simp;omega)]
theorem nD{c:UInt8}{s:Str}(h:dI c=false):key (c::s)=c.toNat::key s:=by
 show Sl (s.length+1) (c::s)=_;simp only[Sl,h,aqS,aqT];rw[Y8 (aq9 _)]
theorem ahq(a b:Str)(u v:List Nat):rO ((dz a).length::((dz a).map UInt8.toNat++a.length::u)) ((dz b).length::((dz b).map UInt8.toNat++b.length::v))=if SX a b=0 then rO u v else SX a b:=by
 unfold SX;simp only[rO];by_cases h1:(dz a).length=(dz b).length
 ·rw[aqH (by omega),aqH (by omega),Sj _ _ _ _ h1];have e:(((dz a).length:Int) !=((dz b).length:Int))=false:=by simp[h1]
  simp only[e,aqS,aqT];by_cases h2:dz a=dz b
  ·simp only[h2,aqV,arO,arf,aqS,aqT,rO,qG,wU];by_cases h3:a.length<b.length
   ·simp[h3]
   ·by_cases h4:b.length<a.length
    ·simp[h3,h4]
    ·simp[h3,h4]
  ·have h3:=acQ h2;simp[h2,h3]
 ·have e:(((dz a).length:Int) !=((dz b).length:Int))=true:=by simp;omega
  simp only[e,aqV];by_cases h2:(dz a).length<(dz b).length
  ·simp[h2,qG,wU]
  ·have h3:(dz b).length<(dz a).length:=by omega
   simp[h2,h3,qG,wU]
theorem wo{c:UInt8}:dI c=(decide (48≤c.toNat)&&decide (c.toNat≤57)):=by
 unfold dI;congr 1
 ·apply decide_eq_decide.2;omega
 ·apply decide_eq_decide.2;omega
theorem JC:∀(n k:Nat) (a b:Str),a.length≤n→a.length<k→a.length<4611686018427387904→b.length<4611686018427387904→jQ k a b=some (fT a b)
 | _,0,_,_,_,h,_,_=>by omega
 | n,k+1,a,b,hn,hk,ha,hb=>by
  rw[jQ]
  match a,b with
  | [],[]=>
   rw[aqH (by simp),sN];simp[fT,H_,rO,qG,wU]
  | [],y::b=>
   rw[aqH (by simp),sN]
   have:key (y::b)≠[]:=by
    cases e:dI y with
    | true=>rw[xG e];simp
    | false=>rw[nD e];simp
   cases e:key (y::b)with
   | nil=>exact absurd e this
   | cons p q=>
    simp only[fT,H_,e,rO,qG,wU];rw[aqJ (by simp)]
  | x::a,[]=>
   rw[aqH (by simp),sN]
   have:key (x::a)≠[]:=by
    cases e:dI x with
    | true=>rw[xG e];simp
    | false=>rw[nD e];simp
   cases e:key (x::a)with
   | nil=>exact absurd e this
   | cons p q=>
    simp only[fT,H_,e,rO,qG,wU];rw[aqH (by simp;omega),aqJ (by simp)]
  | x::a,y::b=>
   have sa:=Bu dI (x::a);have sb:=Bu dI (y::b);have i0:idx (x::a) 0=some x:=rfl;have j0:idx (y::b) 0=some y:=rfl;rw[aqJ (by simp),CS ha,CS hb];simp only[ak];cases e1:dI x with
   | true=>
    have p1:=Jj (s:=a) e1;cases e2:dI y with
    | true=>
     have p2:=Jj (s:=b) e2;rw[aqJ (by simp;omega),Yx sa,Yx sb];simp only[ak];rw[RV (by simp;omega) (by simp;omega)];simp only[ak];have hc:=ahq ((x::a).take (jr dI (x::a))) ((y::b).take (jr dI (y::b))) (key ((x::a).drop (jr dI (x::a)))) (key ((y::b).drop (jr dI (y::b))));rw[Kq,Kq]at hc
     have e3:fT (x::a) (y::b)=if SX ((x::a).take (jr dI (x::a))) ((y::b).take (jr dI (y::b)))=0 then rO (key ((x::a).drop (jr dI (x::a)))) (key ((y::b).drop (jr dI (y::b))))else SX ((x::a).take (jr dI (x::a))) ((y::b).take (jr dI (y::b))):=by
      rw[←hc,fT,xG e1,xG e2,rO,aqH (by omega),aqH (by omega)]
     rw[e3];by_cases h0:SX ((x::a).take (jr dI (x::a))) ((y::b).take (jr dI (y::b)))=0
     ·rw[aqH (by simpa using h0),aqJ h0,r9 sa,r9 sb];simp only[ak]
      match n,hn with
      | n+1,hn=>
       exact JC n k _ _ (by simp at hn⊢;omega) (by simp at hk⊢;omega) (by simp at ha⊢;omega) (by simp at hb⊢;omega)
     ·rw[aqJ (by simpa using h0),aqH h0]
    | false=>
     have q2:jr dI (y::b)=0:=by rw[Ak,e2];rfl
     rw[aqH (by simp[q2]),i0,j0];simp only[ak,J4];have d1:=wo (c:=x);rw[e1]at d1;have d2:=wo (c:=y);rw[e2]at d2;simp only[aq5,Bool.false_eq,ar3,aru,Bool.true_eq,aqW]at d1 d2;rw[aqJ (by simp;omega)];rw[fT,xG e1,nD e2,rO,qG,wU];by_cases h1:x.toNat<y.toNat
     ·rw[aqJ (by simp;omega),aqJ (by omega)]
     ·rw[aqH (by simp;omega),aqJ (by simp;omega),aqH (by omega),aqJ (by omega)]
   | false=>
    have q1:jr dI (x::a)=0:=by rw[Ak,e1];rfl
    rw[aqH (by simp[q1]),i0,j0];simp only[ak,J4];by_cases h0:x=y
    ·subst h0;rw[aqH (by simp)];have s1:=r9 (s:=x::a) (i:=1) (by simp);have s2:=r9 (s:=x::b) (i:=1) (by simp);rw[show ((1:Nat):Int)=1 from rfl]at s1 s2;rw[s1,s2];simp only[ak,ar5,arU];rw[fT,nD e1,nD e1,rO,aqH (by omega),aqH (by omega)]
     match n,hn with
     | n+1,hn=>exact JC n k a b (by simp at hn;omega) (by simp at hk;omega) (by simp at ha;omega) (by simp at hb;omega)
    ·have h1:x.toNat≠y.toNat:=fun h=>h0 (arD.1 h);rw[aqJ (by simp;omega)];have d1:=wo (c:=x);rw[e1]at d1;simp only[Bool.false_eq,ar3,aru]at d1;cases e2:dI y with
     | true=>
      have d2:=wo (c:=y);rw[e2]at d2;simp only[aq5,Bool.true_eq,aqW]at d2;rw[fT,nD e1,xG e2,rO,qG,wU];by_cases h1:x.toNat<y.toNat
      ·rw[aqJ (by simp;omega),aqJ (by omega)]
      ·rw[aqH (by simp;omega),aqJ (by simp;omega),aqH (by omega),aqJ (by omega)]
     | false=>
      rw[fT,nD e1,nD e2,rO,qG,wU];by_cases h2:x.toNat<y.toNat
      ·rw[aqJ (by simp;omega),aqJ (by omega)]
      ·rw[aqH (by simp;omega),aqJ (by simp;omega),aqH (by omega),aqJ (by omega)]
theorem KC{a b:Str}(ha:a.length<4611686018427387904)(hb:b.length<4611686018427387904):iN a b=some (fT a b):=
 JC _ BIG a b (aq9 _) (by have:=iW;omega) ha hb
theorem LP{a b:Str}(ha:a.length<4611686018427387904)(hb:b.length<4611686018427387904):oJ a b=some (fT a b):=by
 obtain⟨c,h1,h2⟩:=SS ha hb;rw[KC ha hb]at h1;rw[h2,←h1]
theorem Xz:∀(r:Str),r=List.replicate (r.length-(dz r).length) (48:UInt8)++dz r
 | []=>rfl
 | c::r=>by
  unfold dz;rw[asM];by_cases h:c=48
  ·subst h;have ih:=Xz r;have hl:=apy r;simp only[show (((48:UInt8).toNat:Int)==48)=true from rfl,aqV];change _=List.replicate ((48::r).length-(dz r).length) (48:UInt8)++dz r;rw[show (48::r).length-(dz r).length=(r.length-(dz r).length)+1 by simp;omega,List.replicate_succ,ar7,←ih]
  ·have:((c.toNat:Int)==48)=false:=by
    simp only[aq4,ash];intro h2;exact h (arD.1 (by show c.toNat=48;omega))
   simp[this]
theorem key_inj:∀(n:Nat) (a b:Str),a.length≤n→key a=key b→a=b
 | _,[],[],_,_=>rfl
 | _,[],y::b,_,h=>by
  cases e:dI y with
  | true=>rw[xG e,H_]at h;cases h
  | false=>rw[nD e,H_]at h;cases h
 | _,x::a,[],_,h=>by
  cases e:dI x with
  | true=>rw[xG e,H_]at h;cases h
  | false=>rw[nD e,H_]at h;cases h
 | 0,x::a,y::b,h,_=>by simp at h
 | n+1,x::a,y::b,hn,h=>by
  cases e1:dI x with
  | true=>
   cases e2:dI y with
   | true=>
    have p1:=Jj (s:=a) e1;have sa:=Bu dI (x::a);rw[xG e1,xG e2]at h;simp only[arS,true_and]at h;obtain⟨h1,h2⟩:=h;obtain⟨h3,h4⟩:=List.append_inj h2 (by simpa using h1);simp only[arS]at h4
    have h5:dz ((x::a).take (jr dI (x::a)))=dz ((y::b).take (jr dI (y::b))):=by
     refine List.map_inj_right (f:=UInt8.toNat) (fun p q hpq=>arD.1 hpq) |>.1 h3
    have h6:(x::a).take (jr dI (x::a))=(y::b).take (jr dI (y::b)):=by
     rw[Xz ((x::a).take (jr dI (x::a))),Xz ((y::b).take (jr dI (y::b))),h5,Kq,Kq,h4.1]
    have h7:=key_inj n _ _ (by simp at hn⊢;omega) h4.2;rw[←List.take_append_drop (jr dI (x::a)) (x::a),h6,h7,List.take_append_drop]
   | false=>
    rw[xG e1,nD e2]at h;simp only[arS]at h;have d2:=wo (c:=y);rw[e2,←h.1]at d2;simp at d2
  | false=>
   cases e2:dI y with
   | true=>
    rw[nD e1,xG e2]at h;simp only[arS]at h;have d2:=wo (c:=x);rw[e1,h.1]at d2;simp at d2
   | false=>
    rw[nD e1,nD e2]at h;simp only[arS]at h;rw[arD.1 h.1,key_inj n a b (by simp at hn;omega) h.2]
theorem PI(a:Str):fT a a=0:=Vy _
theorem yM{a b:Str}(h:fT a b=0):a=b:=key_inj _ a b (aq9 _) (Vx h)
theorem sH(a b:Str):fT b a=- fT a b:=Y2 _ _
theorem CO{a b c:Str}(h:fT a b<0)(k:fT b c<0):fT a c<0:=Sg h k
theorem FM{a b c:Str}(h:¬fT a b<0)(k:¬fT b c<0):¬fT a c<0:=by
 intro hc;by_cases h0:fT a b=0
 ·rw[yM h0]at hc;exact k hc
 ·by_cases k0:fT b c=0
  ·rw[←yM k0]at hc;exact h hc
  ·have h1:fT b a<0:=by rw[sH];omega
   have k1:fT c b<0:=by rw[sH];omega
   have:=CO k1 h1;rw[sH]at this;omega
end Go.Ft
