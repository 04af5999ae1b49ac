/- Proved here: plain facts on the functional texts. -/
import Derived.Test.YtpbjbkhfpjckoaaGreatDoorIjPre1
import Derived.Test.YtpbjbkhfpjckoaaGreatDoorIjFt1
import Derived.Test.YtpbjbkhfpjckoaaGreatDoorIjPool1
set_option linter.unusedVariables false
set_option linter.unusedSimpArgs false
set_option linter.defProp false
set_option linter.unusedSectionVars false
set_option maxHeartbeats 2000000
namespace Go.Ft
open Go
attribute [local congr] fH
theorem JG{α:Type}{f:α→Nat}{l:List α}{x:α}(h:x∈l):f x≤(l.map f).sum:=by
 induction l with
 | nil=>cases h
 | cons y l ih=>
  simp only[aot,aoJ];rcases aoB.1 h with rfl|h
  ·omega
  ·have:=ih h;omega
theorem Me{α:Type}{f:α→Nat}{l:List α}(h:∀x,1≤f x):l.length≤(l.map f).sum:=by
 induction l with
 | nil=>simp
 | cons y l ih=>simp only[aot,aoJ,aog];have:=h y;omega
theorem ah.lK(v:ah):1≤v.bulk:=by rw[ah.nG];omega
theorem ak.lK(v:ak):1≤v.bulk:=by rw[ak.nG];omega
theorem aI.lK(v:aI):1≤v.bulk:=by rw[aI.nG];omega
theorem wZ(v:ah):v.aN.length<v.bulk:=by rw[ah.nG,ah.nW];have:=Me (l:=v.aN) ah.lK;omega
theorem jg{v x:ah}(h:x∈v.aN):x.bulk<v.bulk:=by rw[ah.nG v,ah.nW];have:=JG (f:=ah.bulk) h;omega
theorem w9(v:ah):v.keys.length<v.bulk:=by rw[ah.nG];have:=Me (l:=v.keys) (f:=fun z:Str=>z.length+1) (fun x=>by omega);omega
theorem Js{v:ah}{x:Str}(h:x∈v.keys):x.length<v.bulk:=by rw[ah.nG v];have:=JG (f:=fun z:Str=>z.length+1) h;omega
theorem VE(e:ak):e.args.length<e.bulk:=by rw[ak.nG,ak.nW];have:=Me (l:=e.args) ak.lK;omega
theorem kV{e x:ak}(h:x∈e.args):x.bulk<e.bulk:=by rw[ak.nG e,ak.nW];have:=JG (f:=ak.bulk) h;omega
theorem JK(v:ak):v.keys.length<v.bulk:=by rw[ak.nG];have:=Me (l:=v.keys) (f:=fun z:Str=>z.length+1) (fun x=>by omega);omega
theorem adS(v:ak):v.name.length<v.bulk:=by rw[ak.nG];omega
theorem IJ(v:ak):v.value.bulk<v.bulk:=by rw[ak.nG];omega
mutual
def ecnt:ak→Nat
 | ⟨_,_,_,args,_⟩=>1+D5 args
def D5:List ak→Nat
 | []=>0
 | x::r=>ecnt x+D5 r
end
theorem BM(e:ak):ecnt e=1+D5 e.args:=by cases e;rfl
theorem Zm:∀(l:List ak) (n:Nat),(∀x∈l,ecnt x≤x.bulk)→D5 l≤(l.map ak.bulk).sum
 | [],_,_=>by simp[D5]
 | x::r,n,h=>by
  simp only[D5,aot,aoJ];have:=h x (by simp);have:=Zm r n fun y hy=>h y (by simp[hy]);omega
theorem F5:∀(n:Nat) (e:ak),e.bulk≤n→ecnt e≤e.bulk
 | 0,e,h=>by have:=e.lK;omega
 | n+1,e,h=>by
  rw[BM,ak.nG,ak.nW];have:=Zm e.args n fun x hx=>F5 n x (by have:=kV hx;omega);omega
theorem abe{go:ak→Option Int}:∀(l:List ak) (i s:Nat),(∀x∈l,go x=some (ecnt x:Int))→s+D5 l<4611686018427387904→
  fu (fun _ e2 (n1:Int) r=>av (go e2) fun x2=>r (bV (n1+x2))) (fun n1=>some n1) i l (s:Int)=some ((s+D5 l:Nat):Int)
 | [],i,s,_,_=>by simp[fu,D5]
 | x::r,i,s,h,hs=>by
  simp only[D5]at hs⊢;rw[fu,h x (by simp)];simp only[aj];have:bV ((s:Int)+(ecnt x:Int))=((s+ecnt x:Nat):Int):=by rw[rA (by omega)];omega
  rw[this,abe r (i+1) (s+ecnt x) (fun y hy=>h y (by simp[hy])) (by omega)];simp only[aoi,apr];omega
theorem Xr:∀(n:Nat) (e:ak),e.bulk≤n→e.bulk<4611686018427387904→lY (n+1) e=some (ecnt e:Int)∧xu (n+1) e=some (ecnt e:Int)
 | 0,e,h,_=>by have:=e.lK;omega
 | n+1,e,h,hB=>by
  have hl:=VE e;have hle:=F5 _ e (aon _);rw[BM]at hle;constructor
  ·unfold lY yg;have:=fC (F:=fun k s i=>su (lY (n+1)) e k s i) (l:=e.args) (body:=fun _ e2 (n1:Int) r=>av (lY (n+1) e2) fun x2=>r (bV (n1+x2))) (fin:=fun n1=>some n1) (by omega) (fun k s i=>rfl) 1;rw[this,show (1:Int)=((1:Nat):Int)from rfl,abe e.args 0 1 (fun x hx=>(Xr n x (by have:=kV hx;omega) (by have:=kV hx;omega)).1) (by omega),BM]
  ·unfold xu OA;have:=fC (F:=fun k s i=>Fw (xu (n+1)) e k s i) (l:=e.args) (body:=fun _ e2 (n1:Int) r=>av (xu (n+1) e2) fun x2=>r (bV (n1+x2))) (fin:=fun n1=>some n1) (by omega) (fun k s i=>rfl) 1;rw[this,show (1:Int)=((1:Nat):Int)from rfl,abe e.args 0 1 (fun x hx=>(Xr n x (by have:=kV hx;omega) (by have:=kV hx;omega)).2) (by omega),BM]
theorem uN:∃n,BIG=n+1∧9223372036854775807≤n:=⟨BIG-1,by decide,by decide⟩
theorem count_eq{e:ak}(h:e.bulk<4611686018427387904):Bt e=some (ecnt e:Int)∧Nf e=some (ecnt e:Int):=by
 obtain⟨n,hn,hn2⟩:=uN;unfold Bt Nf;rw[hn];exact Xr n e (by omega) h
def isName(s:Str):Bool:=decide (1≤s.length)&&decide (s.length≤64)&&(match s with|c::_=>isLet c|[]=>false)&&s.all fun c=>isLet c||dV c
def kP(s:Str):Bool:=isName s&&!((s==([116,114,117,101]:Str))||(s==([102,97,108,115,101]:Str))||(s==([110,117,108,108]:Str)))
theorem al2(s:Str)(hs:s.length<4611686018427387904):qI s BIG 0=some (s.all fun c=>isLet c||dV c):=by
 have:=fC (F:=fun k (_:Unit) i=>qI s k i) (l:=s) (body:=fun(i:Nat) x3 _ r=>av (if !(isLet x3)then av (idx s (i:Int)) fun x5=>some (!(dV x5))else some false) fun b2=>if b2 then some false else r ()) (fin:=fun _=>some true) hs (fun k s i=>rfl) ();rw[this]
 have key:∀(t:Str) (i:Nat),t=s.drop i→fu (fun(i:Nat) x3 (_:Unit) r=>av (if !(isLet x3)then av (idx s (i:Int)) fun x5=>some (!(dV x5))else some false) fun b2=>if b2 then some false else r ()) (fun _=>some true) i t ()=some (t.all fun c=>isLet c||dV c):=by
  intro t
  induction t with
  | nil=>intro i _;rfl
  | cons c t ih=>
   intro i ht
   have hi:i<s.length:=by
    rcases aoE i s.length with h|h
    ·exact h
    ·rw[aop h]at ht;cases ht
   have hc:=aoe hi;rw[←ht]at hc;have e1:c=s[i]:=(aoX hc).1;have e2:=(aoX hc).2;rw[fu,jL hi,←e1];simp only[aj];rw[ih (i+1) e2];cases h1:isLet c<;>cases h2:dV c<;>simp[h1,h2]
 exact key s 0 rfl
theorem Ro(s:Str)(hs:s.length<4611686018427387904):xA s=some (isName s):=by
 unfold xA isName;rw[al2 s hs];by_cases h1:s.length<1
 ·have:s=[]:=by cases s;rfl;simp at h1
  subst this;simp
 ·by_cases h2:64<s.length
  ·have e1:decide ((64:Int)<(s.length:Int))=true:=by simp;omega
   have e2:decide (s.length≤64)=false:=by simp;omega
   simp[e1,e2]
  ·cases s with
   | nil=>simp at h1
   | cons c s=>
    have e1:decide ((((c::s).length:Nat):Int)<1)=false:=by simp;omega
    have e2:decide ((64:Int)<(((c::s).length:Nat):Int))=false:=by simp at h2⊢;omega
    have e3:decide ((c::s).length≤64)=true:=by simp at h2⊢;omega
    have e4:idx (c::s) 0=some c:=rfl;rw[e1,e2,e3,e4];cases h3:isLet c<;>simp[h3]
theorem ae9(s:Str)(hs:s.length<4611686018427387904):Q8 s=some (isName s):=by
 unfold Q8
 have:=fC (F:=fun k (_:Unit) i=>H8 s k i) (l:=s) (body:=fun(i:Nat) x3 _ r=>av (if !(isLet x3)then (if (i:Int)==0 then some true else av (idx s (i:Int)) fun x5=>some (!(dV x5)))else some false) fun b2=>if b2 then some false else r ())
  (fin:=fun _=>some ((decide (1≤(s.length:Int)))&&(decide ((s.length:Int)≤64)))) hs (fun k s i=>rfl) ()
 rw[this]
 have key:∀(t:Str) (i:Nat),t=s.drop i→fu (fun(i:Nat) x3 (_:Unit) r=>av (if !(isLet x3)then (if (i:Int)==0 then some true else av (idx s (i:Int)) fun x5=>some (!(dV x5)))else some false) fun b2=>if b2 then some false else r ())
   (fun _=>some ((decide (1≤(s.length:Int)))&&(decide ((s.length:Int)≤64)))) i t ()=some ((decide (1≤s.length)&&decide (s.length≤64))&&((if i=0 then (match t with|c::_=>isLet c|[]=>true)else true)&&t.all fun c=>isLet c||dV c)):=by
  intro t
  induction t with
  | nil=>
   intro i _;rw[fu];have e1:decide ((1:Int)≤(s.length:Int))=decide (1≤s.length):=by congr 1;simp;omega
   have e2:decide ((s.length:Int)≤64)=decide (s.length≤64):=by congr 1;simp;omega
   rw[e1,e2];simp
  | cons c t ih=>
   intro i ht
   have hi:i<s.length:=by
    rcases aoE i s.length with h|h
    ·exact h
    ·rw[aop h]at ht;cases ht
   have hc:=aoe hi;rw[←ht]at hc;have e1:c=s[i]:=(aoX hc).1;have e2:=(aoX hc).2;rw[fu,jL hi,←e1];simp only[aj];rw[ih (i+1) e2];by_cases h0:i=0
   ·subst h0;cases h1:isLet c<;>simp[h1]
   ·have:((i:Int)==0)=false:=by simp;omega
    rw[this];cases h1:isLet c<;>cases h2:dV c<;>simp[h1,h2,h0]
 rw[key s 0 rfl];unfold isName;cases s with
 | nil=>simp
 | cons c s=>simp[Bool.and_assoc]
theorem CG(s:Str)(hs:s.length<4611686018427387904):oh s=some (kP s)∧zm s=some (kP s):=by
 unfold oh zm kP pK;rw[Ro s hs,ae9 s hs];constructor
 ·cases isName s<;>simp
 ·simp only[aj,aoi];cases isName s<;>simp[Bool.not_or,Bool.and_assoc]
theorem Ab(s:Str):Bl s=fO s:=rfl
theorem TW(s:Str):∃n,fO s=some n:=by
 have:(fO s).isSome=true:=by
  unfold fO;simp only[apply_ite Option.isSome,Option.isSome_some,ite_self]
 exact Option.isSome_iff_exists.1 this
end Go.Ft
namespace Go.Ft
open Go
attribute [local congr] fH
def uj(s:Str):Bool:=decide (1≤s.length)&&decide (s.length≤64)
def Uc(a b:Str):Int:=(qY a b).getD 0
theorem aic{a b:Str}(ha:a.length<4611686018427387904)(hb:b.length<4611686018427387904):jC a b=some (Uc a b)∧qY a b=some (Uc a b):=by
 obtain⟨c,h1,h2⟩:=Sz ha hb;unfold Uc;rw[h2];exact⟨h1,rfl⟩
def Jj:Option Str→List Str→Bool
 | _,[]=>true
 | p,k::r=>uj k&&(match p with|none=>true|some q=>decide (Uc q k<0))&&Jj (some k) r
theorem Xc(s:Str):((decide ((s.length:Int)<1))||(decide (64<(s.length:Int))))=!uj s:=by
 unfold uj;rw[aoO];simp only[aov,aoG,aoZ,aod,aow];omega
theorem key_eq(s:Str):PL s=some (uj s):=by
 unfold PL uj;simp only[aoi];rw[aoO];simp only[aoj,aod];omega
def Ig(l:List Str)(i:Nat):Option Str:=if i=0 then none else l[i-1]?
theorem acM{v:ah}(hv:v.bulk<4611686018427387904):∀(k i:Nat),v.keys.length<k+i→i≤v.keys.length→
  qE v k (i:Int)=some (Jj (Ig v.keys i) (v.keys.drop i))∧
  uU v k (i:Int)=some (Jj (Ig v.keys i) (v.keys.drop i)&&((v.keys.length:Int)==(v.aN.length:Int)))
 | 0,i,h,h'=>by omega
 | k+1,i,h,h'=>by
  have hlen:=w9 v;rw[qE,uU];by_cases hi:i<v.keys.length
  ·have hm:v.keys[i]∈v.keys:=aoq hi;have hb:=Js hm;rw[aoe hi,aoa (by simp;omega),aoa (by simp;omega),jL hi];simp only[aj,Xc,key_eq,Jj];obtain⟨ih1,ih2⟩:=acM hv k (i+1) (by omega) (by omega);have hp:Ig v.keys (i+1)=some v.keys[i]:=by simp[Ig,hi]
   rw[hp]at ih1 ih2;rw[kr (by omega),ih1,ih2];by_cases h0:i=0
   ·subst h0;have hp0:Ig v.keys 0=none:=rfl;rw[hp0];cases uj v.keys[0]<;>simp
   ·have hi1:i-1<v.keys.length:=by omega
    have hm1:v.keys[i-1]∈v.keys:=aoq hi1;have hb1:=Js hm1;have hp0:Ig v.keys i=some v.keys[i-1]:=by simp[Ig,h0,hi1]
    have e1:bV ((i:Int)-1)=((i-1:Nat):Int):=by rw[rA (by omega)];omega
    obtain⟨c1,c2⟩:=aic (a:=v.keys[i-1]) (b:=v.keys[i]) (by omega) (by omega);have hpos:decide ((0:Int)<(i:Int))=true:=by simp;omega
    rw[hp0,e1,hpos,jL hi1];simp only[aj,c1,c2,aoc]
    have hn:decide (Uc v.keys[i-1] v.keys[i]<0)=!decide (0≤Uc v.keys[i-1] v.keys[i]):=by
     by_cases h:0≤Uc v.keys[i-1] v.keys[i]<;>simp[h]<;>omega
    rw[hn];cases uj v.keys[i]<;>cases decide (0≤Uc v.keys[i-1] v.keys[i])<;>simp
  ·have:i=v.keys.length:=by omega
   subst this;simp[Jj]
theorem Y1{v:ah}(hv:v.bulk<4611686018427387904):zY v=some (((v.keys.length:Int)==(v.aN.length:Int))&&Jj none v.keys)∧Eo v=some (((v.keys.length:Int)==(v.aN.length:Int))&&Jj none v.keys):=by
 have hlen:=w9 v;obtain⟨h1,h2⟩:=acM hv BIG 0 (by have:=iL;omega) (by omega);have hp0:Ig v.keys 0=none:=rfl;rw[hp0,aoR]at h1 h2;unfold zY Eo;rw[show (0:Int)=((0:Nat):Int)from rfl,h1,h2];by_cases h:(v.keys.length:Int)=(v.aN.length:Int)
 ·simp[h]
 ·have:((v.keys.length:Int)==(v.aN.length:Int))=false:=by simpa using h
  simp[this];intro hh;exact absurd hh h
def qC(v:ah):Bool:=
 (((((v.kind==1)||(!v.dR))&&((v.kind==2)||(v.dA==0)))&&((v.kind==3)||(v.bR==([]:Str))))&&(((v.kind==4)||(v.kind==5))||((v.aN.length:Int)==0)))&&((v.kind==5)||((v.keys.length:Int)==0))
theorem ajW(v:ah):Nh v=some (qC v):=by
 unfold Nh qC
 have hl:decide (0<(v.aN.length:Int))=!((v.aN.length:Int)==0):=by
  cases h:v.aN<;>simp;omega
 rw[hl];have hk:∀n:Int,(v.kind !=n)=!(v.kind==n):=fun n=>rfl;have hi:(v.dA !=0)=!(v.dA==0):=rfl;rw[hk,hk,hk,hk,hk,hi];generalize (v.kind==1)=a1;generalize (v.kind==2)=a2;generalize (v.kind==3)=a3;generalize (v.kind==4)=a4;generalize (v.kind==5)=a5;generalize v.dR=b;generalize (v.dA==0)=c;generalize (v.bR==([]:Str))=d;generalize ((v.aN.length:Int)==0)=e;generalize ((v.keys.length:Int)==0)=f;revert a1 a2 a3 a4 a5 b c d e f;decide
def ni(v:ah)(level:Nat):Int:=
 if 16<level then 13
 else if (decide (v.kind<0))||(decide (5<v.kind))||!qC v then 1
 else if (decide (v.dA<(-9007199254740992)))||(decide (9007199254740992<v.dA))then 2
 else if ((decide (4096<(v.bR.length:Int)))||(decide (1024<(v.aN.length:Int))))||(decide (1024<(v.keys.length:Int)))then 3
 else if v.kind==5&&!(((v.keys.length:Int)==(v.aN.length:Int))&&Jj none v.keys)then 1
 else if (((v.kind==4)||(v.kind==5))&&((v.aN.length:Int)==0))&&level==16 then 13
 else 0
theorem aia{v:ah}(hv:v.bulk<4611686018427387904)(level:Nat):Ct v (level:Int)=some (ni v level):=by
 unfold Ct ni A9;have h16:decide ((16:Int)<(level:Int))=decide (16<level):=by congr 1;simp;omega
 have akM:((level:Int)==16)=(level==16):=by
  rw[aoO];simp only[aom];omega
 rw[h16,akM,(Y1 hv).1];change (if decide (16<level)=true then some 13 else av (if (decide (v.kind<0)||decide (5<v.kind))=true then some true else av (some (qC v)) fun x1=>some (!x1)) _)=_
 by_cases h0:16<level
 ·simp[h0]
 ·simp only[h0,aoV,an_,aob,aj];cases h1:(decide (v.kind<0)||decide (5<v.kind))with
  | true=>simp
  | false=>
   cases h2:qC v with
   | false=>simp
   | true=>
    simp only[an_,aob,aos,aj,Bool.or_self];split
    ·rfl
    ·split
     ·rfl
     ·cases h3:(v.kind==5)<;>cases h4:(((v.keys.length:Int)==(v.aN.length:Int))&&Jj none v.keys)<;>simp<;>(first|rfl|(split<;>rfl))
mutual
def vO:ah→Nat→Int
 | ⟨a,b,c,d,l,f⟩,level=>if ni ⟨a,b,c,d,l,f⟩ level !=0 then ni ⟨a,b,c,d,l,f⟩ level else Cq l (level+1)
def Cq:List ah→Nat→Int
 | [],_=>0
 | x::r,level=>if vO x level !=0 then vO x level else Cq r level
end
theorem Lm(v:ah)(level:Nat):vO v level=if ni v level !=0 then ni v level else Cq v.aN (level+1):=by cases v;rw[vO]
theorem amt{go:ah→Int→Option Int}{level:Nat}:∀(l:List ah) (i:Nat),(∀x∈l,go x ((level+1:Nat):Int)=some (vO x (level+1)))→
  fu (fun _ e1 (_:Unit) r=>av (go e1 ((level+1:Nat):Int)) fun e2=>if e2 !=0 then some e2 else r ()) (fun _=>some 0) i l ()=some (Cq l (level+1))
 | [],i,_=>by simp[fu,Cq]
 | x::r,i,h=>by
  rw[fu,h x (by simp),Cq];simp only[aj];rw[amt r (i+1) (fun y hy=>h y (by simp[hy]))];split<;>rfl
theorem Zv:∀(n:Nat) (v:ah) (level:Nat),v.bulk≤n→v.bulk<4611686018427387904→level≤17→xw (n+1) v (level:Int)=some (vO v level)
 | 0,v,_,h,_,_=>by have:=v.lK;omega
 | n+1,v,level,h,hB,hlv=>by
  have hl:=wZ v;rw[Lm];unfold xw OE;have h16:decide ((16:Int)<(level:Int))=decide (16<level):=by congr 1;simp;omega
  have akM:((level:Int)==16)=(level==16):=by
   rw[aoO];simp only[aom];omega
  rw[h16,akM,(Y1 hB).2,ajW];unfold ni;by_cases h0:16<level
  ·simp[h0]
  ·have hw:bV ((level:Int)+1)=((level+1:Nat):Int):=kr (by omega);have:=fC (F:=fun k (_:Unit) i=>Fy (xw (n+1)) v (level:Int) k i) (l:=v.aN) (body:=fun _ e1 _ r=>av (xw (n+1) e1 ((level+1:Nat):Int)) fun e2=>if e2 !=0 then some e2 else r ()) (fin:=fun _=>some 0) (by omega) (fun k s i=>by rw[←hw];rfl) ();rw[this,amt v.aN 0 fun x hx=>Zv n x (level+1) (by have:=jg hx;omega) (by have:=jg hx;omega) (by omega)];simp only[h0,aoV,an_,aob,aj];cases h1:(decide (v.kind<0)||decide (5<v.kind))with
   | true=>simp
   | false=>
    cases h2:qC v with
    | false=>simp
    | true=>
     simp only[an_,aob,aos,aj,Bool.or_self];split
     ·simp
     ·split
      ·simp
      ·have h4:decide ((4:Int)≤v.kind)=((v.kind==4)||(v.kind==5)):=by
        simp only[aoF,aow]at h1;rw[aoO];simp only[aov,aod,aom];omega
       rw[h4]
       cases h3:(v.kind==5)<;>cases h5:(((v.keys.length:Int)==(v.aN.length:Int))&&Jj none v.keys)<;>simp<;>(first|rfl|(split<;>simp<;>rename_i hq<;>(first
        | exact fun hh=>absurd hq.2 (hh hq.1.1 hq.1.2)
        | exact fun a b c=>absurd ⟨⟨a,b⟩,c⟩ hq)))
theorem V_{v:ah}(h:v.bulk<4611686018427387904):Cc v=some (vO v 1):=by
 obtain⟨n,hn,hn2⟩:=uN;unfold Cc Vj;rw[hn];exact Zv n v 1 (by omega) h (by omega)
def Qg(c:Int):Bool × Option Int:=if c !=0 then (false,some c)else (true,none)
theorem als{v:ah}(hv:v.bulk<4611686018427387904)(level:Nat):mP none (level:Int) v=some (Qg (ni v level)):=by
 unfold mP Qg;simp only[aia hv,aj];by_cases h:ni v level=0<;>simp[h]
theorem aiT{go:Option Int→ah→Int→Option (Bool × Option Int)}{level:Nat}:∀(l:List ah) (i:Nat),(∀x∈l,go none x ((level+1:Nat):Int)=some (Qg (vO x (level+1))))→
  fu (fun _ x1 (s1:Option Int) r=>fI (go s1 x1 ((level+1:Nat):Int)) fun b1 s2=>if !b1 then some (false,s2)else r s2) (fun s1=>some (true,s1)) i l none=some (Qg (Cq l (level+1)))
 | [],i,_=>by simp[fu,Cq,Qg]
 | x::r,i,h=>by
  rw[fu,h x (by simp),Cq];by_cases hc:vO x (level+1)=0
  ·simp only[hc,Qg,aoT,an_,aob,aA,aos];rw[aiT r (i+1) (fun y hy=>h y (by simp[hy]))];rfl
  ·simp[hc,Qg]
theorem aex:∀(n:Nat) (v:ah) (level:Nat),v.bulk≤n→v.bulk<4611686018427387904→level≤17→gW mP (n+1) none v (level:Int)=some (Qg (vO v level))
 | 0,v,_,h,_,_=>by have:=v.lK;omega
 | n+1,v,level,h,hB,hlv=>by
  have hl:=wZ v;rw[Lm];unfold gW uP;rw[als hB];by_cases h0:ni v level=0
  ·have anh:level≤16:=by
    rcases aoE 16 level with h|h
    ·unfold ni at h0;simp[h]at h0
    ·exact h
   have hw:bV ((level:Int)+1)=((level+1:Nat):Int):=kr (by omega);have:=fC (F:=fun k s i=>lS (gW mP (n+1)) v (level:Int) k s i) (l:=v.aN) (body:=fun _ x1 (s1:Option Int) r=>fI (gW mP (n+1) s1 x1 ((level+1:Nat):Int)) fun b1 s2=>if !b1 then some (false,s2)else r s2) (fin:=fun s1=>some (true,s1)) (by omega) (fun k s i=>by rw[←hw];rfl) none;simp only[h0,Qg,aoT,an_,aob,aA,aos];rw[this,aiT v.aN 0 fun x hx=>aex n x (level+1) (by have:=jg hx;omega) (by have:=jg hx;omega) (by omega)];rfl
  ·simp[h0,Qg]
theorem ED{v:ah}(h:v.bulk<4611686018427387904):kM v=some (vO v 1):=by
 obtain⟨n,hn,hn2⟩:=uN;unfold kM Cr;rw[hn,show (1:Int)=((1:Nat):Int)from rfl,aex n v 1 (by omega) h (by omega)];unfold Qg;by_cases hc:vO v 1=0<;>simp[hc]
end Go.Ft
namespace Go.Ft
open Go
attribute [local congr] fH
def Oj(v:ah):Bool:=(((((v.kind==0)&&(!v.dR))&&(v.dA==0))&&(v.bR==([]:Str)))&&((v.aN.length:Int)==0))&&((v.keys.length:Int)==0)
theorem zero_eq(v:ah):DR v=some (Oj v):=rfl
theorem ac6(v:ah):Rb v (ah.mk 0 false 0 ([]:Str) [] [])=some (Oj v):=by
 obtain⟨n,hn,hn2⟩:=uN;obtain⟨m,hm⟩:∃m,n=m+1:=⟨n-1,by omega⟩;have hB:BIG=(m+1)+1:=by omega
 unfold Rb;rw[hB,KE,Ra]
 have hz:Oj v=!(((((v.kind !=0)||(!(v.dR==false)))||(v.dA !=0))||(!(v.bR==([]:Str))))||((v.aN.length:Int) !=(([]:List ah).length:Int))||((v.keys.length:Int) !=(([]:List Str).length:Int))):=by
  unfold Oj;have hk:(v.kind !=0)=!(v.kind==0):=rfl;have hi:(v.dA !=0)=!(v.dA==0):=rfl;have hl:((v.aN.length:Int) !=(([]:List ah).length:Int))=!((v.aN.length:Int)==0):=rfl;have hks:((v.keys.length:Int) !=(([]:List Str).length:Int))=!((v.keys.length:Int)==0):=rfl;rw[hk,hi,hl,hks];generalize (v.kind==0)=a;generalize v.dR=b;generalize (v.dA==0)=c;generalize (v.bR==([]:Str))=d;generalize ((v.aN.length:Int)==0)=e;generalize ((v.keys.length:Int)==0)=f;revert a b c d e f;decide
 cases h:(((((v.kind !=0)||(!(v.dR==false)))||(v.dA !=0))||(!(v.bR==([]:Str))))||((v.aN.length:Int) !=(([]:List ah).length:Int))||((v.keys.length:Int) !=(([]:List Str).length:Int)))with
 | true=>
  rw[hz,h];rfl
 | false=>
  rw[hz,h];simp only[aoF]at h;have hl:v.aN=[]:=by have:=h.1.2;simpa using this
  have hk:v.keys=[]:=by have:=h.2;simpa using this
  simp only[an_,aob,aoz];rw[hB,Ia,hk];simp only[aoU,Int.lt_irrefl,aoV,an_,aob,Int.ofNat_zero];rw[hB,H_,hl];simp
def vI(e:ak):Bool:=
 if e.kind==1 then (e.args.length:Int)==0 else if e.kind==2 then (e.args.length:Int)==0 else if e.kind==3 then (e.args.length:Int)==1 else if e.kind==6 then (e.args.length:Int)==1
 else if e.kind==4 then (e.args.length:Int)==2 else if e.kind==7 then (e.args.length:Int)==2 else if e.kind==8 then (e.args.length:Int)==3 else ((e.kind==5)||(e.kind==9))||(e.kind==10)
theorem aiM(e:ak):Nb e=some (vI e):=by
 unfold Nb vI;simp only[apply_ite some]
def CV(e:ak):Bool:=!((decide (e.kind<1))||(decide (10<e.kind)))
theorem ak1(e:ak)(h:CV e=true):xZ e=some (vI e):=by
 unfold xZ vI;unfold CV at h;simp only[aoG,aoF,aow]at h;simp only[apply_ite some]
 have hh:¬e.kind=1→¬e.kind=2→¬e.kind=3→¬e.kind=6→¬e.kind=4→¬e.kind=7→¬e.kind=8→(((e.kind==5)||(e.kind==9))||(e.kind==10))=true:=by
  intro h1 h2 h3 h6 h4 h7 h8;simp only[aov,aom];omega
 by_cases h1:e.kind=1
 ·simp[h1]
 by_cases h2:e.kind=2
 ·simp[h2]
 by_cases h3:e.kind=3
 ·simp[h3]
 by_cases h6:e.kind=6
 ·simp[h6]
 by_cases h4:e.kind=4
 ·simp[h4]
 by_cases h7:e.kind=7
 ·simp[h7]
 by_cases h8:e.kind=8
 ·simp[h8]
 rw[hh h1 h2 h3 h6 h4 h7 h8]
 all_goals simp[h1,h2,h3,h4,h6,h7,h8]
def Fg(s:Str):Int:=(fO s).getD 0
theorem MX(s:Str):fO s=some (Fg s):=by
 obtain⟨n,h⟩:=TW s;unfold Fg;rw[h];rfl
def C9(e:ak):Bool:=
 if e.kind==2 then kP e.name else if e.kind==3 then kP e.name else if e.kind==5 then kP e.name else if e.kind==6 then (e.name==([33]:Str))||(e.name==([45]:Str))
 else if e.kind==7 then decide (0<Fg e.name)else e.name==([]:Str)
theorem YP(e:ak)(h:e.bulk<4611686018427387904):xX e=some (C9 e)∧Na e=some (C9 e):=by
 have hn:=adS e;obtain⟨p1,p2⟩:=CG e.name (by omega);unfold xX Na C9;rw[p1,p2,Ab,MX];simp only[aj,apply_ite some,and_self]
theorem anG(l:List Str)(hl:l.length<4611686018427387904):h_ l kX=some (l.any fun k=>!uj k):=by
 unfold h_ jH;have:=fC (F:=fun k (_:Unit) i=>g_ l kX k i) (l:=l) (body:=fun(i:Nat) e1 _ r=>av (kX e1) fun x1=>if x1 then some (i:Int)else r ()) (fin:=fun _=>some (-1)) hl (fun k s i=>rfl) ();rw[this]
 have key:∀(t:List Str) (i:Nat),av (fu (fun(i:Nat) e1 (_:Unit) r=>av (kX e1) fun x1=>if x1 then some (i:Int)else r ()) (fun _=>some (-1)) i t ()) (fun x1=>some (decide (0≤x1)))=some (t.any fun k=>!uj k):=by
  intro t
  induction t with
  | nil=>intro i;rfl
  | cons c t ih=>
   intro i;rw[fu];have e1:kX c=some (!uj c):=by unfold kX;rw[Xc]
   rw[e1];simp only[aj,apW];cases h:uj c with
   | false=>simp
   | true=>
    simp only[aos,an_,aob,aoW];exact ih (i+1)
 exact key l 0
def IV(e:ak):Bool:=if e.kind !=10 then (e.keys.length:Int)==0 else ((e.keys.length:Int)==(e.args.length:Int))&&!(e.keys.any fun k=>!uj k)
theorem akF(e:ak)(h:e.bulk<4611686018427387904):xY e=some (IV e):=by
 have hk:=JK e;unfold xY IV;rw[anG e.keys (by omega)];split
 ·rfl
 ·cases ((e.keys.length:Int)==(e.args.length:Int))<;>simp
theorem aip(e:ak)(h:e.bulk<4611686018427387904):zN e BIG 0=some (!(e.keys.any fun k=>!uj k)&&((e.keys.length:Int)==(e.args.length:Int))):=by
 have hk:=JK e
 have:=fC (F:=fun k (_:Unit) i=>zN e k i) (l:=e.keys) (body:=fun(i:Nat) e2 _ r=>av (if decide ((e2.length:Int)<1)then some true else av (idx e.keys (i:Int)) fun e3=>some (decide (64<(e3.length:Int)))) fun b4=>if b4 then some false else r ())
  (fin:=fun _=>some ((e.keys.length:Int)==(e.args.length:Int))) (by omega) (fun k s i=>rfl) ()
 rw[this]
 have key:∀(t:List Str) (i:Nat),t=e.keys.drop i→fu (fun(i:Nat) e2 (_:Unit) r=>av (if decide ((e2.length:Int)<1)then some true else av (idx e.keys (i:Int)) fun e3=>some (decide (64<(e3.length:Int)))) fun b4=>if b4 then some false else r ())
   (fun _=>some ((e.keys.length:Int)==(e.args.length:Int))) i t ()=some (!(t.any fun k=>!uj k)&&((e.keys.length:Int)==(e.args.length:Int))):=by
  intro t
  induction t with
  | nil=>intro i _;rfl
  | cons c t ih=>
   intro i ht
   have hi:i<e.keys.length:=by
    rcases aoE i e.keys.length with h|h
    ·exact h
    ·rw[aop h]at ht;cases ht
   have hc:=aoe hi;rw[←ht]at hc;have e1:c=e.keys[i]:=(aoX hc).1;have e2:=(aoX hc).2;rw[fu,jL hi,←e1];simp only[aj,apW];rw[ih (i+1) e2];have e3:=Xc c;cases h1:decide ((List.length c:Int)<1)<;>rw[h1]at e3
   ·simp only[aoW]at e3;simp only[an_,aob,aj,e3];cases uj c<;>simp
   ·simp only[Bool.true_or]at e3
    have:uj c=false:=by
     cases h:uj c with
     | false=>rfl
     | true=>rw[h]at e3;cases e3
    simp[this]
 exact key e.keys 0 rfl
def wH(e:ak):Bool:=CV e&&((e.kind==1)||Oj e.value)&&C9 e&&vI e&&IV e
theorem abq(e:ak)(h:vI e=true):CV e=true:=by
 unfold vI at h;unfold CV;simp only[aoG,aoF,aow];by_cases h1:e.kind=1
 ·omega
 by_cases h2:e.kind=2
 ·omega
 by_cases h3:e.kind=3
 ·omega
 by_cases h6:e.kind=6
 ·omega
 by_cases h4:e.kind=4
 ·omega
 by_cases h7:e.kind=7
 ·omega
 by_cases h8:e.kind=8
 ·omega
 simp[h1,h2,h3,h4,h6,h7,h8]at h;omega
theorem adN(e:ak)(h:e.bulk<4611686018427387904):KA e=some (wH e):=by
 unfold KA wH;rw[aiM,(YP e h).2,ac6,aip e h];have hk:=abq e;unfold IV;have hne:(e.kind !=1)=!(e.kind==1):=rfl;rw[hne];cases h1:vI e with
 | false=>cases (e.kind==1)<;>simp
 | true=>
  rw[hk h1];cases h2:C9 e with
  | false=>cases (e.kind==1)<;>simp
  | true=>
   cases h3:(e.kind==1)<;>cases h4:Oj e.value<;>simp<;>(first|done|(split<;>simp[Bool.and_comm]))
theorem JD(y:List (Str × Int))(s t:Str)(n:Int):qz (sZ y s n) t=if t=s then n else qz y t:=by
 induction y with
 | nil=>by_cases h:t=s<;>simp[sZ,qz,h]
 | cons a y ih=>
  obtain⟨k,v⟩:=a;unfold sZ;by_cases h:s=k
  ·subst h;simp only[aoM,aoc];unfold qz;by_cases h2:t=s
   ·simp[h2]
   ·have:(t==s)=false:=aok.2 h2;simp[this,h2]
  ·have:(s==k)=false:=aok.2 h;rw[this];simp only[an_,aob];unfold qz;by_cases h2:t=k
   ·subst h2;have:¬t=s:=fun hh=>h hh.symm;simp[this]
   ·have h3:(t==k)=false:=aok.2 h2;rw[h3];simp only[an_,aob];exact ih
def Mt:List Str→List Str→Bool
 | _,[]=>false
 | seen,s::r=>seen.contains s||Mt (seen++[s]) r
theorem ajS(l:List Str)(hl:l.length<4611686018427387904):sj l=some (Mt [] l):=by
 unfold sj;have:=fC (F:=fun k s i=>oP l k i s) (l:=l) (body:=fun _ s1 (y1:List (Str × Int)) r=>if decide (1<(qz (sZ y1 s1 (bV ((qz y1 s1)+1))) s1))then some true else r (sZ y1 s1 (bV ((qz y1 s1)+1)))) (fin:=fun _=>some false) hl (fun k s i=>rfl) [];rw[this]
 have key:∀(t:List Str) (i:Nat) (y:List (Str × Int)) (seen:List Str),(∀s,qz y s=if s∈seen then 1 else 0)→
   fu (fun _ s1 (y1:List (Str × Int)) r=>if decide (1<(qz (sZ y1 s1 (bV ((qz y1 s1)+1))) s1))then some true else r (sZ y1 s1 (bV ((qz y1 s1)+1)))) (fun _=>some false) i t y=some (Mt seen t):=by
  intro t
  induction t with
  | nil=>intro i y seen _;rfl
  | cons c t ih=>
   intro i y seen hy;rw[fu,Mt,JD,aoa rfl,hy c];by_cases hc:c∈seen
   ·have:bV 2=2:=by decide
    simp[hc,this]
   ·have:bV ((0:Int)+1)=1:=by decide
    simp only[hc,aob,this];have e:seen.contains c=false:=by simpa using hc
    rw[e];simp only[Int.lt_irrefl,aoV,an_,aob,aoW];refine ih (i+1) _ (seen++[c]) fun s=>?_;rw[JD,hy s];by_cases h1:s=c
    ·subst h1;simp
    ·simp[h1]
 exact key l 0 [] [] (fun s=>by simp[qz])
theorem Yb(l:List Str)(i:Nat)(hi:i<l.length)(hl:l.length<4611686018427387904)(go:Int→Option Bool):∀(k j:Nat),i<k+j→j≤i→
  Bj l (i:Int) go k (j:Int)=if ((l.take i).drop j).contains l[i]then some true else go ((i+1:Nat):Int)
 | 0,j,h,h'=>by omega
 | k+1,j,h,h'=>by
  rw[Bj];by_cases hj:j<i
  ·have hlt:j<(l.take i).length:=by simp;omega
   rw[aoa (by simpa using hj),jL hi,jL (by omega),aoe hlt];simp only[aj,List.contains_cons,List.getElem_take];cases h1:(l[i]==l[j])with
   | true=>simp
   | false=>
    simp only[an_,aob,aoW];rw[kr (by omega)];exact Yb l i hi hl go k (j+1) (by omega) (by omega)
  ·have:j=i:=by omega
   subst this;rw[an9 (by simp),kr (by omega)];have:(List.take j l).drop j=[]:=aop (by simp;omega);rw[this];simp
theorem U0(l:List Str)(hl:l.length<4611686018427387904):∀(k i:Nat),l.length<k+i→i≤l.length→xS l k (i:Int)=some (Mt (l.take i) (l.drop i))
 | 0,i,h,h'=>by omega
 | k+1,i,h,h'=>by
  rw[xS];by_cases hi:i<l.length
  ·rw[aoa (by simpa using hi),aoe hi,Mt];have:=Yb l i hi hl (xS l k) BIG 0 (by have:=iL;omega) (by omega);rw[show (0:Int)=((0:Nat):Int)from rfl,this,aoR,U0 l hl k (i+1) (by omega) (by omega)];have e:List.take (i+1) l=List.take i l++[l[i]]:=by rw[List.take_add_one,aoh hi];rfl
   rw[e];cases (l.take i).contains l[i]<;>simp
  ·have:i=l.length:=by omega
   subst this;simp[Mt]
theorem aeL(l:List Str)(hl:l.length<4611686018427387904):M_ l=some (Mt [] l):=by
 have:=U0 l hl BIG 0 (by have:=iL;omega) (by omega);simpa[M_]using this
def zW(e:ak)(level:Nat):Int:=
 if 16<level then 13 else if !wH e then 1 else if e.kind==1&&(vO e.value 1 !=0)then vO e.value 1 else if decide (1024<(e.args.length:Int))then 3 else if Mt [] e.keys then 7 else 0
theorem afg(e:ak)(h:e.bulk<4611686018427387904)(level:Nat):Ag e (level:Int)=some (zW e level):=by
 have hk:=JK e;have hv:=IJ e;unfold Ag zW;have h16:decide ((16:Int)<(level:Int))=decide (16<level):=by congr 1;simp;omega
 rw[h16,zero_eq,(YP e h).1,akF e h,ED (by omega),ajS e.keys (by omega)];by_cases h0:16<level
 ·simp[h0]
 ·simp only[h0,aoV,an_,aob,aj];have hkd:((decide (e.kind<1))||(decide (10<e.kind)))=!CV e:=by simp[CV]
  have hne:(e.kind !=1)=!(e.kind==1):=rfl;rw[hkd,hne];unfold wH;cases h1:CV e with
  | false=>simp
  | true=>
   rw[ak1 e h1]
   cases h3:(e.kind==1)<;>cases h4:Oj e.value<;>cases h5:C9 e<;>cases h6:vI e<;>cases h7:IV e<;>simp <;>
    (first|done|(split<;>(first|rfl|(split<;>(first|rfl|(split<;>rfl))))))
end Go.Ft
namespace Go.Ft
open Go
attribute [local congr] fH
mutual
def E_:ak→Nat→Int
 | ⟨a,b,c,l,f⟩,level=>if zW ⟨a,b,c,l,f⟩ level !=0 then zW ⟨a,b,c,l,f⟩ level else Lc l (level+1)
def Lc:List ak→Nat→Int
 | [],_=>0
 | x::r,level=>if E_ x level !=0 then E_ x level else Lc r level
end
theorem Pv(e:ak)(level:Nat):E_ e level=if zW e level !=0 then zW e level else Lc e.args (level+1):=by cases e;rw[E_]
theorem Ku{go:ak→Int→Option Int}{level:Nat}:∀(l:List ak) (i:Nat),(∀x∈l,go x ((level+1:Nat):Int)=some (E_ x (level+1)))→
  fu (fun _ e1 (_:Unit) r=>av (go e1 ((level+1:Nat):Int)) fun e2=>if e2 !=0 then some e2 else r ()) (fun _=>some 0) i l ()=some (Lc l (level+1))
 | [],i,_=>by simp[fu,Lc]
 | x::r,i,h=>by
  rw[fu,h x (by simp),Lc];simp only[aj];rw[Ku r (i+1) (fun y hy=>h y (by simp[hy]))];split<;>rfl
theorem Qd:∀(n:Nat) (e:ak) (level:Nat),e.bulk≤n→e.bulk<4611686018427387904→level≤17→lW (n+1) e (level:Int)=some (E_ e level)∧xq (n+1) e (level:Int)=some (E_ e level)
 | 0,e,_,h,_,_=>by have:=e.lK;omega
 | n+1,e,level,h,hB,hlv=>by
  have hl:=VE e;have hv:=IJ e;have hks:=JK e;have hw:bV ((level:Int)+1)=((level+1:Nat):Int):=kr (by omega);constructor
  ·rw[Pv];unfold lW xW;have:=fC (F:=fun k (_:Unit) i=>r_ (lW (n+1)) e (level:Int) k i) (l:=e.args) (body:=fun _ e1 _ r=>av (lW (n+1) e1 ((level+1:Nat):Int)) fun e2=>if e2 !=0 then some e2 else r ()) (fin:=fun _=>some 0) (by omega) (fun k s i=>by rw[←hw];rfl) ();rw[afg e hB,this];simp only[aj];by_cases h0:zW e level=0
   ·have anh:level≤16:=by
     rcases aoE 16 level with h|h
     ·unfold zW at h0;simp[h]at h0
     ·exact h
    rw[Ku e.args 0 fun x hx=>(Qd n x (level+1) (by have:=kV hx;omega) (by have:=kV hx;omega) (by omega)).1];simp[h0]
   ·simp[h0]
  ·rw[Pv];unfold xq Oz;have:=fC (F:=fun k (_:Unit) i=>Fu (xq (n+1)) e (level:Int) k i) (l:=e.args) (body:=fun _ e1 _ r=>av (xq (n+1) e1 ((level+1:Nat):Int)) fun e2=>if e2 !=0 then some e2 else r ()) (fin:=fun _=>some 0) (by omega) (fun k s i=>by rw[←hw];rfl) ();have h16:decide ((16:Int)<(level:Int))=decide (16<level):=by congr 1;simp;omega
   rw[adN e hB,V_ (by omega),aeL e.keys (by omega),this,h16];by_cases h0:16<level
   ·simp[zW,h0]
   ·rw[Ku e.args 0 fun x hx=>(Qd n x (level+1) (by have:=kV hx;omega) (by have:=kV hx;omega) (by omega)).2];unfold zW;simp only[h0,aoV,an_,aob,aj];cases wH e with
    | false=>simp
    | true=>
     simp only[aos,an_,aob];cases h1:(e.kind==1&&(vO e.value 1 !=0))with
     | true=>
      have:vO e.value 1≠0:=by simp at h1;exact h1.2
      simp[this]
     | false=>
      simp only[an_,aob];by_cases h2:(1024:Int)<(e.args.length:Int)
      ·simp[h2]
      ·simp only[h2,aoV,an_,aob];cases Mt [] e.keys<;>simp
def xval(e:ak):Int:=if 4096<ecnt e then 15 else E_ e 1
theorem Pt{e:ak}(h:e.bulk<4611686018427387904):kD e=some (xval e)∧Nc e=some (xval e):=by
 obtain⟨n,hn,hn2⟩:=uN;obtain⟨c1,c2⟩:=count_eq h;obtain⟨v1,v2⟩:=Qd n e 1 (by omega) h (by omega);unfold kD Nc xval FH Vh;rw[c1,c2,hn];have:decide ((4096:Int)<(ecnt e:Int))=decide (4096<ecnt e):=by congr 1;simp;omega
 simp only[aj,this];rw[show (1:Int)=((1:Nat):Int)from rfl,v1,v2];by_cases h4:4096<ecnt e<;>simp[h4]
inductive Ty where
 | leaf (k:Int)
 | nest (k:Int) (t:Ty)
namespace Ty
def api:Ty→aI
 | leaf k=>⟨k,[]⟩
 | nest k t=>⟨k,[t.api]⟩
def wf:Ty→Prop
 | leaf k=>0≤k∧k≤7∧k≠5∧k≠6
 | nest k t=>(k=5∨k=6)∧t.wf
def dep:Ty→Nat
 | leaf _=>1
 | nest _ t=>1+t.dep
def kind:Ty→Int
 | leaf k=>k
 | nest k _=>k
theorem amz(t:Ty):t.api.kind=t.kind:=by cases t<;>rfl
theorem acw(t:Ty):1≤t.dep:=by cases t<;>simp[dep]<;>omega
end Ty
theorem RD{k:Int}(h:0≤k∧k≤7):∃s,w_ k=some s∧(s==([]:Str))=false:=by
 obtain⟨n,rfl⟩:∃n:Nat,k=n:=⟨k.toNat,by omega⟩;have hn:n<8:=by omega
 match n,hn with
 | 0,_=>exact⟨_,rfl,rfl⟩
 | 1,_=>exact⟨_,rfl,rfl⟩
 | 2,_=>exact⟨_,rfl,rfl⟩
 | 3,_=>exact⟨_,rfl,rfl⟩
 | 4,_=>exact⟨_,rfl,rfl⟩
 | 5,_=>exact⟨_,rfl,rfl⟩
 | 6,_=>exact⟨_,rfl,rfl⟩
 | 7,_=>exact⟨_,rfl,rfl⟩
theorem afQ{k:Int}(h:¬(0≤k∧k≤7)):w_ k=some []:=by
 unfold w_;rw[aoa (by simp;omega)]
theorem aeM:∀(k level:Nat) (t:aI),18≤k+level→level≤17→∃c,lu k (level:Int) t=some c∧DN k t (level:Int)=some c∧(c=0→∃T:Ty,T.wf∧t=T.api∧T.dep+level≤17)
 | 0,level,t,h,h'=>by omega
 | k+1,level,t,h,h'=>by
  rw[lu,DN,OB];have h16:decide ((16:Int)<(level:Int))=decide (16<level):=by congr 1;simp;omega
  rw[h16];by_cases h0:16<level
  ·exact⟨13,by simp[h0],by simp[h0],by simp⟩
  ·simp only[h0,aoV,an_,aob];by_cases hk:0≤t.kind∧t.kind≤7
   ·obtain⟨s,hs,hs2⟩:=RD hk;have hb:(decide (t.kind<0)||decide (7<t.kind))=false:=by simp;omega
    rw[hs,hb];simp only[aj,hs2,lU,Vi,an_,aob];cases hn:((t.kind==5)||(t.kind==6))with
    | false=>
     simp only[aoL,aoz,aoN,an_,aob,aj,aoc];cases he:t.elem with
     | nil=>
      refine⟨0,by simp,by simp,fun _=>⟨.leaf t.kind,?_,?_,?_⟩⟩
      ·simp at hn;exact⟨hk.1,hk.2,hn.1,hn.2⟩
      ·cases t;simp at he;subst he;rfl
      ·simp only[Ty.dep];omega
     | cons x r=>exact⟨1,by first|(simp;done)|(simp;omega),by first|(simp;done)|(simp;omega),by simp⟩
    | true=>
     simp only[aoN,aos,aoL,an_,aob];have hnk:t.kind=5∨t.kind=6:=by simpa using hn
     match he:t.elem with
     | []=>exact⟨1,by simp,by simp,by simp⟩
     | [x]=>
      obtain⟨c,c1,c2,c3⟩:=aeM k (level+1) x (by omega) (by omega);have hw:bV ((level:Int)+1)=((level+1:Nat):Int):=kr (by omega);refine⟨c,?_,?_,fun hc=>?_⟩
      ·rw[hw,←c1];simp[idx]
      ·rw[hw,←c2];simp[idx]
      ·obtain⟨T,w1,w2,w3⟩:=c3 hc;refine⟨.nest t.kind T,⟨hnk,w1⟩,?_,?_⟩
       ·cases t;simp at he;subst he;simp[Ty.api,w2]
       ·simp only[Ty.dep];omega
     | x::y::r=>
      have hl:(((x::y::r).length:Int) !=1)=true:=by simp only[aog,aoA];omega
      exact⟨1,by simp only[hl,aoc,aj],by simp only[hl,aoc],by simp⟩
   ·have hb:(decide (t.kind<0)||decide (7<t.kind))=true:=by simp;omega
    rw[afQ hk,hb];exact⟨1,by simp,by simp,by simp⟩
theorem aiX:∀(T:Ty) (k level:Nat),T.wf→T.dep+level≤17→18≤k+level→lu k (level:Int) T.api=some 0
 | .leaf a,0,level,_,h,h'=>by simp only[Ty.dep]at h;omega
 | .leaf a,k+1,level,hw,h,h'=>by
  simp only[Ty.dep]at h;have h16:decide ((16:Int)<(level:Int))=false:=aor (by omega);obtain⟨s,hs,hs2⟩:=RD (k:=a) ⟨hw.1,hw.2.1⟩;have hn:((a==5)||(a==6))=false:=by simp;exact⟨hw.2.2.1,hw.2.2.2⟩
  simp[lu,h16,Ty.api,hs,aok.1 hs2,lU,hn]
 | .nest a T,0,level,_,h,h'=>by simp only[Ty.dep]at h;have:=T.acw;omega
 | .nest a T,k+1,level,hw,h,h'=>by
  simp only[Ty.dep]at h;have hd:=T.acw;have h16:decide ((16:Int)<(level:Int))=false:=aor (by omega);have hn:((a==5)||(a==6))=true:=by simpa using hw.1
  obtain⟨s,hs,hs2⟩:=RD (k:=a) (by rcases hw.1 with h|h<;>omega);have hw64:bV ((level:Int)+1)=((level+1:Nat):Int):=kr (by omega);have:=aiX T k (level+1) hw.2 (by omega) (by omega);rw[←this,←hw64];simp[lu,h16,Ty.api,hs,aok.1 hs2,lU,hn,idx]
def aal(t:aI):Int:=(nY t).getD 0
theorem ahx(t:aI):nY t=some (aal t)∧Ng t=some (aal t)∧(aal t=0→∃T:Ty,T.wf∧t=T.api∧T.dep≤16):=by
 obtain⟨c,c1,c2,c3⟩:=aeM BIG 1 t (by have:=iL;omega) (by omega);have e1:nY t=some c:=c1;have e2:Ng t=some c:=c2;have:aal t=c:=by unfold aal;rw[e1];rfl
 rw[this];exact⟨e1,e2,fun h=>by obtain⟨T,a,b,d⟩:=c3 h;exact⟨T,a,b,by omega⟩⟩
theorem ahw{T:Ty}(h:T.wf)(hd:T.dep≤16):aal T.api=0:=by
 have:=aiX T BIG 1 h (by omega) (by have:=iL;omega);have e1:nY T.api=some 0:=this;unfold aal;rw[e1];rfl
end Go.Ft
namespace Go.Ft
open Go
attribute [local congr] fH
def ZT:aI:=aI.mk 0 []
def sc(k:Int):Ty:=.leaf k
def amq(x:Option (aI × Bool)):Option (aI × Int):=
 fI x fun x6 ok1=>if !ok1 then some (ZT,9)else av (Ng x6) fun x7=>if x7 !=0 then some (ZT,13)else some (x6,0)
def RES(x y:Option (aI × Int)):Prop:=∃(T:Ty) (c:Int),T.wf∧T.dep≤16∧(c≠0→T=sc 0)∧x=some (T.api,c)∧y=some (T.api,c)
theorem RES.mk{x:Option (aI × Int)}{y:Option (aI × Bool)}(T:Ty)(b:Bool)(hx:x=some (if b then (T.api,0)else (ZT,9)))(hy:y=some (T.api,b))(hw:b=true→T.wf∧T.dep≤16):RES x (amq y):=by
 subst hx hy;unfold amq;cases b with
 | false=>exact⟨sc 0,9,by simp[sc,Ty.wf],by simp[sc,Ty.dep],fun _=>rfl,rfl,rfl⟩
 | true=>
  obtain⟨h1,h2⟩:=hw rfl;refine⟨T,0,h1,h2,fun h=>absurd rfl h,rfl,?_⟩;simp only[aA,aos,an_,aob,(ahx _).2.1,ahw h1 h2];rfl
end Go.Ft
namespace Go.Ft
open Go
attribute [local congr] fH
def opsL:List Str:=[[38,38],[124,124],[61,61],[33,61],[60],[60,61],[62],[62,61],[45],[42],[47],[37],[43]]
theorem aao{s:Str}(h:0<Fg s):s∈opsL:=by
 unfold Fg fO at h;unfold opsL;by_cases h1:s=[124,124]
 ·simp[h1]
 by_cases h2:s=[38,38]
 ·simp[h2]
 by_cases h3:s=[61,61]
 ·simp[h3]
 by_cases h4:s=[33,61]
 ·simp[h4]
 by_cases h5:s=[60]
 ·simp[h5]
 by_cases h6:s=[60,61]
 ·simp[h6]
 by_cases h7:s=[62]
 ·simp[h7]
 by_cases h8:s=[62,61]
 ·simp[h8]
 by_cases h9:s=[43]
 ·simp[h9]
 by_cases h10:s=[45]
 ·simp[h10]
 by_cases h11:s=[42]
 ·simp[h11]
 by_cases h12:s=[47]
 ·simp[h12]
 by_cases qp:s=[37]
 ·simp[qp]
 simp[h1,h2,h3,h4,h5,h6,h7,h8,h9,h10,h11,h12,qp]at h
end Go.Ft
namespace Go.Ft
open Go
attribute [local congr] fH
theorem af6(p q:Bool):(if p=true then some true else some q)=some (p||q):=by cases p<;>rfl
theorem PW(p q:Bool):(if p=true then some q else some false)=some (p&&q):=by cases p<;>rfl
end Go.Ft
namespace Go.Ft
open Go
attribute [local congr] fH
theorem aac{v:ah}{level:Nat}(h:ni v level=0):level≤16∧0≤v.kind∧v.kind≤5∧(v.kind=4∨v.kind=5→v.aN=[]→level≠16):=by
 unfold ni at h;by_cases h0:16<level
 ·simp[h0]at h
 ·rw[an9 h0]at h;cases h1:(decide (v.kind<0)||decide (5<v.kind)||!qC v)with
  | true=>rw[h1]at h;simp at h
  | false=>
   rw[h1]at h;simp only[aoF,aow]at h1;refine⟨by omega,by omega,by omega,fun hk hl h16=>?_⟩
   have e1:((((v.kind==4)||(v.kind==5))&&((v.aN.length:Int)==0))&&(level==16))=true:=by
    rw[hl,h16];rcases hk with hk|hk<;>simp[hk]
   rw[e1]at h;simp only[an_,aob,aoc]at h;split at h
   ·omega
   ·split at h
    ·omega
    ·split at h<;>omega
theorem UY:∀ {l:List ah} {level:Nat},Cq l level=0→∀x∈l,vO x level=0
 | [],_,_,x,hx=>by cases hx
 | y::r,level,h,x,hx=>by
  rw[Cq]at h;by_cases hy:vO y level=0
  ·rw[an9 (by simpa using hy)]at h;rcases aoB.1 hx with rfl|hx
   ·exact hy
   ·exact UY h x hx
  ·rw[aoa (by simpa using hy)]at h;exact absurd h hy
theorem acW{v:ah}{level:Nat}(h:vO v level=0):ni v level=0∧∀x∈v.aN,vO x (level+1)=0:=by
 rw[Lm]at h;by_cases hn:ni v level=0
 ·rw[an9 (by simpa using hn)]at h;exact⟨hn,UY h⟩
 ·rw[aoa (by simpa using hn)]at h;exact absurd h hn
theorem ahZ{s:Str}(h:s.length<4611686018427387000):kD (ak.mk 2 s (ah.mk 0 false 0 ([]:Str) [] []) [] [])=some (if kP s then 0 else 1):=by
 have hb:(ak.mk 2 s (ah.mk 0 false 0 ([]:Str) [] []) [] []).bulk<4611686018427387904:=by
  simp only[ak.bulk,ah.bulk,ah.lM,ak.lM,ao9,List.sum_nil,aoU];omega
 rw[(Pt hb).1];have e1:ecnt (ak.mk 2 s (ah.mk 0 false 0 ([]:Str) [] []) [] [])=1:=by rw[BM];rfl
 unfold xval;rw[e1,Pv]
 have e2:wH (ak.mk 2 s (ah.mk 0 false 0 ([]:Str) [] []) [] [])=kP s:=by
  have:Oj (ah.mk 0 false 0 ([]:Str) [] [])=true:=rfl;simp[wH,CV,this,C9,vI,IV]
 have e3:zW (ak.mk 2 s (ah.mk 0 false 0 ([]:Str) [] []) [] []) 1=if kP s then 0 else 1:=by
  unfold zW;rw[e2];cases kP s<;>simp[Mt]
 rw[e3];cases kP s<;>simp[Lc]
end Go.Ft
namespace Go.Ft
open Go
attribute [local congr] fH
theorem UO:∀ {l:List ak} {level:Nat},Lc l level=0→∀x∈l,E_ x level=0
 | [],_,_,x,hx=>by cases hx
 | y::r,level,h,x,hx=>by
  rw[Lc]at h;by_cases hy:E_ y level=0
  ·rw[an9 (by simpa using hy)]at h;rcases aoB.1 hx with rfl|hx
   ·exact hy
   ·exact UO h x hx
  ·rw[aoa (by simpa using hy)]at h;exact absurd h hy
theorem Z6{e:ak}{level:Nat}(h:zW e level=0):wH e=true∧(e.kind=1→vO e.value 1=0)∧e.args.length≤1024:=by
 unfold zW at h;split at h
 ·omega
 ·cases h1:wH e with
  | false=>rw[h1]at h;simp at h
  | true=>
   rw[h1]at h;simp only[aos,an_,aob]at h;by_cases h2:(e.kind==1&&(vO e.value 1 !=0))=true
   ·rw[aoa h2]at h;simp[h]at h2
   ·rw[an9 h2]at h;refine⟨rfl,fun hk=>?_,?_⟩
    ·simp only[aoj,aom,aoA,not_and]at h2;have:=h2 hk;simpa using this
    ·split at h
     ·omega
     ·rename_i h3;simp only[aod]at h3;omega
theorem acR{e:ak}{level:Nat}(h:E_ e level=0):zW e level=0∧∀x∈e.args,E_ x (level+1)=0:=by
 rw[Pv]at h;by_cases hn:zW e level=0
 ·rw[an9 (by simpa using hn)]at h;exact⟨hn,UO h⟩
 ·rw[aoa (by simpa using hn)]at h;exact absurd h hn
theorem Xh{e:ak}(h:wH e=true):CV e=true∧C9 e=true∧vI e=true:=by
 unfold wH at h;simp only[aoj]at h;exact⟨h.1.1.1.1,h.1.1.2,h.1.2⟩
theorem len1{α:Type}{l:List α}(h:l.length=1):∃a,l=[a]:=by
 match l,h with
 | [a],_=>exact⟨a,rfl⟩
theorem len2{α:Type}{l:List α}(h:l.length=2):∃a b,l=[a,b]:=by
 match l,h with
 | [a,b],_=>exact⟨a,b,rfl⟩
theorem am5{α:Type}{l:List α}(h:l.length=3):∃a b c,l=[a,b,c]:=by
 match l,h with
 | [a,b,c],_=>exact⟨a,b,c,rfl⟩
end Go.Ft
namespace Go.Ft
open Go
attribute [local congr] fH
theorem UN{e:ak}(h:xval e=0):E_ e 1=0:=by
 unfold xval at h;split at h
 ·cases h
 ·exact h
end Go.Ft
namespace Go.Ft
open Go
attribute [local congr] fH
def ZV:ah:=ah.mk 0 false 0 ([]:Str) [] []
theorem ak3(level:Nat)(h:level≤16):vO ZV level=0:=by
 have h0:ni ZV level=0:=by
  unfold ni;rw[an9 (by omega)];simp[ZV,qC]
 rw[Lm,h0];simp[ZV,Cq]
theorem acP:ZV.bulk=7:=by unfold ZV ah.bulk ah.lM;simp
theorem KX{go:ah→Option ah}{R:Type}{fin:ah→Option R}:∀(l:List ah) (i:Nat) (out:ah),(∀x∈l,go x=some x)→out.aN.length+l.length≤sI→
  fu (fun _ x (out:ah) r=>av (go x) fun x3=>av (app out.aN [x3]) fun x4=>r (ah.mk out.kind out.dR out.dA out.bR x4 out.keys)) fin i l out
   =fin (ah.mk out.kind out.dR out.dA out.bR (out.aN++l) out.keys)
 | [],i,out,_,_=>by cases out;simp[fu]
 | x::l,i,out,h,hl=>by
  simp only[aog]at hl;rw[fu,h x (by simp),aj,bg (by simp;omega),aj];refine(KX l (i+1) _ (fun y hy=>h y (by simp[hy])) (by simp;omega)).trans ?_;simp
theorem X6{S:ah→Prop}(hS:∀v,S v→v.aN.length≤sI∧v.keys.length≤sI∧∀x∈v.aN,S x):∀(n:Nat) (v:ah),v.bulk≤n→v.bulk<4611686018427387904→S v→lT (n+1) v=some v∧mU (n+1) v=some v
 | 0,v,h,_,_=>by have:=v.lK;omega
 | n+1,v,h,hb,hs=>by
  obtain⟨hl,hk,hm⟩:=hS v hs;have ih:∀x∈v.aN,lT (n+1) x=some x∧mU (n+1) x=some x:=fun x hx=>X6 hS n x (by have:=jg hx;omega) (by have:=jg hx;omega) (hm x hx);have hL:sI=4294967296:=rfl;constructor
  ·rw[lT,zJ,lC,bg (by simp;omega),aj];rw[fC (F:=fun k s i=>tN (lT (n+1)) v k i s) (l:=v.aN) (body:=fun _ x (out:ah) r=>av (lT (n+1) x) fun x3=>av (app out.aN [x3]) fun x4=>r (ah.mk out.kind out.dR out.dA out.bR x4 out.keys)) (fin:=fun out=>some out) (by omega) (fun k s i=>rfl)];rw[KX v.aN 0 _ (fun x hx=>(ih x hx).1) (by simp;omega)];cases v;simp
  ·rw[mU,BK];rw[fC (F:=fun k s i=>wo (mU (n+1)) v k i s) (l:=v.aN) (body:=fun _ x (out:ah) r=>av (mU (n+1) x) fun x3=>av (app out.aN [x3]) fun x4=>r (ah.mk out.kind out.dR out.dA out.bR x4 out.keys)) (fin:=fun out=>av (app out.keys v.keys) fun x4=>some (ah.mk out.kind out.dR out.dA out.bR out.aN x4)) (by omega) (fun k s i=>rfl)];rw[KX v.aN 0 _ (fun x hx=>(ih x hx).2) (by simp;omega),bg (by simp;omega)];cases v;simp
theorem X7{S:ah→Prop}(hS:∀v,S v→v.aN.length≤sI∧v.keys.length≤sI∧∀x∈v.aN,S x){v:ah}(h:S v)(hb:v.bulk<4611686018427387904):mX v=some v∧wU v=some v:=by
 obtain⟨n,hn,hn2⟩:=uN;unfold mX wU;rw[hn];exact X6 hS n v (by omega) hb h
theorem acV{v:ah}(h:v.bulk≤sI):mX v=some v∧wU v=some v:=
 X7 (S:=fun v=>v.bulk≤sI) (fun v h=>⟨by have:=wZ v;omega,by have:=w9 v;omega,fun x hx=>by have:=jg hx;omega⟩) h (by have hL:sI=4294967296:=rfl;omega)
def GR:List Str→List ah→Str→Option ah
 | k::ks,x::xs,q=>if k=q then some x else GR ks xs q
 | _,_,_=>none
theorem Y_:∀ {ks:List Str} {xs:List ah} {q:Str} {v:ah},GR ks xs q=some v→v∈xs
 | k::ks,x::xs,q,v,h=>by
  rw[GR]at h;split at h
  ·cases h;simp
  ·simp[Y_ h]
 | [],_,_,_,h=>by simp[GR]at h
 | _::_,[],_,_,h=>by simp[GR]at h
theorem Y9(ks:List Str)(q:Str):GR ks [] q=none:=by cases ks<;>rfl
def NG(v:ah)(q:Str):Option ah:=if v.kind=5 then GR v.keys v.aN q else none
def aaM:Option ah→ah × Bool
 | some x=>(x,true)
 | none=>(ZV,false)
theorem QM(v:ah)(q:Str)(hv:v.keys.length<4611686018427387904):∀(k i:Nat),v.keys.length<k+i→i≤v.keys.length→FD v q k (i:Int)=some (aaM (GR (v.keys.drop i) (v.aN.drop i) q))
 | 0,i,h,h'=>by omega
 | k+1,i,h,h'=>by
  rw[FD];by_cases hi:i<v.keys.length
  ·rw[aoa (by simp;omega),jL hi,aj,aoe hi];by_cases hl:i<v.aN.length
   ·rw[aoe hl,GR];by_cases he:v.keys[i]=q
    ·rw[aoa (by simpa using he),aoa he,an9 (by simp;omega),jL hl];rfl
    ·rw[an9 (by simpa using he),an9 he,kr (by omega),QM v q hv k (i+1) (by omega) (by omega)]
   ·have e0:v.aN.drop i=[]:=aop (by omega);have e1:v.aN.drop (i+1)=[]:=aop (by omega);rw[e0,Y9];by_cases he:v.keys[i]=q
    ·rw[aoa (by simpa using he),aoa (by simp;omega)];rfl
    ·rw[an9 (by simpa using he),kr (by omega),QM v q hv k (i+1) (by omega) (by omega),e1,Y9]
  ·have:i=v.keys.length:=by omega
   subst this;rw[an9 (by simp),List.drop_length];cases v.aN.drop v.keys.length<;>rfl
theorem WA{v:ah}(hv:v.keys.length<4611686018427387904)(q:Str):LV v q=some (aaM (NG v q)):=by
 unfold LV NG;by_cases h:v.kind=5
 ·rw[an9 (by simpa using h),aoa h];exact QM v q hv BIG 0 (by have:=iL;omega) (by omega)
 ·rw[aoa (by simpa using h),an9 h];rfl
theorem adJ(l:List Str)(q:Str)(hl:l.length<4611686018427387904):∃j:Int,jr l q=some j∧((j=-1∧q∉l)∨∃i:Nat,j=i∧∃h:i<l.length,l[i]=q∧∀k (hk:k<i),l[k]'(by omega)≠q):=by
 unfold jr;rw[fC (F:=fun k (_:Unit) i=>iO l q k i) (l:=l) (body:=fun(i:Nat) e1 (_:Unit) r=>if q==e1 then some (i:Int)else r ()) (fin:=fun _=>some (-1)) hl (fun k s i=>rfl) ()]
 have key:∀(t:List Str) (i:Nat),t=l.drop i→(∀k (hk:k<i) (hl:k<l.length),l[k]≠q)→∃j:Int,fu (fun(i:Nat) e1 (_:Unit) r=>if q==e1 then some (i:Int)else r ()) (fun _=>some (-1)) i t ()=some j∧((j=-1∧q∉l)∨∃i:Nat,j=i∧∃h:i<l.length,l[i]=q∧∀k (hk:k<i),l[k]'(by omega)≠q):=by
  intro t
  induction t with
  | nil=>
   intro i ht hne;refine⟨-1,rfl,.inl ⟨rfl,fun hm=>?_⟩⟩;obtain⟨k,hk,he⟩:=apJ.1 hm
   have:l.length≤i:=by
    rcases aoE i l.length with h|h
    ·rw[aoe h]at ht;cases ht
    ·exact h
   exact hne k (by omega) hk he
  | cons d t ih=>
   intro i ht hne
   have hi:i<l.length:=by
    rcases aoE i l.length with h|h
    ·exact h
    ·rw[aop h]at ht;cases ht
   have hc:=aoe hi;rw[←ht]at hc;have e1':=(aoX hc).1;have e2':=(aoX hc).2;rw[fu];by_cases he:q=d
   ·rw[aoa (by simpa using he)];exact⟨i,rfl,.inr ⟨i,rfl,hi,by rw[←e1',he],fun k hk=>hne k hk (by omega)⟩⟩
   ·rw[an9 (by simpa using he)];refine ih (i+1) e2' fun k hk hkl=>?_;by_cases hki:k=i
    ·subst hki;rw[←e1'];exact fun h=>he h.symm
    ·exact hne k (by omega) hkl
 exact key l 0 rfl (fun k hk=>by omega)
theorem acg:∀(ks:List Str) (xs:List ah) (q:Str) (i:Nat) (h:i<ks.length),ks[i]=q→(∀k (hk:k<i),ks[k]'(by omega)≠q)→GR ks xs q=xs[i]?
 | [],_,_,i,h,_,_=>by simp at h
 | k::ks,[],q,i,h,_,_=>by simp[GR]
 | k::ks,x::xs,q,0,h,he,_=>by simp at he;simp[GR,he]
 | k::ks,x::xs,q,i+1,h,he,hn=>by
  have h0:=hn 0 (by omega);simp only[List.getElem_cons_zero]at h0;rw[GR,an9 h0,List.getElem?_cons_succ];exact acg ks xs q i (by simpa using h) (by simpa using he) fun k hk=>by have:=hn (k+1) (by omega);simpa using this
theorem Si:∀(ks:List Str) (xs:List ah) (q:Str),q∉ks→GR ks xs q=none
 | [],_,_,_=>by simp[GR]
 | k::ks,[],q,_=>by simp[GR]
 | k::ks,x::xs,q,h=>by
  simp only[aoB,not_or]at h;rw[GR,an9 (fun e=>h.1 e.symm),Si ks xs q h.2]
theorem ajI{v:ah}(hb:v.bulk<4611686018427387904)(hv:∀x∈v.aN,mX x=some x)(q:Str):yY v q=some (aaM (NG v q)):=by
 have hk:=w9 v;obtain⟨j,h1,h2⟩:=adJ v.keys q (by omega);unfold yY NG;rw[h1,aj];by_cases h5:v.kind=5
 ·rw[aoa h5];rcases h2 with⟨rfl,hn⟩|⟨i,rfl,hi,he,hf⟩
  ·rw[aoa (by simp),Si _ _ _ hn];rfl
  ·rw[acg _ _ _ i hi he hf];by_cases hl:i<v.aN.length
   ·rw[an9 (by simp[h5];omega),jL hl,aj,aoh hl,hv _ (aoq hl)];rfl
   ·rw[aoa (by simp[h5];omega),aoK (by omega)];rfl
 ·rw[an9 h5,aoa (by simp[h5])];rfl
end Go.Ft
namespace Go.Ft
open Go
attribute [local congr] fH
def Ak{α:Type}(f:α→α→Int):List α→List α→Int
 | [],[]=>0
 | [],_::_=>-1
 | _::_,[]=>1
 | x::xs,y::ys=>if f x y !=0 then f x y else Ak f xs ys
theorem sU{α:Type}{l t:List α}{d:α}{i:Nat}(h:d::t=l.drop i):∃hi:i<l.length,d=l[i]∧t=l.drop (i+1):=by
 have hi:i<l.length:=by
  rcases aoE i l.length with h'|h'
  ·exact h'
  ·rw[aop h']at h;cases h
 have hc:=aoe hi;rw[←h]at hc;exact⟨hi,(aoX hc).1,(aoX hc).2⟩
theorem BO{α:Type}{l:List α}{i:Nat}(h:[]=l.drop i):l.length≤i:=by
 rcases aoE i l.length with h'|h'
 ·rw[aoe h']at h;cases h
 ·exact h'
theorem NN{α:Type}{a b:List α}{cmp:α→α→Option Int}{f:α→α→Int}(hc:∀x∈a,∀y∈b,cmp x y=some (f x y)):∀(s t:List α) (i:Nat),s=a.drop i→t=b.drop i→i≤a.length→i≤b.length→
  fu (fun(i:Nat) e1 (_:Unit) r=>if decide ((b.length:Int)≤(i:Int))then some 1 else av (idx b (i:Int)) fun e2=>av (cmp e1 e2) fun c1=>if c1 !=0 then some c1 else r ())
   (fun _=>if decide ((a.length:Int)<(b.length:Int))then some (-1)else some 0) i s ()=some (Ak f s t)
 | [],[],i,hs,ht,_,_=>by
  have h1:=BO hs;have h2:=BO ht;rw[fu,Ak,an9 (by simp;omega)]
 | [],y::t,i,hs,ht,_,_=>by
  have h1:=BO hs;obtain⟨h2,_,_⟩:=sU ht;rw[fu,Ak,aoa (by simp;omega)]
 | x::s,[],i,hs,ht,_,_=>by
  have h2:=BO ht;rw[fu,Ak,aoa (by simp;omega)]
 | x::s,y::t,i,hs,ht,_,_=>by
  obtain⟨h1,e1,e2⟩:=sU hs;obtain⟨h2,e3,e4⟩:=sU ht;rw[fu,Ak,an9 (by simp;omega),jL h2,aj,←e3,hc x (by rw[e1];exact aoq h1) y (by rw[e3];exact aoq h2),aj];split
  ·rfl
  ·exact NN hc s t (i+1) e2 e4 (by omega) (by omega)
theorem sign_eq(b:Bool):oO b=some (if b then -1 else 1):=by unfold oO;cases b<;>rfl
theorem SC{α:Type}{a b:List α}{cmp:α→α→Option Int}{f:α→α→Int}{g:Int→Option Int}(hg:∀x∈a,∀y∈b,g (f x y)=some (f x y))(hc:∀x∈a,∀y∈b,cmp x y=some (f x y))(ha:a.length<4611686018427387904){F:Nat→Int→Option Int}
  (hF:∀k (i:Nat),F (k+1) (i:Int)=if (decide ((i:Int)<(a.length:Int)))&&(decide ((i:Int)<(b.length:Int)))then av (idx a (i:Int)) fun e1=>av (idx b (i:Int)) fun e2=>av (cmp e1 e2) fun c1=>if c1 !=0 then g c1 else F k (bV ((i:Int)+1))
   else if (a.length:Int)==(b.length:Int)then some 0 else oO (decide ((a.length:Int)<(b.length:Int)))):
  ∀(s t:List α) (k i:Nat),s=a.drop i→t=b.drop i→i≤a.length→i≤b.length→a.length<k+i→F k (i:Int)=some (Ak f s t)
 | _,_,0,i,_,_,_,_,h=>by omega
 | [],[],k+1,i,hs,ht,_,_,_=>by
  have h1:=BO hs;have h2:=BO ht;rw[hF,Ak,an9 (by simp;omega),aoa (by simp;omega)]
 | [],y::t,k+1,i,hs,ht,_,_,_=>by
  have h1:=BO hs;obtain⟨h2,_,_⟩:=sU ht;rw[hF,Ak,an9 (by simp;omega),an9 (by simp;omega),sign_eq,aoa (by simp;omega)]
 | x::s,[],k+1,i,hs,ht,_,_,_=>by
  have h2:=BO ht;obtain⟨h1,_,_⟩:=sU hs;rw[hF,Ak,an9 (by simp;omega),an9 (by simp;omega),sign_eq,an9 (by simp;omega)]
 | x::s,y::t,k+1,i,hs,ht,_,_,hk=>by
  obtain⟨h1,e1,e2⟩:=sU hs;obtain⟨h2,e3,e4⟩:=sU ht;have hx:x∈a:=by rw[e1];exact aoq h1
  have hy:y∈b:=by rw[e3];exact aoq h2
  rw[hF,Ak,aoa (by simp;omega),jL h1,aj,jL h2,aj,←e1,←e3,hc x hx y hy,aj];split
  ·exact hg x hx y hy
  ·rw[kr (by omega)];exact SC hg hc ha hF s t k (i+1) e2 e4 (by omega) (by omega) (by omega)
mutual
def rW:ah→ah→Int
 | ⟨k,b,n,s,l,ks⟩,y=>
  if qw k y.kind !=0 then qw k y.kind else if k==1 then vU (!b&&y.dR) (b&&!y.dR)else if k==2 then qw n y.dA else if k==3 then Df s y.bR else if k==4 then Ol l y.aN
  else if k==5 then (if Ak gI ks y.keys !=0 then Ak gI ks y.keys else Ol l y.aN)else 0
def Ol:List ah→List ah→Int
 | [],[]=>0
 | [],_::_=>-1
 | _::_,[]=>1
 | x::xs,y::ys=>if rW x y !=0 then rW x y else Ol xs ys
end
theorem UW:∀l m:List ah,Ol l m=Ak rW l m
 | [],[]=>by rw[Ol,Ak]
 | [],_::_=>by rw[Ol,Ak]
 | _::_,[]=>by rw[Ol,Ak]
 | x::xs,y::ys=>by rw[Ol,Ak,UW xs ys]
theorem Pw(x y:ah):rW x y=if qw x.kind y.kind !=0 then qw x.kind y.kind else if x.kind==1 then vU (!x.dR&&y.dR) (x.dR&&!y.dR)else if x.kind==2 then qw x.dA y.dA else if x.kind==3 then Df x.bR y.bR else if x.kind==4 then Ak rW x.aN y.aN
  else if x.kind==5 then (if Ak gI x.keys y.keys !=0 then Ak gI x.keys y.keys else Ak rW x.aN y.aN)else 0:=by
 cases x;rw[rW,UW]
theorem Zt(x y:Int):(if x !=y then oO (decide (x<y))else some 0)=some (qw x y):=by
 unfold qw vU;rw[sign_eq];by_cases h:x=y
 ·subst h;simp
 ·by_cases h2:x<y
  ·simp[h,h2]
  ·have:y<x:=by omega
   simp[h,h2,this]
theorem YO(x y:Str):(if (gI x y !=0)=true then oO (decide (gI x y<0))else some 0)=some (gI x y):=by
 rw[sign_eq];rcases (show gI x y=-1∨gI x y=0∨gI x y=1 from RY _ _)with h|h|h<;>simp[h]
theorem aad:∀(n:Nat) (a b:ah),a.bulk≤n→a.bulk<4611686018427387904→b.bulk<4611686018427387904→jq (n+1) a b=some (rW a b)∧∀m,2*n+2≤m→oz m a b=some (rW a b)
 | 0,a,_,h,_,_=>by have:=a.lK;omega
 | n+1,a,b,h,hA,hB=>by
  have hla:=wZ a;have hka:=w9 a;have hlb:=wZ b;have hkb:=w9 b
  have ih:∀x∈a.aN,∀y∈b.aN,jq (n+1) x y=some (rW x y)∧∀m,2*n+2≤m→oz m x y=some (rW x y):=
   fun x hx y hy=>aad n x y (by have:=jg hx;omega) (by have:=jg hx;omega) (by have:=jg hy;omega)
  have ks:∀x∈a.keys,x.length<4611686018427387904:=fun x hx=>by have:=Js hx;omega
  have ks':∀x∈b.keys,x.length<4611686018427387904:=fun x hx=>by have:=Js hx;omega
  constructor
  ·rw[jq,wC,Pw,rT,aj]
   have hL:cu a.aN b.aN (jq (n+1))=some (Ak rW a.aN b.aN):=by
    unfold cu
    rw[fC (F:=fun k (_:Unit) i=>dB a.aN b.aN (jq (n+1)) k i) (l:=a.aN)
     (body:=fun(i:Nat) e1 (_:Unit) r=>if decide ((b.aN.length:Int)≤(i:Int))then some 1 else av (idx b.aN (i:Int)) fun e2=>av (jq (n+1) e1 e2) fun c1=>if c1 !=0 then some c1 else r ())
     (fin:=fun _=>if decide ((a.aN.length:Int)<(b.aN.length:Int))then some (-1)else some 0) (by omega) (fun k s i=>rfl) ()]
    exact NN (fun x hx y hy=>(ih x hx y hy).1) _ _ 0 rfl rfl (by omega) (by omega)
   have hK:eT a.keys b.keys jC=some (Ak gI a.keys b.keys):=by
    unfold eT
    rw[fC (F:=fun k (_:Unit) i=>eB a.keys b.keys jC k i) (l:=a.keys)
     (body:=fun(i:Nat) e1 (_:Unit) r=>if decide ((b.keys.length:Int)≤(i:Int))then some 1 else av (idx b.keys (i:Int)) fun e2=>av (jC e1 e2) fun c1=>if c1 !=0 then some c1 else r ())
     (fin:=fun _=>if decide ((a.keys.length:Int)<(b.keys.length:Int))then some (-1)else some 0) (by omega) (fun k s i=>rfl) ()]
    exact NN (fun x hx y hy=>JC (ks x hx) (ks' y hy)) _ _ 0 rfl rfl (by omega) (by omega)
   rw[hL,hK,rT,SA,aj]
   have hb:(av (tL a.dR) fun x1=>av (tL b.dR) fun x2=>cmp_Compare_int x1 x2)=some (vU (!a.dR&&b.dR) (a.dR&&!b.dR)):=by
    unfold tL;cases a.dR<;>cases b.dR<;>simp[rT,qw]
   rw[hb]
   repeat' split
   all_goals rfl
  ·intro m hm;obtain⟨m,rfl⟩:∃q,m=q+2:=⟨m-2,by omega⟩;rw[oz,J7,Pw,H9,OD]
   have hL:Bo (oz m) a.aN b.aN BIG 0=some (Ak rW a.aN b.aN):=
    SC (g:=some) (fun x hx y hy=>rfl) (fun x hx y hy=>(ih x hx y hy).2 m (by omega)) (by omega) (F:=Bo (oz m) a.aN b.aN) (fun k i=>rfl) _ _ BIG 0 rfl rfl (by omega) (by omega) (by have:=iL;omega)
   have hK:Ni a.keys b.keys=some (Ak gI a.keys b.keys):=by
    unfold Ni;refine SC (g:=fun c=>if c !=0 then oO (decide (c<0))else some 0) (fun x hx y hy=>YO x y) (fun x hx y hy=>KO (ks x hx) (ks' y hy)) (by omega) (F:=Bn a.keys b.keys) (fun k i=>?_) _ _ BIG 0 rfl rfl (by omega) (by omega) (by have:=iL;omega);rw[Bn];congr 1;congr 1;funext e1;congr 1;funext e2;congr 1;funext c;by_cases hc:(c !=0)=true
    ·rw[aoa hc,aoa hc,aoa hc]
    ·rw[an9 hc,an9 hc]
   rw[hL,hK,aj];by_cases hk:a.kind=b.kind
   ·have e1:(a.kind !=b.kind)=false:=by simpa using hk
    have e2:(qw a.kind b.kind !=0)=false:=by simpa using EW.2 hk
    rw[e1,e2];simp only[an_,aob,Zt]
    have hb:(if (!(a.dR==b.dR))=true then oO b.dR else some 0)=some (vU (!a.dR&&b.dR) (a.dR&&!b.dR)):=by
     rw[sign_eq];cases a.dR<;>cases b.dR<;>rfl
    have hs:(if (!(a.bR==b.bR))=true then oO (Go.Op.bytesLess a.bR b.bR)else some 0)=some (Df a.bR b.bR):=by
     rw[sign_eq];unfold Df vU;by_cases h:a.bR=b.bR
     ·rw[h];simp[zG]
     ·cases h1:Go.Op.bytesLess a.bR b.bR<;>simp[h]
    rw[hb,hs]
    repeat' split
    all_goals rfl
   ·have e1:(a.kind !=b.kind)=true:=by simpa using hk
    have e2:(qw a.kind b.kind !=0)=true:=by simpa using fun h=>hk (EW.1 h)
    have:=Zt a.kind b.kind;rw[aoa e1]at this;rw[aoa e1,aoa e2,this]
theorem K_{a b:ah}(hA:a.bulk<4611686018427387904)(hB:b.bulk<4611686018427387904):vP a b=some (rW a b)∧Ic a b=some (rW a b):=by
 obtain⟨n,hn,hn2⟩:=uN;unfold vP Ic;constructor
 ·rw[hn];exact(aad n a b (by omega) hA hB).1
 ·exact(aad a.bulk a b (aon _) hA hB).2 BIG (by have:=iL;omega)
theorem Jq{a b:ah}(hA:a.bulk<4611686018427387904)(hB:b.bulk<4611686018427387904):mY a b=some (rW a b==0)∧Ce a b=some (rW a b==0):=by
 unfold mY Ce;rw[(K_ hA hB).1,(K_ hA hB).2];exact⟨rfl,rfl⟩
end Go.Ft
namespace Go.Ft
open Go
attribute [local congr] fH
mutual
def wE:ah→Nat
 | ⟨k,_,_,_,l,_⟩=>if (k==4)||(k==5)then CU l 2 else 1
def CU:List ah→Nat→Nat
 | [],n=>n
 | x::r,n=>CU r (max n (1+wE x))
end
theorem uh(v:ah):wE v=if (v.kind==4)||(v.kind==5)then CU v.aN 2 else 1:=by cases v;rw[wE]
theorem zQ:∀(l:List ah) (n m:Nat),CU l n≤m↔n≤m∧∀x∈l,1+wE x≤m
 | [],n,m=>by simp[CU]
 | x::r,n,m=>by
  rw[CU,zQ r];simp only[aoB,forall_eq_or_imp,Nat.max_le];exact⟨fun h=>⟨h.1.1,h.1.2,h.2⟩,fun h=>⟨⟨h.1,h.2.1⟩,h.2.2⟩⟩
theorem ab8(l:List ah)(n:Nat):n≤CU l n:=((zQ l n _).1 (aon _)).1
theorem YW{l:List ah}{n:Nat}{x:ah}(h:x∈l):1+wE x≤CU l n:=((zQ l n _).1 (aon _)).2 x h
theorem Xa(v:ah):1≤wE v:=by
 rw[uh];split
 ·have:=ab8 v.aN 2;omega
 ·omega
theorem YV:∀(n:Nat) (v:ah),v.bulk≤n→wE v≤v.bulk
 | 0,v,h=>by have:=v.lK;omega
 | n+1,v,h=>by
  rw[uh];split
  ·rw[zQ];refine⟨?_,fun x hx=>?_⟩
   ·rw[ah.nG];omega
   ·have:=jg hx;have:=YV n x (by omega);omega
  ·exact v.lK
theorem Va{go:ah→Option Int}:∀(l:List ah) (i s:Nat),(∀x∈l,go x=some (wE x:Int))→(∀x∈l,wE x<4611686018427387904)→
  fu (fun _ e1 (n1:Int) r=>av (go e1) fun x1=>r (if n1<(bV (1+x1))then (bV (1+x1))else n1)) (fun n1=>some n1) i l (s:Int)=some (CU l s:Int)
 | [],i,s,_,_=>rfl
 | x::r,i,s,h,hb=>by
  have hx:=hb x (by simp);rw[fu,h x (by simp),aj,CU];have e:bV (1+(wE x:Int))=((1+wE x:Nat):Int):=by rw[rA (by omega)];omega
  rw[e]
  have e2:(if (s:Int)<((1+wE x:Nat):Int)then ((1+wE x:Nat):Int)else (s:Int))=((max s (1+wE x):Nat):Int):=by
   split<;>congr 1<;>omega
  rw[e2];exact Va r (i+1) _ (fun y hy=>h y (by simp[hy])) (fun y hy=>hb y (by simp[hy]))
theorem ae2:∀(n:Nat) (v:ah),v.bulk≤n→v.bulk<4611686018427387904→uV (n+1) v=some (wE v:Int)
 | 0,v,h,_=>by have:=v.lK;omega
 | n+1,v,h,hb=>by
  have hl:=wZ v;rw[uV,LU,uh];by_cases hk:((v.kind==4)||(v.kind==5))=true
  ·rw[aoa hk,an9 (by simp at hk⊢;omega)];rw[fC (F:=fun k s i=>Ep (uV (n+1)) v k s i) (l:=v.aN) (body:=fun _ e1 (n1:Int) r=>av (uV (n+1) e1) fun x1=>r (if n1<(bV (1+x1))then (bV (1+x1))else n1)) (fin:=fun n1=>some n1) (by omega) (fun k s i=>rfl)];exact Va v.aN 0 2 (fun x hx=>ae2 n x (by have:=jg hx;omega) (by have:=jg hx;omega)) (fun x hx=>by have:=jg hx;have:=YV _ x (aon _);omega)
  ·rw[an9 hk,aoa (by simp at hk⊢;omega)];rfl
theorem QW{v:ah}(h:v.bulk<4611686018427387904):FC v=some (wE v:Int):=by
 obtain⟨n,hn,hn2⟩:=uN;unfold FC;rw[hn];exact ae2 n v (by omega) h
mutual
def X5:ah→Bool
 | ⟨a,b,c,d,l,f⟩=>(ni ⟨a,b,c,d,l,f⟩ 1==0)&&aeA l
def aeA:List ah→Bool
 | []=>true
 | x::r=>X5 x&&aeA r
end
theorem X4:∀l:List ah,aeA l=true↔∀x∈l,X5 x=true
 | []=>by simp[aeA]
 | x::r=>by simp[aeA,X4 r]
theorem xL(v:ah):X5 v=true↔ni v 1=0∧∀x∈v.aN,X5 x=true:=by
 cases v;rw[X5,aoj,X4];simp
theorem UU(v:ah)(level:Nat):ni v level=if 16<level then 13 else if ni v 1≠0 then ni v 1 else if ((((v.kind==4)||(v.kind==5))&&((v.aN.length:Int)==0))&&level==16)=true then 13 else 0:=by
 unfold ni;have e1:((1:Nat)==16)=false:=rfl;rw[e1];generalize ((decide (v.kind<0))||(decide (5<v.kind))||!qC v)=c1;generalize ((decide (v.dA<(-9007199254740992)))||(decide (9007199254740992<v.dA)))=c2;generalize (((decide (4096<(v.bR.length:Int)))||(decide (1024<(v.aN.length:Int))))||(decide (1024<(v.keys.length:Int))))=c3;generalize (v.kind==5&&!(((v.keys.length:Int)==(v.aN.length:Int))&&Jj none v.keys))=c4;generalize ((((v.kind==4)||(v.kind==5))&&((v.aN.length:Int)==0))&&level==16)=c5;by_cases h:16<level
 ·rw[aoa h,aoa h]
 ·rw[an9 h,an9 h];cases c1<;>cases c2<;>cases c3<;>cases c4<;>simp
theorem MQ{v:ah}(h:ni v 1=0):qC v=true:=by
 unfold ni at h;cases hp:qC v with
 | true=>rfl
 | false=>simp[hp]at h
theorem Qp{v:ah}(h:X5 v=true)(hk:((v.kind==4)||(v.kind==5))=false):v.aN=[]:=by
 have hp:=MQ ((xL v).1 h).1;unfold qC at hp;simp only[aoj,hk,aoW,aom]at hp;exact aoI (by omega)
theorem UZ:∀(l:List ah) (level:Nat),(∀x∈l,vO x level=if level+wE x≤17 then 0 else 13)→Cq l level=if ∀x∈l,level+wE x≤17 then 0 else 13
 | [],level,_=>by simp[Cq]
 | x::r,level,h=>by
  rw[Cq,h x (by simp),UZ r level fun y hy=>h y (by simp[hy])];by_cases h1:level+wE x≤17
  ·simp[h1]
  ·simp[h1]
theorem Ll:∀(n:Nat) (v:ah) (level:Nat),v.bulk≤n→X5 v=true→1≤level→vO v level=if level+wE v≤17 then 0 else 13
 | 0,v,_,h,_,_=>by have:=v.lK;omega
 | n+1,v,level,h,hv,hl=>by
  obtain⟨h1,h2⟩:=(xL v).1 hv;have hp:=Xa v
  have hn:ni v level=if 16<level then 13 else if ((((v.kind==4)||(v.kind==5))&&((v.aN.length:Int)==0))&&level==16)=true then 13 else 0:=by
   rw[UU,h1];simp
  rw[Lm];by_cases h16:16<level
  ·rw[aoa h16]at hn;rw[hn,aoa (by simp),an9 (by omega)]
  ·rw[an9 h16]at hn;rw[UZ v.aN (level+1) fun x hx=>Ll n x (level+1) (by have:=jg hx;omega) (h2 x hx) (by omega)];cases hk:((v.kind==4)||(v.kind==5))with
   | false=>
    have he:=Qp hv hk;rw[hk]at hn;have hl1:wE v=1:=by rw[uh,hk];rfl
    simp only[aoL,an_,aob]at hn;rw[hn,hl1,he,an9 (by simp),aoa (by simp),aoa (by omega)]
   | true=>
    have hl1:wE v=CU v.aN 2:=by rw[uh,hk];rfl
    rw[hk]at hn;simp only[aoN]at hn
    have key:level+CU v.aN 2≤17↔level≤15∧∀x∈v.aN,level+1+wE x≤17:=by
     have:=zQ v.aN 2 (17-level);constructor
     ·intro h;obtain⟨a,b⟩:=this.1 (by omega);exact⟨by omega,fun x hx=>by have:=b x hx;omega⟩
     ·rintro⟨a,b⟩;have:=this.2 ⟨by omega,fun x hx=>by have:=b x hx;omega⟩;omega
    rw[hl1];by_cases he:v.aN=[]
    ·rw[aoa (c:=∀x∈v.aN,level+1+wE x≤17) (by simp[he])];by_cases vY:level=16
     ·rw[aoa (by simp[he,vY])]at hn;rw[hn,aoa (by simp),an9 (fun h=>by have:=key.1 h;omega)]
     ·rw[an9 (by simp[vY])]at hn;rw[hn,an9 (by simp),aoa (key.2 ⟨by omega,by simp[he]⟩)]
    ·have hpos:0<v.aN.length:=aoH.2 he;rw[an9 (by simp[he])]at hn;rw[hn,an9 (by simp)];obtain⟨x,hx⟩:=List.exists_mem_of_ne_nil _ he;have hpx:=Xa x;refine fH (propext (Iff.trans ?_ key.symm));exact⟨fun h=>⟨by have:=h x hx;omega,h⟩,fun h=>h.2⟩
theorem aez:∀(n:Nat) (v:ah) (level:Nat),v.bulk≤n→vO v level=0→X5 v=true
 | 0,v,_,h,_=>by have:=v.lK;omega
 | n+1,v,level,h,hc=>by
  obtain⟨h1,h2⟩:=acW hc;refine(xL v).2 ⟨?_,fun x hx=>aez n x (level+1) (by have:=jg hx;omega) (h2 x hx)⟩;rw[UU]at h1;split at h1
  ·omega
  ·split at h1
   ·exact h1
   ·rename_i hq;exact apA.1 hq
def VV(v:ah):Prop:=X5 v=true∧wE v≤16
theorem Og(v:ah):vO v 1=0↔VV v:=by
 constructor
 ·intro h;have ho:=aez _ v 1 (aon _) h;refine⟨ho,?_⟩;rw[Ll _ v 1 (aon _) ho (by omega)]at h;split at h
  ·omega
  ·cases h
 ·rintro⟨h1,h2⟩;rw[Ll _ v 1 (aon _) h1 (by omega),aoa (by omega)]
theorem VV.mem{v x:ah}(h:VV v)(hx:x∈v.aN):VV x:=by
 refine⟨((xL v).1 h.1).2 x hx,?_⟩;have h2:=h.2;rw[uh]at h2;split at h2
 ·have:=YW (n:=2) hx;omega
 ·rename_i hk;have:=Qp h.1 (by simpa using hk);rw[this]at hx;cases hx
theorem amE:VV ZV:=(Og _).1 (ak3 1 (by omega))
theorem UR{go:Int→ah→Int→Option (Bool × Int)}{level:Nat}:∀(l:List ah) (i s:Nat),(∀x∈l,∀s:Nat,go (s:Int) x ((level+1:Nat):Int)=some (true,((max s (level+wE x):Nat):Int)))→
  fu (fun _ x1 (s1:Int) r=>fI (go s1 x1 ((level+1:Nat):Int)) fun b1 s2=>if !b1 then some (false,s2)else r s2) (fun s1=>some (true,s1)) i l (s:Int)=some (true,((l.foldl (fun s x=>max s (level+wE x)) s:Nat):Int))
 | [],i,s,_=>rfl
 | x::r,i,s,h=>by
  rw[fu,h x (by simp),aA,an9 (by simp)];exact UR r (i+1) _ fun y hy=>h y (by simp[hy])
theorem Zb:∀(l:List ah) (level s n:Nat),l.foldl (fun s x=>max s (level+wE x)) (max s (level+n))=max s (level+(CU l (n+1)-1))
 | [],level,s,n=>by simp[CU]
 | x::r,level,s,n=>by
  rw[aps,CU];have e:max (max s (level+n)) (level+wE x)=max s (level+max n (wE x)):=by omega
  rw[e,Zb r level s];congr 3;rw[show max n (wE x)+1=max (n+1) (1+wE x)from by omega]
theorem aev:∀(n:Nat) (v:ah) (level s:Nat),v.bulk≤n→v.bulk<4611686018427387904→X5 v=true→1≤level→level+n<4611686018427387904→gW iH (n+1) (s:Int) v (level:Int)=some (true,((max s (level-1+wE v):Nat):Int))
 | 0,v,_,_,h,_,_,_,_=>by have:=v.lK;omega
 | n+1,v,level,s,h,hB,hv,hl,hn=>by
  have hll:=wZ v;obtain⟨h1,h2⟩:=(xL v).1 hv;rw[gW,uP,iH,aA,an9 (by simp)];have hw:bV ((level:Int)+1)=((level+1:Nat):Int):=kr (by omega)
  have ih:∀x∈v.aN,∀s:Nat,gW iH (n+1) (s:Int) x ((level+1:Nat):Int)=some (true,((max s (level+wE x):Nat):Int)):=fun x hx s=>
   aev n x (level+1) s (by have:=jg hx;omega) (by have:=jg hx;omega) (h2 x hx) (by omega) (by omega)
  have sc:∀s:Nat,lS (gW iH (n+1)) v (level:Int) BIG (s:Int) 0=some (true,((v.aN.foldl (fun s x=>max s (level+wE x)) s:Nat):Int)):=by
   intro s;rw[fC (F:=fun k s i=>lS (gW iH (n+1)) v (level:Int) k s i) (l:=v.aN) (body:=fun _ x1 (s1:Int) r=>fI (gW iH (n+1) s1 x1 ((level+1:Nat):Int)) fun b1 s2=>if !b1 then some (false,s2)else r s2) (fin:=fun s1=>some (true,s1)) (by omega) (fun k s i=>by rw[←hw];rfl)];exact UR v.aN 0 s ih
  unfold rY;rw[hw,uh];cases hk:((v.kind==4)||(v.kind==5))with
  | false=>
   have hnil:=Qp hv hk;simp only[aoL,an_,aob];have e:(if (s:Int)<(level:Int)then (level:Int)else (s:Int))=((max s level:Nat):Int):=by split<;>omega
   rw[e,sc,hnil];simp only[List.foldl_nil];rw[show level-1+1=level from by omega]
  | true=>
   simp only[aoN,aoc];by_cases he:v.aN=[]
   ·have q:((v.aN.length:Int)==0)=true:=by simp[he]
    simp only[q,aoc];have e:(if (s:Int)<((level+1:Nat):Int)then ((level+1:Nat):Int)else (s:Int))=((max s (level+1):Nat):Int):=by split<;>omega
    rw[e,sc,he];simp only[List.foldl_nil,CU];rw[show level-1+2=level+1 from by omega]
   ·have q:((v.aN.length:Int)==0)=false:=by simp[he]
    simp only[q,an_,aob];have e:(if (s:Int)<(level:Int)then (level:Int)else (s:Int))=((max s (level+0):Nat):Int):=by split<;>omega
    rw[e,sc,Zb]
    have hne:∃x r,v.aN=x::r:=by
     cases hc:v.aN with
     | nil=>exact absurd hc he
     | cons x r=>exact⟨x,r,rfl⟩
    obtain⟨x,r,hc⟩:=hne;have hx:=Xa x
    have e2:CU v.aN (0+1)=CU v.aN 2:=by
     rw[hc,CU,CU];congr 1;omega
    rw[e2];have:=ab8 v.aN 2;congr 3;omega
theorem aae{v:ah}(h:v.bulk<2305843009213693952)(hv:X5 v=true):xM v=some (wE v:Int):=by
 obtain⟨n,hn,hn2⟩:=uN;unfold xM Cr;have key:=aev v.bulk v 1 0 (aon _) (by omega) hv (by omega) (by omega)
 have mono:∀(k:Nat) (s:Int) (x:ah) (lv:Int) (r:Bool × Int),gW iH k s x lv=some r→∀m,k≤m→gW iH m s x lv=some r:=by
  intro k
  induction k with
  | zero=>intro s x lv r h;cases h
  | succ k ih=>
   intro s x lv r h m hm;obtain⟨m,rfl⟩:∃q,m=q+1:=⟨m-1,by omega⟩
   have lp:∀(v:ah) (level:Int) (f:Nat) (s i:Int) (r:Bool × Int),lS (gW iH k) v level f s i=some r→lS (gW iH m) v level f s i=some r:=by
    intro v level f
    induction f with
    | zero=>intro s i r h;cases h
    | succ f ihf=>
     intro s i r h;rw[lS]at h⊢;split at h
     ·rename_i hc;rw[aoa hc];obtain⟨x,hx,h⟩:=EY h;obtain⟨b,s2,hb,h⟩:=dD h;rw[hx,aj,ih _ _ _ _ hb m (by omega),aA];split at h
      ·rename_i hc2;rw[aoa hc2];exact h
      ·rename_i hc2;rw[an9 hc2];exact ihf _ _ _ h
     ·rename_i hc;rw[an9 hc];exact h
   rw[gW,uP]at h⊢;obtain⟨b,s2,hb,h⟩:=dD h;rw[hb,aA];split at h
   ·rename_i hc;rw[aoa hc];exact h
   ·rename_i hc;rw[an9 hc];exact lp _ _ _ _ _ _ h
 have:=mono _ _ _ _ _ key BIG (by have:=iL;omega);rw[show ((0:Nat):Int)=0 from rfl,show ((1:Nat):Int)=1 from rfl]at this;rw[this,aA];simp
theorem ji{v:ah}(h:X5 v=true):v.bR.length≤4096∧v.aN.length≤1024∧v.keys.length≤1024∧-9007199254740992≤v.dA∧v.dA≤9007199254740992:=by
 have h1:=((xL v).1 h).1;unfold ni at h1;rw[an9 (by omega)]at h1;split at h1
 ·cases h1
 ·split at h1
  ·cases h1
  ·rename_i h2;split at h1
   ·cases h1
   ·rename_i h3;simp only[aov,aod,not_or,Int.not_lt]at h2 h3;omega
theorem MR{v:ah}(h:X5 v=true)(hb:v.bulk<4611686018427387904):mX v=some v∧wU v=some v:=
 X7 (S:=fun v=>X5 v=true) (fun v h=>by
  have:=ji h;have hL:sI=4294967296:=rfl
  exact⟨by omega,by omega,((xL v).1 h).2⟩) h hb
theorem abJ{v:ah}(h:X5 v=true)(hb:v.bulk<4611686018427387904)(q:Str):yY v q=some (aaM (NG v q)):=
 ajI hb (fun x hx=>(MR (((xL v).1 h).2 x hx) (by have:=jg hx;omega)).1) q
end Go.Ft
namespace Go.Ft
open Go
attribute [local congr] fH
def Vn(b:Bool):ah:=ah.mk 1 b 0 ([]:Str) [] []
def W9(n:Int):ah:=ah.mk 2 false n ([]:Str) [] []
def mkS(s:Str):ah:=ah.mk 3 false 0 s [] []
def EA(l:List ah):ah:=ah.mk 4 false 0 ([]:Str) l []
def Ug(lo hi:UInt8)(Ea:Int)(c:UInt8):UInt8:=if (decide ((lo.toNat:Int)≤(c.toNat:Int)))&&(decide ((c.toNat:Int)≤(hi.toNat:Int)))then Ft.byteOf (bV ((c.toNat:Int)+Ea))else c
theorem mM{α:Type}{l m:List α}(h:l.length+m.length≤sI):app l m=some (l++m):=bg h
theorem JE{s:Str}(hs:s.length≤sI)(lo hi:UInt8)(Ea:Int):xE s lo hi Ea=some (s.map (Ug lo hi Ea))∧Jz s lo hi Ea=some (s.map (Ug lo hi Ea)):=by
 have hL:sI=4294967296:=rfl;constructor
 ·unfold xE
  rw[fC (F:=fun k s1 i=>qQ s lo hi Ea k i s1) (l:=s) (body:=fun(i:Nat) c (b:Str) r=>
   av (if decide ((lo.toNat:Int)≤(c.toNat:Int))then av (idx s (i:Int)) fun x2=>some (decide ((x2.toNat:Int)≤(hi.toNat:Int)))else some false) fun b2=>
   if b2 then av (idx s (i:Int)) fun x3=>av (app b [(Ft.byteOf (bV ((x3.toNat:Int)+Ea)))]) fun b3=>r b3 else av (idx s (i:Int)) fun x4=>av (app b [x4]) fun b4=>r b4) (fin:=fun b=>some b) (by omega) (fun k s i=>rfl)]
  have key:∀(t:Str) (i:Nat) (b:Str),t=s.drop i→b.length+t.length≤sI→fu (fun(i:Nat) c (b:Str) r=>
   av (if decide ((lo.toNat:Int)≤(c.toNat:Int))then av (idx s (i:Int)) fun x2=>some (decide ((x2.toNat:Int)≤(hi.toNat:Int)))else some false) fun b2=>
   if b2 then av (idx s (i:Int)) fun x3=>av (app b [(Ft.byteOf (bV ((x3.toNat:Int)+Ea)))]) fun b3=>r b3 else av (idx s (i:Int)) fun x4=>av (app b [x4]) fun b4=>r b4) (fun b=>some b) i t b=some (b++t.map (Ug lo hi Ea)):=by
   intro t
   induction t with
   | nil=>intro i b _ _;simp[fu]
   | cons c t ih=>
    intro i b ht hb;obtain⟨hi',e1,e2⟩:=sU ht;simp only[aog]at hb;rw[fu,jL hi',←e1];simp only[aj]
    have hone:(if decide ((lo.toNat:Int)≤(c.toNat:Int))=true then some (decide ((c.toNat:Int)≤(hi.toNat:Int)))else some false)=some ((decide ((lo.toNat:Int)≤(c.toNat:Int)))&&(decide ((c.toNat:Int)≤(hi.toNat:Int)))):=by
     cases decide ((lo.toNat:Int)≤(c.toNat:Int))<;>rfl
    rw[hone,aj,mM (by simp;omega),mM (by simp;omega)];simp only[aj,aot];cases hc:((decide ((lo.toNat:Int)≤(c.toNat:Int)))&&(decide ((c.toNat:Int)≤(hi.toNat:Int))))with
    | true=>
     simp only[aoc];rw[ih (i+1) _ e2 (by simp;omega),Ug,hc];simp
    | false=>
     simp only[an_,aob];rw[ih (i+1) _ e2 (by simp;omega),Ug,hc];simp
  have:=key s 0 [] rfl (by simp;omega);simpa using this
 ·unfold Jz
  rw[fC (F:=fun k b i=>Bg s lo hi Ea k b i) (l:=s) (body:=fun(i:Nat) c (b:Str) r=>
   if (decide ((lo.toNat:Int)≤(c.toNat:Int)))&&(decide ((c.toNat:Int)≤(hi.toNat:Int)))then av (app b ([(Ft.byteOf (bV ((c.toNat:Int)+Ea)))]:List UInt8)) fun b2=>r b2 else av (app b ([c]:List UInt8)) fun b3=>r b3) (fin:=fun b=>some b) (by omega) (fun k s i=>rfl)]
  have key:∀(t:Str) (i:Nat) (b:Str),b.length+t.length≤sI→fu (fun(i:Nat) c (b:Str) r=>
   if (decide ((lo.toNat:Int)≤(c.toNat:Int)))&&(decide ((c.toNat:Int)≤(hi.toNat:Int)))then av (app b ([(Ft.byteOf (bV ((c.toNat:Int)+Ea)))]:List UInt8)) fun b2=>r b2 else av (app b ([c]:List UInt8)) fun b3=>r b3) (fun b=>some b) i t b=some (b++t.map (Ug lo hi Ea)):=by
   intro t
   induction t with
   | nil=>intro i b _;simp[fu]
   | cons c t ih=>
    intro i b hb;simp only[aog]at hb;rw[fu,mM (by simp;omega),mM (by simp;omega)];simp only[aj,aot];cases hc:((decide ((lo.toNat:Int)≤(c.toNat:Int)))&&(decide ((c.toNat:Int)≤(hi.toNat:Int))))with
    | true=>
     simp only[aoc];rw[ih (i+1) _ (by simp;omega),Ug,hc];simp
    | false=>
     simp only[an_,aob];rw[ih (i+1) _ (by simp;omega),Ug,hc];simp
  have:=key s 0 [] (by simp;omega);simpa using this
theorem Mi:∀(s t:Str),s.length<t.length→mo s t=none
 | [],t,h=>by
  unfold mo;cases t with
  | nil=>simp at h
  | cons c t=>rfl
 | b::l,t,h=>by
  unfold mo;simp only[aog]at h
  have hp:t.isPrefixOf (b::l)=false:=by
   cases hq:t.isPrefixOf (b::l)with
   | false=>rfl
   | true=>
    have:=(apq.1 hq).length_le;simp only[aog]at this;omega
  rw[hp,Mi l t (by omega)];rfl
theorem KQ:∀ {s t:Str} {i:Nat},mo s t=some i→i+t.length≤s.length
 | [],t,i,h=>by
  unfold mo at h;split at h
  ·rename_i ht;simp only[aoi]at h;have:t=[]:=by simpa using ht
   subst this;simp;omega
  ·cases h
 | b::l,t,i,h=>by
  unfold mo at h;split at h
  ·rename_i ht;simp only[aoi]at h;have:=(apq.1 ht).length_le;omega
  ·obtain⟨j,hj,rfl⟩:=Option.map_eq_some_iff.1 h;have:=KQ hj;simp only[aog];omega
def IG(s t:Str)(k:Nat):Int:=match mo (s.drop k) t with|none=>-1|some i=>((k+i:Nat):Int)
theorem Ui(t s:Str):t.isPrefixOf s=(s.take t.length==t):=by
 rw[aoO,apq,List.prefix_iff_eq_take];simp only[aom];exact⟨fun h=>h.symm,fun h=>h.symm⟩
theorem Zf{s t:Str}(hs:s.length<1152921504606846976)(ht:t.length<1152921504606846976):∀(k i:Nat),s.length<k+i→i≤s.length→DJ s t k (i:Int)=some (IG s t i)
 | 0,i,h,h'=>by omega
 | k+1,i,h,h'=>by
  rw[DJ,rA (by omega)];by_cases hi:i+t.length≤s.length
  ·rw[aoa (by simp;omega),bS (by omega) (by omega) (by omega),aj]
   have e:(s.take ((i:Int)+(t.length:Int)).toNat).drop (i:Int).toNat=(s.drop i).take t.length:=by
    rw[ape];congr 1<;>omega
   rw[e,←Ui];by_cases he:i<s.length
   ·have hc:=aoe he;unfold IG;rw[hc,mo];cases hp:t.isPrefixOf (s[i]::s.drop (i+1))with
    | true=>simp
    | false=>
     simp only[an_,aob];rw[kr (by omega),Zf hs ht k (i+1) (by omega) (by omega)];unfold IG;cases mo (s.drop (i+1)) t with
     | none=>rfl
     | some j=>simp only[Option.map_some,aoi];omega
   ·have hd:s.drop i=[]:=aop (by omega);have ht0:t=[]:=aoI (by omega);unfold IG;rw[hd,ht0];simp[mo]
  ·rw[an9 (by simp;omega)];unfold IG;rw[Mi _ _ (by simp;omega)]
theorem find_eq{s t:Str}(hs:s.length<1152921504606846976)(ht:t.length<1152921504606846976){i:Nat}(hi:i≤s.length):Hz s t (i:Int)=some (IG s t i):=
 Zf hs ht BIG i (by have:=iL;omega) hi
theorem ajs{s t:Str}(hs:s.length<1152921504606846976)(ht:t.length<1152921504606846976):Hz s t 0=some (IG s t 0):=find_eq hs ht (i:=0) (by omega)
theorem agl(s t:Str)(k:Nat):decide (0≤IG s t k)=(mo (s.drop k) t).isSome:=by
 unfold IG;cases mo (s.drop k) t with
 | none=>rfl
 | some i=>simp;omega
theorem QA(t:Str)(ht:t≠[]):∀(k:Nat) (s:Str),(nZ t k s).length≤s.length+1
 | 0,s=>by simp[nZ]
 | k+1,s=>by
  rw[nZ];cases h:mo s t with
  | none=>simp
  | some i=>
   have:=KQ h;have hl:0<t.length:=aoH.2 ht;have ih:=QA t ht k (s.drop (i+t.length));simp only[aog];simp only[apg]at ih;omega
theorem U5{s t:Str}(hs:s.length<1152921504606846976)(ht:t.length<1152921504606846976)(h0:t≠[])(hL:s.length+2≤sI):∀(n k q:Nat) (l:List ah) (i:Nat),s.length-i<n→n≤k→s.length-i<q→i≤s.length→l.length+(s.length-i)+2≤sI→
  Bf s t k l (i:Int) (IG s t i)=lI (EA (l++(nZ t q (s.drop i)).map mkS))
 | 0,_,_,_,_,h,_,_,_,_=>by omega
 | n+1,0,_,_,_,h,h',_,_,_=>by omega
 | n+1,k+1,0,_,_,_,_,h,_,_=>by omega
 | n+1,k+1,q+1,l,i,hn,hk,hq,hi,hl=>by
  have hp:0<t.length:=aoH.2 h0;rw[Bf,nZ];unfold IG;cases hx:mo (s.drop i) t with
  | none=>
   rw[an9 (by simp),nk hi];simp only[aj,pJ];rw[mM (by simp;omega),aj];rfl
  | some j=>
   have hf:=KQ hx;simp only[apg]at hf
   have e0:(s.take ((i+j:Nat):Int).toNat).drop (i:Int).toNat=(s.drop i).take j:=by
    rw[ape];congr 1;omega
   have e1:bV (((i+j:Nat):Int)+(t.length:Int))=((i+(j+t.length):Nat):Int):=by rw[rA (by omega)];omega
   simp only;rw[aoa (by simp;omega),bS (by omega) (by omega) (by omega),aj,e0,pJ,aj,mM (by simp;omega),aj,e1,find_eq hs ht (by omega),aj];rw[U5 hs ht h0 hL n k q _ (i+(j+t.length)) (by omega) (by omega) (by omega) (by omega) (by simp;omega)];simp[mkS]
theorem aeV{s t:Str}(hL:s.length+2≤sI)(ht:t.length<1152921504606846976)(h0:t≠[]):EK s t=lI (EA ((nZ t (s.length+1) s).map mkS)):=by
 have hLL:sI=4294967296:=rfl;unfold EK;rw[an9 (by simpa using h0),ajs (by omega) ht,aj];have:=U5 (s:=s) (t:=t) (by omega) ht h0 hL (s.length+1) BIG (s.length+1) [] 0 (by omega) (by have:=iL;omega) (by omega) (by omega) (by simp;omega);simpa using this
theorem U3:∀(l:List Str) (i:Nat) (out:ah),out.aN.length+l.length≤sI→
  fu (fun _ s1 (out:ah) r=>av (mJ s1) fun x2=>av (app out.aN [x2]) fun x3=>r (ah.mk out.kind out.dR out.dA out.bR x3 out.keys)) (fun out=>some out) i l out=some (ah.mk out.kind out.dR out.dA out.bR (out.aN++l.map mkS) out.keys)
 | [],i,out,_=>by cases out;simp[fu]
 | s::l,i,out,h=>by
  simp only[aog]at h;rw[fu,mJ,aj,mM (by simp;omega),aj];refine(U3 l (i+1) _ (by simp;omega)).trans ?_;simp[mkS]
theorem abR{l:List Str}(h:l.length≤sI):zy l=some (EA (l.map mkS)):=by
 have hLL:sI=4294967296:=rfl;unfold zy;rw[fC (F:=fun k s i=>yL l k i s) (l:=l) (body:=fun _ s1 (out:ah) r=>av (mJ s1) fun x2=>av (app out.aN [x2]) fun x3=>r (ah.mk out.kind out.dR out.dA out.bR x3 out.keys)) (fin:=fun out=>some out) (by omega) (fun k s i=>rfl),U3 l 0 _ (by simp;omega)];rfl
theorem Vs(a:ah):∀(l:List Str) (i:Nat) (out:ah),out.aN.length+l.length≤sI→
  fu (fun _ s1 (out:ah) r=>av (pJ s1) fun x2=>av (app out.aN [x2]) fun x3=>r (ah.mk out.kind out.dR out.dA out.bR x3 out.keys)) (fun out=>some (out,(0:Int))) i l out=some (ah.mk out.kind out.dR out.dA out.bR (out.aN++l.map mkS) out.keys,0)
 | [],i,out,_=>by cases out;simp[fu]
 | s::l,i,out,h=>by
  simp only[aog]at h;rw[fu,pJ,aj,mM (by simp;omega),aj];refine(Vs a l (i+1) _ (by simp;omega)).trans ?_;simp[mkS]
theorem ae3{a:ah}(h:a.keys.length≤sI):Fj a BIG 0 (ah.mk 4 false 0 ([]:Str) [] [])=some (EA (a.keys.map mkS),0):=by
 have hLL:sI=4294967296:=rfl;rw[fC (F:=fun k s i=>Fj a k i s) (l:=a.keys) (body:=fun _ s1 (out:ah) r=>av (pJ s1) fun x2=>av (app out.aN [x2]) fun x3=>r (ah.mk out.kind out.dR out.dA out.bR x3 out.keys)) (fin:=fun out=>some (out,(0:Int))) (by omega) (fun k s i=>rfl),Vs a a.keys 0 _ (by simp;omega)];rfl
def preS(s t:Str):Bool:=(decide (t.length≤s.length))&&(s.take t.length==t)
def ahG(s t:Str):Bool:=(decide (t.length≤s.length))&&(s.drop (s.length-t.length)==t)
theorem abX(s t:Str):(if decide ((t.length:Int)≤(s.length:Int))then av (sl s 0 (t.length:Int)) fun x7=>some (x7==t)else some false)=some (preS s t):=by
 unfold preS;by_cases h:t.length≤s.length
 ·rw[aoa (by simp;omega),Yk h,aj];simp[h]
 ·rw[an9 (by simp;omega)];simp[h]
theorem abW{s t:Str}(hs:s.length<1152921504606846976)(ht:t.length<1152921504606846976):(if decide ((t.length:Int)≤(s.length:Int))then av (sl s (bV ((s.length:Int)-(t.length:Int))) (s.length:Int)) fun x9=>some (x9==t)else some false)=some (ahG s t):=by
 unfold ahG;by_cases h:t.length≤s.length
 ·rw[aoa (by simp;omega),rA (by omega),show (s.length:Int)-(t.length:Int)=((s.length-t.length:Nat):Int)from by omega,nk (by omega),aj];simp[h]
 ·rw[an9 (by simp;omega)];simp[h]
theorem ah1(s t:Str):strings_HasPrefix s t=some (preS s t):=abX s t
theorem ah0{s t:Str}(hs:s.length<1152921504606846976)(ht:t.length<1152921504606846976):strings_HasSuffix s t=some (ahG s t):=abW hs ht
end Go.Ft
namespace Go.Ft
open Go
attribute [local congr] fH
def dg(u:Nat):UInt8:=UInt8.ofNat (48+u)
theorem NK{u:Nat}(h:u<10):(dg u).toNat=48+u:=by
 unfold dg;rw[UInt8.toNat_ofNat',aoY (by omega)]
theorem agw{u:Nat}(h:u<10):dV (dg u)=true:=by
 unfold dV;rw[NK h];simp;omega
theorem NJ:∀(k m u:Nat),u<10 ^ k→u<10 ^ m→0<k→0<m→sG k u=sG m u
 | 0,_,_,_,_,h,_=>by omega
 | _,0,_,_,_,_,h=>by omega
 | k+1,m+1,u,h,h',_,_=>by
  rw[sG,sG];by_cases hu:u<10
  ·rw[aoa hu,aoa hu]
  ·rw[an9 hu,an9 hu]
   have hk:0<k:=by
    rcases apy k with h0|h0
    ·subst h0;omega
    ·exact h0
   have hm:0<m:=by
    rcases apy m with h0|h0
    ·subst h0;omega
    ·exact h0
   rw[NJ k m (u/10) (by rw[apa]at h;omega) (by rw[apa]at h';omega) hk hm]
theorem IW:∀(k u:Nat),u<10 ^ k→0<k→(sG k u).length≤k
 | 0,_,_,h=>by omega
 | k+1,u,h,_=>by
  rw[sG];split
  ·simp
  ·rename_i hu
   have hk:0<k:=by
    rcases apy k with h0|h0
    ·subst h0;omega
    ·exact h0
   have:=IW k (u/10) (by rw[apa]at h;omega) hk;simp only[apk,List.length_singleton];omega
theorem F6{u:Nat}(h:u<10):sG 20 u=[dg u]:=by rw[sG,aoa h];rfl
theorem Mv{u:Nat}(h:¬u<10)(hb:u<100000000000000000000):sG 20 u=sG 20 (u/10)++[dg (u%10)]:=by
 have e:sG 20 u=sG 19 (u/10)++[dg (u%10)]:=by rw[sG,an9 h];rfl
 rw[e,NJ 19 20 (u/10) (by have:(10:Nat) ^ 19=10000000000000000000:=(by decide);omega) (by have:(10:Nat) ^ 20=100000000000000000000:=(by decide);omega) (by omega) (by omega)]
attribute [local irreducible] sG
def X8:Str→Nat→Nat
 | [],acc=>acc
 | c::r,acc=>X8 r (acc*10+(c.toNat-48))
def wO(acc:Nat)(s:Str):Nat:=X8 s acc
theorem z8(acc:Nat):wO acc []=acc:=rfl
theorem oF(acc:Nat)(c:UInt8)(s:Str):wO acc (c::s)=wO (acc*10+(c.toNat-48)) s:=by simp only[wO,X8]
theorem Oq:∀(s t:Str) (acc:Nat),X8 (s++t) acc=X8 t (X8 s acc)
 | [],t,acc=>rfl
 | c::s,t,acc=>by rw[ao7,X8,X8,Oq s t]
theorem Ot(s t:Str)(acc:Nat):wO acc (s++t)=wO (wO acc s) t:=Oq s t acc
theorem abI:∀(s:Str) (acc:Nat),acc≤wO acc s
 | [],acc=>aon _
 | c::s,acc=>by rw[oF];have:=abI s (acc*10+(c.toNat-48));omega
def ad7(s:Str):Prop:=s≠[]∧(∀c∈s,dV c=true)∧(1<s.length→(s.head?.map UInt8.toNat)≠some 48)
theorem wu:∀(n u:Nat),u≤n→u<100000000000000000000→ad7 (sG 20 u)∧wO 0 (sG 20 u)=u∧(0<u→((sG 20 u).head?.map UInt8.toNat)≠some 48)
 | n,u,h,hb=>by
  by_cases hu:u<10
  ·rw[F6 hu];refine⟨⟨by simp,fun c hc=>?_,fun h=>by simp at h⟩,?_,fun hp=>?_⟩
   ·rw[ao0.1 hc];exact agw hu
   ·simp[oF,z8,NK hu]
   ·simp[NK hu];omega
  ·match n,h with
   | 0,h=>omega
   | n+1,h=>
    obtain⟨⟨h1,h2,h3⟩,h4,h5⟩:=wu n (u/10) (by omega) (by omega);rw[Mv hu hb]
    have hh:((sG 20 (u/10)++[dg (u%10)]).head?.map UInt8.toNat)=((sG 20 (u/10)).head?.map UInt8.toNat):=by
     cases hd:sG 20 (u/10)with
     | nil=>exact absurd hd h1
     | cons a l=>rfl
    refine⟨⟨by simp,fun c hc=>?_,fun _=>?_⟩,?_,fun _=>?_⟩
    ·rcases ao2.1 hc with hc|hc
     ·exact h2 c hc
     ·rw[ao0.1 hc];exact agw (by omega)
    ·rw[hh];exact h5 (by omega)
    ·rw[Ot,h4];simp only[oF,z8,NK (show u%10<10 from by omega)];omega
    ·rw[hh];exact h5 (by omega)
theorem qM{c:UInt8}(h:dV c=true):48≤c.toNat∧c.toNat≤57:=by
 unfold dV at h;simp only[aoj,aod]at h;omega
theorem ajw{c:UInt8}(h:dV c=true):c=dg (c.toNat-48):=by
 have:=qM h;apply aoD.1;rw[NK (by omega)];omega
theorem abH:∀(s:Str) (acc:Nat),(∀c∈s,dV c=true)→wO acc s<(acc+1)*10 ^ s.length
 | [],acc,_=>by simp[z8]
 | c::s,acc,h=>by
  have hc:=qM (h c (by simp));have:=abH s (acc*10+(c.toNat-48)) fun x hx=>h x (by simp[hx]);rw[oF,aog,apa]
  have e:(acc*10+(c.toNat-48)+1)*10 ^ s.length≤(acc+1)*(10 ^ s.length*10):=by
   rw[apM (10 ^ s.length) 10,←apX];exact aoy _ (by omega)
  omega
theorem SL:∀(n:Nat) (s:Str),s.length≤n→ad7 s→s.length≤19→sG 20 (wO 0 s)=s∧(1<s.length→10≤wO 0 s)∧(s.length=1→wO 0 s<10)
 | 0,s,h,hc,_=>by
  have:=aoH.2 hc.1;omega
 | n+1,s,h,⟨h1,h2,h3⟩,h19=>by
  by_cases hl:s.length=1
  ·obtain⟨c,rfl⟩:=len1 hl;have hd:=h2 c (by simp);have hn:=qM hd;have e:wO 0 [c]=c.toNat-48:=by simp[oF,z8]
   rw[e,F6 (by omega),←ajw hd];exact⟨rfl,fun h=>by simp at h,fun _=>by omega⟩
  ·have hpos:=aoH.2 h1;have hs:s=s.dropLast++[s.getLast h1]:=(List.dropLast_concat_getLast h1).symm;have hdl:s.dropLast.length=s.length-1:=List.length_dropLast;have hd:=h2 (s.getLast h1) (List.getLast_mem h1);have hn:=qM hd;have hne:s.dropLast≠[]:=fun h=>by rw[h]at hdl;simp at hdl;omega
   have hhd:s.dropLast.head?=s.head?:=by
    cases s with
    | nil=>exact absurd rfl h1
    | cons a l=>cases l with
     | nil=>simp at hl
     | cons b r=>rfl
   have hz:=h3 (by omega);have hcd:ad7 s.dropLast:=⟨hne,fun c hc=>h2 c ((List.dropLast_sublist s).subset hc),fun _=>by rw[hhd];exact hz⟩;obtain⟨i1,i2,i3⟩:=SL n s.dropLast (by omega) hcd (by omega)
   have hv:wO 0 s=wO 0 s.dropLast*10+((s.getLast h1).toNat-48):=by
    conv=>lhs;rw[hs]
    rw[Ot];rfl
   have hp:1≤wO 0 s.dropLast:=by
    by_cases h10:s.dropLast.length=1
    ·obtain⟨a,ha⟩:=len1 h10;have ha1:dV a=true:=h2 a ((List.dropLast_sublist s).subset (by rw[ha];simp));have ha2:=qM ha1;rw[←hhd,ha]at hz;simp only[List.head?_cons,Option.map_some,apd,aoi]at hz;rw[ha];simp only[oF,z8];omega
    ·have:=i2 (by omega);omega
   have hlt:=abH s 0 h2
   have h20:wO 0 s<100000000000000000000:=by
    have:(10:Nat) ^ s.length≤10 ^ 19:=apc (by omega) h19;have e19:(10:Nat) ^ 19=10000000000000000000:=by decide
    omega
   refine⟨?_,fun _=>by omega,fun h=>absurd h hl⟩;rw[Mv (by omega) h20];have e1:wO 0 s/10=wO 0 s.dropLast:=by omega
   have e2:wO 0 s%10=(s.getLast h1).toNat-48:=by omega
   rw[e1,e2,i1,←ajw hd];exact hs.symm
theorem W_:∀(s:Str) (acc:Nat),(∀c∈s,dV c=true)→wO acc s<18446744073709551616→Iq acc s=(0,wO acc s)
 | [],acc,_,_=>rfl
 | c::s,acc,h,hb=>by
  have hc:=qM (h c (by simp));have hg:=abI s (acc*10+(c.toNat-48));rw[oF]at hb⊢;rw[Iq,aoa hc,an9 (by omega),an9 (by omega)];exact W_ s _ (fun x hx=>h x (by simp[hx])) hb
theorem TD{u:Nat}(h:u<9223372036854775808):uM (sG 20 u)=(0,(u:Int)):=by
 obtain⟨⟨h1,h2,h3⟩,h4,h5⟩:=wu u u (aon _) (by omega);cases hd:sG 20 u with
 | nil=>exact absurd hd h1
 | cons c r=>
  rw[hd]at h2 h4;have hc:=qM (h2 c (by simp));unfold uM;have e1:¬(c.toNat=43∨c.toNat=45):=by omega
  have hm:=W_ (c::r) 0 h2 (by omega);rw[h4]at hm;have e45:¬c.toNat=45:=by omega
  have e43:¬c.toNat=43:=by omega
  simp only[e43,e45,or_self,aob,hm,reduceCtorEq];simp;omega
theorem agT{u:Nat}(h:u<9223372036854775808):uM (45::sG 20 u)=(0,-(u:Int)):=by
 obtain⟨⟨h1,h2,h3⟩,h4,h5⟩:=wu u u (aon _) (by omega);unfold uM;have e45:(45:UInt8).toNat=45:=rfl;have hm:=W_ (sG 20 u) 0 h2 (by omega);rw[h4]at hm;simp only[e45,or_true,aoc];rw[an9 h1,hm];simp;omega
theorem ads{s:Str}(hs:s.length≤281474976710656):∃n ok,uE s=some (n,ok)∧(ok=true→s=um n∧-9007199254740992≤n∧n≤9007199254740992)∧(∀m:Int,s=um m→-9007199254740992≤m→m≤9007199254740992→ok=true∧n=m):=by
 have hat:∀m:Int,-9007199254740992≤m→m≤9007199254740992→uM (um m)=(0,m):=by
  intro m h1 h2;unfold um;split
  ·rw[agT (by omega)];congr 1;omega
  ·rw[TD (by omega)];congr 1;omega
 unfold uE strconv_Atoi strconv_Itoa;rw[aoa hs,aA];by_cases hz:(uM s).1=0
 ·rw[aoa hz];simp only[Option.isSome_none,an_,aob]
  have hr:-9223372036854775808≤(uM s).2∧(uM s).2≤9223372036854775807:=by
   have mg:∀(l:Str) (acc:Nat),acc<18446744073709551616→(Iq acc l).2<18446744073709551616:=by
    intro l
    induction l with
    | nil=>intro acc h;exact h
    | cons c l ih=>
     intro acc h;rw[Iq];split
     ·split
      ·simp
      ·split
       ·simp
       ·exact ih _ (by omega)
     ·simp
   unfold uM;cases s with
   | nil=>simp
   | cons c r=>
    simp only
    repeat' split
    all_goals simp_all
    all_goals omega
  rw[aoa hr,aj,aj];by_cases hi:um (uM s).2=s
  ·by_cases hb:-9007199254740992≤(uM s).2∧(uM s).2≤9007199254740992
   ·rw[an9 (by simp[hi];omega)];exact⟨_,_,rfl,fun _=>⟨hi.symm,hb⟩,fun m h1 h2 h3=>⟨rfl,by rw[h1,hat m h2 h3]⟩⟩
   ·rw[aoa (by simp[hi];omega)];exact⟨_,_,rfl,(fun h=>by cases h),fun m h1 h2 h3=>absurd (by rw[h1,hat m h2 h3];exact⟨h2,h3⟩) hb⟩
  ·rw[aoa (by simp[hi])];exact⟨_,_,rfl,(fun h=>by cases h),fun m h1 h2 h3=>absurd (by rw[h1,hat m h2 h3]) hi⟩
 ·rw[an9 hz];simp only[Option.isSome_some,aoc,aj,Bool.true_or];exact⟨_,_,rfl,(fun h=>by cases h),fun m h1 h2 h3=>absurd (by rw[h1,hat m h2 h3]) hz⟩
theorem ade{s:Str}(hs:s.length≤16):∀(t:Str) (i acc:Nat),t=s.drop i→acc<10 ^ i→
  ∃n ok,fu (fun(i:Nat) c (n1:Int) r=>av (Cb c) fun x3=>if !x3 then some ((0:Int),false)else av (idx s (i:Int)) fun x4=>r (bV ((bV ((bV (10*n1))+(x4.toNat:Int)))-48))) (fun n1=>some (n1,(decide (n1≤9007199254740992)))) i t (acc:Int)=some (n,ok)∧
   (ok=true↔(∀c∈t,dV c=true)∧wO acc t≤9007199254740992)∧(ok=true→n=wO acc t):=by
 intro t
 induction t with
 | nil=>
  intro i acc ht ha;refine⟨_,_,rfl,?_,fun _=>rfl⟩;simp[z8];omega
 | cons c t ih=>
  intro i acc ht ha;obtain⟨hi,e1,e2⟩:=sU ht;rw[fu,ahT,aj,jL hi,←e1];simp only[aj];cases hd:dV c with
  | false=>
   refine⟨0,false,rfl,?_,fun h=>by cases h⟩;simp[hd]
  | true=>
   have hc:=qM hd;have h16:(10:Nat) ^ i≤10 ^ 15:=apc (by omega) (by omega);have e15:(10:Nat) ^ 15=1000000000000000:=by decide
   simp only[aos,an_,aob]
   have ew:bV ((bV ((bV (10*(acc:Int)))+(c.toNat:Int)))-48)=((acc*10+(c.toNat-48):Nat):Int):=by
    rw[rA (n:=10*(acc:Int)) (by omega),rA (n:=10*(acc:Int)+(c.toNat:Int)) (by omega),rA (by omega)];omega
   rw[ew];obtain⟨n,ok,q1,q2,q3⟩:=ih (i+1) (acc*10+(c.toNat-48)) e2 (by rw[apa];omega);refine⟨n,ok,q1,?_,q3⟩;rw[q2,oF];simp[hd]
theorem PK(s:Str):∃n ok,DL s=some (n,ok)∧(ok=true→∃u:Nat,n=u∧s=sG 20 u∧u≤9007199254740992)∧∀u:Nat,s=sG 20 u→u≤9007199254740992→ok=true∧n=u:=by
 unfold DL;by_cases h0:s=[]∨16<s.length
 ·have e:((s==([]:Str))||(decide (16<(s.length:Int))))=true:=by
   rcases h0 with h|h
   ·simp[h]
   ·simp;right;omega
  rw[aoa e];simp only[aj,aoc];refine⟨0,false,rfl,(fun h=>by cases h),fun u h1 h2=>?_⟩;obtain⟨⟨q1,_,_⟩,_,_⟩:=wu u u (aon _) (by omega);have hl:=IW 16 u (by have:(10:Nat) ^ 16=10000000000000000:=(by decide);omega) (by omega);rw[NJ 16 20 u (by have:(10:Nat) ^ 16=10000000000000000:=(by decide);omega) (by have:(10:Nat) ^ 20=100000000000000000000:=(by decide);omega) (by omega) (by omega),←h1]at hl;rcases h0 with h|h
  ·rw[h1]at h;exact absurd h q1
  ·omega
 ·have hne:s≠[]:=fun h=>h0 (.inl h);have hlen:s.length≤16:=by omega
  have hpos:=aoH.2 hne;have e:((s==([]:Str))||(decide (16<(s.length:Int))))=false:=by simp[hne];omega
  rw[an9 (by rw[e];simp)];obtain⟨n,ok,q1,q2,q3⟩:=ade hlen s 0 0 rfl (by simp)
  have hF:zn s BIG 0 0=some (n,ok):=by
   rw[fC (F:=fun k n1 i=>zn s k n1 i) (l:=s) (body:=fun(i:Nat) c (n1:Int) r=>av (Cb c) fun x3=>if !x3 then some ((0:Int),false)else av (idx s (i:Int)) fun x4=>r (bV ((bV ((bV (10*n1))+(x4.toNat:Int)))-48))) (fin:=fun n1=>some (n1,(decide (n1≤9007199254740992)))) (by omega) (fun k s i=>rfl) 0];exact q1
  have zero:∀(c:UInt8) (r:Str),s=c::r→idx s 0=some c:=fun c r h=>by rw[h];rfl
  obtain⟨c,r,hcr⟩:∃c r,s=c::r:=by
   cases s with
   | nil=>exact absurd rfl hne
   | cons c r=>exact⟨c,r,rfl⟩
  have hb1:(if decide (1<(s.length:Int))=true then av (idx s 0) fun x1=>some ((x1.toNat:Int)==48)else some false)=some ((decide (1<s.length))&&((c.toNat:Int)==48)):=by
   rw[zero c r hcr];by_cases h1:1<s.length
   ·rw[aoa (by simp;omega),aj];simp[h1]
   ·rw[an9 (by simp;omega)];simp[h1]
  rw[hb1,aj];by_cases hz:1<s.length∧c.toNat=48
  ·rw[aoa (by simp[hz.1];omega)];refine⟨0,false,rfl,(fun h=>by cases h),fun u h1 h2=>?_⟩;obtain⟨⟨_,_,q⟩,_,_⟩:=wu u u (aon _) (by omega);rw[←h1]at q;have:=q hz.1;rw[hcr]at this;simp[hz.2]at this
  ·rw[an9 (by simp;intro h;omega),hF];refine⟨n,ok,rfl,fun h=>?_,fun u h1 h2=>?_⟩
   ·obtain⟨d1,d2⟩:=q2.1 h;have hcan:ad7 s:=⟨hne,d1,fun h1=>by rw[hcr];simp;omega⟩;exact⟨wO 0 s,q3 h,(SL _ s (aon _) hcan (by omega)).1.symm,d2⟩
   ·obtain⟨⟨_,q5,_⟩,q4,_⟩:=wu u u (aon _) (by omega);rw[←h1]at q5 q4;have hok:ok=true:=q2.2 ⟨q5,by omega⟩;exact⟨hok,by rw[q3 hok,q4]⟩
theorem number_eq{s:Str}(hs:s.length≤281474976710656):∃n ok n',uE s=some (n,ok)∧Cz s=some (n',ok)∧(ok=true→n=n'∧-9007199254740992≤n∧n≤9007199254740992):=by
 obtain⟨n,ok,p1,p2,p3⟩:=ads hs;unfold Cz
 have fin:∀(n':Int) (ok':Bool),(ok'=true→s=um n'∧-9007199254740992≤n'∧n'≤9007199254740992)→(∀m:Int,s=um m→-9007199254740992≤m→m≤9007199254740992→ok'=true)→ok'=ok∧(ok=true→n=n'∧-9007199254740992≤n∧n≤9007199254740992):=by
  intro n' ok' a1 a2
  have e:ok'=ok:=by
   cases ok with
   | true=>obtain⟨b1,b2,b3⟩:=p2 rfl;exact a2 n b1 b2 b3
   | false=>
    cases ok' with
    | false=>rfl
    | true=>obtain⟨b1,b2,b3⟩:=a1 rfl;have:=(p3 n' b1 b2 b3).1;cases this
  refine⟨e,fun h=>?_⟩;subst e;obtain⟨b1,b2,b3⟩:=a1 h;have:=(p3 n' b1 b2 b3).2;exact⟨this,by omega,by omega⟩
 cases hc:s with
 | nil=>
  simp only[aoM,aos,an_,aob,aj];obtain⟨n',ok',r1,r2,r3⟩:=PK [];rw[hc]at p1
  obtain⟨f1,f2⟩:=fin n' ok' (fun h=>by
   obtain⟨u,u1,u2,u3⟩:=r2 h;rw[hc,u1];refine⟨?_,by omega,by omega⟩
   unfold um;rw[an9 (by omega)];simpa using u2) (fun m h1 h2 h3=>by
   rw[hc]at h1;unfold um at h1;split at h1
   ·cases h1
   ·exact(r3 _ h1 (by omega)).1)
  exact⟨n,ok,n',p1,by rw[r1,f1],f2⟩
 | cons c r=>
  rw[hc]at p1;have e0:(!((c::r:Str)==([]:Str)))=true:=rfl;have i0:idx (c::r) 0=some c:=rfl;simp only[e0,aoc,i0,aj]
  have dn:∀u:Nat,u<100000000000000000000→∀(x:UInt8) (l:Str),sG 20 u=x::l→x.toNat≠45:=by
   intro u hu x l h;obtain⟨⟨_,q,_⟩,_,_⟩:=wu u u (aon _) hu;rw[h]at q;have:=qM (q x (by simp));omega
  by_cases h45:(c.toNat:Int)=45
  ·rw[aoa (by simpa using h45)]
   have hsl:sl (c::r) 1 (((c::r:Str).length:Nat):Int)=some r:=by
    have:=nk (s:=c::r) (i:=1) (by simp);simpa using this
   rw[hsl,aj];obtain⟨n',ok',r1,r2,r3⟩:=PK r;rw[r1,aA];have anr:c=45:=aoD.1 (by have:(45:UInt8).toNat=45:=rfl;omega)
   obtain⟨f1,f2⟩:=fin (bV (0-n')) (ok'&&(n' !=0)) (fun h=>by
    simp only[aoj,aoA]at h;obtain⟨u,u1,u2,u3⟩:=r2 h.1;rw[rA (by omega),u1];refine⟨?_,by omega,by omega⟩;unfold um;rw[aoa (by omega),hc,anr];congr 1
    rw[u2];congr 1;omega) (fun m h1 h2 h3=>by
    rw[hc]at h1;unfold um at h1;split at h1
    ·rename_i hm;simp only[aoP]at h1;obtain⟨o1,o2⟩:=r3 _ h1.2 (by omega);rw[o1,o2];simp;omega
    ·exact absurd (by omega) (dn _ (by omega) c r h1.symm))
   exact⟨n,ok,_,p1,by rw[f1],f2⟩
  ·rw[an9 (by simpa using h45)];obtain⟨n',ok',r1,r2,r3⟩:=PK (c::r)
   obtain⟨f1,f2⟩:=fin n' ok' (fun h=>by
    obtain⟨u,u1,u2,u3⟩:=r2 h;rw[hc,u1];refine⟨?_,by omega,by omega⟩
    unfold um;rw[an9 (by omega)];simpa using u2) (fun m h1 h2 h3=>by
    rw[hc]at h1;unfold um at h1;split at h1
    ·simp only[aoP]at h1;exact absurd (by rw[h1.1];rfl) h45
    ·exact(r3 _ h1 (by omega)).1)
   exact⟨n,ok,n',p1,by rw[r1,f1],f2⟩
end Go.Ft
namespace Go.Ft
open Go
attribute [local congr] fH
def xH(l:List aB):ah:=ah.mk 5 false 0 ([]:Str) (l.map (·.value)) (l.map (·.name))
def R6(x:aB):List aB→List aB
 | []=>[x]
 | y::t=>if gI x.name y.name<0 then x::y::t else y::R6 x t
def TG(l:List aB):Prop:=l.Pairwise fun x y=>gI x.name y.name<0
theorem Nw(x:aB):∀l:List aB,(R6 x l).Perm (x::l)
 | []=>List.Perm.refl _
 | y::t=>by
  rw[R6];split
  ·exact List.Perm.refl _
  ·exact((Nw x t).cons y).trans (List.Perm.swap x y t)
theorem Y5(x:aB):∀l:List aB,TG l→(∀y∈l,y.name≠x.name)→TG (R6 x l)
 | [],_,_=>by simp[R6,TG]
 | y::t,h,hn=>by
  unfold TG at h⊢;rw[ao_]at h;rw[R6];split
  ·rename_i hlt;rw[ao_,ao_];refine⟨fun z hz=>?_,h⟩;rcases aoB.1 hz with rfl|hz
   ·exact hlt
   ·exact Bv hlt (h.1 z hz)
  ·rename_i hge;rw[ao_];refine⟨fun z hz=>?_,Y5 x t h.2 fun z hz=>hn z (by simp[hz])⟩;rcases aoB.1 ((Nw x t).mem_iff.1 hz)with rfl|hz
   ·have hne:=hn y (by simp);have h0:gI z.name y.name≠0:=fun h=>hne (xB h).symm;rw[rJ];omega
   ·exact h.1 z hz
theorem OV:∀ {l m:List aB},TG l→TG m→l.Perm m→l=m
 | [],m,_,_,h=>(List.nil_perm.1 h).symm
 | x::l,[],_,_,h=>by simp at h
 | x::l,y::m,hl,hm,h=>by
  unfold TG at hl hm;rw[ao_]at hl hm
  have hxy:x=y:=by
   have h1:=h.mem_iff.1 (show x∈x::l by simp);have h2:=h.mem_iff.2 (show y∈y::m by simp);simp only[aoB]at h1 h2;rcases h1 with h1|h1
   ·exact h1
   ·rcases h2 with h2|h2
    ·exact h2.symm
    ·have a1:=hm.1 x h1;have a2:=hl.1 y h2;rw[rJ]at a1;omega
  subst hxy;rw[OV (l:=l) (m:=m) hl.2 hm.2 (List.Perm.cons_inv h)]
def kC(l:List aB):List aB:=l.mergeSort fun x y=>!decide (gI y.name x.name<0)
theorem uO(l:List aB):(kC l).Perm l:=List.mergeSort_perm _ _
theorem Om{l:List aB}(h:(l.map (·.name)).Nodup):TG (kC l):=by
 have hs:(kC l).Pairwise fun x y=>¬gI y.name x.name<0:=by
  have:=List.pairwise_mergeSort (le:=fun x y:aB=>!decide (gI y.name x.name<0)) (fun a b c h1 h2=>by
   simp only[aoG,aow]at *
   exact Es h2 h1) (fun a b=>by
   simp only[aov,aoG,aow]
   rw[rJ];omega) l
  refine this.imp fun {a b} h=>?_;simpa using h
 have hn:((kC l).map (·.name)).Nodup:=((uO l).map _).nodup_iff.2 h;rw[List.Nodup,List.pairwise_map]at hn;refine(hs.and hn).imp fun {a b} h=>?_;have h0:gI a.name b.name≠0:=fun e=>h.2 (xB e);have:=h.1;rw[rJ]at this;omega
theorem Lg{l:List aB}{x:aB}(hk:∀y∈l,y.name.length<4611686018427387904)(hx:x.name.length<4611686018427387904)(hl:2*l.length+2≤sI):∀(k i:Nat) (done:Bool) (o:List aB),l.length<k+i→i≤l.length→o.length≤i+done.toNat→
  Af (xH l) x k done (i:Int) (xH o)=some (xH (o++if done then l.drop i else R6 x (l.drop i)))
 | 0,i,_,_,h,h',_=>by omega
 | k+1,i,done,o,h,h',ho=>by
  have hL:sI=4294967296:=rfl;have hd1:done.toNat≤1:=Bool.toNat_le done;have kl:(xH l).keys.length=l.length:=by simp[xH]
  have ll:(xH l).aN.length=l.length:=by simp[xH]
  rw[Af];by_cases hi:i<l.length
  ·have ik:idx (xH l).keys (i:Int)=some l[i].name:=by rw[jL (by rw[kl];exact hi)];simp[xH]
   have il:idx (xH l).aN (i:Int)=some l[i].value:=by rw[jL (by rw[ll];exact hi)];simp[xH]
   have hm:l[i]∈l:=aoq hi;have ok1:(xH o).keys=o.map (·.name):=rfl;have ol1:(xH o).aN=o.map (·.value):=rfl;rw[aoa (by rw[kl];simp;omega),ik,il,aoe hi];simp only[aj,ok1,ol1];rw[mM (l:=o.map (·.name)) (by simp;omega),mM (l:=o.map (·.value)) (by simp;omega),mM (l:=o.map (·.name)) (by simp;omega),mM (l:=o.map (·.value)) (by simp;omega),kr (by omega)];simp only[aj];rw[mM (by simp;omega),mM (by simp;omega)];simp only[aj];have e1:(ah.mk (xH o).kind (xH o).dR (xH o).dA (xH o).bR (o.map (·.value)++[l[i].value]) (o.map (·.name)++[l[i].name]))=xH (o++[l[i]]):=by simp[xH]
   have e2:(ah.mk (xH o).kind (xH o).dR (xH o).dA (xH o).bR (o.map (·.value)++[x.value]++[l[i].value]) (o.map (·.name)++[x.name]++[l[i].name]))=xH (o++[x,l[i]]):=by simp[xH]
   rw[e1,e2];cases done with
   | true=>
    simp only[Bool.toNat_true]at ho;simp only[aos,an_,aob,aj,aoc];rw[Lg hk hx hl k (i+1) true (o++[l[i]]) (by omega) (by omega) (by simp;omega)];simp
   | false=>
    simp only[aoz,aoc,aj,KO hx (hk _ hm),an_,aob];rw[R6];by_cases hc:gI x.name l[i].name<0
    ·rw[aoa (by simpa using hc),aoa hc];simp only[Bool.toNat_false]at ho;rw[Lg hk hx hl k (i+1) true (o++[x,l[i]]) (by omega) (by omega) (by simp;omega)];simp
    ·simp only[Bool.toNat_false]at ho;rw[an9 (by simpa using hc),an9 hc,Lg hk hx hl k (i+1) false (o++[l[i]]) (by omega) (by omega) (by simp;omega)];simp
  ·have:i=l.length:=by omega
   subst this;have ok1:(xH o).keys=o.map (·.name):=rfl;have ol1:(xH o).aN=o.map (·.value):=rfl;rw[an9 (by rw[kl];simp),List.drop_length,ok1,ol1];cases done with
   | true=>simp
   | false=>
    simp only[aoz,aoc];rw[mM (by simp;omega),aj,mM (by simp;omega),aj];simp[xH,R6]
theorem ahp{l:List aB}{x:aB}(hk:∀y∈l,y.name.length<4611686018427387904)(hx:x.name.length<4611686018427387904)(hl:2*l.length+2≤sI):Q9 (xH l) x=some (xH (R6 x l)):=by
 have hL:sI=4294967296:=rfl;have:=Lg hk hx hl BIG 0 false [] (by have:=iL;omega) (by omega) (by simp);simpa[Q9,xH]using this
theorem agj:∀(l:List aB) (q:Str),(∀y∈l,y.name≠q)→GR (l.map (·.name)) (l.map (·.value)) q=none:=fun l q h=>Si _ _ _ fun hm=>by
 obtain⟨y,hy,he⟩:=ao4.1 hm;exact h y hy he
structure Ent(vars:List aB):Prop where
 len:vars.length≤1024
 key:∀x∈vars,uj x.name=true
 val:∀x∈vars,VV x.value∧x.value.bulk<1152921504606846976
 nodup:(vars.map (·.name)).Nodup
theorem zw{s:Str}(h:uj s=true):1≤s.length∧s.length≤64:=by
 unfold uj at h;simpa using h
theorem Yp{vars:List aB}(H:Ent vars):∀(k i:Nat) (l:List aB),vars.length<k+i→i≤vars.length→TG l→l.Perm (vars.take i)→
  Fz vars k (i:Int) (xH l)=some (if ∃x∈vars.drop i,wE x.value=16 then (ZV,13)else (xH (kC vars),0))
 | 0,i,_,h,h',_,_=>by omega
 | k+1,i,l,h,h',ha,hp=>by
  have hL:sI=4294967296:=rfl;have hlen:=H.len;have hll:l.length=i:=by rw[hp.length_eq];simp;omega
  rw[Fz];by_cases hi:i<vars.length
  ·have hm:vars[i]∈vars:=aoq hi;have hk:=H.key _ hm;obtain⟨hv,hb⟩:=H.val _ hm;have hkl:=zw hk;rw[aoa (by simp;omega),jL hi];simp only[aj,key_eq,hk,aos,an_,aob,V_ (show vars[i].value.bulk<4611686018427387904 by omega),(Og _).2 hv,aoT,QW (show vars[i].value.bulk<4611686018427387904 by omega)];rw[aoe hi];by_cases h16:wE vars[i].value=16
   ·rw[aoa (by simp[h16]),aoa ⟨vars[i],apV,h16⟩];rfl
   ·have hno:∀y∈l,y.name≠vars[i].name:=by
     intro y hy he;have hy2:=hp.mem_iff.1 hy;obtain⟨j,hj,e⟩:=apJ.1 hy2;simp only[apF]at hj;have hn:=H.nodup;rw[List.Nodup,List.pairwise_iff_getElem]at hn;have:=hn j i (by simp;omega) (by simpa using hi) (by omega);apply this;simp only[List.getElem_map];rw[←he,←e];simp
    have hg:NG (xH l) vars[i].name=none:=by
     unfold NG;rw[aoa (show (xH l).kind=5 from rfl)];exact agj l _ hno
    have hks:∀y∈l,y.name.length<4611686018427387904:=fun y hy=>by
     have:=zw (H.key y (List.mem_of_mem_take (hp.mem_iff.1 hy)));omega
    rw[an9 (by simp;omega),WA (by simp[xH];omega),hg,aaM,aA,an9 (by simp),ahp hks (by omega) (by omega),aj,kr (by omega)];rw[Yp H k (i+1) (R6 vars[i] l) (by omega) (by omega) (Y5 _ _ ha hno) ?_]
    ·congr 1;refine fH (propext ⟨fun⟨x,hx,hq⟩=>⟨x,apI _ hx,hq⟩,fun⟨x,hx,hq⟩=>?_⟩);rcases aoB.1 hx with rfl|hx
     ·exact absurd hq h16
     ·exact⟨x,hx,hq⟩
    ·refine(Nw _ _).trans ?_;rw[apG hi];exact(hp.cons _).trans (List.perm_append_singleton _ _).symm
  ·have hie:i=vars.length:=by omega
   rw[an9 (by simp;omega),an9 (by rw[hie];simp)];congr 1;rw[hie,List.take_length]at hp;have:l=kC vars:=OV ha (Om H.nodup) (hp.trans (uO _).symm);rw[this]
def YR(vars:List aB):ah × Int:=if ∃x∈vars,wE x.value=16 then (ZV,13)else (xH (kC vars),0)
theorem ahU{vars:List aB}(H:Ent vars):PN vars=some (YR vars):=by
 have hlen:=H.len;unfold PN YR;rw[an9 (by simp;omega)];exact Yp H BIG 0 [] (by have:=iL;omega) (by omega) List.Pairwise.nil (by simp)
theorem adX{l:List aB}{q:aB}(hl:l.length<4611686018427387904)(h:∀y∈l,y.name≠q.name):gM l (fun z0=>mO z0 q)=some false:=by
 unfold gM jl;rw[fC (F:=fun k (_:Unit) i=>gL l (fun z0=>mO z0 q) k i) (l:=l) (body:=fun(i:Nat) e1 (_:Unit) r=>av (mO e1 q) fun x1=>if x1 then some (i:Int)else r ()) (fin:=fun _=>some (-1)) hl (fun k s i=>rfl) ()]
 have key:∀(t:List aB) (i:Nat),(∀y∈t,y.name≠q.name)→fu (fun(i:Nat) e1 (_:Unit) r=>av (mO e1 q) fun x1=>if x1 then some (i:Int)else r ()) (fun _=>some (-1)) i t ()=some (-1):=by
  intro t
  induction t with
  | nil=>intro i _;rfl
  | cons d t ih=>
   intro i ht;rw[fu,mO,aj,an9 (by simpa using ht d (by simp))];exact ih (i+1) fun y hy=>ht y (by simp[hy])
 rw[key l 0 h];rfl
theorem entry_eq{vars:List aB}(H:Ent vars){i:Nat}(hi:i<vars.length):zZ vars (i:Int)=some (if wE vars[i].value=16 then 13 else 0):=by
 have hlen:=H.len;have hm:vars[i]∈vars:=aoq hi;have hkl:=zw (H.key _ hm);obtain⟨hv,hb⟩:=H.val _ hm;unfold zZ;rw[jL hi,aj,an9 (by simp;omega),ED (by omega),(Og _).2 hv,aj,an9 (by simp),aae (by omega) hv.1,aj];have:=hv.2;by_cases h16:wE vars[i].value=16
 ·rw[aoa (by simp[h16]),aoa h16]
 ·have hsl:sl vars 0 (i:Int)=some (vars.take i):=by rw[bS (by omega) (by omega) (by omega)];simp
  rw[an9 (by simp;omega),an9 h16,hsl,aj,adX (by simp;omega),aj]
  ·rfl
  ·intro y hy he;obtain⟨j,hj,e⟩:=apJ.1 hy;simp only[apF]at hj;have hn:=H.nodup;rw[List.Nodup,List.pairwise_iff_getElem]at hn;have:=hn j i (by simp;omega) (by simpa using hi) (by omega);apply this;simp only[List.getElem_map];rw[←he,←e];simp
theorem RN:∀(l:List aB) (i:Nat) (o:List aB),(∀x∈l,mX x.value=some x.value)→o.length+l.length≤sI→
  fu (fun _ e2 (bD:ah) r=>av (app bD.keys ([e2.name]:List Str)) fun x2=>av (mX e2.value) fun x3=>av (app bD.aN [x3]) fun x4=>r (ah.mk bD.kind bD.dR bD.dA bD.bR x4 x2)) (fun bD=>some (bD,(0:Int))) i l (xH o)=some (xH (o++l),0)
 | [],i,o,_,_=>by simp[fu]
 | x::l,i,o,hb,hl=>by
  simp only[aog]at hl;have ok1:(xH o).keys=o.map (·.name):=rfl;have ol1:(xH o).aN=o.map (·.value):=rfl;rw[fu,ok1,ol1,mM (by simp;omega),aj,hb x (by simp),aj,mM (by simp;omega),aj];have e1:(ah.mk (xH o).kind (xH o).dR (xH o).dA (xH o).bR (o.map (·.value)++[x.value]) (o.map (·.name)++[x.name]))=xH (o++[x]):=by simp[xH]
  rw[e1];refine(RN l (i+1) (o++[x]) (fun y hy=>hb y (by simp[hy])) (by simp;omega)).trans ?_;simp
theorem ahr{vars:List aB}(H:Ent vars):B_ vars=some (YR vars):=by
 have hL:sI=4294967296:=rfl;have hlen:=H.len;unfold B_ YR;rw[an9 (by simp;omega)]
 have fin:(av (gD vars) fun PE=>av (U8 (fun x=>x.name) PE) fun sO=>uR sO BIG 0 (ah.mk 5 false 0 ([]:Str) [] []))=some (xH (kC vars),0):=by
  have hs:U8 (fun x:aB=>x.name) vars=some (kC vars):=by
   unfold U8;rw[aoa ⟨by omega,fun x hx=>by have:=zw (H.key x hx);show x.name.length<_;omega,H.nodup⟩];rfl
  rw[gD,mM (by simp;omega),apv,aj,hs,aj];have hsl:(kC vars).length=vars.length:=(uO vars).length_eq;rw[fC (F:=fun k s i=>uR (kC vars) k i s) (l:=kC vars) (body:=fun _ e2 (bD:ah) r=>av (app bD.keys ([e2.name]:List Str)) fun x2=>av (mX e2.value) fun x3=>av (app bD.aN [x3]) fun x4=>r (ah.mk bD.kind bD.dR bD.dA bD.bR x4 x2)) (fin:=fun bD=>some (bD,(0:Int))) (by omega) (fun k s i=>rfl)];exact RN (kC vars) 0 [] (fun x hx=>by obtain⟨q1,q2⟩:=H.val x ((uO vars).mem_iff.1 hx);exact(MR q1.1 (by omega)).1) (by simp;omega)
 have key:∀(k i:Nat),vars.length<k+i→i≤vars.length→uS vars k (i:Int)=some (if ∃x∈vars.drop i,wE x.value=16 then (ZV,13)else (xH (kC vars),0)):=by
  intro k
  induction k with
  | zero=>intro i h h';omega
  | succ k ih=>
   intro i h h';rw[uS];by_cases hi:i<vars.length
   ·rw[aoa (by simp;omega),entry_eq H hi,aj,aoe hi];by_cases h16:wE vars[i].value=16
    ·rw[aoa h16,aoa (by simp),aoa ⟨vars[i],apV,h16⟩];rfl
    ·rw[an9 h16,an9 (by simp),kr (by omega),ih (i+1) (by omega) (by omega)];congr 1;refine fH (propext ⟨fun⟨x,hx,hq⟩=>⟨x,apI _ hx,hq⟩,fun⟨x,hx,hq⟩=>?_⟩);rcases aoB.1 hx with rfl|hx
     ·exact absurd hq h16
     ·exact⟨x,hx,hq⟩
   ·have hie:i=vars.length:=by omega
    rw[an9 (by simp;omega),fin,an9 (by rw[hie];simp)]
 exact key BIG 0 (by have:=iL;omega) (by omega)
theorem acN:∀(l:List aB) (p:Option Str),(∀x∈l,uj x.name=true)→TG l→(∀q,p=some q→q.length<4611686018427387904∧∀x∈l,gI q x.name<0)→Jj p (l.map (·.name))=true
 | [],p,_,_,_=>by simp[Jj]
 | x::l,p,hk,ha,hp=>by
  unfold TG at ha;rw[ao_]at ha;have hx:=zw (hk x (by simp));rw[aot,Jj.eq_def];simp only;rw[hk x (by simp),acN l (some x.name) (fun y hy=>hk y (by simp[hy])) ha.2 (fun q hq=>by cases hq;exact⟨by omega,ha.1⟩)];cases p with
  | none=>rfl
  | some q=>
   obtain⟨h1,h2⟩:=hp q rfl;have hn:Uc q x.name=gI q x.name:=by unfold Uc;rw[KO h1 (by omega)];rfl
   simp[hn,h2 x (by simp)]
theorem aif{vars:List aB}(H:Ent vars)(h:¬ ∃x∈vars,wE x.value=16):VV (xH (kC vars)):=by
 have hp:=uO vars;have hlen:=H.len;have hl:=hp.length_eq;have hkeys:Jj none ((kC vars).map (·.name))=true:=acN _ none (fun x hx=>H.key x (hp.mem_iff.1 hx)) (Om H.nodup) (fun q hq=>by cases hq);constructor
 ·refine(xL _).2 ⟨?_,fun x hx=>?_⟩
  ·unfold ni;rw[an9 (by omega)];have e1:(xH (kC vars)).kind=5:=rfl;have e2:(xH (kC vars)).keys=(kC vars).map (·.name):=rfl;have e3:(xH (kC vars)).aN=(kC vars).map (·.value):=rfl;have e4:(xH (kC vars)).dA=0:=rfl;have e5:(xH (kC vars)).bR=[]:=rfl;have e6:qC (xH (kC vars))=true:=by simp[qC,xH]
   rw[e1,e2,e3,e4,e5,e6,hkeys];simp[hl];omega
  ·obtain⟨y,hy,rfl⟩:=ao4.1 hx;exact(H.val y (hp.mem_iff.1 hy)).1.1
 ·rw[uh,aoa (by rfl),zQ];refine⟨by omega,fun x hx=>?_⟩;obtain⟨y,hy,rfl⟩:=ao4.1 hx;have hy':=hp.mem_iff.1 hy;have:=(H.val y hy').1.2;have:wE y.value≠16:=fun e=>h ⟨y,hy',e⟩;omega
end Go.Ft
namespace Go.Ft
open Go
attribute [local congr] fH
def zK{α:Type}(p:α × Int):eX aF α:=if p.2=0 then .ok p.1 else .bad ⟨p.2⟩
def okV(v:ah):ah × Int:=(v,0)
def u_(c:Int):ah × Int:=(ZV,c)
@[simp] theorem amS(v:ah):zK (okV v)=.ok v:=rfl
theorem qF{c:Int}(h:c≠0):zK (u_ c)=.bad ⟨c⟩:=an9 h
theorem kE(b:Bool)(c:Int):eF b c=some (if b then .ok ()else .bad ⟨c⟩):=by
 unfold eF zB;cases b<;>rfl
theorem Nr(c:Int):eF true c=some (.ok ()):=kE true c
theorem Ns(c:Int):eF false c=some (.bad ⟨c⟩):=kE false c
def GV(p:ah × Int)(N:Nat):Prop:=(p.2=0→VV p.1∧p.1.bulk≤N)∧(p.2≠0→p.1=ZV)
theorem GV.er{c:Int}{N:Nat}(h:c≠0):GV (u_ c) N:=⟨fun h'=>absurd h' h,fun _=>rfl⟩
theorem GV.ok{v:ah}{N:Nat}(h:VV v)(hb:v.bulk≤N):GV (okV v) N:=⟨fun _=>⟨h,hb⟩,fun h=>absurd rfl h⟩
theorem GV.mono{p:ah × Int}{N M:Nat}(h:GV p N)(hm:N≤M):GV p M:=⟨fun h0=>⟨(h.1 h0).1,by have:=(h.1 h0).2;omega⟩,h.2⟩
theorem aaV{v:ah}(h:ni v 1=0)(hl:v.aN=[])(hk:((v.kind==4)||(v.kind==5))=false):VV v:=by
 refine⟨(xL v).2 ⟨h,by simp[hl]⟩,?_⟩;rw[uh,hk];simp
theorem FP(b:Bool):VV (Vn b):=aaV (by unfold ni Vn qC;simp) rfl rfl
theorem RJ{n:Int}(h:-9007199254740992≤n∧n≤9007199254740992):VV (W9 n):=aaV (by unfold ni W9 qC;simp;omega) rfl rfl
theorem Nu{s:Str}(h:s.length≤4096):VV (mkS s):=aaV (by unfold ni mkS qC;simp;omega) rfl rfl
theorem qg(v:ah):v.bulk=1+1+1+(v.bR.length+1)+(ah.lM v.aN+1)+((v.keys.map fun z:Str=>z.length+1).sum+1)+1:=by
 rw[ah.nG]
theorem yA(b:Bool):(Vn b).bulk=7:=by rw[qg];simp[Vn,ah.lM]
theorem CQ(n:Int):(W9 n).bulk=7:=by rw[qg];simp[W9,ah.lM]
theorem yx(s:Str):(mkS s).bulk=s.length+7:=by rw[qg];simp[mkS,ah.lM];omega
theorem CP(l:List ah):(EA l).bulk=(l.map ah.bulk).sum+7:=by rw[qg];simp[EA,ah.nW];omega
theorem WZ{l:List ah}(h:l.length≤1024)(hv:∀x∈l,VV x):X5 (EA l)=true∧(VV (EA l)↔∀x∈l,wE x<16):=by
 have h0:X5 (EA l)=true:=(xL _).2 ⟨by unfold ni EA qC;simp;omega,fun x hx=>(hv x hx).1⟩;refine⟨h0,?_⟩;have e:wE (EA l)=CU l 2:=by rw[uh];rfl
 constructor
 ·intro h x hx;have:=h.2;rw[e,zQ]at this;have:=this.2 x hx;omega
 ·intro h;refine⟨h0,?_⟩;rw[e,zQ];exact⟨by omega,fun x hx=>by have:=h x hx;omega⟩
theorem U2{α:Type}{f:α→Nat}{l:List α}{c:Nat}(h:∀x∈l,f x≤c):(l.map f).sum≤l.length*c:=by
 induction l with
 | nil=>simp
 | cons x l ih=>
  have:=h x (by simp);have:=ih fun y hy=>h y (by simp[hy]);rw[aot,aoJ,aog,apS];omega
theorem Yh{l:List Str}(h:l.length≤1024)(hs:∀s∈l,s.length≤4096):VV (EA (l.map mkS))∧(EA (l.map mkS)).bulk≤1024*4103+7:=by
 constructor
 ·refine(WZ (by simpa using h) fun x hx=>?_).2.2 fun x hx=>?_
  ·obtain⟨s,hm,rfl⟩:=ao4.1 hx;exact Nu (hs s hm)
  ·obtain⟨s,hm,rfl⟩:=ao4.1 hx;rw[uh];simp[mkS]
 ·rw[CP,aoQ]
  have:=U2 (f:=ah.bulk ∘ mkS) (l:=l) (c:=4103) fun s hm=>by
   have:=hs s hm;simp only[apO,yx];omega
  have:l.length*4103≤1024*4103:=aoy _ h;omega
def okO(x:Option ah)(c:Int):ah × Int:=match x with|some v=>okV v|none=>u_ c
def Pd(a b:ah):ah × Int:=
 if a.kind=4∧b.kind=2 then (if 0≤b.dA∧b.dA<a.aN.length then okO a.aN[b.dA.toNat]? 8 else u_ 8)
 else if a.kind=5∧b.kind=3 then okO (NG a b.bR) 8 else u_ 9
theorem Sv{a b:ah}(ha:VV a)(hb:a.bulk<4611686018427387904)(h:¬(a.kind=4∧b.kind=2)):wT a b=some (zK (Pd a b)):=by
 unfold wT iZ Pd;rw[an9 h];simp only[aj];rw[PW,aj];by_cases h5:a.kind=5∧b.kind=3
 ·rw[aoa h5];have e:((a.kind==5)&&(b.kind==3))=true:=by simp[h5.1,h5.2]
  rw[e,Nr,jK,abJ ha.1 hb,fI];cases NG a b.bR with
  | none=>simp only[aaM];rw[Ns];rfl
  | some v=>simp only[aaM];rw[Nr];rfl
 ·rw[an9 h5]
  have e:((a.kind==5)&&(b.kind==3))=false:=by
   rw[aoZ,aok,aok];omega
  rw[e,Ns];rfl
theorem Xn{a b:ah}(ha:VV a)(hb:a.bulk<4611686018427387904):u7 a b=some (zK (Pd a b)):=by
 by_cases h:a.kind=4∧b.kind=2
 ·unfold u7 iZ Pd;rw[aoa h];simp only[aj];rw[PW,aj];have e:((a.kind==4)&&(b.kind==2))=true:=by simp[h.1,h.2]
  rw[aoa e];by_cases hi:0≤b.dA∧b.dA<a.aN.length
  ·have e2:((decide (0≤b.dA))&&(decide (b.dA<(a.aN.length:Int))))=true:=by simp[hi.1,hi.2]
   rw[e2,Nr,jK,aoa hi,aaZ hi.1 hi.2,aj,aoh (by omega)];rfl
  ·have e2:((decide (0≤b.dA))&&(decide (b.dA<(a.aN.length:Int))))=false:=by
    rw[aoZ,aow,aow];omega
   rw[e2,Ns,an9 hi];rfl
 ·have he:=Sv ha hb h;unfold u7 iZ;simp only[aj];rw[PW,aj,an9 (by simp only[aoj,aom];exact h),he];generalize Pd a b=p;unfold zK;split<;>rfl
theorem Ox{a b:ah}(ha:VV a)(hb:a.bulk<4611686018427387904):Jy a b=some (Pd a b):=by
 have hk:=w9 a;unfold Jy Pd;by_cases h:a.kind=4∧b.kind=2
 ·rw[aoa h,aoa (by simp[h.1,h.2])];by_cases hi:0≤b.dA∧b.dA<a.aN.length
  ·rw[aoa hi,an9 (by simp;omega),aaZ hi.1 hi.2,aj,aoh (by omega)];rfl
  ·rw[an9 hi,aoa (by simp;omega)];rfl
 ·rw[an9 h,an9 (by simp only[aoj,aom];exact h)];by_cases h5:a.kind=5∧b.kind=3
  ·rw[aoa h5,an9 (by simp[h5.1,h5.2]),WA (by omega)];cases NG a b.bR with
   | none=>rfl
   | some v=>rfl
  ·rw[an9 h5,aoa (by simp only[aov,aoA];omega)];rfl
theorem ab3{a:ah}(ha:VV a){x:Option ah}(h:∀v,x=some v→v∈a.aN){c:Int}(hc:c≠0):GV (okO x c) a.bulk:=by
 cases x with
 | none=>exact GV.er hc
 | some v=>
  have hm:=h v rfl;exact GV.ok (ha.mem hm) (by have:=jg hm;omega)
theorem acd{a b:ah}(ha:VV a):GV (Pd a b) a.bulk:=by
 unfold Pd;by_cases h1:a.kind=4∧b.kind=2
 ·rw[aoa h1];by_cases h2:0≤b.dA∧b.dA<a.aN.length
  ·rw[aoa h2];exact ab3 (c:=8) ha (fun v h=>List.mem_of_getElem? h) (by decide)
  ·rw[an9 h2];exact GV.er (by decide)
 ·rw[an9 h1];by_cases h2:a.kind=5∧b.kind=3
  ·rw[aoa h2];refine ab3 (c:=8) ha (fun v h=>?_) (by decide);unfold NG at h;rw[aoa h2.1]at h;exact Y_ h
  ·rw[an9 h2];exact GV.er (by decide)
def unS(op:Str)(a:ah):ah × Int:=
 if op=[33]then (if a.kind=1 then okV (Vn (!a.dR))else u_ 9)else if a.kind=2 then okV (W9 (0-a.dA))else u_ 9
theorem Qu(v:ah):uD v=some (if v.kind=1 then .ok v.dR else .bad ⟨9⟩):=by
 unfold uD iZ;rw[aj,kE];by_cases h:v.kind=1
 ·simp[h]
 ·simp[h]
theorem aag{op:Str}{a:ah}(ha:VV a):CX op a=some (zK (unS op a)):=by
 have hl:=ji ha.1;unfold CX unS;by_cases h:op=[33]
 ·rw[aoa h,aoa (by simp[h]),Qu];by_cases hk:a.kind=1
  ·rw[aoa hk,aoa hk];rfl
  ·rw[an9 hk,an9 hk];rfl
 ·rw[an9 h,an9 (by simpa using h),iZ,aj,kE];by_cases hk:a.kind=2
  ·rw[aoa hk,aoa (by simp[hk]),jK,rA (by omega)];rfl
  ·rw[an9 hk,an9 (by simp[hk])];rfl
theorem ajK{op:Str}{a:ah}(ha:VV a):GV (unS op a) 7:=by
 have hl:=ji ha.1;unfold unS;split
 ·split
  ·exact GV.ok (FP _) (by rw[yA];omega)
  ·exact GV.er (by decide)
 ·split
  ·exact GV.ok (RJ (by omega)) (by rw[CQ];omega)
  ·exact GV.er (by decide)
def Wu(v:ah):ah × Int:=
 if v.dA < -9007199254740992∨9007199254740992<v.dA then u_ 11 else if 4096<v.bR.length∨1024<v.aN.length then u_ 3 else if 16<wE v then u_ 13 else okV v
theorem zi{v:ah}(hb:v.bulk<4611686018427387904):lI v=some (Wu v):=by
 unfold lI Wu;by_cases h1:v.dA < -9007199254740992∨9007199254740992<v.dA
 ·rw[aoa h1,aoa (by simpa using h1)];rfl
 ·rw[an9 h1,an9 (by simpa using h1)];by_cases h2:4096<v.bR.length∨1024<v.aN.length
  ·rw[aoa h2,aoa (by simp;omega)];rfl
  ·rw[an9 h2,an9 (by simp;omega),QW hb,aj];by_cases h3:16<wE v
   ·rw[aoa h3,aoa (by simp;omega)];rfl
   ·rw[an9 h3,an9 (by simp;omega)];rfl
def Iw(n:Int):ah × Int:=if -9007199254740992≤n∧n≤9007199254740992 then okV (W9 n)else u_ 11
theorem Yr(n:Int):Wu (W9 n)=Iw n:=by
 unfold Wu Iw;have e1:(W9 n).dA=n:=rfl;have e2:(W9 n).bR.length=0:=rfl;have e3:(W9 n).aN.length=0:=rfl;have e4:wE (W9 n)=1:=by rw[uh];rfl
 rw[e1,e2,e3,e4];by_cases h:-9007199254740992≤n∧n≤9007199254740992
 ·rw[aoa h,an9 (by omega)];rfl
 ·rw[an9 h,aoa (by omega)]
theorem Jr(n:Int):ru n=some (zK (Iw n)):=by
 unfold ru Iw;rw[kE];by_cases h:-9007199254740992≤n∧n≤9007199254740992
 ·rw[aoa h,aoa (by simp[h.1,h.2])];rfl
 ·rw[an9 h,an9 (by simp only[aoj,aod];exact h)];rfl
theorem PX(n:Int):GV (Iw n) 7:=by
 unfold Iw;split
 ·rename_i h;exact GV.ok (RJ h) (by rw[CQ];omega)
 ·exact GV.er (by decide)
def alD(n:Int):Int:=if n < -9223372036854775808 then -9223372036854775808 else if 9223372036854775807<n then 9223372036854775807 else n
def adA(a b:Int):Int:=alD (a*b)
theorem words(p00 PS p01 p11:Nat):(p11+(PS+p00/4294967296)/4294967296+(p01+(PS+p00/4294967296)%4294967296)/4294967296)*18446744073709551616 +
  ((p01+(PS+p00/4294967296)%4294967296)%4294967296*4294967296+p00%4294967296)=p11*18446744073709551616+(PS+p01)*4294967296+p00:=by omega
theorem split_mul(x y:Nat):x*y=(x/4294967296)*(y/4294967296)*18446744073709551616+((x/4294967296)*(y%4294967296)+(x%4294967296)*(y/4294967296))*4294967296+(x%4294967296)*(y%4294967296):=by
 conv=>lhs;rw[←Nat.div_add_mod x 4294967296,←Nat.div_add_mod y 4294967296]
 generalize x/4294967296=xh;generalize x%4294967296=xl;generalize y/4294967296=yh;generalize y%4294967296=yl;simp only[apS,Nat.mul_add]
 have e1:4294967296*xh*(4294967296*yh)=xh*yh*18446744073709551616:=by
  rw[Nat.mul_mul_mul_comm,apM (4294967296*4294967296)]
 have e2:4294967296*xh*yl=xh*yl*4294967296:=by rw[apX,apM]
 have e3:xl*(4294967296*yh)=xl*yh*4294967296:=by rw[Nat.mul_left_comm,apM]
 rw[e1,e2,e3];omega
end Go.Ft
namespace Go.Ft
open Go
attribute [local congr] fH
theorem RI{a b:Int}(ha:-9007199254740992≤a∧a≤9007199254740992)(hb:-9007199254740992≤b∧b≤9007199254740992){hi lo:Nat}(hlo:lo<18446744073709551616)(h:hi*18446744073709551616+lo=a.natAbs*b.natAbs){neg:Bool}(hn:neg=(!((decide (a<0))==(decide (b<0)))&&!(decide (hi=0∧lo=0)))):
  adA a b=if hi≠0 then (if neg then -9223372036854775808 else 9223372036854775807)else if neg then (if lo≤9223372036854775808 then -(lo:Int)else -9223372036854775808)else if lo≤9223372036854775807 then (lo:Int)else 9223372036854775807:=by
 have hm:a*b=if neg then -((a.natAbs*b.natAbs:Nat):Int)else ((a.natAbs*b.natAbs:Nat):Int):=by
  rw[←h];have e:((a.natAbs*b.natAbs:Nat):Int)=((hi*18446744073709551616+lo:Nat):Int):=by rw[h]
  rw[Int.natCast_mul]at e;by_cases h1:a<0<;>by_cases h2:b<0
  ·have:a*b=(a.natAbs:Int)*b.natAbs:=by
    rw[show (a.natAbs:Int)=-a from by omega,show (b.natAbs:Int)=-b from by omega,Int.neg_mul_neg]
   rw[this,e,hn];simp[h1,h2]
  ·have:a*b=-((a.natAbs:Int)*b.natAbs):=by
    rw[show (a.natAbs:Int)=-a from by omega,show (b.natAbs:Int)=b from by omega,Int.neg_mul,Int.neg_neg]
   rw[this,e,hn];by_cases h0:hi=0∧lo=0
   ·simp[h0]
   ·rw[aoa (by simp[h1,h2,h0])]
  ·have:a*b=-((a.natAbs:Int)*b.natAbs):=by
    rw[show (a.natAbs:Int)=a from by omega,show (b.natAbs:Int)=-b from by omega,Int.mul_neg,Int.neg_neg]
   rw[this,e,hn];by_cases h0:hi=0∧lo=0
   ·simp[h0]
   ·rw[aoa (by simp[h1,h2,h0])]
  ·have:a*b=(a.natAbs:Int)*b.natAbs:=by
    rw[show (a.natAbs:Int)=a from by omega,show (b.natAbs:Int)=b from by omega]
   rw[this,e,hn];simp[h1,h2]
 unfold adA alD;rw[hm,←h];cases neg with
 | true=>simp only[aoc];(repeat' split)<;>omega
 | false=>simp only[an_,aob];(repeat' split)<;>omega
theorem agL{a:Int}(h:-9007199254740992≤a∧a≤9007199254740992):(if decide (a<0)=true then some (-(BitVec.ofInt 64 a))else some (BitVec.ofInt 64 a))=some (BitVec.ofNat 64 a.natAbs):=by
 by_cases hn:a<0
 ·rw[aoa (by simpa using hn)];congr 1;apply apH;rw[BitVec.toInt_neg,apT,apN];simp only[Int.bmod];omega
 ·rw[an9 (by simpa using hn)];congr 1;apply apH;rw[apT,apN];simp only[Int.bmod];omega
theorem acH{a:Int}(h:-9007199254740992≤a∧a≤9007199254740992):EL a=some (BitVec.ofNat 64 a.natAbs):=by
 unfold EL;by_cases hn:a<0
 ·rw[aoa (by simpa using hn),rA (n:=a+1) (by omega),rA (by omega)];congr 1;apply BitVec.eq_of_toNat_eq;rw[BitVec.toNat_add,BitVec.toNat_ofInt,apj,show ((1:BitVec 64)).toNat=1 from rfl];omega
 ·rw[an9 (by simpa using hn)];congr 1;apply apH;rw[apT,apN];simp only[Int.bmod];omega
theorem msk(x:BitVec 64):(x &&& (4294967295:BitVec 64)).toNat=x.toNat%4294967296:=by
 rw[BitVec.toNat_and];exact Nat.and_two_pow_sub_one_eq_mod x.toNat 32
theorem shr(x:BitVec 64):(x >>> 32).toNat=x.toNat/4294967296:=by
 rw[BitVec.toNat_ushiftRight,Nat.shiftRight_eq_div_pow]
theorem YG{x y:BitVec 64}(hx:x.toNat<4294967296)(hy:y.toNat<4294967296):(x*y).toNat=x.toNat*y.toNat∧x.toNat*y.toNat≤18446744065119617025:=by
 have h:x.toNat*y.toNat≤4294967295*4294967295:=Nat.mul_le_mul (by omega) (by omega);rw[BitVec.toNat_mul,aoY (by omega)];exact⟨rfl,by omega⟩
theorem WT{x y:BitVec 64}(h:x.toNat+y.toNat<18446744073709551616):(x+y).toNat=x.toNat+y.toNat:=by
 rw[BitVec.toNat_add,aoY (by omega)]
theorem por{x y:BitVec 64}(hy:y.toNat<4294967296):((x <<< 32) ||| y).toNat=x.toNat%4294967296*4294967296+y.toNat:=by
 rw[BitVec.toNat_or,BitVec.toNat_shiftLeft,Nat.shiftLeft_eq]
 have e:x.toNat*2 ^ 32%2 ^ 64=(x.toNat%4294967296) <<< 32:=by
  rw[Nat.shiftLeft_eq,show (2:Nat) ^ 64=2 ^ 32*2 ^ 32 from rfl,Nat.mul_mod_mul_right]
 rw[e,←Nat.shiftLeft_add_eq_or_of_lt (by simpa using hy),Nat.shiftLeft_eq]
structure Words(x y hi lo:BitVec 64):Prop where
 eq:hi.toNat*18446744073709551616+lo.toNat=x.toNat*y.toNat
theorem Z_(x y:BitVec 64):Words x y (((x >>> 32)*(y >>> 32)+(((x >>> 32)*(y &&& (4294967295:BitVec 64))+(((x &&& (4294967295:BitVec 64))*(y &&& (4294967295:BitVec 64))) >>> 32)) >>> 32))+(((x &&& (4294967295:BitVec 64))*(y >>> 32)+(((x >>> 32)*(y &&& (4294967295:BitVec 64))+(((x &&& (4294967295:BitVec 64))*(y &&& (4294967295:BitVec 64))) >>> 32)) &&& (4294967295:BitVec 64))) >>> 32))
  ((((x &&& (4294967295:BitVec 64))*(y >>> 32)+(((x >>> 32)*(y &&& (4294967295:BitVec 64))+(((x &&& (4294967295:BitVec 64))*(y &&& (4294967295:BitVec 64))) >>> 32)) &&& (4294967295:BitVec 64))) <<< 32) ||| (((x &&& (4294967295:BitVec 64))*(y &&& (4294967295:BitVec 64))) &&& (4294967295:BitVec 64))):=by
 have mx:=msk x;have my:=msk y;have sx:=shr x;have sy:=shr y;have bx:=x.isLt;have Ea:=y.isLt;have lx:(x &&& (4294967295:BitVec 64)).toNat<4294967296:=by rw[mx];omega
 have ly:(y &&& (4294967295:BitVec 64)).toNat<4294967296:=by rw[my];omega
 have hx:(x >>> 32).toNat<4294967296:=by rw[sx];omega
 have hy:(y >>> 32).toNat<4294967296:=by rw[sy];omega
 obtain⟨p00,q00⟩:=YG lx ly;obtain⟨PS,ZY⟩:=YG hx ly;obtain⟨p01,q01⟩:=YG lx hy;obtain⟨p11,ZX⟩:=YG hx hy;have key:=words ((x &&& (4294967295:BitVec 64)).toNat*(y &&& (4294967295:BitVec 64)).toNat) ((x >>> 32).toNat*(y &&& (4294967295:BitVec 64)).toNat) ((x &&& (4294967295:BitVec 64)).toNat*(y >>> 32).toNat) ((x >>> 32).toNat*(y >>> 32).toNat);have tot:=split_mul x.toNat y.toNat;rw[←mx,←my,←sx,←sy]at tot;rw[←tot,←p00,←PS,←p01,←p11]at key;rw[←p00]at q00;rw[←PS]at ZY;rw[←p01]at q01;rw[←p11]at ZX;generalize (x &&& (4294967295:BitVec 64))*(y &&& (4294967295:BitVec 64))=Qa at *;generalize (x >>> 32)*(y &&& (4294967295:BitVec 64))=VU at *;generalize (x &&& (4294967295:BitVec 64))*(y >>> 32)=a01 at *;generalize (x >>> 32)*(y >>> 32)=a11 at *;have s0:=shr Qa;have d1:(VU+Qa >>> 32).toNat=VU.toNat+Qa.toNat/4294967296:=by rw[WT (by rw[s0];omega),s0]
 have d2:=shr (VU+Qa >>> 32);have d3:=msk (VU+Qa >>> 32);have d4:(a01+(VU+Qa >>> 32 &&& (4294967295:BitVec 64))).toNat=a01.toNat+(VU.toNat+Qa.toNat/4294967296)%4294967296:=by rw[WT (by rw[d3];omega),d3,d1]
 have d5:=shr (a01+(VU+Qa >>> 32 &&& (4294967295:BitVec 64)));have d6:=msk Qa;have xy:x.toNat*y.toNat<18446744073709551616*18446744073709551616:=Nat.mul_lt_mul'' bx Ea;constructor;rw[por (by rw[d6];omega),d4,d6]
 have e1:(a11+(VU+Qa >>> 32) >>> 32).toNat=a11.toNat+(VU.toNat+Qa.toNat/4294967296)/4294967296:=by
  rw[WT (by rw[d2,d1];omega),d2,d1]
 rw[WT (by rw[e1,d5,d4];omega),e1,d5,d4];exact key
theorem aaQ{a b:Int}(ha:-9007199254740992≤a∧a≤9007199254740992)(hb:-9007199254740992≤b∧b≤9007199254740992):L8 a b=some (adA a b):=by
 unfold L8 Bu Il;rw[agL ha,agL hb];simp only[aj];have W:=Z_ (BitVec.ofNat 64 a.natAbs) (BitVec.ofNat 64 b.natAbs);generalize ((((BitVec.ofNat 64 a.natAbs) >>> 32)*((BitVec.ofNat 64 b.natAbs) >>> 32)+((((BitVec.ofNat 64 a.natAbs) >>> 32)*((BitVec.ofNat 64 b.natAbs) &&& (4294967295:BitVec 64))+((((BitVec.ofNat 64 a.natAbs) &&& (4294967295:BitVec 64))*((BitVec.ofNat 64 b.natAbs) &&& (4294967295:BitVec 64))) >>> 32)) >>> 32))+((((BitVec.ofNat 64 a.natAbs) &&& (4294967295:BitVec 64))*((BitVec.ofNat 64 b.natAbs) >>> 32)+((((BitVec.ofNat 64 a.natAbs) >>> 32)*((BitVec.ofNat 64 b.natAbs) &&& (4294967295:BitVec 64))+((((BitVec.ofNat 64 a.natAbs) &&& (4294967295:BitVec 64))*((BitVec.ofNat 64 b.natAbs) &&& (4294967295:BitVec 64))) >>> 32)) &&& (4294967295:BitVec 64))) >>> 32))=hi at *;generalize (((((BitVec.ofNat 64 a.natAbs) &&& (4294967295:BitVec 64))*((BitVec.ofNat 64 b.natAbs) >>> 32)+((((BitVec.ofNat 64 a.natAbs) >>> 32)*((BitVec.ofNat 64 b.natAbs) &&& (4294967295:BitVec 64))+((((BitVec.ofNat 64 a.natAbs) &&& (4294967295:BitVec 64))*((BitVec.ofNat 64 b.natAbs) &&& (4294967295:BitVec 64))) >>> 32)) &&& (4294967295:BitVec 64))) <<< 32) ||| ((((BitVec.ofNat 64 a.natAbs) &&& (4294967295:BitVec 64))*((BitVec.ofNat 64 b.natAbs) &&& (4294967295:BitVec 64))) &&& (4294967295:BitVec 64)))=lo at *;have hw:=W.eq;rw[apj,apj,aoY (by omega),aoY (by omega)]at hw;have hlo:=lo.isLt
 have hz:decide (([(hi.toNat:Int),(lo.toNat:Int)]:List Int)=([0,0]:List Int))=decide (hi.toNat=0∧lo.toNat=0):=by
  congr 1;simp only[aoP,and_true,Int.natCast_eq_zero]
 have key:=RI ha hb (hi:=hi.toNat) (lo:=lo.toNat) hlo hw rfl;rw[key];unfold rH;simp only[List.getD_cons_zero,apQ];rw[hz];generalize (!((decide (a<0))==(decide (b<0)))&&!decide (hi.toNat=0∧lo.toNat=0))=neg;by_cases h1:hi.toNat=0
 ·rw[an9 (c:=((hi.toNat:Int) !=0)=true) (by simp[h1]),an9 (c:=hi.toNat≠0) (by simp[h1])];cases neg with
  | true=>
   simp only[aoN,aos,aoL,an_,aob,aoc];by_cases h2:lo.toNat≤9223372036854775808
   ·rw[aoa (by simp;omega),aoa h2,aA,aoa rfl];congr 1;rw[BitVec.toNat_neg];unfold bV IntKind.wrap;simp[IntKind.bits,IntKind.signed];omega
   ·rw[an9 (by simp;omega),an9 h2,aA,an9 (by simp)];rfl
  | false=>
   simp only[aoL,aoz,aoN,an_,aob];by_cases h2:lo.toNat≤9223372036854775807
   ·rw[aoa (by simp;omega),aoa h2,aA,aoa rfl,rA (by omega)]
   ·rw[an9 (by simp;omega),an9 h2,aA,an9 (by simp)];rfl
 ·rw[aoa (by simp;omega),aoa h1,aA,an9 (by simp)];cases neg<;>rfl
theorem afh(x:BitVec 64):(x%(4294967296:BitVec 64)).toNat=x.toNat%4294967296:=by
 rw[BitVec.toNat_umod];rfl
theorem afy(x:BitVec 64):(x/(4294967296:BitVec 64)).toNat=x.toNat/4294967296:=by
 rw[BitVec.toNat_udiv];rfl
theorem alI{x y:BitVec 64}(hx:x.toNat<4294967296)(hy:y.toNat<4294967296):(x*(4294967296:BitVec 64)+y).toNat=x.toNat*4294967296+y.toNat:=by
 have e:(x*(4294967296:BitVec 64)).toNat=x.toNat*4294967296:=by
  rw[BitVec.toNat_mul,show ((4294967296:BitVec 64)).toNat=4294967296 from rfl,aoY (by omega)]
 rw[WT (by rw[e];omega),e]
theorem acT(x y:BitVec 64):Words x y (((x/(4294967296:BitVec 64))*(y/(4294967296:BitVec 64))+(((x/(4294967296:BitVec 64))*(y%(4294967296:BitVec 64)))+(((x%(4294967296:BitVec 64))*(y%(4294967296:BitVec 64)))/(4294967296:BitVec 64)))/(4294967296:BitVec 64))+((((x%(4294967296:BitVec 64))*(y/(4294967296:BitVec 64)))+((((x/(4294967296:BitVec 64))*(y%(4294967296:BitVec 64)))+(((x%(4294967296:BitVec 64))*(y%(4294967296:BitVec 64)))/(4294967296:BitVec 64)))%(4294967296:BitVec 64)))/(4294967296:BitVec 64)))
  (((((x%(4294967296:BitVec 64))*(y/(4294967296:BitVec 64)))+((((x/(4294967296:BitVec 64))*(y%(4294967296:BitVec 64)))+(((x%(4294967296:BitVec 64))*(y%(4294967296:BitVec 64)))/(4294967296:BitVec 64)))%(4294967296:BitVec 64)))%(4294967296:BitVec 64))*(4294967296:BitVec 64)+(((x%(4294967296:BitVec 64))*(y%(4294967296:BitVec 64)))%(4294967296:BitVec 64))):=by
 have mx:=afh x;have my:=afh y;have sx:=afy x;have sy:=afy y;have bx:=x.isLt;have Ea:=y.isLt;have lx:(x%(4294967296:BitVec 64)).toNat<4294967296:=by rw[mx];omega
 have ly:(y%(4294967296:BitVec 64)).toNat<4294967296:=by rw[my];omega
 have hx:(x/(4294967296:BitVec 64)).toNat<4294967296:=by rw[sx];omega
 have hy:(y/(4294967296:BitVec 64)).toNat<4294967296:=by rw[sy];omega
 obtain⟨p00,q00⟩:=YG lx ly;obtain⟨PS,ZY⟩:=YG hx ly;obtain⟨p01,q01⟩:=YG lx hy;obtain⟨p11,ZX⟩:=YG hx hy;have key:=words ((x%(4294967296:BitVec 64)).toNat*(y%(4294967296:BitVec 64)).toNat) ((x/(4294967296:BitVec 64)).toNat*(y%(4294967296:BitVec 64)).toNat) ((x%(4294967296:BitVec 64)).toNat*(y/(4294967296:BitVec 64)).toNat) ((x/(4294967296:BitVec 64)).toNat*(y/(4294967296:BitVec 64)).toNat);have tot:=split_mul x.toNat y.toNat;rw[←mx,←my,←sx,←sy]at tot;rw[←tot,←p00,←PS,←p01,←p11]at key;rw[←p00]at q00;rw[←PS]at ZY;rw[←p01]at q01;rw[←p11]at ZX;generalize (x%(4294967296:BitVec 64))*(y%(4294967296:BitVec 64))=Qa at *;generalize (x/(4294967296:BitVec 64))*(y%(4294967296:BitVec 64))=VU at *;generalize (x%(4294967296:BitVec 64))*(y/(4294967296:BitVec 64))=a01 at *;generalize (x/(4294967296:BitVec 64))*(y/(4294967296:BitVec 64))=a11 at *;have s0:=afy Qa;have d1:(VU+Qa/(4294967296:BitVec 64)).toNat=VU.toNat+Qa.toNat/4294967296:=by rw[WT (by rw[s0];omega),s0]
 have d2:=afy (VU+Qa/(4294967296:BitVec 64));have d3:=afh (VU+Qa/(4294967296:BitVec 64));have d4:(a01+(VU+Qa/(4294967296:BitVec 64))%(4294967296:BitVec 64)).toNat=a01.toNat+(VU.toNat+Qa.toNat/4294967296)%4294967296:=by rw[WT (by rw[d3];omega),d3,d1]
 have d5:=afy (a01+(VU+Qa/(4294967296:BitVec 64))%(4294967296:BitVec 64));have d6:=afh Qa;have d7:=afh (a01+(VU+Qa/(4294967296:BitVec 64))%(4294967296:BitVec 64));have xy:x.toNat*y.toNat<18446744073709551616*18446744073709551616:=Nat.mul_lt_mul'' bx Ea;constructor;rw[alI (by rw[d7];omega) (by rw[d6];omega),d7,d4,d6]
 have e1:(a11+(VU+Qa/(4294967296:BitVec 64))/(4294967296:BitVec 64)).toNat=a11.toNat+(VU.toNat+Qa.toNat/4294967296)/4294967296:=by
  rw[WT (by rw[d2,d1];omega),d2,d1]
 rw[WT (by rw[e1,d5,d4];omega),e1,d5,d4];exact key
theorem YF{a b:Int}{x y:BitVec 64}(hx:EL a=some x)(hy:EL b=some y):∃hi lo:BitVec 64,Words x y hi lo∧Ie a b=some (nJ.mk ((!((decide (a<0))==(decide (b<0))))&&(((hi.toNat:Int) !=0)||((lo.toNat:Int) !=0))) hi lo):=by
 refine⟨_,_,acT x y,?_⟩;unfold Ie;rw[hx,hy];rfl
theorem aaD{a b:Int}(ha:-9007199254740992≤a∧a≤9007199254740992)(hb:-9007199254740992≤b∧b≤9007199254740992):WK a b=some (adA a b):=by
 unfold WK;obtain⟨hi,lo,W,hp⟩:=YF (acH ha) (acH hb);rw[hp,aj];clear hp;have hw:=W.eq;rw[apj,apj,aoY (by omega),aoY (by omega)]at hw;have hlo:=lo.isLt
 have hz:(((hi.toNat:Int) !=0)||((lo.toNat:Int) !=0))=!decide (hi.toNat=0∧lo.toNat=0):=by
  rw[aoO];simp only[aov,aoA,aoG,aow];omega
 have key:=RI ha hb (hi:=hi.toNat) (lo:=lo.toNat) hlo hw rfl;rw[key,hz];unfold Rh;simp only;generalize (!((decide (a<0))==(decide (b<0)))&&!decide (hi.toNat=0∧lo.toNat=0))=neg;by_cases h1:hi.toNat=0
 ·rw[an9 (c:=hi.toNat≠0) (by simp[h1])];cases neg with
  | true=>
   simp only[aoc,aos,apR,apE];by_cases h2:lo.toNat≤9223372036854775808
   ·rw[an9 (by simp[h1];omega),aoa h2];by_cases h3:lo.toNat=9223372036854775808
    ·rw[aoa (by simp;omega),aA,aoa rfl];congr 1;omega
    ·rw[an9 (by simp;omega),aA,aoa rfl,rA (n:=(lo.toNat:Int)) (by omega),rA (by omega)];congr 1;omega
   ·rw[aoa (by simp;omega),an9 h2,aA,an9 (by simp)]
  | false=>
   simp only[an_,aob,aoz,apD];by_cases h2:lo.toNat≤9223372036854775807
   ·rw[an9 (by simp[h1];omega),aoa h2,an9 (by simp;omega),aA,aoa rfl,rA (by omega)]
   ·rw[aoa (by simp;omega),an9 h2,aA,an9 (by simp)]
 ·rw[aoa (by simp;omega),aoa h1,aA,an9 (by simp)];cases neg<;>rfl
end Go.Ft
namespace Go.Ft
open Go
attribute [local congr] fH
def TY(a b:ah)(r:Bool):ah × Int:=if (a.kind=2∧b.kind=2)∨(a.kind=3∧b.kind=3)then okV (Vn r)else u_ 9
def aan(a b:ah):ah × Int:=
 if a.kind=2∧b.kind=2 then Iw (a.dA+b.dA)else if a.kind=3∧b.kind=3 then (if a.bR.length+b.bR.length≤4096 then okV (mkS (a.bR++b.bR))else u_ 3)
 else if a.kind=4∧b.kind=4 then (if a.aN.length+b.aN.length≤1024 then okV (EA (a.aN++b.aN))else u_ 3)else u_ 9
def abr(op:Str)(a b:ah):ah × Int:=
 if a.kind=2∧b.kind=2 then (if op=[45]then Iw (a.dA-b.dA)else if op=[42]then Iw (adA a.dA b.dA)else if b.dA=0 then u_ 12 else if op=[47]then Iw (a.dA.tdiv b.dA)else okV (W9 (a.dA.tmod b.dA)))else u_ 9
def ZM(op:Str)(a b:ah):ah × Int:=
 if op=[61,61]then okV (Vn (rW a b==0))else if op=[33,61]then okV (Vn (!(rW a b==0)))
 else if op=[60]then TY a b (decide (rW a b<0))else if op=[60,61]then TY a b (decide (rW a b≤0))else if op=[62]then TY a b (decide (0<rW a b))else if op=[62,61]then TY a b (decide (0≤rW a b))
 else if op=[43]then aan a b else abr op a b
theorem Eb(a b:ah)(k:Int):pG a b k=some (decide (a.kind=k∧b.kind=k)):=by
 unfold pG;congr 1;rw[aoO];simp
theorem aaK{a b:ah}(ha:a.bulk<4611686018427387904)(hb:b.bulk<4611686018427387904):nP a b=some (if (a.kind=2∧b.kind=2)∨(a.kind=3∧b.kind=3)then .ok (rW a b)else .bad ⟨9⟩):=by
 unfold nP;rw[Eb,Eb,aj,af6,aj,kE];by_cases h:(a.kind=2∧b.kind=2)∨(a.kind=3∧b.kind=3)
 ·rw[aoa h,aoa (by simpa using h),jK,(K_ ha hb).1];rfl
 ·rw[an9 h,an9 (by simpa using h)];rfl
theorem tdiv_le{a b:Int}{N:Nat}(h:a.natAbs≤N):(a.tdiv b).natAbs≤N:=by
 rw[Int.natAbs_tdiv];exact apL (Nat.div_le_self _ _) h
theorem abN{a b:Int}{N:Nat}(h:a.natAbs≤N):(a.tmod b).natAbs≤N:=by
 rw[Int.natAbs_tmod];exact apL (Nat.mod_le _ _) h
theorem aeU{a b:ah}(ha:VV a)(hb:VV b):ET a b=some (zK (aan a b)):=by
 have la:=ji ha.1;have lb:=ji hb.1;have hL:sI=4294967296:=rfl;unfold ET aan;rw[Eb,Eb,Eb];simp only[aj,aod];by_cases h2:a.kind=2∧b.kind=2
 ·rw[aoa h2,aoa h2,rA (by omega),Jr];generalize Iw (a.dA+b.dA)=p;unfold zK;split<;>rfl
 ·rw[an9 h2,an9 h2];by_cases h3:a.kind=3∧b.kind=3
  ·rw[aoa h3,aoa h3,rA (by omega),kE];by_cases hc:a.bR.length+b.bR.length≤4096
   ·rw[aoa hc,aoa (by simp;omega),jK,mM (by omega),aj];rfl
   ·rw[an9 hc,an9 (by simp;omega)];rfl
  ·rw[an9 h3,an9 h3,kE];by_cases h4:a.kind=4∧b.kind=4
   ·rw[aoa h4,aoa (by simpa using h4),jK,rA (by omega),kE];by_cases hc:a.aN.length+b.aN.length≤1024
    ·rw[aoa hc,aoa (by simp;omega),jK,mM (by simp;omega),aj,mM (by simp;omega),aj];rfl
    ·rw[an9 hc,an9 (by simp;omega)];rfl
   ·rw[an9 h4,an9 (by simpa using h4)];rfl
theorem abk{b:Int}(h:b≠0):chk (!(b==0))=some ():=bF (by simpa using h)
theorem agV{op:Str}{a b:ah}(ha:VV a)(hb:VV b):pI op a b=some (zK (abr op a b)):=by
 have la:=ji ha.1;have lb:=ji hb.1;unfold pI abr;rw[Eb,aj,kE];by_cases h2:a.kind=2∧b.kind=2
 ·rw[aoa (by simpa using h2),aoa h2,jK];by_cases o1:op=[45]
  ·rw[aoa (by simpa using o1),aoa o1,rA (by omega),Jr];generalize Iw (a.dA-b.dA)=p;unfold zK;split<;>rfl
  ·rw[an9 (by simpa using o1),an9 o1];by_cases o2:op=[42]
   ·rw[aoa (by simpa using o2),aoa o2,aaQ ⟨la.2.2.2.1,la.2.2.2.2⟩ ⟨lb.2.2.2.1,lb.2.2.2.2⟩,aj,Jr];generalize Iw (adA a.dA b.dA)=p;unfold zK;split<;>rfl
   ·rw[an9 (by simpa using o2),an9 o2,kE];by_cases hz:b.dA=0
    ·rw[an9 (by simp[hz]),aoa hz];rfl
    ·rw[aoa (by simpa using hz),an9 hz,jK,abk hz,aj,aj];have hd:=tdiv_le (a:=a.dA) (b:=b.dA) (N:=9007199254740992) (by omega);by_cases o3:op=[47]
     ·rw[aoa (by simpa using o3),aoa o3,rA (by omega),Jr];generalize Iw (a.dA.tdiv b.dA)=p;unfold zK;split<;>rfl
     ·rw[an9 (by simpa using o3),an9 o3];rfl
 ·rw[an9 (by simpa using h2),an9 h2];rfl
theorem ZL{op:Str}{a b:ah}(ha:VV a)(hb:VV b)(ba:a.bulk<4611686018427387904)(bb:b.bulk<4611686018427387904):
  (if op==([61,61]:Str)then av (mY a b) fun x7=>av (fK x7) fun x8=>some (.ok x8)
  else if op==([33,61]:Str)then av (mY a b) fun x9=>av (fK (!x9)) fun EB=>some (.ok EB)
  else if op==([60]:Str)then eO (nP a b) (fun e10=>some (.bad e10)) fun La=>av (fK (decide (La<0))) fun Qf=>some (.ok Qf)
  else if op==([60,61]:Str)then eO (nP a b) (fun e11=>some (.bad e11)) fun OY=>av (fK (decide (OY≤0))) fun UQ=>some (.ok UQ)
  else if op==([62]:Str)then eO (nP a b) (fun e12=>some (.bad e12)) fun XY=>av (fK (decide (0<XY))) fun TQ=>some (.ok TQ)
  else if op==([62,61]:Str)then eO (nP a b) (fun e13=>some (.bad e13)) fun XL=>av (fK (decide (0≤XL))) fun x18=>some (.ok x18)
  else if op==([43]:Str)then eO (ET a b) (fun e14=>some (.bad e14)) fun x19=>some (.ok x19)
  else eO (pI op a b) (fun e15=>some (.bad e15)) fun x20=>some (.ok x20))=some (zK (ZM op a b)):=by
 unfold ZM;rw[(Jq ba bb).1,aaK ba bb,aeU ha hb,agV ha hb]
 have rel:∀r:Int→Bool,(eO (some (if (a.kind=2∧b.kind=2)∨(a.kind=3∧b.kind=3)then (.ok (rW a b):eX aF Int)else .bad ⟨9⟩)) (fun e10=>some (.bad e10)) fun La=>av (fK (r La)) fun Qf=>some (.ok Qf))=some (zK (TY a b (r (rW a b)))):=by
  intro r;unfold TY;by_cases h:(a.kind=2∧b.kind=2)∨(a.kind=3∧b.kind=3)
  ·rw[aoa h,aoa h];rfl
  ·rw[an9 h,an9 h];rfl
 rw[rel fun x=>decide (x<0),rel fun x=>decide (x≤0),rel fun x=>decide (0<x),rel fun x=>decide (0≤x)]
 have ret:∀p:ah × Int,(eO (some (zK p)) (fun e=>some (.bad e)) fun x=>some (.ok x))=some (zK p):=by
  intro p;unfold zK;split<;>rfl
 rw[ret,ret];simp only[aom,aj,fK]
 repeat' split
 all_goals rfl
theorem aij{l m:List ah}(hl:∀x∈l,wE x<16)(hm:∀x∈m,wE x<16):wE (EA (l++m))≤16:=by
 have e:wE (EA (l++m))=CU (l++m) 2:=by rw[uh];rfl
 rw[e,zQ];refine⟨by omega,fun x hx=>?_⟩;rcases ao2.1 hx with h|h
 ·have:=hl x h;omega
 ·have:=hm x h;omega
theorem Xb{a:ah}(ha:VV a)(h4:a.kind=4):∀x∈a.aN,wE x<16:=by
 intro x hx;have h2:=ha.2;rw[uh,aoa (by simp[h4])]at h2;have:=YW (n:=2) hx;omega
theorem Yq(s:Str):Wu (mkS s)=if s.length≤4096 then okV (mkS s)else u_ 3:=by
 unfold Wu;have e1:(mkS s).dA=0:=rfl;have e2:(mkS s).bR=s:=rfl;have e3:(mkS s).aN.length=0:=rfl;have e4:wE (mkS s)=1:=by rw[uh];rfl
 rw[e1,e2,e3,e4,an9 (by omega)];by_cases h:s.length≤4096
 ·rw[aoa h,an9 (by omega),an9 (by omega)]
 ·rw[an9 h,aoa (by omega)]
theorem Vb{l:List ah}(hl:wE (EA l)≤16):Wu (EA l)=if l.length≤1024 then okV (EA l)else u_ 3:=by
 unfold Wu;have e1:(EA l).dA=0:=rfl;have e2:(EA l).bR.length=0:=rfl;have e3:(EA l).aN=l:=rfl;rw[e1,e2,e3,an9 (by omega)];by_cases h:l.length≤1024
 ·rw[aoa h,an9 (by omega),an9 (by omega)]
 ·rw[an9 h,aoa (by omega)]
theorem ahF{a b:ah}(ha:VV a)(hb:VV b):GV (aan a b) (a.bulk+b.bulk+8000):=by
 have la:=ji ha.1;have lb:=ji hb.1;unfold aan;split
 ·exact(PX _).mono (by omega)
 ·split
  ·split
   ·exact GV.ok (Nu (by simp;omega)) (by rw[yx];simp;omega)
   ·exact GV.er (by decide)
  ·split
   ·rename_i h4;split
    ·rename_i hc;refine GV.ok ((WZ (by simpa using hc) fun x hx=>?_).2.2 fun x hx=>?_) ?_
     ·rcases ao2.1 hx with h|h
      ·exact ha.mem h
      ·exact hb.mem h
     ·rcases ao2.1 hx with h|h
      ·exact Xb ha h4.1 x h
      ·exact Xb hb h4.2 x h
     ·rw[CP,apu,apK];have e1:=qg a;have e2:=qg b;rw[ah.nW]at e1 e2;omega
    ·exact GV.er (by decide)
   ·exact GV.er (by decide)
theorem aiN{op:Str}{a b:ah}(ha:VV a)(hb:VV b):GV (abr op a b) 7:=by
 have la:=ji ha.1;unfold abr;split
 ·split
  ·exact PX _
  ·split
   ·exact PX _
   ·split
    ·exact GV.er (by decide)
    ·split
     ·exact PX _
     ·have hd:=abN (a:=a.dA) (b:=b.dA) (N:=9007199254740992) (by omega);exact GV.ok (RJ (by omega)) (by rw[CQ];omega)
 ·exact GV.er (by decide)
theorem PI(a b:ah)(r:Bool):GV (TY a b r) 7:=by
 unfold TY;split
 ·exact GV.ok (FP _) (by rw[yA];omega)
 ·exact GV.er (by decide)
theorem aiK{op:Str}{a b:ah}(ha:VV a)(hb:VV b):GV (ZM op a b) (a.bulk+b.bulk+8000):=by
 unfold ZM;split
 ·exact GV.ok (FP _) (by rw[yA];omega)
 ·split
  ·exact GV.ok (FP _) (by rw[yA];omega)
  ·split
   ·exact(PI _ _ _).mono (by omega)
   ·split
    ·exact(PI _ _ _).mono (by omega)
    ·split
     ·exact(PI _ _ _).mono (by omega)
     ·split
      ·exact(PI _ _ _).mono (by omega)
      ·split
       ·exact ahF ha hb
       ·exact(aiN ha hb).mono (by omega)
theorem aiw(x y:Int):decide (qw x y<0)=decide (x<y)∧decide (qw x y≤0)=!decide (y<x)∧decide (0<qw x y)=decide (y<x)∧decide (0≤qw x y)=!decide (x<y):=by
 unfold qw vU;by_cases h1:x<y
 ·have:¬y<x:=by omega
  simp[h1,this]
 ·by_cases h2:y<x<;>simp[h1,h2]
theorem aiv(x y:Str):decide (Df x y<0)=Go.Op.bytesLess x y∧decide (Df x y≤0)=!(!(Go.Op.bytesLess x y||x==y))∧decide (0<Df x y)=(!(Go.Op.bytesLess x y||x==y))∧decide (0≤Df x y)=!Go.Op.bytesLess x y:=by
 unfold Df vU;cases h1:Go.Op.bytesLess x y<;>cases h2:(x==y)<;>simp
def ae7(op:Str)(c:Int):Bool:=if op=[60]then decide (c<0)else if op=[60,61]then decide (c≤0)else if op=[62]then decide (0<c)else decide (0≤c)
theorem abo{op:Str}(x y:Int):zl op (decide (x<y)) (decide (y<x))=some (okV (Vn (ae7 op (qw x y)))):=by
 obtain⟨h1,h2,h3,h4⟩:=aiw x y;unfold zl ae7 jP;rw[h1,h2,h3,h4];simp only[aom,aj]
 repeat' split
 all_goals rfl
theorem abn{op:Str}(x y:Str):zl op (Go.Op.bytesLess x y) (!(Go.Op.bytesLess x y||x==y))=some (okV (Vn (ae7 op (Df x y)))):=by
 obtain⟨h1,h2,h3,h4⟩:=aiv x y;unfold zl ae7 jP;rw[h1,h2,h3,h4];simp only[aom,aj]
 repeat' split
 all_goals rfl
theorem aeC{a b:ah}(h:a.kind=2∧b.kind=2):rW a b=qw a.dA b.dA:=by
 rw[Pw,h.1,h.2];rfl
theorem aeB{a b:ah}(h:a.kind=3∧b.kind=3):rW a b=Df a.bR b.bR:=by
 rw[Pw,h.1,h.2];rfl
theorem ahM{op:Str}{a b:ah}(h4:fO op=some 4)(he:((op==([61,61]:Str))||(op==([33,61]:Str)))=false)(hp:(op==([43]:Str))=false):qm op a b=some (TY a b (ae7 op (rW a b))):=by
 unfold qm TY;rw[an9 (by rw[he];simp),Ab,h4];simp only[aj,hp,apR,an_,aob,aoM,apD];by_cases hk:a.kind=b.kind
 ·rw[an9 (by simpa using hk)];by_cases h2:a.kind=2
  ·rw[aoa (by simpa using h2),aoa (.inl ⟨h2,by omega⟩),aeC ⟨h2,by omega⟩,abo]
  ·rw[an9 (by simpa using h2),an9 (by simpa using h2)];by_cases h3:a.kind=3
   ·rw[aoa (by simpa using h3),aoa (.inr ⟨h3,by omega⟩),aeB ⟨h3,by omega⟩,abn]
   ·rw[an9 (by simpa using h3),an9 (by omega)];rfl
 ·rw[aoa (by simpa using hk),an9 (by omega)];rfl
theorem ahS{op:Str}{a b:ah}(ha:VV a)(hb:VV b){n:Int}(h4:fO op=some n)(hn:(n==4)=false)(he:((op==([61,61]:Str))||(op==([33,61]:Str)))=false)(hp:(op==([43]:Str))=false)(ho:op=[45]∨op=[42]∨op=[47]∨op=[37]):qm op a b=some (abr op a b):=by
 have la:=ji ha.1;have lb:=ji hb.1;unfold qm abr;rw[an9 (by rw[he];simp),Ab,h4];simp only[aj,hp,hn,apR,an_,aob];by_cases hk:a.kind=b.kind
 ·rw[an9 (by simpa using hk)];by_cases h2:a.kind=2
  ·rw[aoa (by simpa using h2),aoa ⟨h2,by omega⟩];have mb:∀n:Int,(ah.mk 2 false n ([]:Str) [] [])=W9 n:=fun n=>rfl;have rs:∀n:Int,lI (W9 n)=some (Iw n):=fun n=>by rw[zi (by rw[CQ];omega),Yr]
   unfold QZ;rw[hp];simp only[mb,rs,an_,aob];have hd:=tdiv_le (a:=a.dA) (b:=b.dA) (N:=9007199254740992) (by omega);have hm:=abN (a:=a.dA) (b:=b.dA) (N:=9007199254740992) (by omega);have hi:Iw (a.dA.tmod b.dA)=okV (W9 (a.dA.tmod b.dA)):=by unfold Iw;rw[aoa (by omega)]
   rw[rA (n:=a.dA-b.dA) (by omega),rA (n:=a.dA.tdiv b.dA) (by omega),aaD ⟨la.2.2.2.1,la.2.2.2.2⟩ ⟨lb.2.2.2.1,lb.2.2.2.2⟩,aj,hi];rcases ho with rfl|rfl|rfl|rfl
   ·rfl
   ·rfl
   ·by_cases hz:b.dA=0
    ·rw[an9 (by decide),an9 (by decide),aoa (by simpa using hz),an9 (by decide),an9 (by decide),aoa hz];rfl
    ·rw[an9 (by decide),an9 (by decide),an9 (by simpa using hz),an9 (by decide),an9 (by decide),an9 hz,abk hz,aj];rfl
   ·by_cases hz:b.dA=0
    ·rw[an9 (by decide),an9 (by decide),aoa (by simpa using hz),an9 (by decide),an9 (by decide),aoa hz];rfl
    ·rw[an9 (by decide),an9 (by decide),an9 (by simpa using hz),abk hz,aj,aoa (by rfl),aj,an9 (by decide),an9 (by decide),an9 hz];rfl
  ·rw[an9 (by simpa using h2),an9 (by omega)];rfl
 ·rw[aoa (by simpa using hk),an9 (by omega)];rfl
theorem amW{a b:ah}(ha:VV a)(hb:VV b)(ba:a.bulk<1152921504606846976)(bb:b.bulk<1152921504606846976):qm [43] a b=some (aan a b):=by
 have la:=ji ha.1;have lb:=ji hb.1;have hL:sI=4294967296:=rfl;unfold qm aan;rw[an9 (by decide),Ab,show fO [43]=some 5 from rfl];have e5:((5:Int)==4)=false:=rfl;simp only[aj,e5,apR,an_,aob,aoM,apD];by_cases hk:a.kind=b.kind
 ·rw[an9 (by simpa using hk)];by_cases h2:a.kind=2
  ·rw[aoa (c:=(a.kind==2)=true) (by simpa using h2),aoa (c:=a.kind=2∧b.kind=2) ⟨h2,by omega⟩,QZ,aoa (by rfl),rA (by omega)];exact(zi (v:=W9 (a.dA+b.dA)) (by rw[CQ];omega)).trans (by rw[Yr])
  ·rw[an9 (c:=(a.kind==2)=true) (by simpa using h2),an9 (c:=a.kind=2∧b.kind=2) (fun h=>h2 h.1)];by_cases h3:a.kind=3
   ·rw[aoa (c:=(a.kind==3)=true) (by simpa using h3),aoa (c:=a.kind=3∧b.kind=3) ⟨h3,by omega⟩,mM (by omega),aj,pJ,aj];refine(zi (v:=mkS (a.bR++b.bR)) (by rw[yx];simp;omega)).trans ?_;rw[Yq,apk]
   ·rw[an9 (c:=(a.kind==3)=true) (by simpa using h3),an9 (c:=a.kind=3∧b.kind=3) (fun h=>h3 h.1)];by_cases h4:a.kind=4
    ·rw[aoa (c:=(a.kind==4)=true) (by simpa using h4),aoa (c:=a.kind=4∧b.kind=4) ⟨h4,by omega⟩,mM (by simp;omega),aj,mM (by simp;omega),aj,apv];have e1:=qg a;have e2:=qg b;rw[ah.nW]at e1 e2;refine(zi (v:=EA (a.aN++b.aN)) (by rw[CP,apu,apK];omega)).trans ?_;rw[Vb (aij (Xb ha h4) (Xb hb (by omega))),apk]
    ·rw[an9 (c:=(a.kind==4)=true) (by simpa using h4),an9 (c:=a.kind=4∧b.kind=4) (fun h=>h4 h.1)];rfl
 ·rw[aoa (by simpa using hk),an9 (by omega),an9 (by omega),an9 (by omega)];rfl
theorem Wz{op:Str}{a b:ah}(ha:VV a)(hb:VV b)(ba:a.bulk<1152921504606846976)(bb:b.bulk<1152921504606846976)(hop:op∈opsL)(h1:op≠[38,38])(h2:op≠[124,124]):qm op a b=some (ZM op a b):=by
 simp only[opsL,aoB,List.not_mem_nil,or_false]at hop;rcases hop with rfl|rfl|rfl|rfl|rfl|rfl|rfl|rfl|rfl|rfl|rfl|rfl|rfl
 ·exact absurd rfl h1
 ·exact absurd rfl h2
 ·unfold qm;rw[aoa (by rfl),(Jq (by omega) (by omega)).2,aj,jP];simp only[aj];unfold ZM
  first|rw[aoa rfl]|rw[an9 (by decide),aoa rfl]
  cases rW a b==0<;>rfl
 ·unfold qm;rw[aoa (by rfl),(Jq (by omega) (by omega)).2,aj,jP];simp only[aj];unfold ZM
  first|rw[aoa rfl]|rw[an9 (by decide),aoa rfl]
  cases rW a b==0<;>rfl
 ·rw[ahM rfl rfl rfl];rfl
 ·rw[ahM rfl rfl rfl];rfl
 ·rw[ahM rfl rfl rfl];rfl
 ·rw[ahM rfl rfl rfl];rfl
 ·rw[ahS ha hb rfl rfl rfl rfl (by simp)];rfl
 ·rw[ahS ha hb rfl rfl rfl rfl (by simp)];rfl
 ·rw[ahS ha hb rfl rfl rfl rfl (by simp)];rfl
 ·rw[ahS ha hb rfl rfl rfl rfl (by simp)];rfl
 ·rw[amW ha hb ba bb];rfl
end Go.Ft
namespace Go.Ft
open Go
attribute [local congr] fH
def Wj(a:ah):Str:=if a.kind=0 then []else if a.kind=3 then a.bR else if a.kind=1 then (if a.dR then [116,114,117,101]else [102,97,108,115,101])else um a.dA
def afJ(s:Str):ah × Int:=match Cz s with|some (n,true)=>okV (W9 n)|_=>u_ 1
def aaN(name:Str)(a:ah):ah × Int:=
 if name=[108,101,110]then (if a.kind=3∨a.kind=4∨a.kind=5 then okV (W9 ((a.bR.length:Int)+a.aN.length))else u_ 9)
 else if name=[107,101,121,115]then (if a.kind=5 then okV (EA (a.keys.map mkS))else u_ 9)
 else if name=[115,116,114,105,110,103]then (if a.kind=4∨a.kind=5 then u_ 9 else okV (mkS (Wj a)))
 else if a.kind≠3 then u_ 9
 else if name=[108,111,119,101,114]then okV (mkS (a.bR.map (Ug 65 90 32)))else if name=[117,112,112,101,114]then okV (mkS (a.bR.map (Ug 97 122 (-32))))else afJ a.bR
theorem Y3{n:Int}(h:-9007199254740992≤n∧n≤9007199254740992):(um n).length≤21:=by
 unfold um;split
 ·have:=IW 20 n.natAbs (by have:(10:Nat) ^ 20=100000000000000000000:=(by decide);omega) (by omega);simp only[aog];omega
 ·have:=IW 20 n.toNat (by have:(10:Nat) ^ 20=100000000000000000000:=(by decide);omega) (by omega);omega
theorem P9{u:Nat}(h:u<10):Ft.byteOf ((48+u:Nat):Int)=dg u:=by
 apply aoD.1;have:((byteOf ((48+u:Nat):Int)).toNat:Int)=((48+u:Nat):Int):=Oa (by omega) (by omega);rw[NK h];omega
theorem agy:∀(k u:Nat),u<10 ^ k→u<100000000000000000000→0<k→u≤9223372036854775807→mQ k (u:Int)=some (sG 20 u)∧(0<u→mQ k (-(u:Int))=some (45::sG 20 u))
 | 0,_,_,_,h,_=>by omega
 | k+1,u,h,h20,_,hm=>by
  have hL:sI=4294967296:=rfl;rw[mQ,mQ,zP,zP];by_cases hu:u<10
  ·constructor
   ·rw[an9 (by simp),aoa (by simp;omega),rA (by omega),F6 hu,show (48:Int)+(u:Int)=((48+u:Nat):Int)from by omega,P9 hu]
   ·intro hp;rw[aoa (by simp;omega),aoa (by simp;omega),rA (by omega),F6 hu,show (48:Int) - -(u:Int)=((48+u:Nat):Int)from by omega,P9 hu,mM (by simp;omega)];rfl
  ·have hk:0<k:=by
    rcases apy k with h0|h0
    ·subst h0;omega
    ·exact h0
   obtain⟨i1,i2⟩:=agy k (u/10) (by rw[apa]at h;omega) (by omega) hk (by omega);have hlen:=IW 20 (u/10) (by have:(10:Nat) ^ 20=100000000000000000000:=(by decide);omega) (by omega);constructor
   ·rw[an9 (by simp),an9 (by simp;omega),show ((u:Int).tdiv 10)=((u/10:Nat):Int)from rfl,show ((u:Int).tmod 10)=((u%10:Nat):Int)from rfl,rA (by omega),i1,aj,rA (by omega),
     show (48:Int)+((u%10:Nat):Int)=((48+u%10:Nat):Int)from by omega,P9 (by omega),mM (by simp;omega),Mv hu h20]
   ·intro hp
    rw[aoa (by simp;omega),an9 (by simp;omega),Int.neg_tdiv,Int.neg_tmod,show ((u:Int).tdiv 10)=((u/10:Nat):Int)from rfl,show ((u:Int).tmod 10)=((u%10:Nat):Int)from rfl,rA (n:=-((u/10:Nat):Int)) (by omega),i2 (by omega),aj,rA (by omega),
     show (48:Int) - -((u%10:Nat):Int)=((48+u%10:Nat):Int)from by omega,P9 (by omega),mM (by simp;omega),Mv hu h20,ao7]
theorem Mw:∀(k m:Nat) (n:Int) (r:Str),k≤m→mQ k n=some r→mQ m n=some r
 | 0,_,_,_,_,h=>by cases h
 | k+1,0,_,_,h,_=>by omega
 | k+1,m+1,n,r,hk,h=>by
  rw[mQ,zP]at h⊢;split at h
  ·rename_i h1;rw[aoa h1];split at h
   ·rename_i h2;rw[aoa h2];exact h
   ·rename_i h2;rw[an9 h2];obtain⟨x,hx,h⟩:=EY h;rw[Mw k m _ _ (by omega) hx,aj];exact h
  ·rename_i h1;rw[an9 h1];split at h
   ·rename_i h2;rw[aoa h2];exact h
   ·rename_i h2;rw[an9 h2];obtain⟨x,hx,h⟩:=EY h;rw[Mw k m _ _ (by omega) hx,aj];exact h
theorem abb{n:Int}(h:-9007199254740992≤n∧n≤9007199254740992):Ib n=some (um n):=by
 have e20:(10:Nat) ^ 20=100000000000000000000:=by decide
 unfold Ib um;by_cases hn:n<0
 ·rw[aoa hn];have:=(agy 20 n.natAbs (by omega) (by omega) (by omega) (by omega)).2 (by omega);rw[show -((n.natAbs:Nat):Int)=n from by omega]at this;exact Mw 20 BIG n _ (by have:=iL;omega) this
 ·rw[an9 hn];have:=(agy 20 n.toNat (by omega) (by omega) (by omega) (by omega)).1;rw[show ((n.toNat:Nat):Int)=n from by omega]at this;exact Mw 20 BIG n _ (by have:=iL;omega) this
theorem adG{n:Int}(h:-9007199254740992≤n∧n≤9007199254740992):strconv_Itoa n=some (um n):=by
 unfold strconv_Itoa;rw[aoa (by omega)]
theorem kinds{a:ah}(ha:VV a):0≤a.kind∧a.kind≤5:=by
 have h1:=((xL a).1 ha.1).1;have:=aac h1;omega
theorem aiQ:∃n,BIG=n+1:=⟨BIG-1,by decide⟩
theorem Jt{a:ah}(ha:VV a)(hb:a.bulk<4611686018427387904):yX a=some (if a.kind=4∨a.kind=5 then ([],9)else (Wj a,0))∧Q_ a=some (if a.kind=4∨a.kind=5 then ([],9)else (Wj a,0)):=by
 have la:=ji ha.1;have hk:=kinds ha;unfold yX Q_;by_cases h45:a.kind=4∨a.kind=5
 ·rw[aoa h45,aoa (by simpa using h45),aoa (by simpa using h45)];exact⟨rfl,rfl⟩
 ·have b45:((a.kind==4)||(a.kind==5))=false:=by rw[aoF,aok,aok];omega
  have bz:((0:Int) !=0)=false:=rfl;rw[an9 h45,ED hb,V_ hb,(Og _).2 ha];simp only[b45,aj,bz,an_,aob];unfold Wj;by_cases h0:a.kind=0
  ·simp only[h0,aoM,aoc,and_self]
  ·have b0:(a.kind==0)=false:=by simpa using h0
   simp only[b0,h0,an_,aob];by_cases h3:a.kind=3
   ·simp only[h3,aoM,aoc,and_self]
   ·have b3:(a.kind==3)=false:=by simpa using h3
    simp only[b3,h3,an_,aob];obtain⟨n,hn⟩:=aiQ;unfold zI OC;rw[hn,pE,wB,Em,J6];by_cases h1:a.kind=1
    ·simp only[h1,aoM,aoc,strconv_FormatBool,pX];have e10:((1:Int)==0)=false:=rfl;rw[e10];cases a.dR<;>exact⟨rfl,rfl⟩
    ·have h2:a.kind=2:=by omega
     rw[h2,abb ⟨la.2.2.2.1,la.2.2.2.2⟩,adG ⟨la.2.2.2.1,la.2.2.2.2⟩];exact⟨rfl,rfl⟩
theorem RA{s:Str}(hs:s.length≤281474976710656):(fI (uE s) fun n1 ok1=>eO (eF ok1 1) (fun e6=>some (.bad e6)) fun _=>av (p9 n1) fun OY=>some (.ok OY))=some (zK (afJ s))∧
  (fI (Cz s) fun n1 ok1=>if !ok1 then some ((ah.mk 0 false 0 ([]:Str) [] []),1)else some ((ah.mk 2 false n1 ([]:Str) [] []),0))=some (afJ s)∧GV (afJ s) 7:=by
 obtain⟨n,ok,n',h1,h2,h3⟩:=number_eq hs;unfold afJ;rw[h1,h2,aA,aA,kE];cases ok with
 | true=>
  obtain⟨e,h4⟩:=h3 rfl;subst e;exact⟨rfl,rfl,GV.ok (RJ h4) (by rw[CQ];omega)⟩
 | false=>exact⟨rfl,rfl,GV.er (by decide)⟩
theorem afG{name:Str}{a:ah}(ha:VV a)(hb:a.bulk<4611686018427387904):IL name a=some (zK (aaN name a)):=by
 have la:=ji ha.1;have hL:sI=4294967296:=rfl;unfold IL aaN iZ;by_cases n1:name=[108,101,110]
 ·have m1:(name==([108,101,110]:Str))=true:=by simpa using n1
  rw[aoa m1,aoa n1];simp only[aj,af6,kE];by_cases hk:a.kind=3∨a.kind=4∨a.kind=5
  ·rw[aoa (by simp;omega),aoa hk,jK,rA (by omega)];rfl
  ·rw[an9 (by simp;omega),an9 hk];rfl
 ·have m1:(name==([108,101,110]:Str))=false:=by simpa using n1
  rw[m1,an9 (by simp),an9 n1];by_cases n2:name=[107,101,121,115]
  ·have m2:(name==([107,101,121,115]:Str))=true:=by simpa using n2
   rw[aoa m2,aoa n2,aj,kE];by_cases hk:a.kind=5
   ·rw[aoa (by simpa using hk),aoa hk,jK,abR (by omega)];rfl
   ·rw[an9 (by simpa using hk),an9 hk];rfl
  ·have m2:(name==([107,101,121,115]:Str))=false:=by simpa using n2
   rw[m2,an9 (by simp),an9 n2];by_cases n3:name=[115,116,114,105,110,103]
   ·have m3:(name==([115,116,114,105,110,103]:Str))=true:=by simpa using n3
    rw[aoa m3,aoa n3,(Jt ha hb).1];by_cases hk:a.kind=4∨a.kind=5
    ·rw[aoa hk,aoa hk,aA,kE];rfl
    ·rw[an9 hk,an9 hk,aA,kE];rfl
   ·have m3:(name==([115,116,114,105,110,103]:Str))=false:=by simpa using n3
    rw[m3,an9 (by simp),an9 n3,aj,kE];by_cases hk:a.kind=3
    ·have k3:(a.kind==3)=true:=by simpa using hk
     rw[k3,aoa (by rfl),an9 (c:=a.kind≠3) (by simpa using hk),jK];by_cases n4:name=[108,111,119,101,114]
     ·rw[aoa (c:=name=[108,111,119,101,114]) n4,aoa (by simpa using n4),(JE (by omega) _ _ _).1];rfl
     ·have m4:(name==([108,111,119,101,114]:Str))=false:=by simpa using n4
      rw[m4,an9 (c:=false=true) (by simp),an9 (c:=name=[108,111,119,101,114]) n4];by_cases n5:name=[117,112,112,101,114]
      ·rw[aoa (c:=name=[117,112,112,101,114]) n5,aoa (by simpa using n5),(JE (by omega) _ _ _).1];rfl
      ·have m5:(name==([117,112,112,101,114]:Str))=false:=by simpa using n5
       rw[m5,an9 (c:=false=true) (by simp),an9 (c:=name=[117,112,112,101,114]) n5];exact(RA (by omega)).1
    ·have k3:(a.kind==3)=false:=by simpa using hk
     rw[k3,an9 (c:=false=true) (by simp),aoa (c:=a.kind≠3) hk];rfl
theorem adb{name:Str}{a:ah}(ha:VV a)(hb:a.bulk<4611686018427387904):WG name a=some (aaN name a):=by
 have la:=ji ha.1;have hk5:=kinds ha;have hL:sI=4294967296:=rfl;unfold WG aaN;by_cases n1:name=[108,101,110]
 ·rw[aoa (c:=name=[108,101,110]) n1];by_cases hk:a.kind=3∨a.kind=4∨a.kind=5
  ·rw[aoa (by simp[n1];omega),aoa hk,rA (by omega)];rfl
  ·have e1:(name==([107,101,121,115]:Str))=false:=by rw[n1];rfl
   have e2:(name==([115,116,114,105,110,103]:Str))=false:=by rw[n1];rfl
   rw[an9 (by simp[n1];omega),e1,e2,an9 (by simp),an9 (by simp),aoa (by simp[n1]),an9 hk];rfl
 ·rw[an9 (c:=name=[108,101,110]) n1,an9 (by simp[n1])];by_cases n2:name=[107,101,121,115]
  ·rw[aoa (c:=name=[107,101,121,115]) n2];by_cases hk:a.kind=5
   ·rw[aoa (by simp[n2,hk]),aoa hk,ae3 (by omega)];rfl
   ·have e2:(name==([115,116,114,105,110,103]:Str))=false:=by rw[n2];rfl
    rw[an9 (by simp[hk]),e2,an9 (by simp),aoa (by simp[n2]),an9 hk];rfl
  ·rw[an9 (c:=name=[107,101,121,115]) n2,an9 (by simp[n2])];by_cases n3:name=[115,116,114,105,110,103]
   ·rw[aoa (c:=name=[115,116,114,105,110,103]) n3,aoa (by simp[n3]),(Jt ha hb).2];by_cases hk:a.kind=4∨a.kind=5
    ·rw[aoa hk,aoa hk,aA];rfl
    ·rw[an9 hk,an9 hk,aA];rfl
   ·rw[an9 (c:=name=[115,116,114,105,110,103]) n3,an9 (by simp[n3])];by_cases hk:a.kind=3
    ·rw[an9 (c:=a.kind≠3) (by simpa using hk),an9 (by simp[hk,n1,n2]),(JE (by omega) _ _ _).2,(JE (by omega) _ _ _).2];by_cases n4:name=[108,111,119,101,114]
     ·rw[aoa (c:=name=[108,111,119,101,114]) n4,aoa (by simp[n4])];rfl
     ·rw[an9 (c:=name=[108,111,119,101,114]) n4,an9 (by simp[n4])];by_cases n5:name=[117,112,112,101,114]
      ·rw[aoa (c:=name=[117,112,112,101,114]) n5,aoa (by simp[n5])];rfl
      ·rw[an9 (c:=name=[117,112,112,101,114]) n5,an9 (by simp[n5])];exact(RA (by omega)).2.1
    ·rw[aoa (c:=a.kind≠3) (by simpa using hk),aoa (by simp[hk])];rfl
theorem ah9{name:Str}{a:ah}(ha:VV a):GV (aaN name a) 5000000:=by
 have la:=ji ha.1
 have txt:(Wj a).length≤4096:=by
  unfold Wj;have:=Y3 ⟨la.2.2.2.1,la.2.2.2.2⟩;split
  ·simp
  ·split
   ·omega
   ·split
    ·split<;>simp
    ·omega
 have am6:∀s∈a.keys,s.length≤4096:=by
  have h1:=((xL a).1 ha.1).1;intro s hs
  have key:∀(l:List Str) (p:Option Str),Jj p l=true→∀s∈l,s.length≤64:=by
   intro l
   induction l with
   | nil=>intro p _ s hs;cases hs
   | cons x l ih=>
    intro p h s hs;rw[Jj.eq_def]at h;simp only[aoj]at h;rcases aoB.1 hs with rfl|hs
    ·exact(zw h.1.1).2
    ·exact ih _ h.2 s hs
  by_cases h5:a.kind=5
  ·unfold ni at h1;rw[an9 (by omega)]at h1;split at h1
   ·cases h1
   ·split at h1
    ·cases h1
    ·split at h1
     ·cases h1
     ·split at h1
      ·cases h1
      ·rename_i hq;simp only[h5,aoM,aoN,aoG,Bool.not_eq_false,aoj]at hq;have:=key _ _ hq.2 s hs;omega
  ·have hp:=MQ h1;unfold qC at hp;simp only[aoj,aov,aom]at hp;have:=hp.2;have hz:a.keys.length=0:=by omega
   have:=aoI hz;rw[this]at hs;cases hs
 unfold aaN;split
 ·split
  ·exact GV.ok (RJ (by omega)) (by rw[CQ];omega)
  ·exact GV.er (by decide)
 ·split
  ·split
   ·obtain⟨h1,h2⟩:=Yh la.2.2.1 am6;exact GV.ok h1 (by omega)
   ·exact GV.er (by decide)
  ·split
   ·split
    ·exact GV.er (by decide)
    ·exact GV.ok (Nu txt) (by rw[yx];omega)
   ·split
    ·exact GV.er (by decide)
    ·split
     ·exact GV.ok (Nu (by simp;omega)) (by rw[yx];simp;omega)
     ·split
      ·exact GV.ok (Nu (by simp;omega)) (by rw[yx];simp;omega)
      ·exact(RA (by omega)).2.2.mono (by omega)
end Go.Ft
namespace Go.Ft
open Go
attribute [local congr] fH
def VI(a b:ah):ah × Int:=
 if a.kind=4 then okV (Vn (a.aN.any fun x=>rW x b==0))else if a.kind=3∧b.kind=3 then okV (Vn (mo a.bR b.bR).isSome)else if a.kind=5∧b.kind=3 then okV (Vn (NG a b.bR).isSome)else u_ 9
def Vu(a b:ah):ah × Int:=
 if a.kind=4∧b.kind=3 then (if a.aN.all fun x=>x.kind==3 then (if (nT (a.aN.map (·.bR)) b.bR).length≤4096 then okV (mkS (nT (a.aN.map (·.bR)) b.bR))else u_ 3)else u_ 9)else u_ 9
def aeY(s t:Str):ah × Int:=if t=[]then u_ 1 else if (nZ t (s.length+1) s).length≤1024 then okV (EA ((nZ t (s.length+1) s).map mkS))else u_ 3
def aak(name:Str)(a b:ah):ah × Int:=
 if name=[100,101,102,97,117,108,116]then (if a.kind=0 then okV b else okV a)else if name=[99,111,110,116,97,105,110,115]then VI a b else if name=[106,111,105,110]then Vu a b
 else if ¬(a.kind=3∧b.kind=3)then u_ 9
 else if name=[115,116,97,114,116,115,119,105,116,104]then okV (Vn (preS a.bR b.bR))else if name=[101,110,100,115,119,105,116,104]then okV (Vn (ahG a.bR b.bR))else aeY a.bR b.bR
theorem zL(p:ah × Int):(eO (some (zK p)) (fun e=>some (.bad e)) fun x=>some (.ok x))=some (zK p):=by
 unfold zK;split<;>rfl
theorem ajx{a b:ah}(ha:a.bulk<4611686018427387904)(hb:b.bulk<4611686018427387904):oJ a b BIG 0=some (.ok (a.aN.any fun x=>rW x b==0))∧wD a b BIG 0=some (okV (Vn (a.aN.any fun x=>rW x b==0))):=by
 have hl:=wZ a;constructor
 ·rw[fC (F:=fun k (_:Unit) i=>oJ a b k i) (l:=a.aN) (body:=fun _ e1 (_:Unit) r=>av (mY e1 b) fun x3=>if x3 then some (.ok true)else r ()) (fin:=fun _=>some (.ok false)) (by omega) (fun k s i=>rfl) ()]
  have key:∀(t:List ah) (i:Nat),(∀x∈t,x.bulk<4611686018427387904)→fu (R:=eX aF Bool) (fun _ e1 (_:Unit) r=>av (mY e1 b) fun x3=>if x3 then some (.ok true)else r ()) (fun _=>some (.ok false)) i t ()=some (.ok (t.any fun x=>rW x b==0)):=by
   intro t
   induction t with
   | nil=>intro i _;rfl
   | cons d t ih=>
    intro i h;rw[fu,(Jq (h d (by simp)) hb).1,aj,apW];cases (rW d b==0)with
    | true=>rfl
    | false=>simp only[an_,aob,aoW];exact ih (i+1) fun x hx=>h x (by simp[hx])
  exact key _ 0 fun x hx=>by have:=jg hx;omega
 ·rw[fC (F:=fun k (_:Unit) i=>wD a b k i) (l:=a.aN) (body:=fun _ e1 (_:Unit) r=>av (Ce e1 b) fun x1=>if x1 then av (jP true) fun x2=>some (x2,0)else r ()) (fin:=fun _=>av (jP false) fun x3=>some (x3,0)) (by omega) (fun k s i=>rfl) ()]
  have key:∀(t:List ah) (i:Nat),(∀x∈t,x.bulk<4611686018427387904)→fu (fun _ e1 (_:Unit) r=>av (Ce e1 b) fun x1=>if x1 then av (jP true) fun x2=>some (x2,(0:Int))else r ()) (fun _=>av (jP false) fun x3=>some (x3,0)) i t ()=some (okV (Vn (t.any fun x=>rW x b==0))):=by
   intro t
   induction t with
   | nil=>intro i _;rfl
   | cons d t ih=>
    intro i h;rw[fu,(Jq (h d (by simp)) hb).2,aj,apW];cases (rW d b==0)with
    | true=>rfl
    | false=>simp only[an_,aob,aoW];exact ih (i+1) fun x hx=>h x (by simp[hx])
  exact key _ 0 fun x hx=>by have:=jg hx;omega
theorem VH{a b:ah}(ha:VV a)(hb:VV b)(ba:a.bulk<4611686018427387904)(bb:b.bulk<4611686018427387904):(eO (wh a b) (fun e1=>some (.bad e1)) fun x2=>av (fK x2) fun x3=>some (.ok x3))=some (zK (VI a b))∧Fp a b=some (VI a b):=by
 have la:=ji ha.1;have lb:=ji hb.1;have hk:=w9 a;unfold wh Fp VI iZ;rw[(ajx ba bb).1,(ajx ba bb).2,Eb];by_cases h4:a.kind=4
 ·have b4:(a.kind==4)=true:=by simpa using h4
  simp only[h4,aoc,aj];exact⟨rfl,rfl⟩
 ·have b4:(a.kind==4)=false:=by simpa using h4
  simp only[b4,h4,aob,aj,an_,aod];by_cases JI:a.kind=3∧b.kind=3
  ·have e1:((b.kind !=3)||((a.kind !=3)&&(a.kind !=5)))=false:=by simp[JI.1,JI.2]
   have e5:(a.kind==5)=false:=by simp[JI.1]
   simp only[JI,and_self,aoc,strings_Contains];rw[aoa (by omega),ajs (by omega) (by omega)];simp only[aj,jK,agl,aoR];exact⟨rfl,rfl⟩
  ·rw[an9 JI,an9 JI];by_cases Y8:a.kind=5∧b.kind=3
   ·have e1:((b.kind !=3)||((a.kind !=3)&&(a.kind !=5)))=false:=by simp[Y8.1,Y8.2]
    have e5:(a.kind==5)=true:=by simp[Y8.1]
    have e3:(b.kind==3)=true:=by simp[Y8.2]
    rw[aoa Y8,e1,e5,e3];simp only[aoc,aj,Nr,jK,an_,aob];rw[abJ ha.1 ba,WA (by omega)];cases NG a b.bR with
    | none=>exact⟨rfl,rfl⟩
    | some v=>exact⟨rfl,rfl⟩
   ·have e1:((b.kind !=3)||((a.kind !=3)&&(a.kind !=5)))=true:=by
     rw[aov,aoj,aoA,aoA,aoA];omega
    have e2:(if (a.kind==5)=true then some (b.kind==3)else some false)=some false:=by
     by_cases h5:a.kind=5
     ·rw[aoa (by simpa using h5)];have:(b.kind==3)=false:=by rw[aok];omega
      rw[this]
     ·rw[an9 (by simpa using h5)]
    rw[an9 Y8,e1,e2,aj,Ns];exact⟨rfl,rfl⟩
theorem agB(a b:ah):GV (VI a b) 7:=by
 unfold VI;split
 ·exact GV.ok (FP _) (by rw[yA];omega)
 ·split
  ·exact GV.ok (FP _) (by rw[yA];omega)
  ·split
   ·exact GV.ok (FP _) (by rw[yA];omega)
   ·exact GV.er (by decide)
theorem Vw:∀(l:List Str) (t:Str),(nT l t).length=(l.map List.length).sum+t.length*(l.length-1)
 | [],t=>by simp[nT]
 | [x],t=>by simp[nT]
 | x::y::r,t=>by
  rw[nT,apk,apk,Vw (y::r) t];simp only[aot,aoJ,aog,Nat.add_sub_cancel];rw[Nat.mul_add t.length r.length 1];omega
theorem R5:∀(l:List Str) (x t:Str),nT (l++[x]) t=if l=[]then x else nT l t++(t++x)
 | [],x,t=>by simp[nT]
 | [a],x,t=>by simp[nT]
 | a::b::r,x,t=>by
  have ih:=R5 (b::r) x t;rw[ao7,ao7,nT,←ao7,ih,an9 (by simp),an9 (by simp),nT];simp
theorem ajj{a b:ah}(la:∀x∈a.aN,x.bR.length≤4096)(lb:b.bR.length≤4096)(ll:a.aN.length≤1024):∀(t:List ah) (i n:Nat) (l:List Str),t=a.aN.drop i→i≤a.aN.length→l.length=i→n=(l.map List.length).sum→n≤i*4096→
  fu (R:=eX aF ah) (fun _ e2 (s:Int × List Str) r=>av (iZ e2 3) fun x4=>eO (eF x4 9) (fun e3=>some (.bad e3)) fun _=>av (app s.2 ([e2.bR]:List Str)) fun l2=>r (bV (s.1+(e2.bR.length:Int)),l2))
   (fun s=>eO (eF (decide ((bV (s.1+(bV ((b.bR.length:Int)*(if 0<(bV ((s.2.length:Int)-1))then (bV ((s.2.length:Int)-1))else 0)))))≤4096)) 3) (fun e4=>some (.bad e4)) fun _=>av (strings_Join s.2 b.bR) fun x5=>av (mJ x5) fun x6=>some (.ok x6)) i t ((n:Int),l)
   =some (zK (if t.all fun x=>x.kind==3 then (if (nT (l++t.map (·.bR)) b.bR).length≤4096 then okV (mkS (nT (l++t.map (·.bR)) b.bR))else u_ 3)else u_ 9))
 | [],i,n,l,ht,hi,hl,hn,hb=>by
  have hj:=Vw l b.bR;have hL:b.bR.length*(l.length-1)≤4096*1024:=Nat.mul_le_mul lb (by omega);rw[fu];simp only[List.all_nil,aoc,ao9,List.append_nil]
  have e:(if 0<(bV ((l.length:Int)-1))then (bV ((l.length:Int)-1))else 0)=((l.length-1:Nat):Int):=by
   rw[rA (by omega)];split<;>omega
  rw[e,←Int.natCast_mul,rA (n:=((b.bR.length*(l.length-1):Nat):Int)) (by omega),rA (by omega),kE];by_cases hc:(nT l b.bR).length≤4096
  ·rw[aoa hc,aoa (by simp;omega),jK,strings_Join,aoa ⟨by omega,by omega⟩];rfl
  ·rw[an9 hc,an9 (by simp;omega)];rfl
 | x::t,i,n,l,ht,hi,hl,hn,hb=>by
  obtain⟨h1,e1,e2⟩:=sU ht;have hm:x∈a.aN:=by rw[e1];exact aoq h1
  have hx:=la x hm;have Sc:sI=4294967296:=rfl;rw[fu,iZ,aj,kE,List.all_cons];by_cases h3:x.kind=3
  ·have b3:(x.kind==3)=true:=by simpa using h3
   rw[b3,aoa rfl,jK,aoN];simp only;rw[mM (by simp;omega),aj,rA (by omega),show (n:Int)+(x.bR.length:Int)=((n+x.bR.length:Nat):Int)from by omega];rw[ajj la lb ll t (i+1) (n+x.bR.length) (l++[x.bR]) e2 (by omega) (by simp;omega) (by simp[hn]) (by omega)];simp
  ·have b3:(x.kind==3)=false:=by simpa using h3
   rw[b3,an9 (by simp),aoL,an9 (by simp)];rfl
theorem af5{a b:ah}(la:∀x∈a.aN,x.bR.length≤4096)(lb:b.bR.length≤4096)(ll:a.aN.length≤1024):∀(t:List ah) (i:Nat) (l:List Str) (k:Nat),t=a.aN.drop i→i≤a.aN.length→l.length=i→(nT l b.bR).length≤i*8192→a.aN.length<k+i→
  xk a b k (nT l b.bR) (i:Int)=some (if t.all fun x=>x.kind==3 then (if (nT (l++t.map (·.bR)) b.bR).length≤4096 then okV (mkS (nT (l++t.map (·.bR)) b.bR))else u_ 3)else u_ 9)
 | _,i,l,0,_,_,_,_,h=>by omega
 | [],i,l,k+1,ht,hi,hl,hb,hk=>by
  have h1:=BO ht;rw[xk,an9 (by simp;omega),pJ,aj];refine(zi (v:=mkS (nT l b.bR)) (by rw[yx];omega)).trans ?_;rw[Yq];simp
 | x::t,i,l,k+1,ht,hi,hl,hb,hk=>by
  obtain⟨h1,e1,e2⟩:=sU ht;have hm:x∈a.aN:=by rw[e1];exact aoq h1
  have hx:=la x hm;have Sc:sI=4294967296:=rfl;rw[xk,aoa (by simp;omega),jL h1,aj,←e1,List.all_cons];by_cases h3:x.kind=3
  ·have b3:(x.kind==3)=true:=by simpa using h3
   have c3:(x.kind !=3)=false:=by simp[h3]
   rw[c3,an9 (by simp),b3,aoN];simp only[aj];have hs:=R5 l x.bR b.bR;by_cases h0:l=[]
   ·subst h0;have hi0:i=0:=by rw[←hl];rfl
    rw[aoa rfl]at hs;rw[an9 (by simp;omega),mM (by simp[nT];omega),aj,kr (by omega)];have hj:nT ([]:List Str) b.bR++x.bR=nT ([]++[x.bR]) b.bR:=by rw[hs];rfl
    rw[hj,af5 la lb ll t (i+1) ([]++[x.bR]) k e2 (by omega) (by simp;omega) (by rw[hs];omega) (by omega)];simp
   ·have hi0:0<i:=by rw[←hl];exact aoH.2 h0
    rw[aoa (by simp;omega),mM (by omega),aj,mM (by simp;omega),aj,kr (by omega)];rw[an9 h0]at hs;rw[apb,←hs,af5 la lb ll t (i+1) (l++[x.bR]) k e2 (by omega) (by simp;omega) (by rw[hs];simp;omega) (by omega)];simp
  ·have b3:(x.kind==3)=false:=by simpa using h3
   have c3:(x.kind !=3)=true:=by simp[h3]
   rw[c3,aoa rfl,b3,aoL,an9 (by simp)];rfl
theorem Vt{a b:ah}(ha:VV a)(hb:VV b):Al a b=some (zK (Vu a b))∧QY a b=some (Vu a b):=by
 have la:=ji ha.1;have lb:=ji hb.1;have lx:∀x∈a.aN,x.bR.length≤4096:=fun x hx=>(ji (ha.mem hx).1).1;unfold Al QY Vu iZ;simp only[aj,PW];by_cases h:a.kind=4∧b.kind=3
 ·have e1:((a.kind==4)&&(b.kind==3))=true:=by simp[h.1,h.2]
  have e2:((a.kind !=4)||(b.kind !=3))=false:=by simp[h.1,h.2]
  rw[e1,e2,Nr,jK,aoa h,an9 (c:=false=true) (by simp)];constructor
  ·rw[fC (F:=fun k (s:Int × List Str) i=>uF a b k s.1 s.2 i) (l:=a.aN)
    (body:=fun _ e2 (s:Int × List Str) r=>av (iZ e2 3) fun x4=>eO (eF x4 9) (fun e3=>some (.bad e3)) fun _=>av (app s.2 ([e2.bR]:List Str)) fun l2=>r (bV (s.1+(e2.bR.length:Int)),l2))
    (fin:=fun s=>eO (eF (decide ((bV (s.1+(bV ((b.bR.length:Int)*(if 0<(bV ((s.2.length:Int)-1))then (bV ((s.2.length:Int)-1))else 0)))))≤4096)) 3) (fun e4=>some (.bad e4)) fun _=>av (strings_Join s.2 b.bR) fun x5=>av (mJ x5) fun x6=>some (.ok x6)) (by omega) (fun k s i=>rfl) (0,[])]
   have:=ajj lx lb.1 la.2.1 a.aN 0 0 [] rfl (by omega) rfl rfl (by omega);simpa using this
  ·have:=af5 lx lb.1 la.2.1 a.aN 0 [] BIG rfl (by omega) rfl (by simp[nT]) (by have:=iL;omega);simpa[nT]using this
 ·have e1:((a.kind==4)&&(b.kind==3))=false:=by rw[aoZ,aok,aok];omega
  have e2:((a.kind !=4)||(b.kind !=3))=true:=by rw[aov,aoA,aoA];omega
  rw[e1,e2,Ns,an9 h,aoa rfl];exact⟨rfl,rfl⟩
theorem af4(a b:ah):GV (Vu a b) 5000:=by
 unfold Vu;split
 ·split
  ·split
   ·rename_i h;exact GV.ok (Nu h) (by rw[yx];omega)
   ·exact GV.er (by decide)
  ·exact GV.er (by decide)
 ·exact GV.er (by decide)
theorem Fh(t:Str):∀(k:Nat) (s:Str),∀x∈nZ t k s,x.length≤s.length
 | 0,s,x,h=>by simp only[nZ,ao0]at h;subst h;omega
 | k+1,s,x,h=>by
  rw[nZ]at h;cases hi:mo s t with
  | none=>rw[hi]at h;simp only[ao0]at h;subst h;omega
  | some i=>
   rw[hi]at h;simp only[aoB]at h;rcases h with rfl|h
   ·simp;omega
   ·have:=Fh t k _ x h;simp only[apg]at this;omega
theorem afY(l:List Str):wE (EA (l.map mkS))≤16:=by
 have e:wE (EA (l.map mkS))=CU (l.map mkS) 2:=by rw[uh];rfl
 rw[e,zQ];refine⟨by omega,fun x hx=>?_⟩;obtain⟨s,_,rfl⟩:=ao4.1 hx;have e2:wE (mkS s)=1:=by rw[uh];rfl
 omega
end Go.Ft
