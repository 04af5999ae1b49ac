/- Proved here: plain facts on the functional texts. -/
import Derived.Test.YtpbjbkhfpjckoaaGreatDoorIePre1
import Derived.Test.YtpbjbkhfpjckoaaGreatDoorIeFt1
import Derived.Test.YtpbjbkhfpjckoaaGreatDoorIePool1
set_option linter.unusedVariables false
set_option linter.unusedSimpArgs false
set_option linter.defProp false
set_option linter.unusedSectionVars false
set_option maxHeartbeats 2000000
namespace Go.Ft
open Go
attribute [local congr] gq
theorem KH{α:Type}{f:α→Nat}{l:List α}{x:α}(h:x∈l):f x≤(l.map f).sum:=by
 induction l with
 | nil=>cases h
 | cons y l ih=>
  simp only[arq,arJ];rcases arB.1 h with rfl|h
  ·omega
  ·have:=ih h;omega
theorem Nf{α:Type}{f:α→Nat}{l:List α}(h:∀x,1≤f x):l.length≤(l.map f).sum:=by
 induction l with
 | nil=>simp
 | cons y l ih=>simp only[arq,arJ,aq2];have:=h y;omega
theorem ah.kT(v:ah):1≤v.bulk:=by rw[ah.nJ];omega
theorem aj.kT(v:aj):1≤v.bulk:=by rw[aj.nJ];omega
theorem aM.kT(v:aM):1≤v.bulk:=by rw[aM.nJ];omega
theorem yw(v:ah):v.aP.length<v.bulk:=by rw[ah.nJ,ah.nR];have:=Nf (l:=v.aP) ah.kT;omega
theorem iQ{v x:ah}(h:x∈v.aP):x.bulk<v.bulk:=by rw[ah.nJ v,ah.nR];have:=KH (f:=ah.bulk) h;omega
theorem yx(v:ah):v.keys.length<v.bulk:=by rw[ah.nJ];have:=Nf (l:=v.keys) (f:=fun z:Str=>z.length+1) (fun x=>by omega);omega
theorem Kn{v:ah}{x:Str}(h:x∈v.keys):x.length<v.bulk:=by rw[ah.nJ v];have:=KH (f:=fun z:Str=>z.length+1) h;omega
theorem VO(e:aj):e.args.length<e.bulk:=by rw[aj.nJ,aj.nR];have:=Nf (l:=e.args) aj.kT;omega
theorem kr{e x:aj}(h:x∈e.args):x.bulk<e.bulk:=by rw[aj.nJ e,aj.nR];have:=KH (f:=aj.bulk) h;omega
theorem KM(v:aj):v.keys.length<v.bulk:=by rw[aj.nJ];have:=Nf (l:=v.keys) (f:=fun z:Str=>z.length+1) (fun x=>by omega);omega
theorem aed(v:aj):v.name.length<v.bulk:=by rw[aj.nJ];omega
theorem JU(v:aj):v.value.bulk<v.bulk:=by rw[aj.nJ];omega
mutual
def ecnt:aj→Nat
 | ⟨_,_,_,args,_⟩=>1+Fj args
def Fj:List aj→Nat
 | []=>0
 | x::r=>ecnt x+Fj r
end
theorem CY(e:aj):ecnt e=1+Fj e.args:=by cases e;rfl
theorem Zr:∀(l:List aj) (n:Nat),(∀x∈l,ecnt x≤x.bulk)→Fj l≤(l.map aj.bulk).sum
 | [],_,_=>by simp[Fj]
 | x::r,n,h=>by
  simp only[Fj,arq,arJ];have:=h x (by simp);have:=Zr r n fun y hy=>h y (by simp[hy]);omega
theorem Ii:∀(n:Nat) (e:aj),e.bulk≤n→ecnt e≤e.bulk
 | 0,e,h=>by have:=e.kT;omega
 | n+1,e,h=>by
  rw[CY,aj.nJ,aj.nR];have:=Zr e.args n fun x hx=>Ii n x (by have:=kr hx;omega);omega
theorem abj{go:aj→Option Int}:∀(l:List aj) (i s:Nat),(∀x∈l,go x=some (ecnt x:Int))→s+Fj l<4611686018427387904→
  eB (fun _ e2 (n1:Int) r=>av (go e2) fun x2=>r (bq (n1+x2))) (fun n1=>some n1) i l (s:Int)=some ((s+Fj l:Nat):Int)
 | [],i,s,_,_=>by simp[eB,Fj]
 | x::r,i,s,h,hs=>by
  simp only[Fj]at hs⊢;rw[eB,h x (by simp)];simp only[ak];have:bq ((s:Int)+(ecnt x:Int))=((s+ecnt x:Nat):Int):=by rw[rY (by omega)];omega
  rw[this,abj r (i+1) (s+ecnt x) (fun y hy=>h y (by simp[hy])) (by omega)];simp only[aro,asr];omega
theorem XB:∀(n:Nat) (e:aj),e.bulk≤n→e.bulk<4611686018427387904→o_ (n+1) e=some (ecnt e:Int)∧uO (n+1) e=some (ecnt e:Int)
 | 0,e,h,_=>by have:=e.kT;omega
 | n+1,e,h,hB=>by
  have hl:=VO e;have hle:=Ii _ e (aq9 _);rw[CY]at hle;constructor
  ·unfold o_ zB;have:=eH (F:=fun k s i=>tq (o_ (n+1)) e k s i) (l:=e.args) (body:=fun _ e2 (n1:Int) r=>av (o_ (n+1) e2) fun x2=>r (bq (n1+x2))) (fin:=fun n1=>some n1) (by omega) (fun k s i=>rfl) 1;rw[this,show (1:Int)=((1:Nat):Int)from rfl,abj e.args 0 1 (fun x hx=>(XB n x (by have:=kr hx;omega) (by have:=kr hx;omega)).1) (by omega),CY]
  ·unfold uO ET;have:=eH (F:=fun k s i=>zm (uO (n+1)) e k s i) (l:=e.args) (body:=fun _ e2 (n1:Int) r=>av (uO (n+1) e2) fun x2=>r (bq (n1+x2))) (fin:=fun n1=>some n1) (by omega) (fun k s i=>rfl) 1;rw[this,show (1:Int)=((1:Nat):Int)from rfl,abj e.args 0 1 (fun x hx=>(XB n x (by have:=kr hx;omega) (by have:=kr hx;omega)).2) (by omega),CY]
theorem vF:∃n,BIG=n+1∧9223372036854775807≤n:=⟨BIG-1,by decide,by decide⟩
theorem count_eq{e:aj}(h:e.bulk<4611686018427387904):CJ e=some (ecnt e:Int)∧Kv e=some (ecnt e:Int):=by
 obtain⟨n,hn,hn2⟩:=vF;unfold CJ Kv;rw[hn];exact XB n e (by omega) h
def isName(s:Str):Bool:=decide (1≤s.length)&&decide (s.length≤64)&&(match s with|c::_=>isLet c|[]=>false)&&s.all fun c=>isLet c||dI c
def j4(s:Str):Bool:=isName s&&!((s==([116,114,117,101]:Str))||(s==([102,97,108,115,101]:Str))||(s==([110,117,108,108]:Str)))
theorem ao2(s:Str)(hs:s.length<4611686018427387904):qY s BIG 0=some (s.all fun c=>isLet c||dI c):=by
 have:=eH (F:=fun k (_:Unit) i=>qY s k i) (l:=s) (body:=fun(i:Nat) x3 _ r=>av (if !(isLet x3)then av (idx s (i:Int)) fun x5=>some (!(dI x5))else some false) fun b2=>if b2 then some false else r ()) (fin:=fun _=>some true) hs (fun k s i=>rfl) ();rw[this]
 have key:∀(t:Str) (i:Nat),t=s.drop i→eB (fun(i:Nat) x3 (_:Unit) r=>av (if !(isLet x3)then av (idx s (i:Int)) fun x5=>some (!(dI x5))else some false) fun b2=>if b2 then some false else r ()) (fun _=>some true) i t ()=some (t.all fun c=>isLet c||dI c):=by
  intro t
  induction t with
  | nil=>intro i _;rfl
  | cons c t ih=>
   intro i ht
   have hi:i<s.length:=by
    rcases arE i s.length with h|h
    ·exact h
    ·rw[ara h]at ht;cases ht
   have hc:=aqZ hi;rw[←ht]at hc;have e1:c=s[i]:=(ar1 hc).1;have e2:=(ar1 hc).2;rw[eB,lX hi,←e1];simp only[ak];rw[ih (i+1) e2];cases h1:isLet c<;>cases h2:dI c<;>simp[h1,h2]
 exact key s 0 rfl
theorem RN(s:Str)(hs:s.length<4611686018427387904):yK s=some (isName s):=by
 unfold yK isName;rw[ao2 s hs];by_cases h1:s.length<1
 ·have:s=[]:=by cases s;rfl;simp at h1
  subst this;simp
 ·by_cases h2:64<s.length
  ·have e1:decide ((64:Int)<(s.length:Int))=true:=by simp;omega
   have e2:decide (s.length≤64)=false:=by simp;omega
   simp[e1,e2]
  ·cases s with
   | nil=>simp at h1
   | cons c s=>
    have e1:decide ((((c::s).length:Nat):Int)<1)=false:=by simp;omega
    have e2:decide ((64:Int)<(((c::s).length:Nat):Int))=false:=by simp at h2⊢;omega
    have e3:decide ((c::s).length≤64)=true:=by simp at h2⊢;omega
    have e4:idx (c::s) 0=some c:=rfl;rw[e1,e2,e3,e4];cases h3:isLet c<;>simp[h3]
theorem af4(s:Str)(hs:s.length<4611686018427387904):Gj s=some (isName s):=by
 unfold Gj
 have:=eH (F:=fun k (_:Unit) i=>BF s k i) (l:=s) (body:=fun(i:Nat) x3 _ r=>av (if !(isLet x3)then (if (i:Int)==0 then some true else av (idx s (i:Int)) fun x5=>some (!(dI x5)))else some false) fun b2=>if b2 then some false else r ())
  (fin:=fun _=>some ((decide (1≤(s.length:Int)))&&(decide ((s.length:Int)≤64)))) hs (fun k s i=>rfl) ()
 rw[this]
 have key:∀(t:Str) (i:Nat),t=s.drop i→eB (fun(i:Nat) x3 (_:Unit) r=>av (if !(isLet x3)then (if (i:Int)==0 then some true else av (idx s (i:Int)) fun x5=>some (!(dI x5)))else some false) fun b2=>if b2 then some false else r ())
   (fun _=>some ((decide (1≤(s.length:Int)))&&(decide ((s.length:Int)≤64)))) i t ()=some ((decide (1≤s.length)&&decide (s.length≤64))&&((if i=0 then (match t with|c::_=>isLet c|[]=>true)else true)&&t.all fun c=>isLet c||dI c)):=by
  intro t
  induction t with
  | nil=>
   intro i _;rw[eB];have e1:decide ((1:Int)≤(s.length:Int))=decide (1≤s.length):=by congr 1;simp;omega
   have e2:decide ((s.length:Int)≤64)=decide (s.length≤64):=by congr 1;simp;omega
   rw[e1,e2];simp
  | cons c t ih=>
   intro i ht
   have hi:i<s.length:=by
    rcases arE i s.length with h|h
    ·exact h
    ·rw[ara h]at ht;cases ht
   have hc:=aqZ hi;rw[←ht]at hc;have e1:c=s[i]:=(ar1 hc).1;have e2:=(ar1 hc).2;rw[eB,lX hi,←e1];simp only[ak];rw[ih (i+1) e2];by_cases h0:i=0
   ·subst h0;cases h1:isLet c<;>simp[h1]
   ·have:((i:Int)==0)=false:=by simp;omega
    rw[this];cases h1:isLet c<;>cases h2:dI c<;>simp[h1,h2,h0]
 rw[key s 0 rfl];unfold isName;cases s with
 | nil=>simp
 | cons c s=>simp[Bool.and_assoc]
theorem Ee(s:Str)(hs:s.length<4611686018427387904):nZ s=some (j4 s)∧qW s=some (j4 s):=by
 unfold nZ qW j4 qg;rw[RN s hs,af4 s hs];constructor
 ·cases isName s<;>simp
 ·simp only[ak,aro];cases isName s<;>simp[Bool.not_or,Bool.and_assoc]
theorem Bt(s:Str):sw s=fG s:=rfl
theorem Ul(s:Str):∃n,fG s=some n:=by
 have:(fG s).isSome=true:=by
  unfold fG;simp only[apply_ite Option.isSome,Option.isSome_some,ite_self]
 exact Option.isSome_iff_exists.1 this
end Go.Ft
namespace Go.Ft
open Go
attribute [local congr] gq
def uZ(s:Str):Bool:=decide (1≤s.length)&&decide (s.length≤64)
def Ur(a b:Str):Int:=(oJ a b).getD 0
theorem ajR{a b:Str}(ha:a.length<4611686018427387904)(hb:b.length<4611686018427387904):iN a b=some (Ur a b)∧oJ a b=some (Ur a b):=by
 obtain⟨c,h1,h2⟩:=SS ha hb;unfold Ur;rw[h2];exact⟨h1,rfl⟩
def Ka:Option Str→List Str→Bool
 | _,[]=>true
 | p,k::r=>uZ k&&(match p with|none=>true|some q=>decide (Ur q k<0))&&Ka (some k) r
theorem Xg(s:Str):((decide ((s.length:Int)<1))||(decide (64<(s.length:Int))))=!uZ s:=by
 unfold uZ;rw[arR];simp only[ars,arH,ar3,aqW,aru];omega
theorem key_eq(s:Str):Ky s=some (uZ s):=by
 unfold Ky uZ;simp only[aro];rw[arR];simp only[aq5,aqW];omega
def Ju(l:List Str)(i:Nat):Option Str:=if i=0 then none else l[i-1]?
theorem ac2{v:ah}(hv:v.bulk<4611686018427387904):∀(k i:Nat),v.keys.length<k+i→i≤v.keys.length→
  qR v k (i:Int)=some (Ka (Ju v.keys i) (v.keys.drop i))∧
  oN v k (i:Int)=some (Ka (Ju v.keys i) (v.keys.drop i)&&((v.keys.length:Int)==(v.aP.length:Int)))
 | 0,i,h,h'=>by omega
 | k+1,i,h,h'=>by
  have hlen:=yx v;rw[qR,oN];by_cases hi:i<v.keys.length
  ·have hm:v.keys[i]∈v.keys:=arj hi;have hb:=Kn hm;rw[aqZ hi,aqJ (by simp;omega),aqJ (by simp;omega),lX hi];simp only[ak,Xg,key_eq,Ka];obtain⟨ih1,ih2⟩:=ac2 hv k (i+1) (by omega) (by omega);have hp:Ju v.keys (i+1)=some v.keys[i]:=by simp[Ju,hi]
   rw[hp]at ih1 ih2;rw[mh (by omega),ih1,ih2];by_cases h0:i=0
   ·subst h0;have hp0:Ju v.keys 0=none:=rfl;rw[hp0];cases uZ v.keys[0]<;>simp
   ·have hi1:i-1<v.keys.length:=by omega
    have hm1:v.keys[i-1]∈v.keys:=arj hi1;have hb1:=Kn hm1;have hp0:Ju v.keys i=some v.keys[i-1]:=by simp[Ju,h0,hi1]
    have e1:bq ((i:Int)-1)=((i-1:Nat):Int):=by rw[rY (by omega)];omega
    obtain⟨c1,c2⟩:=ajR (a:=v.keys[i-1]) (b:=v.keys[i]) (by omega) (by omega);have hpos:decide ((0:Int)<(i:Int))=true:=by simp;omega
    rw[hp0,e1,hpos,lX hi1];simp only[ak,c1,c2,aqV]
    have hn:decide (Ur v.keys[i-1] v.keys[i]<0)=!decide (0≤Ur v.keys[i-1] v.keys[i]):=by
     by_cases h:0≤Ur v.keys[i-1] v.keys[i]<;>simp[h]<;>omega
    rw[hn];cases uZ v.keys[i]<;>cases decide (0≤Ur v.keys[i-1] v.keys[i])<;>simp
  ·have:i=v.keys.length:=by omega
   subst this;simp[Ka]
theorem Y7{v:ah}(hv:v.bulk<4611686018427387904):Bl v=some (((v.keys.length:Int)==(v.aP.length:Int))&&Ka none v.keys)∧wR v=some (((v.keys.length:Int)==(v.aP.length:Int))&&Ka none v.keys):=by
 have hlen:=yx v;obtain⟨h1,h2⟩:=ac2 hv BIG 0 (by have:=iW;omega) (by omega);have hp0:Ju v.keys 0=none:=rfl;rw[hp0,arU]at h1 h2;unfold Bl wR;rw[show (0:Int)=((0:Nat):Int)from rfl,h1,h2];by_cases h:(v.keys.length:Int)=(v.aP.length:Int)
 ·simp[h]
 ·have:((v.keys.length:Int)==(v.aP.length:Int))=false:=by simpa using h
  simp[this];intro hh;exact absurd hh h
def qP(v:ah):Bool:=
 (((((v.kind==1)||(!v.dD))&&((v.kind==2)||(v.cu==0)))&&((v.kind==3)||(v.bJ==([]:Str))))&&(((v.kind==4)||(v.kind==5))||((v.aP.length:Int)==0)))&&((v.kind==5)||((v.keys.length:Int)==0))
theorem amw(v:ah):Gl v=some (qP v):=by
 unfold Gl qP
 have hl:decide (0<(v.aP.length:Int))=!((v.aP.length:Int)==0):=by
  cases h:v.aP<;>simp;omega
 rw[hl];have hk:∀n:Int,(v.kind !=n)=!(v.kind==n):=fun n=>rfl;have hi:(v.cu !=0)=!(v.cu==0):=rfl;rw[hk,hk,hk,hk,hk,hi];generalize (v.kind==1)=a1;generalize (v.kind==2)=a2;generalize (v.kind==3)=a3;generalize (v.kind==4)=a4;generalize (v.kind==5)=a5;generalize v.dD=b;generalize (v.cu==0)=c;generalize (v.bJ==([]:Str))=d;generalize ((v.aP.length:Int)==0)=e;generalize ((v.keys.length:Int)==0)=f;revert a1 a2 a3 a4 a5 b c d e f;decide
def ny(v:ah)(level:Nat):Int:=
 if 16<level then 13
 else if (decide (v.kind<0))||(decide (5<v.kind))||!qP v then 1
 else if (decide (v.cu<(-9007199254740992)))||(decide (9007199254740992<v.cu))then 2
 else if ((decide (4096<(v.bJ.length:Int)))||(decide (1024<(v.aP.length:Int))))||(decide (1024<(v.keys.length:Int)))then 3
 else if v.kind==5&&!(((v.keys.length:Int)==(v.aP.length:Int))&&Ka none v.keys)then 1
 else if (((v.kind==4)||(v.kind==5))&&((v.aP.length:Int)==0))&&level==16 then 13
 else 0
theorem ajP{v:ah}(hv:v.bulk<4611686018427387904)(level:Nat):DR v (level:Int)=some (ny v level):=by
 unfold DR ny Cu;have h16:decide ((16:Int)<(level:Int))=decide (16<level):=by congr 1;simp;omega
 have am9:((level:Int)==16)=(level==16):=by
  rw[arR];simp only[aq7];omega
 rw[h16,am9,(Y7 hv).1];change (if decide (16<level)=true then some 13 else av (if (decide (v.kind<0)||decide (5<v.kind))=true then some true else av (some (qP v)) fun x1=>some (!x1)) _)=_
 by_cases h0:16<level
 ·simp[h0]
 ·simp only[h0,arZ,aqS,aqT,ak];cases h1:(decide (v.kind<0)||decide (5<v.kind))with
  | true=>simp
  | false=>
   cases h2:qP v with
   | false=>simp
   | true=>
    simp only[aqS,aqT,arf,ak,Bool.or_self];split
    ·rfl
    ·split
     ·rfl
     ·cases h3:(v.kind==5)<;>cases h4:(((v.keys.length:Int)==(v.aP.length:Int))&&Ka none v.keys)<;>simp<;>(first|rfl|(split<;>rfl))
mutual
def wN:ah→Nat→Int
 | ⟨a,b,c,d,l,f⟩,level=>if ny ⟨a,b,c,d,l,f⟩ level !=0 then ny ⟨a,b,c,d,l,f⟩ level else DL l (level+1)
def DL:List ah→Nat→Int
 | [],_=>0
 | x::r,level=>if wN x level !=0 then wN x level else DL r level
end
theorem MB(v:ah)(level:Nat):wN v level=if ny v level !=0 then ny v level else DL v.aP (level+1):=by cases v;rw[wN]
theorem apB{go:ah→Int→Option Int}{level:Nat}:∀(l:List ah) (i:Nat),(∀x∈l,go x ((level+1:Nat):Int)=some (wN x (level+1)))→
  eB (fun _ e1 (_:Unit) r=>av (go e1 ((level+1:Nat):Int)) fun e2=>if e2 !=0 then some e2 else r ()) (fun _=>some 0) i l ()=some (DL l (level+1))
 | [],i,_=>by simp[eB,DL]
 | x::r,i,h=>by
  rw[eB,h x (by simp),DL];simp only[ak];rw[apB r (i+1) (fun y hy=>h y (by simp[hy]))];split<;>rfl
theorem Zz:∀(n:Nat) (v:ah) (level:Nat),v.bulk≤n→v.bulk<4611686018427387904→level≤17→uS (n+1) v (level:Int)=some (wN v level)
 | 0,v,_,h,_,_=>by have:=v.kT;omega
 | n+1,v,level,h,hB,hlv=>by
  have hl:=yw v;rw[MB];unfold uS EX;have h16:decide ((16:Int)<(level:Int))=decide (16<level):=by congr 1;simp;omega
  have am9:((level:Int)==16)=(level==16):=by
   rw[arR];simp only[aq7];omega
  rw[h16,am9,(Y7 hB).2,amw];unfold ny;by_cases h0:16<level
  ·simp[h0]
  ·have hw:bq ((level:Int)+1)=((level+1:Nat):Int):=mh (by omega);have:=eH (F:=fun k (_:Unit) i=>zo (uS (n+1)) v (level:Int) k i) (l:=v.aP) (body:=fun _ e1 _ r=>av (uS (n+1) e1 ((level+1:Nat):Int)) fun e2=>if e2 !=0 then some e2 else r ()) (fin:=fun _=>some 0) (by omega) (fun k s i=>by rw[←hw];rfl) ();rw[this,apB v.aP 0 fun x hx=>Zz n x (level+1) (by have:=iQ hx;omega) (by have:=iQ hx;omega) (by omega)];simp only[h0,arZ,aqS,aqT,ak];cases h1:(decide (v.kind<0)||decide (5<v.kind))with
   | true=>simp
   | false=>
    cases h2:qP v with
    | false=>simp
    | true=>
     simp only[aqS,aqT,arf,ak,Bool.or_self];split
     ·simp
     ·split
      ·simp
      ·have h4:decide ((4:Int)≤v.kind)=((v.kind==4)||(v.kind==5)):=by
        simp only[arF,aru]at h1;rw[arR];simp only[ars,aqW,aq7];omega
       rw[h4]
       cases h3:(v.kind==5)<;>cases h5:(((v.keys.length:Int)==(v.aP.length:Int))&&Ka none v.keys)<;>simp<;>(first|rfl|(split<;>simp<;>rename_i hq<;>(first
        | exact fun hh=>absurd hq.2 (hh hq.1.1 hq.1.2)
        | exact fun a b c=>absurd ⟨⟨a,b⟩,c⟩ hq)))
theorem Wo{v:ah}(h:v.bulk<4611686018427387904):yI v=some (wN v 1):=by
 obtain⟨n,hn,hn2⟩:=vF;unfold yI Oi;rw[hn];exact Zz n v 1 (by omega) h (by omega)
def QV(c:Int):Bool × Option Int:=if c !=0 then (false,some c)else (true,none)
theorem aoo{v:ah}(hv:v.bulk<4611686018427387904)(level:Nat):mP none (level:Int) v=some (QV (ny v level)):=by
 unfold mP QV;simp only[ajP hv,ak];by_cases h:ny v level=0<;>simp[h]
theorem akX{go:Option Int→ah→Int→Option (Bool × Option Int)}{level:Nat}:∀(l:List ah) (i:Nat),(∀x∈l,go none x ((level+1:Nat):Int)=some (QV (wN x (level+1))))→
  eB (fun _ x1 (s1:Option Int) r=>eO (go s1 x1 ((level+1:Nat):Int)) fun b1 s2=>if !b1 then some (false,s2)else r s2) (fun s1=>some (true,s1)) i l none=some (QV (DL l (level+1)))
 | [],i,_=>by simp[eB,DL,QV]
 | x::r,i,h=>by
  rw[eB,h x (by simp),DL];by_cases hc:wN x (level+1)=0
  ·simp only[hc,QV,arX,aqS,aqT,aC,arf];rw[akX r (i+1) (fun y hy=>h y (by simp[hy]))];rfl
  ·simp[hc,QV]
theorem afk:∀(n:Nat) (v:ah) (level:Nat),v.bulk≤n→v.bulk<4611686018427387904→level≤17→gD mP (n+1) none v (level:Int)=some (QV (wN v level))
 | 0,v,_,h,_,_=>by have:=v.kT;omega
 | n+1,v,level,h,hB,hlv=>by
  have hl:=yw v;rw[MB];unfold gD vH;rw[aoo hB];by_cases h0:ny v level=0
  ·have aqN:level≤16:=by
    rcases arE 16 level with h|h
    ·unfold ny at h0;simp[h]at h0
    ·exact h
   have hw:bq ((level:Int)+1)=((level+1:Nat):Int):=mh (by omega);have:=eH (F:=fun k s i=>kY (gD mP (n+1)) v (level:Int) k s i) (l:=v.aP) (body:=fun _ x1 (s1:Option Int) r=>eO (gD mP (n+1) s1 x1 ((level+1:Nat):Int)) fun b1 s2=>if !b1 then some (false,s2)else r s2) (fin:=fun s1=>some (true,s1)) (by omega) (fun k s i=>by rw[←hw];rfl) none;simp only[h0,QV,arX,aqS,aqT,aC,arf];rw[this,akX v.aP 0 fun x hx=>afk n x (level+1) (by have:=iQ hx;omega) (by have:=iQ hx;omega) (by omega)];rfl
  ·simp[h0,QV]
theorem FW{v:ah}(h:v.bulk<4611686018427387904):jW v=some (wN v 1):=by
 obtain⟨n,hn,hn2⟩:=vF;unfold jW DN;rw[hn,show (1:Int)=((1:Nat):Int)from rfl,afk n v 1 (by omega) h (by omega)];unfold QV;by_cases hc:wN v 1=0<;>simp[hc]
end Go.Ft
namespace Go.Ft
open Go
attribute [local congr] gq
def Ph(v:ah):Bool:=(((((v.kind==0)&&(!v.dD))&&(v.cu==0))&&(v.bJ==([]:Str)))&&((v.aP.length:Int)==0))&&((v.keys.length:Int)==0)
theorem zero_eq(v:ah):E5 v=some (Ph v):=rfl
theorem adq(v:ah):MX v (ah.mk 0 false 0 ([]:Str) [] [])=some (Ph v):=by
 obtain⟨n,hn,hn2⟩:=vF;obtain⟨m,hm⟩:∃m,n=m+1:=⟨n-1,by omega⟩;have hB:BIG=(m+1)+1:=by omega
 unfold MX;rw[hB,Ht,Hu]
 have hz:Ph v=!(((((v.kind !=0)||(!(v.dD==false)))||(v.cu !=0))||(!(v.bJ==([]:Str))))||((v.aP.length:Int) !=(([]:List ah).length:Int))||((v.keys.length:Int) !=(([]:List Str).length:Int))):=by
  unfold Ph;have hk:(v.kind !=0)=!(v.kind==0):=rfl;have hi:(v.cu !=0)=!(v.cu==0):=rfl;have hl:((v.aP.length:Int) !=(([]:List ah).length:Int))=!((v.aP.length:Int)==0):=rfl;have hks:((v.keys.length:Int) !=(([]:List Str).length:Int))=!((v.keys.length:Int)==0):=rfl;rw[hk,hi,hl,hks];generalize (v.kind==0)=a;generalize v.dD=b;generalize (v.cu==0)=c;generalize (v.bJ==([]:Str))=d;generalize ((v.aP.length:Int)==0)=e;generalize ((v.keys.length:Int)==0)=f;revert a b c d e f;decide
 cases h:(((((v.kind !=0)||(!(v.dD==false)))||(v.cu !=0))||(!(v.bJ==([]:Str))))||((v.aP.length:Int) !=(([]:List ah).length:Int))||((v.keys.length:Int) !=(([]:List Str).length:Int)))with
 | true=>
  rw[hz,h];rfl
 | false=>
  rw[hz,h];simp only[arF]at h;have hl:v.aP=[]:=by have:=h.1.2;simpa using this
  have hk:v.keys=[]:=by have:=h.2;simpa using this
  simp only[aqS,aqT,arz];rw[hB,BI,hk];simp only[arY,Int.lt_irrefl,arZ,aqS,aqT,Int.ofNat_zero];rw[hB,BH,hl];simp
def wI(e:aj):Bool:=
 if e.kind==1 then (e.args.length:Int)==0 else if e.kind==2 then (e.args.length:Int)==0 else if e.kind==3 then (e.args.length:Int)==1 else if e.kind==6 then (e.args.length:Int)==1
 else if e.kind==4 then (e.args.length:Int)==2 else if e.kind==7 then (e.args.length:Int)==2 else if e.kind==8 then (e.args.length:Int)==3 else ((e.kind==5)||(e.kind==9))||(e.kind==10)
theorem aku(e:aj):Gf e=some (wI e):=by
 unfold Gf wI;simp only[apply_ite some]
def Ep(e:aj):Bool:=!((decide (e.kind<1))||(decide (10<e.kind)))
theorem ano(e:aj)(h:Ep e=true):zy e=some (wI e):=by
 unfold zy wI;unfold Ep at h;simp only[arH,arF,aru]at h;simp only[apply_ite some]
 have hh:¬e.kind=1→¬e.kind=2→¬e.kind=3→¬e.kind=6→¬e.kind=4→¬e.kind=7→¬e.kind=8→(((e.kind==5)||(e.kind==9))||(e.kind==10))=true:=by
  intro h1 h2 h3 h6 h4 h7 h8;simp only[ars,aq7];omega
 by_cases h1:e.kind=1
 ·simp[h1]
 by_cases h2:e.kind=2
 ·simp[h2]
 by_cases h3:e.kind=3
 ·simp[h3]
 by_cases h6:e.kind=6
 ·simp[h6]
 by_cases h4:e.kind=4
 ·simp[h4]
 by_cases h7:e.kind=7
 ·simp[h7]
 by_cases h8:e.kind=8
 ·simp[h8]
 rw[hh h1 h2 h3 h6 h4 h7 h8]
 all_goals simp[h1,h2,h3,h4,h6,h7,h8]
def Hg(s:Str):Int:=(fG s).getD 0
theorem N7(s:Str):fG s=some (Hg s):=by
 obtain⟨n,h⟩:=Ul s;unfold Hg;rw[h];rfl
def Ey(e:aj):Bool:=
 if e.kind==2 then j4 e.name else if e.kind==3 then j4 e.name else if e.kind==5 then j4 e.name else if e.kind==6 then (e.name==([33]:Str))||(e.name==([45]:Str))
 else if e.kind==7 then decide (0<Hg e.name)else e.name==([]:Str)
theorem YW(e:aj)(h:e.bulk<4611686018427387904):zw e=some (Ey e)∧Gd e=some (Ey e):=by
 have hn:=aed e;obtain⟨p1,p2⟩:=Ee e.name (by omega);unfold zw Gd Ey;rw[p1,p2,Bt,N7];simp only[ak,apply_ite some,and_self]
theorem ari(l:List Str)(hl:l.length<4611686018427387904):gJ l kC=some (l.any fun k=>!uZ k):=by
 unfold gJ jl;have:=eH (F:=fun k (_:Unit) i=>gI l kC k i) (l:=l) (body:=fun(i:Nat) e1 _ r=>av (kC e1) fun x1=>if x1 then some (i:Int)else r ()) (fin:=fun _=>some (-1)) hl (fun k s i=>rfl) ();rw[this]
 have key:∀(t:List Str) (i:Nat),av (eB (fun(i:Nat) e1 (_:Unit) r=>av (kC e1) fun x1=>if x1 then some (i:Int)else r ()) (fun _=>some (-1)) i t ()) (fun x1=>some (decide (0≤x1)))=some (t.any fun k=>!uZ k):=by
  intro t
  induction t with
  | nil=>intro i;rfl
  | cons c t ih=>
   intro i;rw[eB];have e1:kC c=some (!uZ c):=by unfold kC;rw[Xg]
   rw[e1];simp only[ak,asT];cases h:uZ c with
   | false=>simp
   | true=>
    simp only[arf,aqS,aqT,ar0];exact ih (i+1)
 exact key l 0
def JZ(e:aj):Bool:=if e.kind !=10 then (e.keys.length:Int)==0 else ((e.keys.length:Int)==(e.args.length:Int))&&!(e.keys.any fun k=>!uZ k)
theorem amZ(e:aj)(h:e.bulk<4611686018427387904):zx e=some (JZ e):=by
 have hk:=KM e;unfold zx JZ;rw[ari e.keys (by omega)];split
 ·rfl
 ·cases ((e.keys.length:Int)==(e.args.length:Int))<;>simp
theorem aj7(e:aj)(h:e.bulk<4611686018427387904):tV e BIG 0=some (!(e.keys.any fun k=>!uZ k)&&((e.keys.length:Int)==(e.args.length:Int))):=by
 have hk:=KM e
 have:=eH (F:=fun k (_:Unit) i=>tV e k i) (l:=e.keys) (body:=fun(i:Nat) e2 _ r=>av (if decide ((e2.length:Int)<1)then some true else av (idx e.keys (i:Int)) fun e3=>some (decide (64<(e3.length:Int)))) fun b4=>if b4 then some false else r ())
  (fin:=fun _=>some ((e.keys.length:Int)==(e.args.length:Int))) (by omega) (fun k s i=>rfl) ()
 rw[this]
 have key:∀(t:List Str) (i:Nat),t=e.keys.drop i→eB (fun(i:Nat) e2 (_:Unit) r=>av (if decide ((e2.length:Int)<1)then some true else av (idx e.keys (i:Int)) fun e3=>some (decide (64<(e3.length:Int)))) fun b4=>if b4 then some false else r ())
   (fun _=>some ((e.keys.length:Int)==(e.args.length:Int))) i t ()=some (!(t.any fun k=>!uZ k)&&((e.keys.length:Int)==(e.args.length:Int))):=by
  intro t
  induction t with
  | nil=>intro i _;rfl
  | cons c t ih=>
   intro i ht
   have hi:i<e.keys.length:=by
    rcases arE i e.keys.length with h|h
    ·exact h
    ·rw[ara h]at ht;cases ht
   have hc:=aqZ hi;rw[←ht]at hc;have e1:c=e.keys[i]:=(ar1 hc).1;have e2:=(ar1 hc).2;rw[eB,lX hi,←e1];simp only[ak,asT];rw[ih (i+1) e2];have e3:=Xg c;cases h1:decide ((List.length c:Int)<1)<;>rw[h1]at e3
   ·simp only[ar0]at e3;simp only[aqS,aqT,ak,e3];cases uZ c<;>simp
   ·simp only[Bool.true_or]at e3
    have:uZ c=false:=by
     cases h:uZ c with
     | false=>rfl
     | true=>rw[h]at e3;cases e3
    simp[this]
 exact key e.keys 0 rfl
def xI(e:aj):Bool:=Ep e&&((e.kind==1)||Ph e.value)&&Ey e&&wI e&&JZ e
theorem abu(e:aj)(h:wI e=true):Ep e=true:=by
 unfold wI at h;unfold Ep;simp only[arH,arF,aru];by_cases h1:e.kind=1
 ·omega
 by_cases h2:e.kind=2
 ·omega
 by_cases h3:e.kind=3
 ·omega
 by_cases h6:e.kind=6
 ·omega
 by_cases h4:e.kind=4
 ·omega
 by_cases h7:e.kind=7
 ·omega
 by_cases h8:e.kind=8
 ·omega
 simp[h1,h2,h3,h4,h6,h7,h8]at h;omega
theorem ad8(e:aj)(h:e.bulk<4611686018427387904):D_ e=some (xI e):=by
 unfold D_ xI;rw[aku,(YW e h).2,adq,aj7 e h];have hk:=abu e;unfold JZ;have hne:(e.kind !=1)=!(e.kind==1):=rfl;rw[hne];cases h1:wI e with
 | false=>cases (e.kind==1)<;>simp
 | true=>
  rw[hk h1];cases h2:Ey e with
  | false=>cases (e.kind==1)<;>simp
  | true=>
   cases h3:(e.kind==1)<;>cases h4:Ph e.value<;>simp<;>(first|done|(split<;>simp[Bool.and_comm]))
theorem KD(y:List (Str × Int))(s t:Str)(n:Int):qJ (uz y s n) t=if t=s then n else qJ y t:=by
 induction y with
 | nil=>by_cases h:t=s<;>simp[uz,qJ,h]
 | cons a y ih=>
  obtain⟨k,v⟩:=a;unfold uz;by_cases h:s=k
  ·subst h;simp only[arO,aqV];unfold qJ;by_cases h2:t=s
   ·simp[h2]
   ·have:(t==s)=false:=aq4.2 h2;simp[this,h2]
  ·have:(s==k)=false:=aq4.2 h;rw[this];simp only[aqS,aqT];unfold qJ;by_cases h2:t=k
   ·subst h2;have:¬t=s:=fun hh=>h hh.symm;simp[this]
   ·have h3:(t==k)=false:=aq4.2 h2;rw[h3];simp only[aqS,aqT];exact ih
def Nv:List Str→List Str→Bool
 | _,[]=>false
 | seen,s::r=>seen.contains s||Nv (seen++[s]) r
theorem amv(l:List Str)(hl:l.length<4611686018427387904):sZ l=some (Nv [] l):=by
 unfold sZ;have:=eH (F:=fun k s i=>o9 l k i s) (l:=l) (body:=fun _ s1 (y1:List (Str × Int)) r=>if decide (1<(qJ (uz y1 s1 (bq ((qJ y1 s1)+1))) s1))then some true else r (uz y1 s1 (bq ((qJ y1 s1)+1)))) (fin:=fun _=>some false) hl (fun k s i=>rfl) [];rw[this]
 have key:∀(t:List Str) (i:Nat) (y:List (Str × Int)) (seen:List Str),(∀s,qJ y s=if s∈seen then 1 else 0)→
   eB (fun _ s1 (y1:List (Str × Int)) r=>if decide (1<(qJ (uz y1 s1 (bq ((qJ y1 s1)+1))) s1))then some true else r (uz y1 s1 (bq ((qJ y1 s1)+1)))) (fun _=>some false) i t y=some (Nv seen t):=by
  intro t
  induction t with
  | nil=>intro i y seen _;rfl
  | cons c t ih=>
   intro i y seen hy;rw[eB,Nv,KD,aqJ rfl,hy c];by_cases hc:c∈seen
   ·have:bq 2=2:=by decide
    simp[hc,this]
   ·have:bq ((0:Int)+1)=1:=by decide
    simp only[hc,aqT,this];have e:seen.contains c=false:=by simpa using hc
    rw[e];simp only[Int.lt_irrefl,arZ,aqS,aqT,ar0];refine ih (i+1) _ (seen++[c]) fun s=>?_;rw[KD,hy s];by_cases h1:s=c
    ·subst h1;simp
    ·simp[h1]
 exact key l 0 [] [] (fun s=>by simp[qJ])
theorem Yl(l:List Str)(i:Nat)(hi:i<l.length)(hl:l.length<4611686018427387904)(go:Int→Option Bool):∀(k j:Nat),i<k+j→j≤i→
  vO l (i:Int) go k (j:Int)=if ((l.take i).drop j).contains l[i]then some true else go ((i+1:Nat):Int)
 | 0,j,h,h'=>by omega
 | k+1,j,h,h'=>by
  rw[vO];by_cases hj:j<i
  ·have hlt:j<(l.take i).length:=by simp;omega
   rw[aqJ (by simpa using hj),lX hi,lX (by omega),aqZ hlt];simp only[ak,List.contains_cons,List.getElem_take];cases h1:(l[i]==l[j])with
   | true=>simp
   | false=>
    simp only[aqS,aqT,ar0];rw[mh (by omega)];exact Yl l i hi hl go k (j+1) (by omega) (by omega)
  ·have:j=i:=by omega
   subst this;rw[aqH (by simp),mh (by omega)];have:(List.take j l).drop j=[]:=ara (by simp;omega);rw[this];simp
theorem U9(l:List Str)(hl:l.length<4611686018427387904):∀(k i:Nat),l.length<k+i→i≤l.length→su l k (i:Int)=some (Nv (l.take i) (l.drop i))
 | 0,i,h,h'=>by omega
 | k+1,i,h,h'=>by
  rw[su];by_cases hi:i<l.length
  ·rw[aqJ (by simpa using hi),aqZ hi,Nv];have:=Yl l i hi hl (su l k) BIG 0 (by have:=iW;omega) (by omega);rw[show (0:Int)=((0:Nat):Int)from rfl,this,arU,U9 l hl k (i+1) (by omega) (by omega)];have e:List.take (i+1) l=List.take i l++[l[i]]:=by rw[List.take_add_one,aq1 hi];rfl
   rw[e];cases (l.take i).contains l[i]<;>simp
  ·have:i=l.length:=by omega
   subst this;simp[Nv]
theorem afD(l:List Str)(hl:l.length<4611686018427387904):Gc l=some (Nv [] l):=by
 have:=U9 l hl BIG 0 (by have:=iW;omega) (by omega);simpa[Gc]using this
def Bh(e:aj)(level:Nat):Int:=
 if 16<level then 13 else if !xI e then 1 else if e.kind==1&&(wN e.value 1 !=0)then wN e.value 1 else if decide (1024<(e.args.length:Int))then 3 else if Nv [] e.keys then 7 else 0
theorem af9(e:aj)(h:e.bulk<4611686018427387904)(level:Nat):BL e (level:Int)=some (Bh e level):=by
 have hk:=KM e;have hv:=JU e;unfold BL Bh;have h16:decide ((16:Int)<(level:Int))=decide (16<level):=by congr 1;simp;omega
 rw[h16,zero_eq,(YW e h).1,amZ e h,FW (by omega),amv e.keys (by omega)];by_cases h0:16<level
 ·simp[h0]
 ·simp only[h0,arZ,aqS,aqT,ak];have hkd:((decide (e.kind<1))||(decide (10<e.kind)))=!Ep e:=by simp[Ep]
  have hne:(e.kind !=1)=!(e.kind==1):=rfl;rw[hkd,hne];unfold xI;cases h1:Ep e with
  | false=>simp
  | true=>
   rw[ano e h1]
   cases h3:(e.kind==1)<;>cases h4:Ph e.value<;>cases h5:Ey e<;>cases h6:wI e<;>cases h7:JZ e<;>simp <;>
    (first|done|(split<;>(first|rfl|(split<;>(first|rfl|(split<;>rfl))))))
end Go.Ft
namespace Go.Ft
open Go
attribute [local congr] gq
mutual
def G6:aj→Nat→Int
 | ⟨a,b,c,l,f⟩,level=>if Bh ⟨a,b,c,l,f⟩ level !=0 then Bh ⟨a,b,c,l,f⟩ level else Mk l (level+1)
def Mk:List aj→Nat→Int
 | [],_=>0
 | x::r,level=>if G6 x level !=0 then G6 x level else Mk r level
end
theorem Qo(e:aj)(level:Nat):G6 e level=if Bh e level !=0 then Bh e level else Mk e.args (level+1):=by cases e;rw[G6]
theorem Lu{go:aj→Int→Option Int}{level:Nat}:∀(l:List aj) (i:Nat),(∀x∈l,go x ((level+1:Nat):Int)=some (G6 x (level+1)))→
  eB (fun _ e1 (_:Unit) r=>av (go e1 ((level+1:Nat):Int)) fun e2=>if e2 !=0 then some e2 else r ()) (fun _=>some 0) i l ()=some (Mk l (level+1))
 | [],i,_=>by simp[eB,Mk]
 | x::r,i,h=>by
  rw[eB,h x (by simp),Mk];simp only[ak];rw[Lu r (i+1) (fun y hy=>h y (by simp[hy]))];split<;>rfl
theorem QT:∀(n:Nat) (e:aj) (level:Nat),e.bulk≤n→e.bulk<4611686018427387904→level≤17→o8 (n+1) e (level:Int)=some (G6 e level)∧uN (n+1) e (level:Int)=some (G6 e level)
 | 0,e,_,h,_,_=>by have:=e.kT;omega
 | n+1,e,level,h,hB,hlv=>by
  have hl:=VO e;have hv:=JU e;have hks:=KM e;have hw:bq ((level:Int)+1)=((level+1:Nat):Int):=mh (by omega);constructor
  ·rw[Qo];unfold o8 zu;have:=eH (F:=fun k (_:Unit) i=>sW (o8 (n+1)) e (level:Int) k i) (l:=e.args) (body:=fun _ e1 _ r=>av (o8 (n+1) e1 ((level+1:Nat):Int)) fun e2=>if e2 !=0 then some e2 else r ()) (fin:=fun _=>some 0) (by omega) (fun k s i=>by rw[←hw];rfl) ();rw[af9 e hB,this];simp only[ak];by_cases h0:Bh e level=0
   ·have aqN:level≤16:=by
     rcases arE 16 level with h|h
     ·unfold Bh at h0;simp[h]at h0
     ·exact h
    rw[Lu e.args 0 fun x hx=>(QT n x (level+1) (by have:=kr hx;omega) (by have:=kr hx;omega) (by omega)).1];simp[h0]
   ·simp[h0]
  ·rw[Qo];unfold uN ER;have:=eH (F:=fun k (_:Unit) i=>zl (uN (n+1)) e (level:Int) k i) (l:=e.args) (body:=fun _ e1 _ r=>av (uN (n+1) e1 ((level+1:Nat):Int)) fun e2=>if e2 !=0 then some e2 else r ()) (fin:=fun _=>some 0) (by omega) (fun k s i=>by rw[←hw];rfl) ();have h16:decide ((16:Int)<(level:Int))=decide (16<level):=by congr 1;simp;omega
   rw[ad8 e hB,Wo (by omega),afD e.keys (by omega),this,h16];by_cases h0:16<level
   ·simp[Bh,h0]
   ·rw[Lu e.args 0 fun x hx=>(QT n x (level+1) (by have:=kr hx;omega) (by have:=kr hx;omega) (by omega)).2];unfold Bh;simp only[h0,arZ,aqS,aqT,ak];cases xI e with
    | false=>simp
    | true=>
     simp only[arf,aqS,aqT];cases h1:(e.kind==1&&(wN e.value 1 !=0))with
     | true=>
      have:wN e.value 1≠0:=by simp at h1;exact h1.2
      simp[this]
     | false=>
      simp only[aqS,aqT];by_cases h2:(1024:Int)<(e.args.length:Int)
      ·simp[h2]
      ·simp only[h2,arZ,aqS,aqT];cases Nv [] e.keys<;>simp
def xval(e:aj):Int:=if 4096<ecnt e then 15 else G6 e 1
theorem Qn{e:aj}(h:e.bulk<4611686018427387904):jN e=some (xval e)∧Dp e=some (xval e):=by
 obtain⟨n,hn,hn2⟩:=vF;obtain⟨c1,c2⟩:=count_eq h;obtain⟨v1,v2⟩:=QT n e 1 (by omega) h (by omega);unfold jN Dp xval HV Og;rw[c1,c2,hn];have:decide ((4096:Int)<(ecnt e:Int))=decide (4096<ecnt e):=by congr 1;simp;omega
 simp only[ak,this];rw[show (1:Int)=((1:Nat):Int)from rfl,v1,v2];by_cases h4:4096<ecnt e<;>simp[h4]
inductive Ty where
 | leaf (k:Int)
 | nest (k:Int) (t:Ty)
namespace Ty
def api:Ty→aM
 | leaf k=>⟨k,[]⟩
 | nest k t=>⟨k,[t.api]⟩
def wf:Ty→Prop
 | leaf k=>0≤k∧k≤7∧k≠5∧k≠6
 | nest k t=>(k=5∨k=6)∧t.wf
def dep:Ty→Nat
 | leaf _=>1
 | nest _ t=>1+t.dep
def kind:Ty→Int
 | leaf k=>k
 | nest k _=>k
theorem apP(t:Ty):t.api.kind=t.kind:=by cases t<;>rfl
theorem acM(t:Ty):1≤t.dep:=by cases t<;>simp[dep]<;>omega
end Ty
theorem R4{k:Int}(h:0≤k∧k≤7):∃s,yA k=some s∧(s==([]:Str))=false:=by
 obtain⟨n,rfl⟩:∃n:Nat,k=n:=⟨k.toNat,by omega⟩;have hn:n<8:=by omega
 match n,hn with
 | 0,_=>exact⟨_,rfl,rfl⟩
 | 1,_=>exact⟨_,rfl,rfl⟩
 | 2,_=>exact⟨_,rfl,rfl⟩
 | 3,_=>exact⟨_,rfl,rfl⟩
 | 4,_=>exact⟨_,rfl,rfl⟩
 | 5,_=>exact⟨_,rfl,rfl⟩
 | 6,_=>exact⟨_,rfl,rfl⟩
 | 7,_=>exact⟨_,rfl,rfl⟩
theorem agI{k:Int}(h:¬(0≤k∧k≤7)):yA k=some []:=by
 unfold yA;rw[aqJ (by simp;omega)]
theorem afE:∀(k level:Nat) (t:aM),18≤k+level→level≤17→∃c,kG k (level:Int) t=some c∧EU k t (level:Int)=some c∧(c=0→∃T:Ty,T.wf∧t=T.api∧T.dep+level≤17)
 | 0,level,t,h,h'=>by omega
 | k+1,level,t,h,h'=>by
  rw[kG,EU,Pz];have h16:decide ((16:Int)<(level:Int))=decide (16<level):=by congr 1;simp;omega
  rw[h16];by_cases h0:16<level
  ·exact⟨13,by simp[h0],by simp[h0],by simp⟩
  ·simp only[h0,arZ,aqS,aqT];by_cases hk:0≤t.kind∧t.kind≤7
   ·obtain⟨s,hs,hs2⟩:=R4 hk;have hb:(decide (t.kind<0)||decide (7<t.kind))=false:=by simp;omega
    rw[hs,hb];simp only[ak,hs2,lg,Vs,aqS,aqT];cases hn:((t.kind==5)||(t.kind==6))with
    | false=>
     simp only[arV,arz,arQ,aqS,aqT,ak,aqV];cases he:t.elem with
     | nil=>
      refine⟨0,by simp,by simp,fun _=>⟨.leaf t.kind,?_,?_,?_⟩⟩
      ·simp at hn;exact⟨hk.1,hk.2,hn.1,hn.2⟩
      ·cases t;simp at he;subst he;rfl
      ·simp only[Ty.dep];omega
     | cons x r=>exact⟨1,by first|(simp;done)|(simp;omega),by first|(simp;done)|(simp;omega),by simp⟩
    | true=>
     simp only[arQ,arf,arV,aqS,aqT];have hnk:t.kind=5∨t.kind=6:=by simpa using hn
     match he:t.elem with
     | []=>exact⟨1,by simp,by simp,by simp⟩
     | [x]=>
      obtain⟨c,c1,c2,c3⟩:=afE k (level+1) x (by omega) (by omega);have hw:bq ((level:Int)+1)=((level+1:Nat):Int):=mh (by omega);refine⟨c,?_,?_,fun hc=>?_⟩
      ·rw[hw,←c1];simp[idx]
      ·rw[hw,←c2];simp[idx]
      ·obtain⟨T,w1,w2,w3⟩:=c3 hc;refine⟨.nest t.kind T,⟨hnk,w1⟩,?_,?_⟩
       ·cases t;simp at he;subst he;simp[Ty.api,w2]
       ·simp only[Ty.dep];omega
     | x::y::r=>
      have hl:(((x::y::r).length:Int) !=1)=true:=by simp only[aq2,arA];omega
      exact⟨1,by simp only[hl,aqV,ak],by simp only[hl,aqV],by simp⟩
   ·have hb:(decide (t.kind<0)||decide (7<t.kind))=true:=by simp;omega
    rw[agI hk,hb];exact⟨1,by simp,by simp,by simp⟩
theorem ak0:∀(T:Ty) (k level:Nat),T.wf→T.dep+level≤17→18≤k+level→kG k (level:Int) T.api=some 0
 | .leaf a,0,level,_,h,h'=>by simp only[Ty.dep]at h;omega
 | .leaf a,k+1,level,hw,h,h'=>by
  simp only[Ty.dep]at h;have h16:decide ((16:Int)<(level:Int))=false:=arL (by omega);obtain⟨s,hs,hs2⟩:=R4 (k:=a) ⟨hw.1,hw.2.1⟩;have hn:((a==5)||(a==6))=false:=by simp;exact⟨hw.2.2.1,hw.2.2.2⟩
  simp[kG,h16,Ty.api,hs,aq4.1 hs2,lg,hn]
 | .nest a T,0,level,_,h,h'=>by simp only[Ty.dep]at h;have:=T.acM;omega
 | .nest a T,k+1,level,hw,h,h'=>by
  simp only[Ty.dep]at h;have hd:=T.acM;have h16:decide ((16:Int)<(level:Int))=false:=arL (by omega);have hn:((a==5)||(a==6))=true:=by simpa using hw.1
  obtain⟨s,hs,hs2⟩:=R4 (k:=a) (by rcases hw.1 with h|h<;>omega);have hw64:bq ((level:Int)+1)=((level+1:Nat):Int):=mh (by omega);have:=ak0 T k (level+1) hw.2 (by omega) (by omega);rw[←this,←hw64];simp[kG,h16,Ty.api,hs,aq4.1 hs2,lg,hn,idx]
def aau(t:aM):Int:=(nT t).getD 0
theorem ajf(t:aM):nT t=some (aau t)∧Oh t=some (aau t)∧(aau t=0→∃T:Ty,T.wf∧t=T.api∧T.dep≤16):=by
 obtain⟨c,c1,c2,c3⟩:=afE BIG 1 t (by have:=iW;omega) (by omega);have e1:nT t=some c:=c1;have e2:Oh t=some c:=c2;have:aau t=c:=by unfold aau;rw[e1];rfl
 rw[this];exact⟨e1,e2,fun h=>by obtain⟨T,a,b,d⟩:=c3 h;exact⟨T,a,b,by omega⟩⟩
theorem aje{T:Ty}(h:T.wf)(hd:T.dep≤16):aau T.api=0:=by
 have:=ak0 T BIG 1 h (by omega) (by have:=iW;omega);have e1:nT T.api=some 0:=this;unfold aau;rw[e1];rfl
end Go.Ft
namespace Go.Ft
open Go
attribute [local congr] gq
def ZT:aM:=aM.mk 0 []
def sc(k:Int):Ty:=.leaf k
def apv(x:Option (aM × Bool)):Option (aM × Int):=
 eO x fun x6 ok1=>if !ok1 then some (ZT,9)else av (Oh x6) fun x7=>if x7 !=0 then some (ZT,13)else some (x6,0)
def RES(x y:Option (aM × Int)):Prop:=∃(T:Ty) (c:Int),T.wf∧T.dep≤16∧(c≠0→T=sc 0)∧x=some (T.api,c)∧y=some (T.api,c)
theorem RES.mk{x:Option (aM × Int)}{y:Option (aM × Bool)}(T:Ty)(b:Bool)(hx:x=some (if b then (T.api,0)else (ZT,9)))(hy:y=some (T.api,b))(hw:b=true→T.wf∧T.dep≤16):RES x (apv y):=by
 subst hx hy;unfold apv;cases b with
 | false=>exact⟨sc 0,9,by simp[sc,Ty.wf],by simp[sc,Ty.dep],fun _=>rfl,rfl,rfl⟩
 | true=>
  obtain⟨h1,h2⟩:=hw rfl;refine⟨T,0,h1,h2,fun h=>absurd rfl h,rfl,?_⟩;simp only[aC,arf,aqS,aqT,(ajf _).2.1,aje h1 h2];rfl
end Go.Ft
namespace Go.Ft
open Go
attribute [local congr] gq
def opsL:List Str:=[[38,38],[124,124],[61,61],[33,61],[60],[60,61],[62],[62,61],[45],[42],[47],[37],[43]]
theorem aay{s:Str}(h:0<Hg s):s∈opsL:=by
 unfold Hg fG at h;unfold opsL;by_cases h1:s=[124,124]
 ·simp[h1]
 by_cases h2:s=[38,38]
 ·simp[h2]
 by_cases h3:s=[61,61]
 ·simp[h3]
 by_cases h4:s=[33,61]
 ·simp[h4]
 by_cases h5:s=[60]
 ·simp[h5]
 by_cases h6:s=[60,61]
 ·simp[h6]
 by_cases h7:s=[62]
 ·simp[h7]
 by_cases h8:s=[62,61]
 ·simp[h8]
 by_cases h9:s=[43]
 ·simp[h9]
 by_cases h10:s=[45]
 ·simp[h10]
 by_cases h11:s=[42]
 ·simp[h11]
 by_cases h12:s=[47]
 ·simp[h12]
 by_cases KY:s=[37]
 ·simp[KY]
 simp[h1,h2,h3,h4,h5,h6,h7,h8,h9,h10,h11,h12,KY]at h
end Go.Ft
namespace Go.Ft
open Go
attribute [local congr] gq
theorem agU(p q:Bool):(if p=true then some true else some q)=some (p||q):=by cases p<;>rfl
theorem QB(p q:Bool):(if p=true then some q else some false)=some (p&&q):=by cases p<;>rfl
end Go.Ft
namespace Go.Ft
open Go
attribute [local congr] gq
theorem aam{v:ah}{level:Nat}(h:ny v level=0):level≤16∧0≤v.kind∧v.kind≤5∧(v.kind=4∨v.kind=5→v.aP=[]→level≠16):=by
 unfold ny at h;by_cases h0:16<level
 ·simp[h0]at h
 ·rw[aqH h0]at h;cases h1:(decide (v.kind<0)||decide (5<v.kind)||!qP v)with
  | true=>rw[h1]at h;simp at h
  | false=>
   rw[h1]at h;simp only[arF,aru]at h1;refine⟨by omega,by omega,by omega,fun hk hl h16=>?_⟩
   have e1:((((v.kind==4)||(v.kind==5))&&((v.aP.length:Int)==0))&&(level==16))=true:=by
    rw[hl,h16];rcases hk with hk|hk<;>simp[hk]
   rw[e1]at h;simp only[aqS,aqT,aqV]at h;split at h
   ·omega
   ·split at h
    ·omega
    ·split at h<;>omega
theorem U7:∀ {l:List ah} {level:Nat},DL l level=0→∀x∈l,wN x level=0
 | [],_,_,x,hx=>by cases hx
 | y::r,level,h,x,hx=>by
  rw[DL]at h;by_cases hy:wN y level=0
  ·rw[aqH (by simpa using hy)]at h;rcases arB.1 hx with rfl|hx
   ·exact hy
   ·exact U7 h x hx
  ·rw[aqJ (by simpa using hy)]at h;exact absurd h hy
theorem adg{v:ah}{level:Nat}(h:wN v level=0):ny v level=0∧∀x∈v.aP,wN x (level+1)=0:=by
 rw[MB]at h;by_cases hn:ny v level=0
 ·rw[aqH (by simpa using hn)]at h;exact⟨hn,U7 h⟩
 ·rw[aqJ (by simpa using hn)]at h;exact absurd h hn
theorem ajD{s:Str}(h:s.length<4611686018427387000):jN (aj.mk 2 s (ah.mk 0 false 0 ([]:Str) [] []) [] [])=some (if j4 s then 0 else 1):=by
 have hb:(aj.mk 2 s (ah.mk 0 false 0 ([]:Str) [] []) [] []).bulk<4611686018427387904:=by
  simp only[aj.bulk,ah.bulk,ah.kU,aj.kU,ar_,List.sum_nil,arY];omega
 rw[(Qn hb).1];have e1:ecnt (aj.mk 2 s (ah.mk 0 false 0 ([]:Str) [] []) [] [])=1:=by rw[CY];rfl
 unfold xval;rw[e1,Qo]
 have e2:xI (aj.mk 2 s (ah.mk 0 false 0 ([]:Str) [] []) [] [])=j4 s:=by
  have:Ph (ah.mk 0 false 0 ([]:Str) [] [])=true:=rfl;simp[xI,Ep,this,Ey,wI,JZ]
 have e3:Bh (aj.mk 2 s (ah.mk 0 false 0 ([]:Str) [] []) [] []) 1=if j4 s then 0 else 1:=by
  unfold Bh;rw[e2];cases j4 s<;>simp[Nv]
 rw[e3];cases j4 s<;>simp[Mk]
end Go.Ft
namespace Go.Ft
open Go
attribute [local congr] gq
theorem U2:∀ {l:List aj} {level:Nat},Mk l level=0→∀x∈l,G6 x level=0
 | [],_,_,x,hx=>by cases hx
 | y::r,level,h,x,hx=>by
  rw[Mk]at h;by_cases hy:G6 y level=0
  ·rw[aqH (by simpa using hy)]at h;rcases arB.1 hx with rfl|hx
   ·exact hy
   ·exact U2 h x hx
  ·rw[aqJ (by simpa using hy)]at h;exact absurd h hy
theorem aaf{e:aj}{level:Nat}(h:Bh e level=0):xI e=true∧(e.kind=1→wN e.value 1=0)∧e.args.length≤1024:=by
 unfold Bh at h;split at h
 ·omega
 ·cases h1:xI e with
  | false=>rw[h1]at h;simp at h
  | true=>
   rw[h1]at h;simp only[arf,aqS,aqT]at h;by_cases h2:(e.kind==1&&(wN e.value 1 !=0))=true
   ·rw[aqJ h2]at h;simp[h]at h2
   ·rw[aqH h2]at h;refine⟨rfl,fun hk=>?_,?_⟩
    ·simp only[aq5,aq7,arA,not_and]at h2;have:=h2 hk;simpa using this
    ·split at h
     ·omega
     ·rename_i h3;simp only[aqW]at h3;omega
theorem ac_{e:aj}{level:Nat}(h:G6 e level=0):Bh e level=0∧∀x∈e.args,G6 x (level+1)=0:=by
 rw[Qo]at h;by_cases hn:Bh e level=0
 ·rw[aqH (by simpa using hn)]at h;exact⟨hn,U2 h⟩
 ·rw[aqJ (by simpa using hn)]at h;exact absurd h hn
theorem Xr{e:aj}(h:xI e=true):Ep e=true∧Ey e=true∧wI e=true:=by
 unfold xI at h;simp only[aq5]at h;exact⟨h.1.1.1.1,h.1.1.2,h.1.2⟩
theorem len1{α:Type}{l:List α}(h:l.length=1):∃a,l=[a]:=by
 match l,h with
 | [a],_=>exact⟨a,rfl⟩
theorem len2{α:Type}{l:List α}(h:l.length=2):∃a b,l=[a,b]:=by
 match l,h with
 | [a,b],_=>exact⟨a,b,rfl⟩
theorem aqA{α:Type}{l:List α}(h:l.length=3):∃a b c,l=[a,b,c]:=by
 match l,h with
 | [a,b,c],_=>exact⟨a,b,c,rfl⟩
end Go.Ft
namespace Go.Ft
open Go
attribute [local congr] gq
theorem U1{e:aj}(h:xval e=0):G6 e 1=0:=by
 unfold xval at h;split at h
 ·cases h
 ·exact h
end Go.Ft
namespace Go.Ft
open Go
attribute [local congr] gq
def ZV:ah:=ah.mk 0 false 0 ([]:Str) [] []
theorem anK(level:Nat)(h:level≤16):wN ZV level=0:=by
 have h0:ny ZV level=0:=by
  unfold ny;rw[aqH (by omega)];simp[ZV,qP]
 rw[MB,h0];simp[ZV,DL]
theorem ac8:ZV.bulk=7:=by unfold ZV ah.bulk ah.kU;simp
theorem L9{go:ah→Option ah}{R:Type}{fin:ah→Option R}:∀(l:List ah) (i:Nat) (out:ah),(∀x∈l,go x=some x)→out.aP.length+l.length≤rM→
  eB (fun _ x (out:ah) r=>av (go x) fun x3=>av (app out.aP [x3]) fun x4=>r (ah.mk out.kind out.dD out.cu out.bJ x4 out.keys)) fin i l out
   =fin (ah.mk out.kind out.dD out.cu out.bJ (out.aP++l) out.keys)
 | [],i,out,_,_=>by cases out;simp[eB]
 | x::l,i,out,h,hl=>by
  simp only[aq2]at hl;rw[eB,h x (by simp),ak,aV (by simp;omega),ak];refine(L9 l (i+1) _ (fun y hy=>h y (by simp[hy])) (by simp;omega)).trans ?_;simp
theorem Yd{S:ah→Prop}(hS:∀v,S v→v.aP.length≤rM∧v.keys.length≤rM∧∀x∈v.aP,S x):∀(n:Nat) (v:ah),v.bulk≤n→v.bulk<4611686018427387904→S v→oG (n+1) v=some v∧qz (n+1) v=some v
 | 0,v,h,_,_=>by have:=v.kT;omega
 | n+1,v,h,hb,hs=>by
  obtain⟨hl,hk,hm⟩:=hS v hs;have ih:∀x∈v.aP,oG (n+1) x=some x∧qz (n+1) x=some x:=fun x hx=>Yd hS n x (by have:=iQ hx;omega) (by have:=iQ hx;omega) (hm x hx);have hL:rM=4294967296:=rfl;constructor
  ·rw[oG,AQ,kH,aV (by simp;omega),ak];rw[eH (F:=fun k s i=>uJ (oG (n+1)) v k i s) (l:=v.aP) (body:=fun _ x (out:ah) r=>av (oG (n+1) x) fun x3=>av (app out.aP [x3]) fun x4=>r (ah.mk out.kind out.dD out.cu out.bJ x4 out.keys)) (fin:=fun out=>some out) (by omega) (fun k s i=>rfl)];rw[L9 v.aP 0 _ (fun x hx=>(ih x hx).1) (by simp;omega)];cases v;simp
  ·rw[qz,CW];rw[eH (F:=fun k s i=>w_ (qz (n+1)) v k i s) (l:=v.aP) (body:=fun _ x (out:ah) r=>av (qz (n+1) x) fun x3=>av (app out.aP [x3]) fun x4=>r (ah.mk out.kind out.dD out.cu out.bJ x4 out.keys)) (fin:=fun out=>av (app out.keys v.keys) fun x4=>some (ah.mk out.kind out.dD out.cu out.bJ out.aP x4)) (by omega) (fun k s i=>rfl)];rw[L9 v.aP 0 _ (fun x hx=>(ih x hx).2) (by simp;omega),aV (by simp;omega)];cases v;simp
theorem Ye{S:ah→Prop}(hS:∀v,S v→v.aP.length≤rM∧v.keys.length≤rM∧∀x∈v.aP,S x){v:ah}(h:S v)(hb:v.bulk<4611686018427387904):mX v=some v∧xZ v=some v:=by
 obtain⟨n,hn,hn2⟩:=vF;unfold mX xZ;rw[hn];exact Yd hS n v (by omega) hb h
theorem adf{v:ah}(h:v.bulk≤rM):mX v=some v∧xZ v=some v:=
 Ye (S:=fun v=>v.bulk≤rM) (fun v h=>⟨by have:=yw v;omega,by have:=yx v;omega,fun x hx=>by have:=iQ hx;omega⟩) h (by have hL:rM=4294967296:=rfl;omega)
def IZ:List Str→List ah→Str→Option ah
 | k::ks,x::xs,q=>if k=q then some x else IZ ks xs q
 | _,_,_=>none
theorem Zf:∀ {ks:List Str} {xs:List ah} {q:Str} {v:ah},IZ ks xs q=some v→v∈xs
 | k::ks,x::xs,q,v,h=>by
  rw[IZ]at h;split at h
  ·cases h;simp
  ·simp[Zf h]
 | [],_,_,_,h=>by simp[IZ]at h
 | _::_,[],_,_,h=>by simp[IZ]at h
theorem Ze(ks:List Str)(q:Str):IZ ks [] q=none:=by cases ks<;>rfl
def OC(v:ah)(q:Str):Option ah:=if v.kind=5 then IZ v.keys v.aP q else none
def aaO:Option ah→ah × Bool
 | some x=>(x,true)
 | none=>(ZV,false)
theorem Rt(v:ah)(q:Str)(hv:v.keys.length<4611686018427387904):∀(k i:Nat),v.keys.length<k+i→i≤v.keys.length→Aw v q k (i:Int)=some (aaO (IZ (v.keys.drop i) (v.aP.drop i) q))
 | 0,i,h,h'=>by omega
 | k+1,i,h,h'=>by
  rw[Aw];by_cases hi:i<v.keys.length
  ·rw[aqJ (by simp;omega),lX hi,ak,aqZ hi];by_cases hl:i<v.aP.length
   ·rw[aqZ hl,IZ];by_cases he:v.keys[i]=q
    ·rw[aqJ (by simpa using he),aqJ he,aqH (by simp;omega),lX hl];rfl
    ·rw[aqH (by simpa using he),aqH he,mh (by omega),Rt v q hv k (i+1) (by omega) (by omega)]
   ·have e0:v.aP.drop i=[]:=ara (by omega);have e1:v.aP.drop (i+1)=[]:=ara (by omega);rw[e0,Ze];by_cases he:v.keys[i]=q
    ·rw[aqJ (by simpa using he),aqJ (by simp;omega)];rfl
    ·rw[aqH (by simpa using he),mh (by omega),Rt v q hv k (i+1) (by omega) (by omega),e1,Ze]
  ·have:i=v.keys.length:=by omega
   subst this;rw[aqH (by simp),List.drop_length];cases v.aP.drop v.keys.length<;>rfl
theorem WO{v:ah}(hv:v.keys.length<4611686018427387904)(q:Str):Hw v q=some (aaO (OC v q)):=by
 unfold Hw OC;by_cases h:v.kind=5
 ·rw[aqH (by simpa using h),aqJ h];exact Rt v q hv BIG 0 (by have:=iW;omega) (by omega)
 ·rw[aqJ (by simpa using h),aqH h];rfl
theorem adY(l:List Str)(q:Str)(hl:l.length<4611686018427387904):∃j:Int,iZ l q=some j∧((j=-1∧q∉l)∨∃i:Nat,j=i∧∃h:i<l.length,l[i]=q∧∀k (hk:k<i),l[k]'(by omega)≠q):=by
 unfold iZ;rw[eH (F:=fun k (_:Unit) i=>iE l q k i) (l:=l) (body:=fun(i:Nat) e1 (_:Unit) r=>if q==e1 then some (i:Int)else r ()) (fin:=fun _=>some (-1)) hl (fun k s i=>rfl) ()]
 have key:∀(t:List Str) (i:Nat),t=l.drop i→(∀k (hk:k<i) (hl:k<l.length),l[k]≠q)→∃j:Int,eB (fun(i:Nat) e1 (_:Unit) r=>if q==e1 then some (i:Int)else r ()) (fun _=>some (-1)) i t ()=some j∧((j=-1∧q∉l)∨∃i:Nat,j=i∧∃h:i<l.length,l[i]=q∧∀k (hk:k<i),l[k]'(by omega)≠q):=by
  intro t
  induction t with
  | nil=>
   intro i ht hne;refine⟨-1,rfl,.inl ⟨rfl,fun hm=>?_⟩⟩;obtain⟨k,hk,he⟩:=asG.1 hm
   have:l.length≤i:=by
    rcases arE i l.length with h|h
    ·rw[aqZ h]at ht;cases ht
    ·exact h
   exact hne k (by omega) hk he
  | cons d t ih=>
   intro i ht hne
   have hi:i<l.length:=by
    rcases arE i l.length with h|h
    ·exact h
    ·rw[ara h]at ht;cases ht
   have hc:=aqZ hi;rw[←ht]at hc;have e1':=(ar1 hc).1;have e2':=(ar1 hc).2;rw[eB];by_cases he:q=d
   ·rw[aqJ (by simpa using he)];exact⟨i,rfl,.inr ⟨i,rfl,hi,by rw[←e1',he],fun k hk=>hne k hk (by omega)⟩⟩
   ·rw[aqH (by simpa using he)];refine ih (i+1) e2' fun k hk hkl=>?_;by_cases hki:k=i
    ·subst hki;rw[←e1'];exact fun h=>he h.symm
    ·exact hne k (by omega) hkl
 exact key l 0 rfl (fun k hk=>by omega)
theorem acB:∀(ks:List Str) (xs:List ah) (q:Str) (i:Nat) (h:i<ks.length),ks[i]=q→(∀k (hk:k<i),ks[k]'(by omega)≠q)→IZ ks xs q=xs[i]?
 | [],_,_,i,h,_,_=>by simp at h
 | k::ks,[],q,i,h,_,_=>by simp[IZ]
 | k::ks,x::xs,q,0,h,he,_=>by simp at he;simp[IZ,he]
 | k::ks,x::xs,q,i+1,h,he,hn=>by
  have h0:=hn 0 (by omega);simp only[List.getElem_cons_zero]at h0;rw[IZ,aqH h0,List.getElem?_cons_succ];exact acB ks xs q i (by simpa using h) (by simpa using he) fun k hk=>by have:=hn (k+1) (by omega);simpa using this
theorem Sz:∀(ks:List Str) (xs:List ah) (q:Str),q∉ks→IZ ks xs q=none
 | [],_,_,_=>by simp[IZ]
 | k::ks,[],q,_=>by simp[IZ]
 | k::ks,x::xs,q,h=>by
  simp only[arB,not_or]at h;rw[IZ,aqH (fun e=>h.1 e.symm),Sz ks xs q h.2]
theorem amk{v:ah}(hb:v.bulk<4611686018427387904)(hv:∀x∈v.aP,mX x=some x)(q:Str):Aj v q=some (aaO (OC v q)):=by
 have hk:=yx v;obtain⟨j,h1,h2⟩:=adY v.keys q (by omega);unfold Aj OC;rw[h1,ak];by_cases h5:v.kind=5
 ·rw[aqJ h5];rcases h2 with⟨rfl,hn⟩|⟨i,rfl,hi,he,hf⟩
  ·rw[aqJ (by simp),Sz _ _ _ hn];rfl
  ·rw[acB _ _ _ i hi he hf];by_cases hl:i<v.aP.length
   ·rw[aqH (by simp[h5];omega),lX hl,ak,aq1 hl,hv _ (arj hl)];rfl
   ·rw[aqJ (by simp[h5];omega),arN (by omega)];rfl
 ·rw[aqH h5,aqJ (by simp[h5])];rfl
end Go.Ft
namespace Go.Ft
open Go
attribute [local congr] gq
def BQ{α:Type}(f:α→α→Int):List α→List α→Int
 | [],[]=>0
 | [],_::_=>-1
 | _::_,[]=>1
 | x::xs,y::ys=>if f x y !=0 then f x y else BQ f xs ys
theorem uw{α:Type}{l t:List α}{d:α}{i:Nat}(h:d::t=l.drop i):∃hi:i<l.length,d=l[i]∧t=l.drop (i+1):=by
 have hi:i<l.length:=by
  rcases arE i l.length with h'|h'
  ·exact h'
  ·rw[ara h']at h;cases h
 have hc:=aqZ hi;rw[←h]at hc;exact⟨hi,(ar1 hc).1,(ar1 hc).2⟩
theorem CZ{α:Type}{l:List α}{i:Nat}(h:[]=l.drop i):l.length≤i:=by
 rcases arE i l.length with h'|h'
 ·rw[aqZ h']at h;cases h
 ·exact h'
theorem OQ{α:Type}{a b:List α}{cmp:α→α→Option Int}{f:α→α→Int}(hc:∀x∈a,∀y∈b,cmp x y=some (f x y)):∀(s t:List α) (i:Nat),s=a.drop i→t=b.drop i→i≤a.length→i≤b.length→
  eB (fun(i:Nat) e1 (_:Unit) r=>if decide ((b.length:Int)≤(i:Int))then some 1 else av (idx b (i:Int)) fun e2=>av (cmp e1 e2) fun c1=>if c1 !=0 then some c1 else r ())
   (fun _=>if decide ((a.length:Int)<(b.length:Int))then some (-1)else some 0) i s ()=some (BQ f s t)
 | [],[],i,hs,ht,_,_=>by
  have h1:=CZ hs;have h2:=CZ ht;rw[eB,BQ,aqH (by simp;omega)]
 | [],y::t,i,hs,ht,_,_=>by
  have h1:=CZ hs;obtain⟨h2,_,_⟩:=uw ht;rw[eB,BQ,aqJ (by simp;omega)]
 | x::s,[],i,hs,ht,_,_=>by
  have h2:=CZ ht;rw[eB,BQ,aqJ (by simp;omega)]
 | x::s,y::t,i,hs,ht,_,_=>by
  obtain⟨h1,e1,e2⟩:=uw hs;obtain⟨h2,e3,e4⟩:=uw ht;rw[eB,BQ,aqH (by simp;omega),lX h2,ak,←e3,hc x (by rw[e1];exact arj h1) y (by rw[e3];exact arj h2),ak];split
  ·rfl
  ·exact OQ hc s t (i+1) e2 e4 (by omega) (by omega)
theorem sign_eq(b:Bool):mZ b=some (if b then -1 else 1):=by unfold mZ;cases b<;>rfl
theorem SY{α:Type}{a b:List α}{cmp:α→α→Option Int}{f:α→α→Int}{g:Int→Option Int}(hg:∀x∈a,∀y∈b,g (f x y)=some (f x y))(hc:∀x∈a,∀y∈b,cmp x y=some (f x y))(ha:a.length<4611686018427387904){F:Nat→Int→Option Int}
  (hF:∀k (i:Nat),F (k+1) (i:Int)=if (decide ((i:Int)<(a.length:Int)))&&(decide ((i:Int)<(b.length:Int)))then av (idx a (i:Int)) fun e1=>av (idx b (i:Int)) fun e2=>av (cmp e1 e2) fun c1=>if c1 !=0 then g c1 else F k (bq ((i:Int)+1))
   else if (a.length:Int)==(b.length:Int)then some 0 else mZ (decide ((a.length:Int)<(b.length:Int)))):
  ∀(s t:List α) (k i:Nat),s=a.drop i→t=b.drop i→i≤a.length→i≤b.length→a.length<k+i→F k (i:Int)=some (BQ f s t)
 | _,_,0,i,_,_,_,_,h=>by omega
 | [],[],k+1,i,hs,ht,_,_,_=>by
  have h1:=CZ hs;have h2:=CZ ht;rw[hF,BQ,aqH (by simp;omega),aqJ (by simp;omega)]
 | [],y::t,k+1,i,hs,ht,_,_,_=>by
  have h1:=CZ hs;obtain⟨h2,_,_⟩:=uw ht;rw[hF,BQ,aqH (by simp;omega),aqH (by simp;omega),sign_eq,aqJ (by simp;omega)]
 | x::s,[],k+1,i,hs,ht,_,_,_=>by
  have h2:=CZ ht;obtain⟨h1,_,_⟩:=uw hs;rw[hF,BQ,aqH (by simp;omega),aqH (by simp;omega),sign_eq,aqH (by simp;omega)]
 | x::s,y::t,k+1,i,hs,ht,_,_,hk=>by
  obtain⟨h1,e1,e2⟩:=uw hs;obtain⟨h2,e3,e4⟩:=uw ht;have hx:x∈a:=by rw[e1];exact arj h1
  have hy:y∈b:=by rw[e3];exact arj h2
  rw[hF,BQ,aqJ (by simp;omega),lX h1,ak,lX h2,ak,←e1,←e3,hc x hx y hy,ak];split
  ·exact hg x hx y hy
  ·rw[mh (by omega)];exact SY hg hc ha hF s t k (i+1) e2 e4 (by omega) (by omega) (by omega)
mutual
def sS:ah→ah→Int
 | ⟨k,b,n,s,l,ks⟩,y=>
  if qG k y.kind !=0 then qG k y.kind else if k==1 then wU (!b&&y.dD) (b&&!y.dD)else if k==2 then qG n y.cu else if k==3 then EB s y.bJ else if k==4 then Pj l y.aP
  else if k==5 then (if BQ fT ks y.keys !=0 then BQ fT ks y.keys else Pj l y.aP)else 0
def Pj:List ah→List ah→Int
 | [],[]=>0
 | [],_::_=>-1
 | _::_,[]=>1
 | x::xs,y::ys=>if sS x y !=0 then sS x y else Pj xs ys
end
theorem U6:∀l m:List ah,Pj l m=BQ sS l m
 | [],[]=>by rw[Pj,BQ]
 | [],_::_=>by rw[Pj,BQ]
 | _::_,[]=>by rw[Pj,BQ]
 | x::xs,y::ys=>by rw[Pj,BQ,U6 xs ys]
theorem Qp(x y:ah):sS x y=if qG x.kind y.kind !=0 then qG x.kind y.kind else if x.kind==1 then wU (!x.dD&&y.dD) (x.dD&&!y.dD)else if x.kind==2 then qG x.cu y.cu else if x.kind==3 then EB x.bJ y.bJ else if x.kind==4 then BQ sS x.aP y.aP
  else if x.kind==5 then (if BQ fT x.keys y.keys !=0 then BQ fT x.keys y.keys else BQ sS x.aP y.aP)else 0:=by
 cases x;rw[sS,U6]
theorem Zx(x y:Int):(if x !=y then mZ (decide (x<y))else some 0)=some (qG x y):=by
 unfold qG wU;rw[sign_eq];by_cases h:x=y
 ·subst h;simp
 ·by_cases h2:x<y
  ·simp[h,h2]
  ·have:y<x:=by omega
   simp[h,h2,this]
theorem YV(x y:Str):(if (fT x y !=0)=true then mZ (decide (fT x y<0))else some 0)=some (fT x y):=by
 rw[sign_eq];rcases (show fT x y=-1∨fT x y=0∨fT x y=1 from Si _ _)with h|h|h<;>simp[h]
theorem aan:∀(n:Nat) (a b:ah),a.bulk≤n→a.bulk<4611686018427387904→b.bulk<4611686018427387904→iY (n+1) a b=some (sS a b)∧∀m,2*n+2≤m→mQ m a b=some (sS a b)
 | 0,a,_,h,_,_=>by have:=a.kT;omega
 | n+1,a,b,h,hA,hB=>by
  have hla:=yw a;have hka:=yx a;have hlb:=yw b;have hkb:=yx b
  have ih:∀x∈a.aP,∀y∈b.aP,iY (n+1) x y=some (sS x y)∧∀m,2*n+2≤m→mQ m x y=some (sS x y):=
   fun x hx y hy=>aan n x y (by have:=iQ hx;omega) (by have:=iQ hx;omega) (by have:=iQ hy;omega)
  have ks:∀x∈a.keys,x.length<4611686018427387904:=fun x hx=>by have:=Kn hx;omega
  have ks':∀x∈b.keys,x.length<4611686018427387904:=fun x hx=>by have:=Kn hx;omega
  constructor
  ·rw[iY,xB,Qp,sN,ak]
   have hL:bF a.aP b.aP (iY (n+1))=some (BQ sS a.aP b.aP):=by
    unfold bF
    rw[eH (F:=fun k (_:Unit) i=>bZ a.aP b.aP (iY (n+1)) k i) (l:=a.aP)
     (body:=fun(i:Nat) e1 (_:Unit) r=>if decide ((b.aP.length:Int)≤(i:Int))then some 1 else av (idx b.aP (i:Int)) fun e2=>av (iY (n+1) e1 e2) fun c1=>if c1 !=0 then some c1 else r ())
     (fin:=fun _=>if decide ((a.aP.length:Int)<(b.aP.length:Int))then some (-1)else some 0) (by omega) (fun k s i=>rfl) ()]
    exact OQ (fun x hx y hy=>(ih x hx y hy).1) _ _ 0 rfl rfl (by omega) (by omega)
   have hK:dF a.keys b.keys iN=some (BQ fT a.keys b.keys):=by
    unfold dF
    rw[eH (F:=fun k (_:Unit) i=>dO a.keys b.keys iN k i) (l:=a.keys)
     (body:=fun(i:Nat) e1 (_:Unit) r=>if decide ((b.keys.length:Int)≤(i:Int))then some 1 else av (idx b.keys (i:Int)) fun e2=>av (iN e1 e2) fun c1=>if c1 !=0 then some c1 else r ())
     (fin:=fun _=>if decide ((a.keys.length:Int)<(b.keys.length:Int))then some (-1)else some 0) (by omega) (fun k s i=>rfl) ()]
    exact OQ (fun x hx y hy=>KC (ks x hx) (ks' y hy)) _ _ 0 rfl rfl (by omega) (by omega)
   rw[hL,hK,sN,SV,ak]
   have hb:(av (uI a.dD) fun x1=>av (uI b.dD) fun x2=>cmp_Compare_int x1 x2)=some (wU (!a.dD&&b.dD) (a.dD&&!b.dD)):=by
    unfold uI;cases a.dD<;>cases b.dD<;>simp[sN,qG]
   rw[hb]
   repeat' split
   all_goals rfl
  ·intro m hm;obtain⟨m,rfl⟩:∃q,m=q+2:=⟨m-2,by omega⟩;rw[mQ,A_,Qp,BG,EW]
   have hL:vQ (mQ m) a.aP b.aP BIG 0=some (BQ sS a.aP b.aP):=
    SY (g:=some) (fun x hx y hy=>rfl) (fun x hx y hy=>(ih x hx y hy).2 m (by omega)) (by omega) (F:=vQ (mQ m) a.aP b.aP) (fun k i=>rfl) _ _ BIG 0 rfl rfl (by omega) (by omega) (by have:=iW;omega)
   have hK:Gm a.keys b.keys=some (BQ fT a.keys b.keys):=by
    unfold Gm;refine SY (g:=fun c=>if c !=0 then mZ (decide (c<0))else some 0) (fun x hx y hy=>YV x y) (fun x hx y hy=>LP (ks x hx) (ks' y hy)) (by omega) (F:=vP a.keys b.keys) (fun k i=>?_) _ _ BIG 0 rfl rfl (by omega) (by omega) (by have:=iW;omega);rw[vP];congr 1;congr 1;funext e1;congr 1;funext e2;congr 1;funext c;by_cases hc:(c !=0)=true
    ·rw[aqJ hc,aqJ hc,aqJ hc]
    ·rw[aqH hc,aqH hc]
   rw[hL,hK,ak];by_cases hk:a.kind=b.kind
   ·have e1:(a.kind !=b.kind)=false:=by simpa using hk
    have e2:(qG a.kind b.kind !=0)=false:=by simpa using GK.2 hk
    rw[e1,e2];simp only[aqS,aqT,Zx]
    have hb:(if (!(a.dD==b.dD))=true then mZ b.dD else some 0)=some (wU (!a.dD&&b.dD) (a.dD&&!b.dD)):=by
     rw[sign_eq];cases a.dD<;>cases b.dD<;>rfl
    have hs:(if (!(a.bJ==b.bJ))=true then mZ (Go.Op.bytesLess a.bJ b.bJ)else some 0)=some (EB a.bJ b.bJ):=by
     rw[sign_eq];unfold EB wU;by_cases h:a.bJ=b.bJ
     ·rw[h];simp[AL]
     ·cases h1:Go.Op.bytesLess a.bJ b.bJ<;>simp[h]
    rw[hb,hs]
    repeat' split
    all_goals rfl
   ·have e1:(a.kind !=b.kind)=true:=by simpa using hk
    have e2:(qG a.kind b.kind !=0)=true:=by simpa using fun h=>hk (GK.1 h)
    have:=Zx a.kind b.kind;rw[aqJ e1]at this;rw[aqJ e1,aqJ e2,this]
theorem Mi{a b:ah}(hA:a.bulk<4611686018427387904)(hB:b.bulk<4611686018427387904):wO a b=some (sS a b)∧EZ a b=some (sS a b):=by
 obtain⟨n,hn,hn2⟩:=vF;unfold wO EZ;constructor
 ·rw[hn];exact(aan n a b (by omega) hA hB).1
 ·exact(aan a.bulk a b (aq9 _) hA hB).2 BIG (by have:=iW;omega)
theorem Kl{a b:ah}(hA:a.bulk<4611686018427387904)(hB:b.bulk<4611686018427387904):mY a b=some (sS a b==0)∧yJ a b=some (sS a b==0):=by
 unfold mY yJ;rw[(Mi hA hB).1,(Mi hA hB).2];exact⟨rfl,rfl⟩
end Go.Ft
namespace Go.Ft
open Go
attribute [local congr] gq
mutual
def xF:ah→Nat
 | ⟨k,_,_,_,l,_⟩=>if (k==4)||(k==5)then Em l 2 else 1
def Em:List ah→Nat→Nat
 | [],n=>n
 | x::r,n=>Em r (max n (1+xF x))
end
theorem uY(v:ah):xF v=if (v.kind==4)||(v.kind==5)then Em v.aP 2 else 1:=by cases v;rw[xF]
theorem Ba:∀(l:List ah) (n m:Nat),Em l n≤m↔n≤m∧∀x∈l,1+xF x≤m
 | [],n,m=>by simp[Em]
 | x::r,n,m=>by
  rw[Em,Ba r];simp only[arB,forall_eq_or_imp,Nat.max_le];exact⟨fun h=>⟨h.1.1,h.1.2,h.2⟩,fun h=>⟨⟨h.1,h.2.1⟩,h.2.2⟩⟩
theorem aco(l:List ah)(n:Nat):n≤Em l n:=((Ba l n _).1 (aq9 _)).1
theorem Y4{l:List ah}{n:Nat}{x:ah}(h:x∈l):1+xF x≤Em l n:=((Ba l n _).1 (aq9 _)).2 x h
theorem Xd(v:ah):1≤xF v:=by
 rw[uY];split
 ·have:=aco v.aP 2;omega
 ·omega
theorem Y3:∀(n:Nat) (v:ah),v.bulk≤n→xF v≤v.bulk
 | 0,v,h=>by have:=v.kT;omega
 | n+1,v,h=>by
  rw[uY];split
  ·rw[Ba];refine⟨?_,fun x hx=>?_⟩
   ·rw[ah.nJ];omega
   ·have:=iQ hx;have:=Y3 n x (by omega);omega
  ·exact v.kT
theorem Vm{go:ah→Option Int}:∀(l:List ah) (i s:Nat),(∀x∈l,go x=some (xF x:Int))→(∀x∈l,xF x<4611686018427387904)→
  eB (fun _ e1 (n1:Int) r=>av (go e1) fun x1=>r (if n1<(bq (1+x1))then (bq (1+x1))else n1)) (fun n1=>some n1) i l (s:Int)=some (Em l s:Int)
 | [],i,s,_,_=>rfl
 | x::r,i,s,h,hb=>by
  have hx:=hb x (by simp);rw[eB,h x (by simp),ak,Em];have e:bq (1+(xF x:Int))=((1+xF x:Nat):Int):=by rw[rY (by omega)];omega
  rw[e]
  have e2:(if (s:Int)<((1+xF x:Nat):Int)then ((1+xF x:Nat):Int)else (s:Int))=((max s (1+xF x):Nat):Int):=by
   split<;>congr 1<;>omega
  rw[e2];exact Vm r (i+1) _ (fun y hy=>h y (by simp[hy])) (fun y hy=>hb y (by simp[hy]))
theorem afV:∀(n:Nat) (v:ah),v.bulk≤n→v.bulk<4611686018427387904→sF (n+1) v=some (xF v:Int)
 | 0,v,h,_=>by have:=v.kT;omega
 | n+1,v,h,hb=>by
  have hl:=yw v;rw[sF,Cx,uY];by_cases hk:((v.kind==4)||(v.kind==5))=true
  ·rw[aqJ hk,aqH (by simp at hk⊢;omega)];rw[eH (F:=fun k s i=>wS (sF (n+1)) v k s i) (l:=v.aP) (body:=fun _ e1 (n1:Int) r=>av (sF (n+1) e1) fun x1=>r (if n1<(bq (1+x1))then (bq (1+x1))else n1)) (fin:=fun n1=>some n1) (by omega) (fun k s i=>rfl)];exact Vm v.aP 0 2 (fun x hx=>afV n x (by have:=iQ hx;omega) (by have:=iQ hx;omega)) (fun x hx=>by have:=iQ hx;have:=Y3 _ x (aq9 _);omega)
  ·rw[aqH hk,aqJ (by simp at hk⊢;omega)];rfl
theorem RF{v:ah}(h:v.bulk<4611686018427387904):Ec v=some (xF v:Int):=by
 obtain⟨n,hn,hn2⟩:=vF;unfold Ec;rw[hn];exact afV n v (by omega) h
mutual
def Yc:ah→Bool
 | ⟨a,b,c,d,l,f⟩=>(ny ⟨a,b,c,d,l,f⟩ 1==0)&&afn l
def afn:List ah→Bool
 | []=>true
 | x::r=>Yc x&&afn r
end
theorem Yb:∀l:List ah,afn l=true↔∀x∈l,Yc x=true
 | []=>by simp[afn]
 | x::r=>by simp[afn,Yb r]
theorem yU(v:ah):Yc v=true↔ny v 1=0∧∀x∈v.aP,Yc x=true:=by
 cases v;rw[Yc,aq5,Yb];simp
theorem U5(v:ah)(level:Nat):ny v level=if 16<level then 13 else if ny v 1≠0 then ny v 1 else if ((((v.kind==4)||(v.kind==5))&&((v.aP.length:Int)==0))&&level==16)=true then 13 else 0:=by
 unfold ny;have e1:((1:Nat)==16)=false:=rfl;rw[e1];generalize ((decide (v.kind<0))||(decide (5<v.kind))||!qP v)=c1;generalize ((decide (v.cu<(-9007199254740992)))||(decide (9007199254740992<v.cu)))=c2;generalize (((decide (4096<(v.bJ.length:Int)))||(decide (1024<(v.aP.length:Int))))||(decide (1024<(v.keys.length:Int))))=c3;generalize (v.kind==5&&!(((v.keys.length:Int)==(v.aP.length:Int))&&Ka none v.keys))=c4;generalize ((((v.kind==4)||(v.kind==5))&&((v.aP.length:Int)==0))&&level==16)=c5;by_cases h:16<level
 ·rw[aqJ h,aqJ h]
 ·rw[aqH h,aqH h];cases c1<;>cases c2<;>cases c3<;>cases c4<;>simp
theorem NV{v:ah}(h:ny v 1=0):qP v=true:=by
 unfold ny at h;cases hp:qP v with
 | true=>rfl
 | false=>simp[hp]at h
theorem Q6{v:ah}(h:Yc v=true)(hk:((v.kind==4)||(v.kind==5))=false):v.aP=[]:=by
 have hp:=NV ((yU v).1 h).1;unfold qP at hp;simp only[aq5,hk,ar0,aq7]at hp;exact arI (by omega)
theorem U8:∀(l:List ah) (level:Nat),(∀x∈l,wN x level=if level+xF x≤17 then 0 else 13)→DL l level=if ∀x∈l,level+xF x≤17 then 0 else 13
 | [],level,_=>by simp[DL]
 | x::r,level,h=>by
  rw[DL,h x (by simp),U8 r level fun y hy=>h y (by simp[hy])];by_cases h1:level+xF x≤17
  ·simp[h1]
  ·simp[h1]
theorem Mx:∀(n:Nat) (v:ah) (level:Nat),v.bulk≤n→Yc v=true→1≤level→wN v level=if level+xF v≤17 then 0 else 13
 | 0,v,_,h,_,_=>by have:=v.kT;omega
 | n+1,v,level,h,hv,hl=>by
  obtain⟨h1,h2⟩:=(yU v).1 hv;have hp:=Xd v
  have hn:ny v level=if 16<level then 13 else if ((((v.kind==4)||(v.kind==5))&&((v.aP.length:Int)==0))&&level==16)=true then 13 else 0:=by
   rw[U5,h1];simp
  rw[MB];by_cases h16:16<level
  ·rw[aqJ h16]at hn;rw[hn,aqJ (by simp),aqH (by omega)]
  ·rw[aqH h16]at hn;rw[U8 v.aP (level+1) fun x hx=>Mx n x (level+1) (by have:=iQ hx;omega) (h2 x hx) (by omega)];cases hk:((v.kind==4)||(v.kind==5))with
   | false=>
    have he:=Q6 hv hk;rw[hk]at hn;have hl1:xF v=1:=by rw[uY,hk];rfl
    simp only[arV,aqS,aqT]at hn;rw[hn,hl1,he,aqH (by simp),aqJ (by simp),aqJ (by omega)]
   | true=>
    have hl1:xF v=Em v.aP 2:=by rw[uY,hk];rfl
    rw[hk]at hn;simp only[arQ]at hn
    have key:level+Em v.aP 2≤17↔level≤15∧∀x∈v.aP,level+1+xF x≤17:=by
     have:=Ba v.aP 2 (17-level);constructor
     ·intro h;obtain⟨a,b⟩:=this.1 (by omega);exact⟨by omega,fun x hx=>by have:=b x hx;omega⟩
     ·rintro⟨a,b⟩;have:=this.2 ⟨by omega,fun x hx=>by have:=b x hx;omega⟩;omega
    rw[hl1];by_cases he:v.aP=[]
    ·rw[aqJ (c:=∀x∈v.aP,level+1+xF x≤17) (by simp[he])];by_cases LX:level=16
     ·rw[aqJ (by simp[he,LX])]at hn;rw[hn,aqJ (by simp),aqH (fun h=>by have:=key.1 h;omega)]
     ·rw[aqH (by simp[LX])]at hn;rw[hn,aqH (by simp),aqJ (key.2 ⟨by omega,by simp[he]⟩)]
    ·have hpos:0<v.aP.length:=arM.2 he;rw[aqH (by simp[he])]at hn;rw[hn,aqH (by simp)];obtain⟨x,hx⟩:=List.exists_mem_of_ne_nil _ he;have hpx:=Xd x;refine gq (propext (Iff.trans ?_ key.symm));exact⟨fun h=>⟨by have:=h x hx;omega,h⟩,fun h=>h.2⟩
theorem afm:∀(n:Nat) (v:ah) (level:Nat),v.bulk≤n→wN v level=0→Yc v=true
 | 0,v,_,h,_=>by have:=v.kT;omega
 | n+1,v,level,h,hc=>by
  obtain⟨h1,h2⟩:=adg hc;refine(yU v).2 ⟨?_,fun x hx=>afm n x (level+1) (by have:=iQ hx;omega) (h2 x hx)⟩;rw[U5]at h1;split at h1
  ·omega
  ·split at h1
   ·exact h1
   ·rename_i hq;exact asV.1 hq
def VV(v:ah):Prop:=Yc v=true∧xF v≤16
theorem Pe(v:ah):wN v 1=0↔VV v:=by
 constructor
 ·intro h;have ho:=afm _ v 1 (aq9 _) h;refine⟨ho,?_⟩;rw[Mx _ v 1 (aq9 _) ho (by omega)]at h;split at h
  ·omega
  ·cases h
 ·rintro⟨h1,h2⟩;rw[Mx _ v 1 (aq9 _) h1 (by omega),aqJ (by omega)]
theorem VV.mem{v x:ah}(h:VV v)(hx:x∈v.aP):VV x:=by
 refine⟨((yU v).1 h.1).2 x hx,?_⟩;have h2:=h.2;rw[uY]at h2;split at h2
 ·have:=Y4 (n:=2) hx;omega
 ·rename_i hk;have:=Q6 h.1 (by simpa using hk);rw[this]at hx;cases hx
theorem apV:VV ZV:=(Pe _).1 (anK 1 (by omega))
theorem U4{go:Int→ah→Int→Option (Bool × Int)}{level:Nat}:∀(l:List ah) (i s:Nat),(∀x∈l,∀s:Nat,go (s:Int) x ((level+1:Nat):Int)=some (true,((max s (level+xF x):Nat):Int)))→
  eB (fun _ x1 (s1:Int) r=>eO (go s1 x1 ((level+1:Nat):Int)) fun b1 s2=>if !b1 then some (false,s2)else r s2) (fun s1=>some (true,s1)) i l (s:Int)=some (true,((l.foldl (fun s x=>max s (level+xF x)) s:Nat):Int))
 | [],i,s,_=>rfl
 | x::r,i,s,h=>by
  rw[eB,h x (by simp),aC,aqH (by simp)];exact U4 r (i+1) _ fun y hy=>h y (by simp[hy])
theorem Zh:∀(l:List ah) (level s n:Nat),l.foldl (fun s x=>max s (level+xF x)) (max s (level+n))=max s (level+(Em l (n+1)-1))
 | [],level,s,n=>by simp[Em]
 | x::r,level,s,n=>by
  rw[asu,Em];have e:max (max s (level+n)) (level+xF x)=max s (level+max n (xF x)):=by omega
  rw[e,Zh r level s];congr 3;rw[show max n (xF x)+1=max (n+1) (1+xF x)from by omega]
theorem afi:∀(n:Nat) (v:ah) (level s:Nat),v.bulk≤n→v.bulk<4611686018427387904→Yc v=true→1≤level→level+n<4611686018427387904→gD h_ (n+1) (s:Int) v (level:Int)=some (true,((max s (level-1+xF v):Nat):Int))
 | 0,v,_,_,h,_,_,_,_=>by have:=v.kT;omega
 | n+1,v,level,s,h,hB,hv,hl,hn=>by
  have hll:=yw v;obtain⟨h1,h2⟩:=(yU v).1 hv;rw[gD,vH,h_,aC,aqH (by simp)];have hw:bq ((level:Int)+1)=((level+1:Nat):Int):=mh (by omega)
  have ih:∀x∈v.aP,∀s:Nat,gD h_ (n+1) (s:Int) x ((level+1:Nat):Int)=some (true,((max s (level+xF x):Nat):Int)):=fun x hx s=>
   afi n x (level+1) s (by have:=iQ hx;omega) (by have:=iQ hx;omega) (h2 x hx) (by omega) (by omega)
  have sc:∀s:Nat,kY (gD h_ (n+1)) v (level:Int) BIG (s:Int) 0=some (true,((v.aP.foldl (fun s x=>max s (level+xF x)) s:Nat):Int)):=by
   intro s;rw[eH (F:=fun k s i=>kY (gD h_ (n+1)) v (level:Int) k s i) (l:=v.aP) (body:=fun _ x1 (s1:Int) r=>eO (gD h_ (n+1) s1 x1 ((level+1:Nat):Int)) fun b1 s2=>if !b1 then some (false,s2)else r s2) (fin:=fun s1=>some (true,s1)) (by omega) (fun k s i=>by rw[←hw];rfl)];exact U4 v.aP 0 s ih
  unfold sU;rw[hw,uY];cases hk:((v.kind==4)||(v.kind==5))with
  | false=>
   have hnil:=Q6 hv hk;simp only[arV,aqS,aqT];have e:(if (s:Int)<(level:Int)then (level:Int)else (s:Int))=((max s level:Nat):Int):=by split<;>omega
   rw[e,sc,hnil];simp only[List.foldl_nil];rw[show level-1+1=level from by omega]
  | true=>
   simp only[arQ,aqV];by_cases he:v.aP=[]
   ·have q:((v.aP.length:Int)==0)=true:=by simp[he]
    simp only[q,aqV];have e:(if (s:Int)<((level+1:Nat):Int)then ((level+1:Nat):Int)else (s:Int))=((max s (level+1):Nat):Int):=by split<;>omega
    rw[e,sc,he];simp only[List.foldl_nil,Em];rw[show level-1+2=level+1 from by omega]
   ·have q:((v.aP.length:Int)==0)=false:=by simp[he]
    simp only[q,aqS,aqT];have e:(if (s:Int)<(level:Int)then (level:Int)else (s:Int))=((max s (level+0):Nat):Int):=by split<;>omega
    rw[e,sc,Zh]
    have hne:∃x r,v.aP=x::r:=by
     cases hc:v.aP with
     | nil=>exact absurd hc he
     | cons x r=>exact⟨x,r,rfl⟩
    obtain⟨x,r,hc⟩:=hne;have hx:=Xd x
    have e2:Em v.aP (0+1)=Em v.aP 2:=by
     rw[hc,Em,Em];congr 1;omega
    rw[e2];have:=aco v.aP 2;congr 3;omega
theorem aao{v:ah}(h:v.bulk<2305843009213693952)(hv:Yc v=true):yV v=some (xF v:Int):=by
 obtain⟨n,hn,hn2⟩:=vF;unfold yV DN;have key:=afi v.bulk v 1 0 (aq9 _) (by omega) hv (by omega) (by omega)
 have mono:∀(k:Nat) (s:Int) (x:ah) (lv:Int) (r:Bool × Int),gD h_ k s x lv=some r→∀m,k≤m→gD h_ m s x lv=some r:=by
  intro k
  induction k with
  | zero=>intro s x lv r h;cases h
  | succ k ih=>
   intro s x lv r h m hm;obtain⟨m,rfl⟩:∃q,m=q+1:=⟨m-1,by omega⟩
   have lp:∀(v:ah) (level:Int) (f:Nat) (s i:Int) (r:Bool × Int),kY (gD h_ k) v level f s i=some r→kY (gD h_ m) v level f s i=some r:=by
    intro v level f
    induction f with
    | zero=>intro s i r h;cases h
    | succ f ihf=>
     intro s i r h;rw[kY]at h⊢;split at h
     ·rename_i hc;rw[aqJ hc];obtain⟨x,hx,h⟩:=kV h;obtain⟨b,s2,hb,h⟩:=gL h;rw[hx,ak,ih _ _ _ _ hb m (by omega),aC];split at h
      ·rename_i hc2;rw[aqJ hc2];exact h
      ·rename_i hc2;rw[aqH hc2];exact ihf _ _ _ h
     ·rename_i hc;rw[aqH hc];exact h
   rw[gD,vH]at h⊢;obtain⟨b,s2,hb,h⟩:=gL h;rw[hb,aC];split at h
   ·rename_i hc;rw[aqJ hc];exact h
   ·rename_i hc;rw[aqH hc];exact lp _ _ _ _ _ _ h
 have:=mono _ _ _ _ _ key BIG (by have:=iW;omega);rw[show ((0:Nat):Int)=0 from rfl,show ((1:Nat):Int)=1 from rfl]at this;rw[this,aC];simp
theorem iR{v:ah}(h:Yc v=true):v.bJ.length≤4096∧v.aP.length≤1024∧v.keys.length≤1024∧-9007199254740992≤v.cu∧v.cu≤9007199254740992:=by
 have h1:=((yU v).1 h).1;unfold ny at h1;rw[aqH (by omega)]at h1;split at h1
 ·cases h1
 ·split at h1
  ·cases h1
  ·rename_i h2;split at h1
   ·cases h1
   ·rename_i h3;simp only[ars,aqW,not_or,Int.not_lt]at h2 h3;omega
theorem NW{v:ah}(h:Yc v=true)(hb:v.bulk<4611686018427387904):mX v=some v∧xZ v=some v:=
 Ye (S:=fun v=>Yc v=true) (fun v h=>by
  have:=iR h;have hL:rM=4294967296:=rfl
  exact⟨by omega,by omega,((yU v).1 h).2⟩) h hb
theorem abX{v:ah}(h:Yc v=true)(hb:v.bulk<4611686018427387904)(q:Str):Aj v q=some (aaO (OC v q)):=
 amk hb (fun x hx=>(NW (((yU v).1 h).2 x hx) (by have:=iQ hx;omega)).1) q
end Go.Ft
namespace Go.Ft
open Go
attribute [local congr] gq
def Vu(b:Bool):ah:=ah.mk 1 b 0 ([]:Str) [] []
def Xb(n:Int):ah:=ah.mk 2 false n ([]:Str) [] []
def mkS(s:Str):ah:=ah.mk 3 false 0 s [] []
def FV(l:List ah):ah:=ah.mk 4 false 0 ([]:Str) l []
def Us(lo hi:UInt8)(Ag:Int)(c:UInt8):UInt8:=if (decide ((lo.toNat:Int)≤(c.toNat:Int)))&&(decide ((c.toNat:Int)≤(hi.toNat:Int)))then Ft.byteOf (bq ((c.toNat:Int)+Ag))else c
theorem mO{α:Type}{l m:List α}(h:l.length+m.length≤rM):app l m=some (l++m):=aV h
theorem KE{s:Str}(hs:s.length≤rM)(lo hi:UInt8)(Ag:Int):yN s lo hi Ag=some (s.map (Us lo hi Ag))∧Dn s lo hi Ag=some (s.map (Us lo hi Ag)):=by
 have hL:rM=4294967296:=rfl;constructor
 ·unfold yN
  rw[eH (F:=fun k s1 i=>rF s lo hi Ag k i s1) (l:=s) (body:=fun(i:Nat) c (b:Str) r=>
   av (if decide ((lo.toNat:Int)≤(c.toNat:Int))then av (idx s (i:Int)) fun x2=>some (decide ((x2.toNat:Int)≤(hi.toNat:Int)))else some false) fun b2=>
   if b2 then av (idx s (i:Int)) fun x3=>av (app b [(Ft.byteOf (bq ((x3.toNat:Int)+Ag)))]) fun b3=>r b3 else av (idx s (i:Int)) fun x4=>av (app b [x4]) fun b4=>r b4) (fin:=fun b=>some b) (by omega) (fun k s i=>rfl)]
  have key:∀(t:Str) (i:Nat) (b:Str),t=s.drop i→b.length+t.length≤rM→eB (fun(i:Nat) c (b:Str) r=>
   av (if decide ((lo.toNat:Int)≤(c.toNat:Int))then av (idx s (i:Int)) fun x2=>some (decide ((x2.toNat:Int)≤(hi.toNat:Int)))else some false) fun b2=>
   if b2 then av (idx s (i:Int)) fun x3=>av (app b [(Ft.byteOf (bq ((x3.toNat:Int)+Ag)))]) fun b3=>r b3 else av (idx s (i:Int)) fun x4=>av (app b [x4]) fun b4=>r b4) (fun b=>some b) i t b=some (b++t.map (Us lo hi Ag)):=by
   intro t
   induction t with
   | nil=>intro i b _ _;simp[eB]
   | cons c t ih=>
    intro i b ht hb;obtain⟨hi',e1,e2⟩:=uw ht;simp only[aq2]at hb;rw[eB,lX hi',←e1];simp only[ak]
    have hone:(if decide ((lo.toNat:Int)≤(c.toNat:Int))=true then some (decide ((c.toNat:Int)≤(hi.toNat:Int)))else some false)=some ((decide ((lo.toNat:Int)≤(c.toNat:Int)))&&(decide ((c.toNat:Int)≤(hi.toNat:Int)))):=by
     cases decide ((lo.toNat:Int)≤(c.toNat:Int))<;>rfl
    rw[hone,ak,mO (by simp;omega),mO (by simp;omega)];simp only[ak,arq];cases hc:((decide ((lo.toNat:Int)≤(c.toNat:Int)))&&(decide ((c.toNat:Int)≤(hi.toNat:Int))))with
    | true=>
     simp only[aqV];rw[ih (i+1) _ e2 (by simp;omega),Us,hc];simp
    | false=>
     simp only[aqS,aqT];rw[ih (i+1) _ e2 (by simp;omega),Us,hc];simp
  have:=key s 0 [] rfl (by simp;omega);simpa using this
 ·unfold Dn
  rw[eH (F:=fun k b i=>vM s lo hi Ag k b i) (l:=s) (body:=fun(i:Nat) c (b:Str) r=>
   if (decide ((lo.toNat:Int)≤(c.toNat:Int)))&&(decide ((c.toNat:Int)≤(hi.toNat:Int)))then av (app b ([(Ft.byteOf (bq ((c.toNat:Int)+Ag)))]:List UInt8)) fun b2=>r b2 else av (app b ([c]:List UInt8)) fun b3=>r b3) (fin:=fun b=>some b) (by omega) (fun k s i=>rfl)]
  have key:∀(t:Str) (i:Nat) (b:Str),b.length+t.length≤rM→eB (fun(i:Nat) c (b:Str) r=>
   if (decide ((lo.toNat:Int)≤(c.toNat:Int)))&&(decide ((c.toNat:Int)≤(hi.toNat:Int)))then av (app b ([(Ft.byteOf (bq ((c.toNat:Int)+Ag)))]:List UInt8)) fun b2=>r b2 else av (app b ([c]:List UInt8)) fun b3=>r b3) (fun b=>some b) i t b=some (b++t.map (Us lo hi Ag)):=by
   intro t
   induction t with
   | nil=>intro i b _;simp[eB]
   | cons c t ih=>
    intro i b hb;simp only[aq2]at hb;rw[eB,mO (by simp;omega),mO (by simp;omega)];simp only[ak,arq];cases hc:((decide ((lo.toNat:Int)≤(c.toNat:Int)))&&(decide ((c.toNat:Int)≤(hi.toNat:Int))))with
    | true=>
     simp only[aqV];rw[ih (i+1) _ (by simp;omega),Us,hc];simp
    | false=>
     simp only[aqS,aqT];rw[ih (i+1) _ (by simp;omega),Us,hc];simp
  have:=key s 0 [] (by simp;omega);simpa using this
theorem Nk:∀(s t:Str),s.length<t.length→lW s t=none
 | [],t,h=>by
  unfold lW;cases t with
  | nil=>simp at h
  | cons c t=>rfl
 | b::l,t,h=>by
  unfold lW;simp only[aq2]at h
  have hp:t.isPrefixOf (b::l)=false:=by
   cases hq:t.isPrefixOf (b::l)with
   | false=>rfl
   | true=>
    have:=(asq.1 hq).length_le;simp only[aq2]at this;omega
  rw[hp,Nk l t (by omega)];rfl
theorem LW:∀ {s t:Str} {i:Nat},lW s t=some i→i+t.length≤s.length
 | [],t,i,h=>by
  unfold lW at h;split at h
  ·rename_i ht;simp only[aro]at h;have:t=[]:=by simpa using ht
   subst this;simp;omega
  ·cases h
 | b::l,t,i,h=>by
  unfold lW at h;split at h
  ·rename_i ht;simp only[aro]at h;have:=(asq.1 ht).length_le;omega
  ·obtain⟨j,hj,rfl⟩:=Option.map_eq_some_iff.1 h;have:=LW hj;simp only[aq2];omega
def JQ(s t:Str)(k:Nat):Int:=match lW (s.drop k) t with|none=>-1|some i=>((k+i:Nat):Int)
theorem Uu(t s:Str):t.isPrefixOf s=(s.take t.length==t):=by
 rw[arR,asq,List.prefix_iff_eq_take];simp only[aq7];exact⟨fun h=>h.symm,fun h=>h.symm⟩
theorem Zk{s t:Str}(hs:s.length<1152921504606846976)(ht:t.length<1152921504606846976):∀(k i:Nat),s.length<k+i→i≤s.length→yE s t k (i:Int)=some (JQ s t i)
 | 0,i,h,h'=>by omega
 | k+1,i,h,h'=>by
  rw[yE,rY (by omega)];by_cases hi:i+t.length≤s.length
  ·rw[aqJ (by simp;omega),bL (by omega) (by omega) (by omega),ak]
   have e:(s.take ((i:Int)+(t.length:Int)).toNat).drop (i:Int).toNat=(s.drop i).take t.length:=by
    rw[asf];congr 1<;>omega
   rw[e,←Uu];by_cases he:i<s.length
   ·have hc:=aqZ he;unfold JQ;rw[hc,lW];cases hp:t.isPrefixOf (s[i]::s.drop (i+1))with
    | true=>simp
    | false=>
     simp only[aqS,aqT];rw[mh (by omega),Zk hs ht k (i+1) (by omega) (by omega)];unfold JQ;cases lW (s.drop (i+1)) t with
     | none=>rfl
     | some j=>simp only[Option.map_some,aro];omega
   ·have hd:s.drop i=[]:=ara (by omega);have ht0:t=[]:=arI (by omega);unfold JQ;rw[hd,ht0];simp[lW]
  ·rw[aqH (by simp;omega)];unfold JQ;rw[Nk _ _ (by simp;omega)]
theorem find_eq{s t:Str}(hs:s.length<1152921504606846976)(ht:t.length<1152921504606846976){i:Nat}(hi:i≤s.length):D7 s t (i:Int)=some (JQ s t i):=
 Zk hs ht BIG i (by have:=iW;omega) hi
theorem alv{s t:Str}(hs:s.length<1152921504606846976)(ht:t.length<1152921504606846976):D7 s t 0=some (JQ s t 0):=find_eq hs ht (i:=0) (by omega)
theorem ag9(s t:Str)(k:Nat):decide (0≤JQ s t k)=(lW (s.drop k) t).isSome:=by
 unfold JQ;cases lW (s.drop k) t with
 | none=>rfl
 | some i=>simp;omega
theorem Rj(t:Str)(ht:t≠[]):∀(k:Nat) (s:Str),(nU t k s).length≤s.length+1
 | 0,s=>by simp[nU]
 | k+1,s=>by
  rw[nU];cases h:lW s t with
  | none=>simp
  | some i=>
   have:=LW h;have hl:0<t.length:=arM.2 ht;have ih:=Rj t ht k (s.drop (i+t.length));simp only[aq2];simp only[asg]at ih;omega
theorem Vf{s t:Str}(hs:s.length<1152921504606846976)(ht:t.length<1152921504606846976)(h0:t≠[])(hL:s.length+2≤rM):∀(n k q:Nat) (l:List ah) (i:Nat),s.length-i<n→n≤k→s.length-i<q→i≤s.length→l.length+(s.length-i)+2≤rM→
  vL s t k l (i:Int) (JQ s t i)=jB (FV (l++(nU t q (s.drop i)).map mkS))
 | 0,_,_,_,_,h,_,_,_,_=>by omega
 | n+1,0,_,_,_,h,h',_,_,_=>by omega
 | n+1,k+1,0,_,_,_,_,h,_,_=>by omega
 | n+1,k+1,q+1,l,i,hn,hk,hq,hi,hl=>by
  have hp:0<t.length:=arM.2 h0;rw[vL,nU];unfold JQ;cases hx:lW (s.drop i) t with
  | none=>
   rw[aqH (by simp),r9 hi];simp only[ak,nX];rw[mO (by simp;omega),ak];rfl
  | some j=>
   have hf:=LW hx;simp only[asg]at hf
   have e0:(s.take ((i+j:Nat):Int).toNat).drop (i:Int).toNat=(s.drop i).take j:=by
    rw[asf];congr 1;omega
   have e1:bq (((i+j:Nat):Int)+(t.length:Int))=((i+(j+t.length):Nat):Int):=by rw[rY (by omega)];omega
   simp only;rw[aqJ (by simp;omega),bL (by omega) (by omega) (by omega),ak,e0,nX,ak,mO (by simp;omega),ak,e1,find_eq hs ht (by omega),ak];rw[Vf hs ht h0 hL n k q _ (i+(j+t.length)) (by omega) (by omega) (by omega) (by omega) (by simp;omega)];simp[mkS]
theorem afP{s t:Str}(hL:s.length+2≤rM)(ht:t.length<1152921504606846976)(h0:t≠[]):Ap s t=jB (FV ((nU t (s.length+1) s).map mkS)):=by
 have hLL:rM=4294967296:=rfl;unfold Ap;rw[aqH (by simpa using h0),alv (by omega) ht,ak];have:=Vf (s:=s) (t:=t) (by omega) ht h0 hL (s.length+1) BIG (s.length+1) [] 0 (by omega) (by have:=iW;omega) (by omega) (by omega) (by simp;omega);simpa using this
theorem Vd:∀(l:List Str) (i:Nat) (out:ah),out.aP.length+l.length≤rM→
  eB (fun _ s1 (out:ah) r=>av (mJ s1) fun x2=>av (app out.aP [x2]) fun x3=>r (ah.mk out.kind out.dD out.cu out.bJ x3 out.keys)) (fun out=>some out) i l out=some (ah.mk out.kind out.dD out.cu out.bJ (out.aP++l.map mkS) out.keys)
 | [],i,out,_=>by cases out;simp[eB]
 | s::l,i,out,h=>by
  simp only[aq2]at h;rw[eB,mJ,ak,mO (by simp;omega),ak];refine(Vd l (i+1) _ (by simp;omega)).trans ?_;simp[mkS]
theorem ab4{l:List Str}(h:l.length≤rM):Az l=some (FV (l.map mkS)):=by
 have hLL:rM=4294967296:=rfl;unfold Az;rw[eH (F:=fun k s i=>zT l k i s) (l:=l) (body:=fun _ s1 (out:ah) r=>av (mJ s1) fun x2=>av (app out.aP [x2]) fun x3=>r (ah.mk out.kind out.dD out.cu out.bJ x3 out.keys)) (fin:=fun out=>some out) (by omega) (fun k s i=>rfl),Vd l 0 _ (by simp;omega)];rfl
theorem VA(a:ah):∀(l:List Str) (i:Nat) (out:ah),out.aP.length+l.length≤rM→
  eB (fun _ s1 (out:ah) r=>av (nX s1) fun x2=>av (app out.aP [x2]) fun x3=>r (ah.mk out.kind out.dD out.cu out.bJ x3 out.keys)) (fun out=>some (out,(0:Int))) i l out=some (ah.mk out.kind out.dD out.cu out.bJ (out.aP++l.map mkS) out.keys,0)
 | [],i,out,_=>by cases out;simp[eB]
 | s::l,i,out,h=>by
  simp only[aq2]at h;rw[eB,nX,ak,mO (by simp;omega),ak];refine(VA a l (i+1) _ (by simp;omega)).trans ?_;simp[mkS]
theorem afW{a:ah}(h:a.keys.length≤rM):Aq a BIG 0 (ah.mk 4 false 0 ([]:Str) [] [])=some (FV (a.keys.map mkS),0):=by
 have hLL:rM=4294967296:=rfl;rw[eH (F:=fun k s i=>Aq a k i s) (l:=a.keys) (body:=fun _ s1 (out:ah) r=>av (nX s1) fun x2=>av (app out.aP [x2]) fun x3=>r (ah.mk out.kind out.dD out.cu out.bJ x3 out.keys)) (fin:=fun out=>some (out,(0:Int))) (by omega) (fun k s i=>rfl),VA a a.keys 0 _ (by simp;omega)];rfl
def preS(s t:Str):Bool:=(decide (t.length≤s.length))&&(s.take t.length==t)
def ajo(s t:Str):Bool:=(decide (t.length≤s.length))&&(s.drop (s.length-t.length)==t)
theorem ab8(s t:Str):(if decide ((t.length:Int)≤(s.length:Int))then av (sl s 0 (t.length:Int)) fun x7=>some (x7==t)else some false)=some (preS s t):=by
 unfold preS;by_cases h:t.length≤s.length
 ·rw[aqJ (by simp;omega),Yx h,ak];simp[h]
 ·rw[aqH (by simp;omega)];simp[h]
theorem ab7{s t:Str}(hs:s.length<1152921504606846976)(ht:t.length<1152921504606846976):(if decide ((t.length:Int)≤(s.length:Int))then av (sl s (bq ((s.length:Int)-(t.length:Int))) (s.length:Int)) fun x9=>some (x9==t)else some false)=some (ajo s t):=by
 unfold ajo;by_cases h:t.length≤s.length
 ·rw[aqJ (by simp;omega),rY (by omega),show (s.length:Int)-(t.length:Int)=((s.length-t.length:Nat):Int)from by omega,r9 (by omega),ak];simp[h]
 ·rw[aqH (by simp;omega)];simp[h]
theorem ajF(s t:Str):strings_HasPrefix s t=some (preS s t):=ab8 s t
theorem ajE{s t:Str}(hs:s.length<1152921504606846976)(ht:t.length<1152921504606846976):strings_HasSuffix s t=some (ajo s t):=ab7 hs ht
end Go.Ft
namespace Go.Ft
open Go
attribute [local congr] gq
def dg(u:Nat):UInt8:=UInt8.ofNat (48+u)
theorem OM{u:Nat}(h:u<10):(dg u).toNat=48+u:=by
 unfold dg;rw[UInt8.toNat_ofNat',ar2 (by omega)]
theorem ahh{u:Nat}(h:u<10):dI (dg u)=true:=by
 unfold dI;rw[OM h];simp;omega
theorem OL:∀(k m u:Nat),u<10 ^ k→u<10 ^ m→0<k→0<m→tL k u=tL m u
 | 0,_,_,_,_,h,_=>by omega
 | _,0,_,_,_,_,h=>by omega
 | k+1,m+1,u,h,h',_,_=>by
  rw[tL,tL];by_cases hu:u<10
  ·rw[aqJ hu,aqJ hu]
  ·rw[aqH hu,aqH hu]
   have hk:0<k:=by
    rcases asz k with h0|h0
    ·subst h0;omega
    ·exact h0
   have hm:0<m:=by
    rcases asz m with h0|h0
    ·subst h0;omega
    ·exact h0
   rw[OL k m (u/10) (by rw[asc]at h;omega) (by rw[asc]at h';omega) hk hm]
theorem J2:∀(k u:Nat),u<10 ^ k→0<k→(tL k u).length≤k
 | 0,_,_,h=>by omega
 | k+1,u,h,_=>by
  rw[tL];split
  ·simp
  ·rename_i hu
   have hk:0<k:=by
    rcases asz k with h0|h0
    ·subst h0;omega
    ·exact h0
   have:=J2 k (u/10) (by rw[asc]at h;omega) hk;simp only[asj,List.length_singleton];omega
theorem Ij{u:Nat}(h:u<10):tL 20 u=[dg u]:=by rw[tL,aqJ h];rfl
theorem Nw{u:Nat}(h:¬u<10)(hb:u<100000000000000000000):tL 20 u=tL 20 (u/10)++[dg (u%10)]:=by
 have e:tL 20 u=tL 19 (u/10)++[dg (u%10)]:=by rw[tL,aqH h];rfl
 rw[e,OL 19 20 (u/10) (by have:(10:Nat) ^ 19=10000000000000000000:=(by decide);omega) (by have:(10:Nat) ^ 20=100000000000000000000:=(by decide);omega) (by omega) (by omega)]
attribute [local irreducible] tL
def Yf:Str→Nat→Nat
 | [],acc=>acc
 | c::r,acc=>Yf r (acc*10+(c.toNat-48))
def xO(acc:Nat)(s:Str):Nat:=Yf s acc
theorem Bo(acc:Nat):xO acc []=acc:=rfl
theorem oK(acc:Nat)(c:UInt8)(s:Str):xO acc (c::s)=xO (acc*10+(c.toNat-48)) s:=by simp only[xO,Yf]
theorem Pm:∀(s t:Str) (acc:Nat),Yf (s++t) acc=Yf t (Yf s acc)
 | [],t,acc=>rfl
 | c::s,t,acc=>by rw[ar7,Yf,Yf,Pm s t]
theorem Pn(s t:Str)(acc:Nat):xO acc (s++t)=xO (xO acc s) t:=Pm s t acc
theorem abW:∀(s:Str) (acc:Nat),acc≤xO acc s
 | [],acc=>aq9 _
 | c::s,acc=>by rw[oK];have:=abW s (acc*10+(c.toNat-48));omega
def aes(s:Str):Prop:=s≠[]∧(∀c∈s,dI c=true)∧(1<s.length→(s.head?.map UInt8.toNat)≠some 48)
theorem xk:∀(n u:Nat),u≤n→u<100000000000000000000→aes (tL 20 u)∧xO 0 (tL 20 u)=u∧(0<u→((tL 20 u).head?.map UInt8.toNat)≠some 48)
 | n,u,h,hb=>by
  by_cases hu:u<10
  ·rw[Ij hu];refine⟨⟨by simp,fun c hc=>?_,fun h=>by simp at h⟩,?_,fun hp=>?_⟩
   ·rw[asa.1 hc];exact ahh hu
   ·simp[oK,Bo,OM hu]
   ·simp[OM hu];omega
  ·match n,h with
   | 0,h=>omega
   | n+1,h=>
    obtain⟨⟨h1,h2,h3⟩,h4,h5⟩:=xk n (u/10) (by omega) (by omega);rw[Nw hu hb]
    have hh:((tL 20 (u/10)++[dg (u%10)]).head?.map UInt8.toNat)=((tL 20 (u/10)).head?.map UInt8.toNat):=by
     cases hd:tL 20 (u/10)with
     | nil=>exact absurd hd h1
     | cons a l=>rfl
    refine⟨⟨by simp,fun c hc=>?_,fun _=>?_⟩,?_,fun _=>?_⟩
    ·rcases asl.1 hc with hc|hc
     ·exact h2 c hc
     ·rw[asa.1 hc];exact ahh (by omega)
    ·rw[hh];exact h5 (by omega)
    ·rw[Pn,h4];simp only[oK,Bo,OM (show u%10<10 from by omega)];omega
    ·rw[hh];exact h5 (by omega)
theorem rC{c:UInt8}(h:dI c=true):48≤c.toNat∧c.toNat≤57:=by
 unfold dI at h;simp only[aq5,aqW]at h;omega
theorem alB{c:UInt8}(h:dI c=true):c=dg (c.toNat-48):=by
 have:=rC h;apply arD.1;rw[OM (by omega)];omega
theorem abV:∀(s:Str) (acc:Nat),(∀c∈s,dI c=true)→xO acc s<(acc+1)*10 ^ s.length
 | [],acc,_=>by simp[Bo]
 | c::s,acc,h=>by
  have hc:=rC (h c (by simp));have:=abV s (acc*10+(c.toNat-48)) fun x hx=>h x (by simp[hx]);rw[oK,aq2,asc]
  have e:(acc*10+(c.toNat-48)+1)*10 ^ s.length≤(acc+1)*(10 ^ s.length*10):=by
   rw[asJ (10 ^ s.length) 10,←asU];exact arx _ (by omega)
  omega
theorem Td:∀(n:Nat) (s:Str),s.length≤n→aes s→s.length≤19→tL 20 (xO 0 s)=s∧(1<s.length→10≤xO 0 s)∧(s.length=1→xO 0 s<10)
 | 0,s,h,hc,_=>by
  have:=arM.2 hc.1;omega
 | n+1,s,h,⟨h1,h2,h3⟩,h19=>by
  by_cases hl:s.length=1
  ·obtain⟨c,rfl⟩:=len1 hl;have hd:=h2 c (by simp);have hn:=rC hd;have e:xO 0 [c]=c.toNat-48:=by simp[oK,Bo]
   rw[e,Ij (by omega),←alB hd];exact⟨rfl,fun h=>by simp at h,fun _=>by omega⟩
  ·have hpos:=arM.2 h1;have hs:s=s.dropLast++[s.getLast h1]:=(List.dropLast_concat_getLast h1).symm;have hdl:s.dropLast.length=s.length-1:=List.length_dropLast;have hd:=h2 (s.getLast h1) (List.getLast_mem h1);have hn:=rC hd;have hne:s.dropLast≠[]:=fun h=>by rw[h]at hdl;simp at hdl;omega
   have hhd:s.dropLast.head?=s.head?:=by
    cases s with
    | nil=>exact absurd rfl h1
    | cons a l=>cases l with
     | nil=>simp at hl
     | cons b r=>rfl
   have hz:=h3 (by omega);have hcd:aes s.dropLast:=⟨hne,fun c hc=>h2 c ((List.dropLast_sublist s).subset hc),fun _=>by rw[hhd];exact hz⟩;obtain⟨i1,i2,i3⟩:=Td n s.dropLast (by omega) hcd (by omega)
   have hv:xO 0 s=xO 0 s.dropLast*10+((s.getLast h1).toNat-48):=by
    conv=>lhs;rw[hs]
    rw[Pn];rfl
   have hp:1≤xO 0 s.dropLast:=by
    by_cases h10:s.dropLast.length=1
    ·obtain⟨a,ha⟩:=len1 h10;have ha1:dI a=true:=h2 a ((List.dropLast_sublist s).subset (by rw[ha];simp));have ha2:=rC ha1;rw[←hhd,ha]at hz;simp only[List.head?_cons,Option.map_some,ash,aro]at hz;rw[ha];simp only[oK,Bo];omega
    ·have:=i2 (by omega);omega
   have hlt:=abV s 0 h2
   have h20:xO 0 s<100000000000000000000:=by
    have:(10:Nat) ^ s.length≤10 ^ 19:=ase (by omega) h19;have e19:(10:Nat) ^ 19=10000000000000000000:=by decide
    omega
   refine⟨?_,fun _=>by omega,fun h=>absurd h hl⟩;rw[Nw (by omega) h20];have e1:xO 0 s/10=xO 0 s.dropLast:=by omega
   have e2:xO 0 s%10=(s.getLast h1).toNat-48:=by omega
   rw[e1,e2,i1,←alB hd];exact hs.symm
theorem Xc:∀(s:Str) (acc:Nat),(∀c∈s,dI c=true)→xO acc s<18446744073709551616→JH acc s=(0,xO acc s)
 | [],acc,_,_=>rfl
 | c::s,acc,h,hb=>by
  have hc:=rC (h c (by simp));have hg:=abW s (acc*10+(c.toNat-48));rw[oK]at hb⊢;rw[JH,aqJ hc,aqH (by omega),aqH (by omega)];exact Xc s _ (fun x hx=>h x (by simp[hx])) hb
theorem Tx{u:Nat}(h:u<9223372036854775808):vC (tL 20 u)=(0,(u:Int)):=by
 obtain⟨⟨h1,h2,h3⟩,h4,h5⟩:=xk u u (aq9 _) (by omega);cases hd:tL 20 u with
 | nil=>exact absurd hd h1
 | cons c r=>
  rw[hd]at h2 h4;have hc:=rC (h2 c (by simp));unfold vC;have e1:¬(c.toNat=43∨c.toNat=45):=by omega
  have hm:=Xc (c::r) 0 h2 (by omega);rw[h4]at hm;have e45:¬c.toNat=45:=by omega
  have e43:¬c.toNat=43:=by omega
  simp only[e43,e45,or_self,aqT,hm,reduceCtorEq];simp;omega
theorem ahC{u:Nat}(h:u<9223372036854775808):vC (45::tL 20 u)=(0,-(u:Int)):=by
 obtain⟨⟨h1,h2,h3⟩,h4,h5⟩:=xk u u (aq9 _) (by omega);unfold vC;have e45:(45:UInt8).toNat=45:=rfl;have hm:=Xc (tL 20 u) 0 h2 (by omega);rw[h4]at hm;simp only[e45,or_true,aqV];rw[aqH h1,hm];simp;omega
theorem adI{s:Str}(hs:s.length≤281474976710656):∃n ok,vo s=some (n,ok)∧(ok=true→s=u6 n∧-9007199254740992≤n∧n≤9007199254740992)∧(∀m:Int,s=u6 m→-9007199254740992≤m→m≤9007199254740992→ok=true∧n=m):=by
 have hat:∀m:Int,-9007199254740992≤m→m≤9007199254740992→vC (u6 m)=(0,m):=by
  intro m h1 h2;unfold u6;split
  ·rw[ahC (by omega)];congr 1;omega
  ·rw[Tx (by omega)];congr 1;omega
 unfold vo strconv_Atoi strconv_Itoa;rw[aqJ hs,aC];by_cases hz:(vC s).1=0
 ·rw[aqJ hz];simp only[Option.isSome_none,aqS,aqT]
  have hr:-9223372036854775808≤(vC s).2∧(vC s).2≤9223372036854775807:=by
   have mg:∀(l:Str) (acc:Nat),acc<18446744073709551616→(JH acc l).2<18446744073709551616:=by
    intro l
    induction l with
    | nil=>intro acc h;exact h
    | cons c l ih=>
     intro acc h;rw[JH];split
     ·split
      ·simp
      ·split
       ·simp
       ·exact ih _ (by omega)
     ·simp
   unfold vC;cases s with
   | nil=>simp
   | cons c r=>
    simp only
    repeat' split
    all_goals simp_all
    all_goals omega
  rw[aqJ hr,ak,ak];by_cases hi:u6 (vC s).2=s
  ·by_cases hb:-9007199254740992≤(vC s).2∧(vC s).2≤9007199254740992
   ·rw[aqH (by simp[hi];omega)];exact⟨_,_,rfl,fun _=>⟨hi.symm,hb⟩,fun m h1 h2 h3=>⟨rfl,by rw[h1,hat m h2 h3]⟩⟩
   ·rw[aqJ (by simp[hi];omega)];exact⟨_,_,rfl,(fun h=>by cases h),fun m h1 h2 h3=>absurd (by rw[h1,hat m h2 h3];exact⟨h2,h3⟩) hb⟩
  ·rw[aqJ (by simp[hi])];exact⟨_,_,rfl,(fun h=>by cases h),fun m h1 h2 h3=>absurd (by rw[h1,hat m h2 h3]) hi⟩
 ·rw[aqH hz];simp only[Option.isSome_some,aqV,ak,Bool.true_or];exact⟨_,_,rfl,(fun h=>by cases h),fun m h1 h2 h3=>absurd (by rw[h1,hat m h2 h3]) hz⟩
theorem adx{s:Str}(hs:s.length≤16):∀(t:Str) (i acc:Nat),t=s.drop i→acc<10 ^ i→
  ∃n ok,eB (fun(i:Nat) c (n1:Int) r=>av (pU c) fun x3=>if !x3 then some ((0:Int),false)else av (idx s (i:Int)) fun x4=>r (bq ((bq ((bq (10*n1))+(x4.toNat:Int)))-48))) (fun n1=>some (n1,(decide (n1≤9007199254740992)))) i t (acc:Int)=some (n,ok)∧
   (ok=true↔(∀c∈t,dI c=true)∧xO acc t≤9007199254740992)∧(ok=true→n=xO acc t):=by
 intro t
 induction t with
 | nil=>
  intro i acc ht ha;refine⟨_,_,rfl,?_,fun _=>rfl⟩;simp[Bo];omega
 | cons c t ih=>
  intro i acc ht ha;obtain⟨hi,e1,e2⟩:=uw ht;rw[eB,ajA,ak,lX hi,←e1];simp only[ak];cases hd:dI c with
  | false=>
   refine⟨0,false,rfl,?_,fun h=>by cases h⟩;simp[hd]
  | true=>
   have hc:=rC hd;have h16:(10:Nat) ^ i≤10 ^ 15:=ase (by omega) (by omega);have e15:(10:Nat) ^ 15=1000000000000000:=by decide
   simp only[arf,aqS,aqT]
   have ew:bq ((bq ((bq (10*(acc:Int)))+(c.toNat:Int)))-48)=((acc*10+(c.toNat-48):Nat):Int):=by
    rw[rY (n:=10*(acc:Int)) (by omega),rY (n:=10*(acc:Int)+(c.toNat:Int)) (by omega),rY (by omega)];omega
   rw[ew];obtain⟨n,ok,q1,q2,q3⟩:=ih (i+1) (acc*10+(c.toNat-48)) e2 (by rw[asc];omega);refine⟨n,ok,q1,?_,q3⟩;rw[q2,oK];simp[hd]
theorem Qw(s:Str):∃n ok,xD s=some (n,ok)∧(ok=true→∃u:Nat,n=u∧s=tL 20 u∧u≤9007199254740992)∧∀u:Nat,s=tL 20 u→u≤9007199254740992→ok=true∧n=u:=by
 unfold xD;by_cases h0:s=[]∨16<s.length
 ·have e:((s==([]:Str))||(decide (16<(s.length:Int))))=true:=by
   rcases h0 with h|h
   ·simp[h]
   ·simp;right;omega
  rw[aqJ e];simp only[ak,aqV];refine⟨0,false,rfl,(fun h=>by cases h),fun u h1 h2=>?_⟩;obtain⟨⟨q1,_,_⟩,_,_⟩:=xk u u (aq9 _) (by omega);have hl:=J2 16 u (by have:(10:Nat) ^ 16=10000000000000000:=(by decide);omega) (by omega);rw[OL 16 20 u (by have:(10:Nat) ^ 16=10000000000000000:=(by decide);omega) (by have:(10:Nat) ^ 20=100000000000000000000:=(by decide);omega) (by omega) (by omega),←h1]at hl;rcases h0 with h|h
  ·rw[h1]at h;exact absurd h q1
  ·omega
 ·have hne:s≠[]:=fun h=>h0 (.inl h);have hlen:s.length≤16:=by omega
  have hpos:=arM.2 hne;have e:((s==([]:Str))||(decide (16<(s.length:Int))))=false:=by simp[hne];omega
  rw[aqH (by rw[e];simp)];obtain⟨n,ok,q1,q2,q3⟩:=adx hlen s 0 0 rfl (by simp)
  have hF:uQ s BIG 0 0=some (n,ok):=by
   rw[eH (F:=fun k n1 i=>uQ s k n1 i) (l:=s) (body:=fun(i:Nat) c (n1:Int) r=>av (pU c) fun x3=>if !x3 then some ((0:Int),false)else av (idx s (i:Int)) fun x4=>r (bq ((bq ((bq (10*n1))+(x4.toNat:Int)))-48))) (fin:=fun n1=>some (n1,(decide (n1≤9007199254740992)))) (by omega) (fun k s i=>rfl) 0];exact q1
  have zero:∀(c:UInt8) (r:Str),s=c::r→idx s 0=some c:=fun c r h=>by rw[h];rfl
  obtain⟨c,r,hcr⟩:∃c r,s=c::r:=by
   cases s with
   | nil=>exact absurd rfl hne
   | cons c r=>exact⟨c,r,rfl⟩
  have hb1:(if decide (1<(s.length:Int))=true then av (idx s 0) fun x1=>some ((x1.toNat:Int)==48)else some false)=some ((decide (1<s.length))&&((c.toNat:Int)==48)):=by
   rw[zero c r hcr];by_cases h1:1<s.length
   ·rw[aqJ (by simp;omega),ak];simp[h1]
   ·rw[aqH (by simp;omega)];simp[h1]
  rw[hb1,ak];by_cases hz:1<s.length∧c.toNat=48
  ·rw[aqJ (by simp[hz.1];omega)];refine⟨0,false,rfl,(fun h=>by cases h),fun u h1 h2=>?_⟩;obtain⟨⟨_,_,q⟩,_,_⟩:=xk u u (aq9 _) (by omega);rw[←h1]at q;have:=q hz.1;rw[hcr]at this;simp[hz.2]at this
  ·rw[aqH (by simp;intro h;omega),hF];refine⟨n,ok,rfl,fun h=>?_,fun u h1 h2=>?_⟩
   ·obtain⟨d1,d2⟩:=q2.1 h;have hcan:aes s:=⟨hne,d1,fun h1=>by rw[hcr];simp;omega⟩;exact⟨xO 0 s,q3 h,(Td _ s (aq9 _) hcan (by omega)).1.symm,d2⟩
   ·obtain⟨⟨_,q5,_⟩,q4,_⟩:=xk u u (aq9 _) (by omega);rw[←h1]at q5 q4;have hok:ok=true:=q2.2 ⟨q5,by omega⟩;exact⟨hok,by rw[q3 hok,q4]⟩
theorem number_eq{s:Str}(hs:s.length≤281474976710656):∃n ok n',vo s=some (n,ok)∧xU s=some (n',ok)∧(ok=true→n=n'∧-9007199254740992≤n∧n≤9007199254740992):=by
 obtain⟨n,ok,p1,p2,p3⟩:=adI hs;unfold xU
 have fin:∀(n':Int) (ok':Bool),(ok'=true→s=u6 n'∧-9007199254740992≤n'∧n'≤9007199254740992)→(∀m:Int,s=u6 m→-9007199254740992≤m→m≤9007199254740992→ok'=true)→ok'=ok∧(ok=true→n=n'∧-9007199254740992≤n∧n≤9007199254740992):=by
  intro n' ok' a1 a2
  have e:ok'=ok:=by
   cases ok with
   | true=>obtain⟨b1,b2,b3⟩:=p2 rfl;exact a2 n b1 b2 b3
   | false=>
    cases ok' with
    | false=>rfl
    | true=>obtain⟨b1,b2,b3⟩:=a1 rfl;have:=(p3 n' b1 b2 b3).1;cases this
  refine⟨e,fun h=>?_⟩;subst e;obtain⟨b1,b2,b3⟩:=a1 h;have:=(p3 n' b1 b2 b3).2;exact⟨this,by omega,by omega⟩
 cases hc:s with
 | nil=>
  simp only[arO,arf,aqS,aqT,ak];obtain⟨n',ok',r1,r2,r3⟩:=Qw [];rw[hc]at p1
  obtain⟨f1,f2⟩:=fin n' ok' (fun h=>by
   obtain⟨u,u1,u2,u3⟩:=r2 h;rw[hc,u1];refine⟨?_,by omega,by omega⟩
   unfold u6;rw[aqH (by omega)];simpa using u2) (fun m h1 h2 h3=>by
   rw[hc]at h1;unfold u6 at h1;split at h1
   ·cases h1
   ·exact(r3 _ h1 (by omega)).1)
  exact⟨n,ok,n',p1,by rw[r1,f1],f2⟩
 | cons c r=>
  rw[hc]at p1;have e0:(!((c::r:Str)==([]:Str)))=true:=rfl;have i0:idx (c::r) 0=some c:=rfl;simp only[e0,aqV,i0,ak]
  have dn:∀u:Nat,u<100000000000000000000→∀(x:UInt8) (l:Str),tL 20 u=x::l→x.toNat≠45:=by
   intro u hu x l h;obtain⟨⟨_,q,_⟩,_,_⟩:=xk u u (aq9 _) hu;rw[h]at q;have:=rC (q x (by simp));omega
  by_cases h45:(c.toNat:Int)=45
  ·rw[aqJ (by simpa using h45)]
   have hsl:sl (c::r) 1 (((c::r:Str).length:Nat):Int)=some r:=by
    have:=r9 (s:=c::r) (i:=1) (by simp);simpa using this
   rw[hsl,ak];obtain⟨n',ok',r1,r2,r3⟩:=Qw r;rw[r1,aC];have aqX:c=45:=arD.1 (by have:(45:UInt8).toNat=45:=rfl;omega)
   obtain⟨f1,f2⟩:=fin (bq (0-n')) (ok'&&(n' !=0)) (fun h=>by
    simp only[aq5,arA]at h;obtain⟨u,u1,u2,u3⟩:=r2 h.1;rw[rY (by omega),u1];refine⟨?_,by omega,by omega⟩;unfold u6;rw[aqJ (by omega),hc,aqX];congr 1
    rw[u2];congr 1;omega) (fun m h1 h2 h3=>by
    rw[hc]at h1;unfold u6 at h1;split at h1
    ·rename_i hm;simp only[arS]at h1;obtain⟨o1,o2⟩:=r3 _ h1.2 (by omega);rw[o1,o2];simp;omega
    ·exact absurd (by omega) (dn _ (by omega) c r h1.symm))
   exact⟨n,ok,_,p1,by rw[f1],f2⟩
  ·rw[aqH (by simpa using h45)];obtain⟨n',ok',r1,r2,r3⟩:=Qw (c::r)
   obtain⟨f1,f2⟩:=fin n' ok' (fun h=>by
    obtain⟨u,u1,u2,u3⟩:=r2 h;rw[hc,u1];refine⟨?_,by omega,by omega⟩
    unfold u6;rw[aqH (by omega)];simpa using u2) (fun m h1 h2 h3=>by
    rw[hc]at h1;unfold u6 at h1;split at h1
    ·simp only[arS]at h1;exact absurd (by rw[h1.1];rfl) h45
    ·exact(r3 _ h1 (by omega)).1)
   exact⟨n,ok,n',p1,by rw[r1,f1],f2⟩
end Go.Ft
namespace Go.Ft
open Go
attribute [local congr] gq
def yP(l:List aB):ah:=ah.mk 5 false 0 ([]:Str) (l.map (·.value)) (l.map (·.name))
def Sn(x:aB):List aB→List aB
 | []=>[x]
 | y::t=>if fT x.name y.name<0 then x::y::t else y::Sn x t
def Tz(l:List aB):Prop:=l.Pairwise fun x y=>fT x.name y.name<0
theorem Oz(x:aB):∀l:List aB,(Sn x l).Perm (x::l)
 | []=>List.Perm.refl _
 | y::t=>by
  rw[Sn];split
  ·exact List.Perm.refl _
  ·exact((Oz x t).cons y).trans (List.Perm.swap x y t)
theorem Za(x:aB):∀l:List aB,Tz l→(∀y∈l,y.name≠x.name)→Tz (Sn x l)
 | [],_,_=>by simp[Sn,Tz]
 | y::t,h,hn=>by
  unfold Tz at h⊢;rw[asb]at h;rw[Sn];split
  ·rename_i hlt;rw[asb,asb];refine⟨fun z hz=>?_,h⟩;rcases arB.1 hz with rfl|hz
   ·exact hlt
   ·exact CO hlt (h.1 z hz)
  ·rename_i hge;rw[asb];refine⟨fun z hz=>?_,Za x t h.2 fun z hz=>hn z (by simp[hz])⟩;rcases arB.1 ((Oz x t).mem_iff.1 hz)with rfl|hz
   ·have hne:=hn y (by simp);have h0:fT z.name y.name≠0:=fun h=>hne (yM h).symm;rw[sH];omega
   ·exact h.1 z hz
theorem PY:∀ {l m:List aB},Tz l→Tz m→l.Perm m→l=m
 | [],m,_,_,h=>(List.nil_perm.1 h).symm
 | x::l,[],_,_,h=>by simp at h
 | x::l,y::m,hl,hm,h=>by
  unfold Tz at hl hm;rw[asb]at hl hm
  have hxy:x=y:=by
   have h1:=h.mem_iff.1 (show x∈x::l by simp);have h2:=h.mem_iff.2 (show y∈y::m by simp);simp only[arB]at h1 h2;rcases h1 with h1|h1
   ·exact h1
   ·rcases h2 with h2|h2
    ·exact h2.symm
    ·have a1:=hm.1 x h1;have a2:=hl.1 y h2;rw[sH]at a1;omega
  subst hxy;rw[PY (l:=l) (m:=m) hl.2 hm.2 (List.Perm.cons_inv h)]
def jL(l:List aB):List aB:=l.mergeSort fun x y=>!decide (fT y.name x.name<0)
theorem vG(l:List aB):(jL l).Perm l:=List.mergeSort_perm _ _
theorem Pk{l:List aB}(h:(l.map (·.name)).Nodup):Tz (jL l):=by
 have hs:(jL l).Pairwise fun x y=>¬fT y.name x.name<0:=by
  have:=List.pairwise_mergeSort (le:=fun x y:aB=>!decide (fT y.name x.name<0)) (fun a b c h1 h2=>by
   simp only[arH,aru]at *
   exact FM h2 h1) (fun a b=>by
   simp only[ars,arH,aru]
   rw[sH];omega) l
  refine this.imp fun {a b} h=>?_;simpa using h
 have hn:((jL l).map (·.name)).Nodup:=((vG l).map _).nodup_iff.2 h;rw[List.Nodup,List.pairwise_map]at hn;refine(hs.and hn).imp fun {a b} h=>?_;have h0:fT a.name b.name≠0:=fun e=>h.2 (yM e);have:=h.1;rw[sH]at this;omega
theorem Mr{l:List aB}{x:aB}(hk:∀y∈l,y.name.length<4611686018427387904)(hx:x.name.length<4611686018427387904)(hl:2*l.length+2≤rM):∀(k i:Nat) (done:Bool) (o:List aB),l.length<k+i→i≤l.length→o.length≤i+done.toNat→
  uR (yP l) x k done (i:Int) (yP o)=some (yP (o++if done then l.drop i else Sn x (l.drop i)))
 | 0,i,_,_,h,h',_=>by omega
 | k+1,i,done,o,h,h',ho=>by
  have hL:rM=4294967296:=rfl;have hd1:done.toNat≤1:=Bool.toNat_le done;have kl:(yP l).keys.length=l.length:=by simp[yP]
  have ll:(yP l).aP.length=l.length:=by simp[yP]
  rw[uR];by_cases hi:i<l.length
  ·have ik:idx (yP l).keys (i:Int)=some l[i].name:=by rw[lX (by rw[kl];exact hi)];simp[yP]
   have il:idx (yP l).aP (i:Int)=some l[i].value:=by rw[lX (by rw[ll];exact hi)];simp[yP]
   have hm:l[i]∈l:=arj hi;have ok1:(yP o).keys=o.map (·.name):=rfl;have ol1:(yP o).aP=o.map (·.value):=rfl;rw[aqJ (by rw[kl];simp;omega),ik,il,aqZ hi];simp only[ak,ok1,ol1];rw[mO (l:=o.map (·.name)) (by simp;omega),mO (l:=o.map (·.value)) (by simp;omega),mO (l:=o.map (·.name)) (by simp;omega),mO (l:=o.map (·.value)) (by simp;omega),mh (by omega)];simp only[ak];rw[mO (by simp;omega),mO (by simp;omega)];simp only[ak];have e1:(ah.mk (yP o).kind (yP o).dD (yP o).cu (yP o).bJ (o.map (·.value)++[l[i].value]) (o.map (·.name)++[l[i].name]))=yP (o++[l[i]]):=by simp[yP]
   have e2:(ah.mk (yP o).kind (yP o).dD (yP o).cu (yP o).bJ (o.map (·.value)++[x.value]++[l[i].value]) (o.map (·.name)++[x.name]++[l[i].name]))=yP (o++[x,l[i]]):=by simp[yP]
   rw[e1,e2];cases done with
   | true=>
    simp only[Bool.toNat_true]at ho;simp only[arf,aqS,aqT,ak,aqV];rw[Mr hk hx hl k (i+1) true (o++[l[i]]) (by omega) (by omega) (by simp;omega)];simp
   | false=>
    simp only[arz,aqV,ak,LP hx (hk _ hm),aqS,aqT];rw[Sn];by_cases hc:fT x.name l[i].name<0
    ·rw[aqJ (by simpa using hc),aqJ hc];simp only[Bool.toNat_false]at ho;rw[Mr hk hx hl k (i+1) true (o++[x,l[i]]) (by omega) (by omega) (by simp;omega)];simp
    ·simp only[Bool.toNat_false]at ho;rw[aqH (by simpa using hc),aqH hc,Mr hk hx hl k (i+1) false (o++[l[i]]) (by omega) (by omega) (by simp;omega)];simp
  ·have:i=l.length:=by omega
   subst this;have ok1:(yP o).keys=o.map (·.name):=rfl;have ol1:(yP o).aP=o.map (·.value):=rfl;rw[aqH (by rw[kl];simp),List.drop_length,ok1,ol1];cases done with
   | true=>simp
   | false=>
    simp only[arz,aqV];rw[mO (by simp;omega),ak,mO (by simp;omega),ak];simp[yP,Sn]
theorem ai7{l:List aB}{x:aB}(hk:∀y∈l,y.name.length<4611686018427387904)(hx:x.name.length<4611686018427387904)(hl:2*l.length+2≤rM):Jr (yP l) x=some (yP (Sn x l)):=by
 have hL:rM=4294967296:=rfl;have:=Mr hk hx hl BIG 0 false [] (by have:=iW;omega) (by omega) (by simp);simpa[Jr,yP]using this
theorem ag7:∀(l:List aB) (q:Str),(∀y∈l,y.name≠q)→IZ (l.map (·.name)) (l.map (·.value)) q=none:=fun l q h=>Sz _ _ _ fun hm=>by
 obtain⟨y,hy,he⟩:=ar4.1 hm;exact h y hy he
structure Ent(vars:List aB):Prop where
 len:vars.length≤1024
 key:∀x∈vars,uZ x.name=true
 val:∀x∈vars,VV x.value∧x.value.bulk<1152921504606846976
 nodup:(vars.map (·.name)).Nodup
theorem Ay{s:Str}(h:uZ s=true):1≤s.length∧s.length≤64:=by
 unfold uZ at h;simpa using h
theorem YC{vars:List aB}(H:Ent vars):∀(k i:Nat) (l:List aB),vars.length<k+i→i≤vars.length→Tz l→l.Perm (vars.take i)→
  Av vars k (i:Int) (yP l)=some (if ∃x∈vars.drop i,xF x.value=16 then (ZV,13)else (yP (jL vars),0))
 | 0,i,_,h,h',_,_=>by omega
 | k+1,i,l,h,h',ha,hp=>by
  have hL:rM=4294967296:=rfl;have hlen:=H.len;have hll:l.length=i:=by rw[hp.length_eq];simp;omega
  rw[Av];by_cases hi:i<vars.length
  ·have hm:vars[i]∈vars:=arj hi;have hk:=H.key _ hm;obtain⟨hv,hb⟩:=H.val _ hm;have hkl:=Ay hk;rw[aqJ (by simp;omega),lX hi];simp only[ak,key_eq,hk,arf,aqS,aqT,Wo (show vars[i].value.bulk<4611686018427387904 by omega),(Pe _).2 hv,arX,RF (show vars[i].value.bulk<4611686018427387904 by omega)];rw[aqZ hi];by_cases h16:xF vars[i].value=16
   ·rw[aqJ (by simp[h16]),aqJ ⟨vars[i],List.mem_cons_self,h16⟩];rfl
   ·have hno:∀y∈l,y.name≠vars[i].name:=by
     intro y hy he;have hy2:=hp.mem_iff.1 hy;obtain⟨j,hj,e⟩:=asG.1 hy2;simp only[asE]at hj;have hn:=H.nodup;rw[List.Nodup,List.pairwise_iff_getElem]at hn;have:=hn j i (by simp;omega) (by simpa using hi) (by omega);apply this;simp only[List.getElem_map];rw[←he,←e];simp
    have hg:OC (yP l) vars[i].name=none:=by
     unfold OC;rw[aqJ (show (yP l).kind=5 from rfl)];exact ag7 l _ hno
    have hks:∀y∈l,y.name.length<4611686018427387904:=fun y hy=>by
     have:=Ay (H.key y (List.mem_of_mem_take (hp.mem_iff.1 hy)));omega
    rw[aqH (by simp;omega),WO (by simp[yP];omega),hg,aaO,aC,aqH (by simp),ai7 hks (by omega) (by omega),ak,mh (by omega)];rw[YC H k (i+1) (Sn vars[i] l) (by omega) (by omega) (Za _ _ ha hno) ?_]
    ·congr 1;refine gq (propext ⟨fun⟨x,hx,hq⟩=>⟨x,List.mem_cons_of_mem _ hx,hq⟩,fun⟨x,hx,hq⟩=>?_⟩);rcases arB.1 hx with rfl|hx
     ·exact absurd hq h16
     ·exact⟨x,hx,hq⟩
    ·refine(Oz _ _).trans ?_;rw[List.take_succ_eq_append_getElem hi];exact(hp.cons _).trans (List.perm_append_singleton _ _).symm
  ·have hie:i=vars.length:=by omega
   rw[aqH (by simp;omega),aqH (by rw[hie];simp)];congr 1;rw[hie,List.take_length]at hp;have:l=jL vars:=PY ha (Pk H.nodup) (hp.trans (vG _).symm);rw[this]
def YZ(vars:List aB):ah × Int:=if ∃x∈vars,xF x.value=16 then (ZV,13)else (yP (jL vars),0)
theorem ajB{vars:List aB}(H:Ent vars):Kz vars=some (YZ vars):=by
 have hlen:=H.len;unfold Kz YZ;rw[aqH (by simp;omega)];exact YC H BIG 0 [] (by have:=iW;omega) (by omega) List.Pairwise.nil (by simp)
theorem aei{l:List aB}{q:aB}(hl:l.length<4611686018427387904)(h:∀y∈l,y.name≠q.name):fB l (fun z0=>kZ z0 q)=some false:=by
 unfold fB iU;rw[eH (F:=fun k (_:Unit) i=>gu l (fun z0=>kZ z0 q) k i) (l:=l) (body:=fun(i:Nat) e1 (_:Unit) r=>av (kZ e1 q) fun x1=>if x1 then some (i:Int)else r ()) (fin:=fun _=>some (-1)) hl (fun k s i=>rfl) ()]
 have key:∀(t:List aB) (i:Nat),(∀y∈t,y.name≠q.name)→eB (fun(i:Nat) e1 (_:Unit) r=>av (kZ e1 q) fun x1=>if x1 then some (i:Int)else r ()) (fun _=>some (-1)) i t ()=some (-1):=by
  intro t
  induction t with
  | nil=>intro i _;rfl
  | cons d t ih=>
   intro i ht;rw[eB,kZ,ak,aqH (by simpa using ht d (by simp))];exact ih (i+1) fun y hy=>ht y (by simp[hy])
 rw[key l 0 h];rfl
theorem entry_eq{vars:List aB}(H:Ent vars){i:Nat}(hi:i<vars.length):Bn vars (i:Int)=some (if xF vars[i].value=16 then 13 else 0):=by
 have hlen:=H.len;have hm:vars[i]∈vars:=arj hi;have hkl:=Ay (H.key _ hm);obtain⟨hv,hb⟩:=H.val _ hm;unfold Bn;rw[lX hi,ak,aqH (by simp;omega),FW (by omega),(Pe _).2 hv,ak,aqH (by simp),aao (by omega) hv.1,ak];have:=hv.2;by_cases h16:xF vars[i].value=16
 ·rw[aqJ (by simp[h16]),aqJ h16]
 ·have hsl:sl vars 0 (i:Int)=some (vars.take i):=by rw[bL (by omega) (by omega) (by omega)];simp
  rw[aqH (by simp;omega),aqH h16,hsl,ak,aei (by simp;omega),ak]
  ·rfl
  ·intro y hy he;obtain⟨j,hj,e⟩:=asG.1 hy;simp only[asE]at hj;have hn:=H.nodup;rw[List.Nodup,List.pairwise_iff_getElem]at hn;have:=hn j i (by simp;omega) (by simpa using hi) (by omega);apply this;simp only[List.getElem_map];rw[←he,←e];simp
theorem R8:∀(l:List aB) (i:Nat) (o:List aB),(∀x∈l,mX x.value=some x.value)→o.length+l.length≤rM→
  eB (fun _ e2 (bK:ah) r=>av (app bK.keys ([e2.name]:List Str)) fun x2=>av (mX e2.value) fun x3=>av (app bK.aP [x3]) fun x4=>r (ah.mk bK.kind bK.dD bK.cu bK.bJ x4 x2)) (fun bK=>some (bK,(0:Int))) i l (yP o)=some (yP (o++l),0)
 | [],i,o,_,_=>by simp[eB]
 | x::l,i,o,hb,hl=>by
  simp only[aq2]at hl;have ok1:(yP o).keys=o.map (·.name):=rfl;have ol1:(yP o).aP=o.map (·.value):=rfl;rw[eB,ok1,ol1,mO (by simp;omega),ak,hb x (by simp),ak,mO (by simp;omega),ak];have e1:(ah.mk (yP o).kind (yP o).dD (yP o).cu (yP o).bJ (o.map (·.value)++[x.value]) (o.map (·.name)++[x.name]))=yP (o++[x]):=by simp[yP]
  rw[e1];refine(R8 l (i+1) (o++[x]) (fun y hy=>hb y (by simp[hy])) (by simp;omega)).trans ?_;simp
theorem ai9{vars:List aB}(H:Ent vars):Dk vars=some (YZ vars):=by
 have hL:rM=4294967296:=rfl;have hlen:=H.len;unfold Dk YZ;rw[aqH (by simp;omega)]
 have fin:(av (fK vars) fun Qt=>av (Vi (fun x=>x.name) Qt) fun uh=>vJ uh BIG 0 (ah.mk 5 false 0 ([]:Str) [] []))=some (yP (jL vars),0):=by
  have hs:Vi (fun x:aB=>x.name) vars=some (jL vars):=by
   unfold Vi;rw[aqJ ⟨by omega,fun x hx=>by have:=Ay (H.key x hx);show x.name.length<_;omega,H.nodup⟩];rfl
  rw[fK,mO (by simp;omega),asw,ak,hs,ak];have hsl:(jL vars).length=vars.length:=(vG vars).length_eq;rw[eH (F:=fun k s i=>vJ (jL vars) k i s) (l:=jL vars) (body:=fun _ e2 (bK:ah) r=>av (app bK.keys ([e2.name]:List Str)) fun x2=>av (mX e2.value) fun x3=>av (app bK.aP [x3]) fun x4=>r (ah.mk bK.kind bK.dD bK.cu bK.bJ x4 x2)) (fin:=fun bK=>some (bK,(0:Int))) (by omega) (fun k s i=>rfl)];exact R8 (jL vars) 0 [] (fun x hx=>by obtain⟨q1,q2⟩:=H.val x ((vG vars).mem_iff.1 hx);exact(NW q1.1 (by omega)).1) (by simp;omega)
 have key:∀(k i:Nat),vars.length<k+i→i≤vars.length→vK vars k (i:Int)=some (if ∃x∈vars.drop i,xF x.value=16 then (ZV,13)else (yP (jL vars),0)):=by
  intro k
  induction k with
  | zero=>intro i h h';omega
  | succ k ih=>
   intro i h h';rw[vK];by_cases hi:i<vars.length
   ·rw[aqJ (by simp;omega),entry_eq H hi,ak,aqZ hi];by_cases h16:xF vars[i].value=16
    ·rw[aqJ h16,aqJ (by simp),aqJ ⟨vars[i],List.mem_cons_self,h16⟩];rfl
    ·rw[aqH h16,aqH (by simp),mh (by omega),ih (i+1) (by omega) (by omega)];congr 1;refine gq (propext ⟨fun⟨x,hx,hq⟩=>⟨x,List.mem_cons_of_mem _ hx,hq⟩,fun⟨x,hx,hq⟩=>?_⟩);rcases arB.1 hx with rfl|hx
     ·exact absurd hq h16
     ·exact⟨x,hx,hq⟩
   ·have hie:i=vars.length:=by omega
    rw[aqH (by simp;omega),fin,aqH (by rw[hie];simp)]
 exact key BIG 0 (by have:=iW;omega) (by omega)
theorem ac3:∀(l:List aB) (p:Option Str),(∀x∈l,uZ x.name=true)→Tz l→(∀q,p=some q→q.length<4611686018427387904∧∀x∈l,fT q x.name<0)→Ka p (l.map (·.name))=true
 | [],p,_,_,_=>by simp[Ka]
 | x::l,p,hk,ha,hp=>by
  unfold Tz at ha;rw[asb]at ha;have hx:=Ay (hk x (by simp));rw[arq,Ka.eq_def];simp only;rw[hk x (by simp),ac3 l (some x.name) (fun y hy=>hk y (by simp[hy])) ha.2 (fun q hq=>by cases hq;exact⟨by omega,ha.1⟩)];cases p with
  | none=>rfl
  | some q=>
   obtain⟨h1,h2⟩:=hp q rfl;have hn:Ur q x.name=fT q x.name:=by unfold Ur;rw[LP h1 (by omega)];rfl
   simp[hn,h2 x (by simp)]
theorem ajU{vars:List aB}(H:Ent vars)(h:¬ ∃x∈vars,xF x.value=16):VV (yP (jL vars)):=by
 have hp:=vG vars;have hlen:=H.len;have hl:=hp.length_eq;have hkeys:Ka none ((jL vars).map (·.name))=true:=ac3 _ none (fun x hx=>H.key x (hp.mem_iff.1 hx)) (Pk H.nodup) (fun q hq=>by cases hq);constructor
 ·refine(yU _).2 ⟨?_,fun x hx=>?_⟩
  ·unfold ny;rw[aqH (by omega)];have e1:(yP (jL vars)).kind=5:=rfl;have e2:(yP (jL vars)).keys=(jL vars).map (·.name):=rfl;have e3:(yP (jL vars)).aP=(jL vars).map (·.value):=rfl;have e4:(yP (jL vars)).cu=0:=rfl;have e5:(yP (jL vars)).bJ=[]:=rfl;have e6:qP (yP (jL vars))=true:=by simp[qP,yP]
   rw[e1,e2,e3,e4,e5,e6,hkeys];simp[hl];omega
  ·obtain⟨y,hy,rfl⟩:=ar4.1 hx;exact(H.val y (hp.mem_iff.1 hy)).1.1
 ·rw[uY,aqJ (by rfl),Ba];refine⟨by omega,fun x hx=>?_⟩;obtain⟨y,hy,rfl⟩:=ar4.1 hx;have hy':=hp.mem_iff.1 hy;have:=(H.val y hy').1.2;have:xF y.value≠16:=fun e=>h ⟨y,hy',e⟩;omega
end Go.Ft
namespace Go.Ft
open Go
attribute [local congr] gq
def AU{α:Type}(p:α × Int):fE aG α:=if p.2=0 then .ok p.1 else .bad ⟨p.2⟩
def okV(v:ah):ah × Int:=(v,0)
def wm(c:Int):ah × Int:=(ZV,c)
@[simp] theorem aql(v:ah):AU (okV v)=.ok v:=rfl
theorem qU{c:Int}(h:c≠0):AU (wm c)=.bad ⟨c⟩:=aqH h
theorem jO(b:Bool)(c:Int):dU b c=some (if b then .ok ()else .bad ⟨c⟩):=by
 unfold dU AB;cases b<;>rfl
theorem Oo(c:Int):dU true c=some (.ok ()):=jO true c
theorem Oq(c:Int):dU false c=some (.bad ⟨c⟩):=jO false c
def GV(p:ah × Int)(N:Nat):Prop:=(p.2=0→VV p.1∧p.1.bulk≤N)∧(p.2≠0→p.1=ZV)
theorem GV.er{c:Int}{N:Nat}(h:c≠0):GV (wm c) N:=⟨fun h'=>absurd h' h,fun _=>rfl⟩
theorem GV.ok{v:ah}{N:Nat}(h:VV v)(hb:v.bulk≤N):GV (okV v) N:=⟨fun _=>⟨h,hb⟩,fun h=>absurd rfl h⟩
theorem GV.mono{p:ah × Int}{N M:Nat}(h:GV p N)(hm:N≤M):GV p M:=⟨fun h0=>⟨(h.1 h0).1,by have:=(h.1 h0).2;omega⟩,h.2⟩
theorem aaZ{v:ah}(h:ny v 1=0)(hl:v.aP=[])(hk:((v.kind==4)||(v.kind==5))=false):VV v:=by
 refine⟨(yU v).2 ⟨h,by simp[hl]⟩,?_⟩;rw[uY,hk];simp
theorem H9(b:Bool):VV (Vu b):=aaZ (by unfold ny Vu qP;simp) rfl rfl
theorem R7{n:Int}(h:-9007199254740992≤n∧n≤9007199254740992):VV (Xb n):=aaZ (by unfold ny Xb qP;simp;omega) rfl rfl
theorem Ov{s:Str}(h:s.length≤4096):VV (mkS s):=aaZ (by unfold ny mkS qP;simp;omega) rfl rfl
theorem qA(v:ah):v.bulk=1+1+1+(v.bJ.length+1)+(ah.kU v.aP+1)+((v.keys.map fun z:Str=>z.length+1).sum+1)+1:=by
 rw[ah.nJ]
theorem zH(b:Bool):(Vu b).bulk=7:=by rw[qA];simp[Vu,ah.kU]
theorem Ei(n:Int):(Xb n).bulk=7:=by rw[qA];simp[Xb,ah.kU]
theorem zG(s:Str):(mkS s).bulk=s.length+7:=by rw[qA];simp[mkS,ah.kU];omega
theorem Eh(l:List ah):(FV l).bulk=(l.map ah.bulk).sum+7:=by rw[qA];simp[FV,ah.nR];omega
theorem Xa{l:List ah}(h:l.length≤1024)(hv:∀x∈l,VV x):Yc (FV l)=true∧(VV (FV l)↔∀x∈l,xF x<16):=by
 have h0:Yc (FV l)=true:=(yU _).2 ⟨by unfold ny FV qP;simp;omega,fun x hx=>(hv x hx).1⟩;refine⟨h0,?_⟩;have e:xF (FV l)=Em l 2:=by rw[uY];rfl
 constructor
 ·intro h x hx;have:=h.2;rw[e,Ba]at this;have:=this.2 x hx;omega
 ·intro h;refine⟨h0,?_⟩;rw[e,Ba];exact⟨by omega,fun x hx=>by have:=h x hx;omega⟩
theorem Vb{α:Type}{f:α→Nat}{l:List α}{c:Nat}(h:∀x∈l,f x≤c):(l.map f).sum≤l.length*c:=by
 induction l with
 | nil=>simp
 | cons x l ih=>
  have:=h x (by simp);have:=ih fun y hy=>h y (by simp[hy]);rw[arq,arJ,aq2,asP];omega
theorem Yt{l:List Str}(h:l.length≤1024)(hs:∀s∈l,s.length≤4096):VV (FV (l.map mkS))∧(FV (l.map mkS)).bulk≤1024*4103+7:=by
 constructor
 ·refine(Xa (by simpa using h) fun x hx=>?_).2.2 fun x hx=>?_
  ·obtain⟨s,hm,rfl⟩:=ar4.1 hx;exact Ov (hs s hm)
  ·obtain⟨s,hm,rfl⟩:=ar4.1 hx;rw[uY];simp[mkS]
 ·rw[Eh,arT]
  have:=Vb (f:=ah.bulk ∘ mkS) (l:=l) (c:=4103) fun s hm=>by
   have:=hs s hm;simp only[asL,zG];omega
  have:l.length*4103≤1024*4103:=arx _ h;omega
def okO(x:Option ah)(c:Int):ah × Int:=match x with|some v=>okV v|none=>wm c
def Qb(a b:ah):ah × Int:=
 if a.kind=4∧b.kind=2 then (if 0≤b.cu∧b.cu<a.aP.length then okO a.aP[b.cu.toNat]? 8 else wm 8)
 else if a.kind=5∧b.kind=3 then okO (OC a b.bJ) 8 else wm 9
theorem SI{a b:ah}(ha:VV a)(hb:a.bulk<4611686018427387904)(h:¬(a.kind=4∧b.kind=2)):xY a b=some (AU (Qb a b)):=by
 unfold xY iO Qb;rw[aqH h];simp only[ak];rw[QB,ak];by_cases h5:a.kind=5∧b.kind=3
 ·rw[aqJ h5];have e:((a.kind==5)&&(b.kind==3))=true:=by simp[h5.1,h5.2]
  rw[e,Oo,jo,abX ha.1 hb,eO];cases OC a b.bJ with
  | none=>simp only[aaO];rw[Oq];rfl
  | some v=>simp only[aaO];rw[Oo];rfl
 ·rw[aqH h5]
  have e:((a.kind==5)&&(b.kind==3))=false:=by
   rw[ar3,aq4,aq4];omega
  rw[e,Oq];rfl
theorem Xy{a b:ah}(ha:VV a)(hb:a.bulk<4611686018427387904):wh a b=some (AU (Qb a b)):=by
 by_cases h:a.kind=4∧b.kind=2
 ·unfold wh iO Qb;rw[aqJ h];simp only[ak];rw[QB,ak];have e:((a.kind==4)&&(b.kind==2))=true:=by simp[h.1,h.2]
  rw[aqJ e];by_cases hi:0≤b.cu∧b.cu<a.aP.length
  ·have e2:((decide (0≤b.cu))&&(decide (b.cu<(a.aP.length:Int))))=true:=by simp[hi.1,hi.2]
   rw[e2,Oo,jo,aqJ hi,aa4 hi.1 hi.2,ak,aq1 (by omega)];rfl
  ·have e2:((decide (0≤b.cu))&&(decide (b.cu<(a.aP.length:Int))))=false:=by
    rw[ar3,aru,aru];omega
   rw[e2,Oq,aqH hi];rfl
 ·have he:=SI ha hb h;unfold wh iO;simp only[ak];rw[QB,ak,aqH (by simp only[aq5,aq7];exact h),he];generalize Qb a b=p;unfold AU;split<;>rfl
theorem Px{a b:ah}(ha:VV a)(hb:a.bulk<4611686018427387904):Dm a b=some (Qb a b):=by
 have hk:=yx a;unfold Dm Qb;by_cases h:a.kind=4∧b.kind=2
 ·rw[aqJ h,aqJ (by simp[h.1,h.2])];by_cases hi:0≤b.cu∧b.cu<a.aP.length
  ·rw[aqJ hi,aqH (by simp;omega),aa4 hi.1 hi.2,ak,aq1 (by omega)];rfl
  ·rw[aqH hi,aqJ (by simp;omega)];rfl
 ·rw[aqH h,aqH (by simp only[aq5,aq7];exact h)];by_cases h5:a.kind=5∧b.kind=3
  ·rw[aqJ h5,aqH (by simp[h5.1,h5.2]),WO (by omega)];cases OC a b.bJ with
   | none=>rfl
   | some v=>rfl
  ·rw[aqH h5,aqJ (by simp only[ars,arA];omega)];rfl
theorem acg{a:ah}(ha:VV a){x:Option ah}(h:∀v,x=some v→v∈a.aP){c:Int}(hc:c≠0):GV (okO x c) a.bulk:=by
 cases x with
 | none=>exact GV.er hc
 | some v=>
  have hm:=h v rfl;exact GV.ok (ha.mem hm) (by have:=iQ hm;omega)
theorem acr{a b:ah}(ha:VV a):GV (Qb a b) a.bulk:=by
 unfold Qb;by_cases h1:a.kind=4∧b.kind=2
 ·rw[aqJ h1];by_cases h2:0≤b.cu∧b.cu<a.aP.length
  ·rw[aqJ h2];exact acg (c:=8) ha (fun v h=>List.mem_of_getElem? h) (by decide)
  ·rw[aqH h2];exact GV.er (by decide)
 ·rw[aqH h1];by_cases h2:a.kind=5∧b.kind=3
  ·rw[aqJ h2];refine acg (c:=8) ha (fun v h=>?_) (by decide);unfold OC at h;rw[aqJ h2.1]at h;exact Zf h
  ·rw[aqH h2];exact GV.er (by decide)
def unS(op:Str)(a:ah):ah × Int:=
 if op=[33]then (if a.kind=1 then okV (Vu (!a.dD))else wm 9)else if a.kind=2 then okV (Xb (0-a.cu))else wm 9
theorem Ra(v:ah):vk v=some (if v.kind=1 then .ok v.dD else .bad ⟨9⟩):=by
 unfold vk iO;rw[ak,jO];by_cases h:v.kind=1
 ·simp[h]
 ·simp[h]
theorem aaq{op:Str}{a:ah}(ha:VV a):Eu op a=some (AU (unS op a)):=by
 have hl:=iR ha.1;unfold Eu unS;by_cases h:op=[33]
 ·rw[aqJ h,aqJ (by simp[h]),Ra];by_cases hk:a.kind=1
  ·rw[aqJ hk,aqJ hk];rfl
  ·rw[aqH hk,aqH hk];rfl
 ·rw[aqH h,aqH (by simpa using h),iO,ak,jO];by_cases hk:a.kind=2
  ·rw[aqJ hk,aqJ (by simp[hk]),jo,rY (by omega)];rfl
  ·rw[aqH hk,aqH (by simp[hk])];rfl
theorem amm{op:Str}{a:ah}(ha:VV a):GV (unS op a) 7:=by
 have hl:=iR ha.1;unfold unS;split
 ·split
  ·exact GV.ok (H9 _) (by rw[zH];omega)
  ·exact GV.er (by decide)
 ·split
  ·exact GV.ok (R7 (by omega)) (by rw[Ei];omega)
  ·exact GV.er (by decide)
def WI(v:ah):ah × Int:=
 if v.cu < -9007199254740992∨9007199254740992<v.cu then wm 11 else if 4096<v.bJ.length∨1024<v.aP.length then wm 3 else if 16<xF v then wm 13 else okV v
theorem Am{v:ah}(hb:v.bulk<4611686018427387904):jB v=some (WI v):=by
 unfold jB WI;by_cases h1:v.cu < -9007199254740992∨9007199254740992<v.cu
 ·rw[aqJ h1,aqJ (by simpa using h1)];rfl
 ·rw[aqH h1,aqH (by simpa using h1)];by_cases h2:4096<v.bJ.length∨1024<v.aP.length
  ·rw[aqJ h2,aqJ (by simp;omega)];rfl
  ·rw[aqH h2,aqH (by simp;omega),RF hb,ak];by_cases h3:16<xF v
   ·rw[aqJ h3,aqJ (by simp;omega)];rfl
   ·rw[aqH h3,aqH (by simp;omega)];rfl
def JL(n:Int):ah × Int:=if -9007199254740992≤n∧n≤9007199254740992 then okV (Xb n)else wm 11
theorem YE(n:Int):WI (Xb n)=JL n:=by
 unfold WI JL;have e1:(Xb n).cu=n:=rfl;have e2:(Xb n).bJ.length=0:=rfl;have e3:(Xb n).aP.length=0:=rfl;have e4:xF (Xb n)=1:=by rw[uY];rfl
 rw[e1,e2,e3,e4];by_cases h:-9007199254740992≤n∧n≤9007199254740992
 ·rw[aqJ h,aqH (by omega)];rfl
 ·rw[aqH h,aqJ (by omega)]
theorem Km(n:Int):rV n=some (AU (JL n)):=by
 unfold rV JL;rw[jO];by_cases h:-9007199254740992≤n∧n≤9007199254740992
 ·rw[aqJ h,aqJ (by simp[h.1,h.2])];rfl
 ·rw[aqH h,aqH (by simp only[aq5,aqW];exact h)];rfl
theorem QF(n:Int):GV (JL n) 7:=by
 unfold JL;split
 ·rename_i h;exact GV.ok (R7 h) (by rw[Ei];omega)
 ·exact GV.er (by decide)
def aoz(n:Int):Int:=if n < -9223372036854775808 then -9223372036854775808 else if 9223372036854775807<n then 9223372036854775807 else n
def adQ(a b:Int):Int:=aoz (a*b)
theorem words(p00 Qz p01 p11:Nat):(p11+(Qz+p00/4294967296)/4294967296+(p01+(Qz+p00/4294967296)%4294967296)/4294967296)*18446744073709551616 +
  ((p01+(Qz+p00/4294967296)%4294967296)%4294967296*4294967296+p00%4294967296)=p11*18446744073709551616+(Qz+p01)*4294967296+p00:=by omega
theorem split_mul(x y:Nat):x*y=(x/4294967296)*(y/4294967296)*18446744073709551616+((x/4294967296)*(y%4294967296)+(x%4294967296)*(y/4294967296))*4294967296+(x%4294967296)*(y%4294967296):=by
 conv=>lhs;rw[←Nat.div_add_mod x 4294967296,←Nat.div_add_mod y 4294967296]
 generalize x/4294967296=xh;generalize x%4294967296=xl;generalize y/4294967296=yh;generalize y%4294967296=yl;simp only[asP,Nat.mul_add]
 have e1:4294967296*xh*(4294967296*yh)=xh*yh*18446744073709551616:=by
  rw[Nat.mul_mul_mul_comm,asJ (4294967296*4294967296)]
 have e2:4294967296*xh*yl=xh*yl*4294967296:=by rw[asU,asJ]
 have e3:xl*(4294967296*yh)=xl*yh*4294967296:=by rw[Nat.mul_left_comm,asJ]
 rw[e1,e2,e3];omega
end Go.Ft
namespace Go.Ft
open Go
attribute [local congr] gq
theorem R6{a b:Int}(ha:-9007199254740992≤a∧a≤9007199254740992)(hb:-9007199254740992≤b∧b≤9007199254740992){hi lo:Nat}(hlo:lo<18446744073709551616)(h:hi*18446744073709551616+lo=a.natAbs*b.natAbs){neg:Bool}(hn:neg=(!((decide (a<0))==(decide (b<0)))&&!(decide (hi=0∧lo=0)))):
  adQ a b=if hi≠0 then (if neg then -9223372036854775808 else 9223372036854775807)else if neg then (if lo≤9223372036854775808 then -(lo:Int)else -9223372036854775808)else if lo≤9223372036854775807 then (lo:Int)else 9223372036854775807:=by
 have hm:a*b=if neg then -((a.natAbs*b.natAbs:Nat):Int)else ((a.natAbs*b.natAbs:Nat):Int):=by
  rw[←h];have e:((a.natAbs*b.natAbs:Nat):Int)=((hi*18446744073709551616+lo:Nat):Int):=by rw[h]
  rw[Int.natCast_mul]at e;by_cases h1:a<0<;>by_cases h2:b<0
  ·have:a*b=(a.natAbs:Int)*b.natAbs:=by
    rw[show (a.natAbs:Int)=-a from by omega,show (b.natAbs:Int)=-b from by omega,Int.neg_mul_neg]
   rw[this,e,hn];simp[h1,h2]
  ·have:a*b=-((a.natAbs:Int)*b.natAbs):=by
    rw[show (a.natAbs:Int)=-a from by omega,show (b.natAbs:Int)=b from by omega,Int.neg_mul,Int.neg_neg]
   rw[this,e,hn];by_cases h0:hi=0∧lo=0
   ·simp[h0]
   ·rw[aqJ (by simp[h1,h2,h0])]
  ·have:a*b=-((a.natAbs:Int)*b.natAbs):=by
    rw[show (a.natAbs:Int)=a from by omega,show (b.natAbs:Int)=-b from by omega,Int.mul_neg,Int.neg_neg]
   rw[this,e,hn];by_cases h0:hi=0∧lo=0
   ·simp[h0]
   ·rw[aqJ (by simp[h1,h2,h0])]
  ·have:a*b=(a.natAbs:Int)*b.natAbs:=by
    rw[show (a.natAbs:Int)=a from by omega,show (b.natAbs:Int)=b from by omega]
   rw[this,e,hn];simp[h1,h2]
 unfold adQ aoz;rw[hm,←h];cases neg with
 | true=>simp only[aqV];(repeat' split)<;>omega
 | false=>simp only[aqS,aqT];(repeat' split)<;>omega
theorem ahw{a:Int}(h:-9007199254740992≤a∧a≤9007199254740992):(if decide (a<0)=true then some (-(BitVec.ofInt 64 a))else some (BitVec.ofInt 64 a))=some (BitVec.ofNat 64 a.natAbs):=by
 by_cases hn:a<0
 ·rw[aqJ (by simpa using hn)];congr 1;apply asF;rw[BitVec.toInt_neg,asR,asK];simp only[Int.bmod];omega
 ·rw[aqH (by simpa using hn)];congr 1;apply asF;rw[asR,asK];simp only[Int.bmod];omega
theorem acV{a:Int}(h:-9007199254740992≤a∧a≤9007199254740992):BJ a=some (BitVec.ofNat 64 a.natAbs):=by
 unfold BJ;by_cases hn:a<0
 ·rw[aqJ (by simpa using hn),rY (n:=a+1) (by omega),rY (by omega)];congr 1;apply BitVec.eq_of_toNat_eq;rw[BitVec.toNat_add,BitVec.toNat_ofInt,asi,show ((1:BitVec 64)).toNat=1 from rfl];omega
 ·rw[aqH (by simpa using hn)];congr 1;apply asF;rw[asR,asK];simp only[Int.bmod];omega
theorem msk(x:BitVec 64):(x &&& (4294967295:BitVec 64)).toNat=x.toNat%4294967296:=by
 rw[BitVec.toNat_and];exact Nat.and_two_pow_sub_one_eq_mod x.toNat 32
theorem shr(x:BitVec 64):(x >>> 32).toNat=x.toNat/4294967296:=by
 rw[BitVec.toNat_ushiftRight,Nat.shiftRight_eq_div_pow]
theorem YO{x y:BitVec 64}(hx:x.toNat<4294967296)(hy:y.toNat<4294967296):(x*y).toNat=x.toNat*y.toNat∧x.toNat*y.toNat≤18446744065119617025:=by
 have h:x.toNat*y.toNat≤4294967295*4294967295:=Nat.mul_le_mul (by omega) (by omega);rw[BitVec.toNat_mul,ar2 (by omega)];exact⟨rfl,by omega⟩
theorem WW{x y:BitVec 64}(h:x.toNat+y.toNat<18446744073709551616):(x+y).toNat=x.toNat+y.toNat:=by
 rw[BitVec.toNat_add,ar2 (by omega)]
theorem por{x y:BitVec 64}(hy:y.toNat<4294967296):((x <<< 32) ||| y).toNat=x.toNat%4294967296*4294967296+y.toNat:=by
 rw[BitVec.toNat_or,BitVec.toNat_shiftLeft,Nat.shiftLeft_eq]
 have e:x.toNat*2 ^ 32%2 ^ 64=(x.toNat%4294967296) <<< 32:=by
  rw[Nat.shiftLeft_eq,show (2:Nat) ^ 64=2 ^ 32*2 ^ 32 from rfl,Nat.mul_mod_mul_right]
 rw[e,←Nat.shiftLeft_add_eq_or_of_lt (by simpa using hy),Nat.shiftLeft_eq]
structure Words(x y hi lo:BitVec 64):Prop where
 eq:hi.toNat*18446744073709551616+lo.toNat=x.toNat*y.toNat
theorem aak(x y:BitVec 64):Words x y (((x >>> 32)*(y >>> 32)+(((x >>> 32)*(y &&& (4294967295:BitVec 64))+(((x &&& (4294967295:BitVec 64))*(y &&& (4294967295:BitVec 64))) >>> 32)) >>> 32))+(((x &&& (4294967295:BitVec 64))*(y >>> 32)+(((x >>> 32)*(y &&& (4294967295:BitVec 64))+(((x &&& (4294967295:BitVec 64))*(y &&& (4294967295:BitVec 64))) >>> 32)) &&& (4294967295:BitVec 64))) >>> 32))
  ((((x &&& (4294967295:BitVec 64))*(y >>> 32)+(((x >>> 32)*(y &&& (4294967295:BitVec 64))+(((x &&& (4294967295:BitVec 64))*(y &&& (4294967295:BitVec 64))) >>> 32)) &&& (4294967295:BitVec 64))) <<< 32) ||| (((x &&& (4294967295:BitVec 64))*(y &&& (4294967295:BitVec 64))) &&& (4294967295:BitVec 64))):=by
 have mx:=msk x;have my:=msk y;have sx:=shr x;have sy:=shr y;have bx:=x.isLt;have Ag:=y.isLt;have lx:(x &&& (4294967295:BitVec 64)).toNat<4294967296:=by rw[mx];omega
 have ly:(y &&& (4294967295:BitVec 64)).toNat<4294967296:=by rw[my];omega
 have hx:(x >>> 32).toNat<4294967296:=by rw[sx];omega
 have hy:(y >>> 32).toNat<4294967296:=by rw[sy];omega
 obtain⟨p00,q00⟩:=YO lx ly;obtain⟨Qz,Z9⟩:=YO hx ly;obtain⟨p01,q01⟩:=YO lx hy;obtain⟨p11,Z8⟩:=YO hx hy;have key:=words ((x &&& (4294967295:BitVec 64)).toNat*(y &&& (4294967295:BitVec 64)).toNat) ((x >>> 32).toNat*(y &&& (4294967295:BitVec 64)).toNat) ((x &&& (4294967295:BitVec 64)).toNat*(y >>> 32).toNat) ((x >>> 32).toNat*(y >>> 32).toNat);have tot:=split_mul x.toNat y.toNat;rw[←mx,←my,←sx,←sy]at tot;rw[←tot,←p00,←Qz,←p01,←p11]at key;rw[←p00]at q00;rw[←Qz]at Z9;rw[←p01]at q01;rw[←p11]at Z8;generalize (x &&& (4294967295:BitVec 64))*(y &&& (4294967295:BitVec 64))=QM at *;generalize (x >>> 32)*(y &&& (4294967295:BitVec 64))=V7 at *;generalize (x &&& (4294967295:BitVec 64))*(y >>> 32)=a01 at *;generalize (x >>> 32)*(y >>> 32)=a11 at *;have s0:=shr QM;have d1:(V7+QM >>> 32).toNat=V7.toNat+QM.toNat/4294967296:=by rw[WW (by rw[s0];omega),s0]
 have d2:=shr (V7+QM >>> 32);have d3:=msk (V7+QM >>> 32);have d4:(a01+(V7+QM >>> 32 &&& (4294967295:BitVec 64))).toNat=a01.toNat+(V7.toNat+QM.toNat/4294967296)%4294967296:=by rw[WW (by rw[d3];omega),d3,d1]
 have d5:=shr (a01+(V7+QM >>> 32 &&& (4294967295:BitVec 64)));have d6:=msk QM;have xy:x.toNat*y.toNat<18446744073709551616*18446744073709551616:=Nat.mul_lt_mul'' bx Ag;constructor;rw[por (by rw[d6];omega),d4,d6]
 have e1:(a11+(V7+QM >>> 32) >>> 32).toNat=a11.toNat+(V7.toNat+QM.toNat/4294967296)/4294967296:=by
  rw[WW (by rw[d2,d1];omega),d2,d1]
 rw[WW (by rw[e1,d5,d4];omega),e1,d5,d4];exact key
theorem aaT{a b:Int}(ha:-9007199254740992≤a∧a≤9007199254740992)(hb:-9007199254740992≤b∧b≤9007199254740992):M8 a b=some (adQ a b):=by
 unfold M8 CK JA;rw[ahw ha,ahw hb];simp only[ak];have W:=aak (BitVec.ofNat 64 a.natAbs) (BitVec.ofNat 64 b.natAbs);generalize ((((BitVec.ofNat 64 a.natAbs) >>> 32)*((BitVec.ofNat 64 b.natAbs) >>> 32)+((((BitVec.ofNat 64 a.natAbs) >>> 32)*((BitVec.ofNat 64 b.natAbs) &&& (4294967295:BitVec 64))+((((BitVec.ofNat 64 a.natAbs) &&& (4294967295:BitVec 64))*((BitVec.ofNat 64 b.natAbs) &&& (4294967295:BitVec 64))) >>> 32)) >>> 32))+((((BitVec.ofNat 64 a.natAbs) &&& (4294967295:BitVec 64))*((BitVec.ofNat 64 b.natAbs) >>> 32)+((((BitVec.ofNat 64 a.natAbs) >>> 32)*((BitVec.ofNat 64 b.natAbs) &&& (4294967295:BitVec 64))+((((BitVec.ofNat 64 a.natAbs) &&& (4294967295:BitVec 64))*((BitVec.ofNat 64 b.natAbs) &&& (4294967295:BitVec 64))) >>> 32)) &&& (4294967295:BitVec 64))) >>> 32))=hi at *;generalize (((((BitVec.ofNat 64 a.natAbs) &&& (4294967295:BitVec 64))*((BitVec.ofNat 64 b.natAbs) >>> 32)+((((BitVec.ofNat 64 a.natAbs) >>> 32)*((BitVec.ofNat 64 b.natAbs) &&& (4294967295:BitVec 64))+((((BitVec.ofNat 64 a.natAbs) &&& (4294967295:BitVec 64))*((BitVec.ofNat 64 b.natAbs) &&& (4294967295:BitVec 64))) >>> 32)) &&& (4294967295:BitVec 64))) <<< 32) ||| ((((BitVec.ofNat 64 a.natAbs) &&& (4294967295:BitVec 64))*((BitVec.ofNat 64 b.natAbs) &&& (4294967295:BitVec 64))) &&& (4294967295:BitVec 64)))=lo at *;have hw:=W.eq;rw[asi,asi,ar2 (by omega),ar2 (by omega)]at hw;have hlo:=lo.isLt
 have hz:decide (([(hi.toNat:Int),(lo.toNat:Int)]:List Int)=([0,0]:List Int))=decide (hi.toNat=0∧lo.toNat=0):=by
  congr 1;simp only[arS,and_true,Int.natCast_eq_zero]
 have key:=R6 ha hb (hi:=hi.toNat) (lo:=lo.toNat) hlo hw rfl;rw[key];unfold sG;simp only[List.getD_cons_zero,asN];rw[hz];generalize (!((decide (a<0))==(decide (b<0)))&&!decide (hi.toNat=0∧lo.toNat=0))=neg;by_cases h1:hi.toNat=0
 ·rw[aqH (c:=((hi.toNat:Int) !=0)=true) (by simp[h1]),aqH (c:=hi.toNat≠0) (by simp[h1])];cases neg with
  | true=>
   simp only[arQ,arf,arV,aqS,aqT,aqV];by_cases h2:lo.toNat≤9223372036854775808
   ·rw[aqJ (by simp;omega),aqJ h2,aC,aqJ rfl];congr 1;rw[BitVec.toNat_neg];unfold bq IntKind.wrap;simp[IntKind.bits,IntKind.signed];omega
   ·rw[aqH (by simp;omega),aqH h2,aC,aqH (by simp)];rfl
  | false=>
   simp only[arV,arz,arQ,aqS,aqT];by_cases h2:lo.toNat≤9223372036854775807
   ·rw[aqJ (by simp;omega),aqJ h2,aC,aqJ rfl,rY (by omega)]
   ·rw[aqH (by simp;omega),aqH h2,aC,aqH (by simp)];rfl
 ·rw[aqJ (by simp;omega),aqJ h1,aC,aqH (by simp)];cases neg<;>rfl
theorem af_(x:BitVec 64):(x%(4294967296:BitVec 64)).toNat=x.toNat%4294967296:=by
 rw[BitVec.toNat_umod];rfl
theorem agp(x:BitVec 64):(x/(4294967296:BitVec 64)).toNat=x.toNat/4294967296:=by
 rw[BitVec.toNat_udiv];rfl
theorem aoF{x y:BitVec 64}(hx:x.toNat<4294967296)(hy:y.toNat<4294967296):(x*(4294967296:BitVec 64)+y).toNat=x.toNat*4294967296+y.toNat:=by
 have e:(x*(4294967296:BitVec 64)).toNat=x.toNat*4294967296:=by
  rw[BitVec.toNat_mul,show ((4294967296:BitVec 64)).toNat=4294967296 from rfl,ar2 (by omega)]
 rw[WW (by rw[e];omega),e]
theorem adb(x y:BitVec 64):Words x y (((x/(4294967296:BitVec 64))*(y/(4294967296:BitVec 64))+(((x/(4294967296:BitVec 64))*(y%(4294967296:BitVec 64)))+(((x%(4294967296:BitVec 64))*(y%(4294967296:BitVec 64)))/(4294967296:BitVec 64)))/(4294967296:BitVec 64))+((((x%(4294967296:BitVec 64))*(y/(4294967296:BitVec 64)))+((((x/(4294967296:BitVec 64))*(y%(4294967296:BitVec 64)))+(((x%(4294967296:BitVec 64))*(y%(4294967296:BitVec 64)))/(4294967296:BitVec 64)))%(4294967296:BitVec 64)))/(4294967296:BitVec 64)))
  (((((x%(4294967296:BitVec 64))*(y/(4294967296:BitVec 64)))+((((x/(4294967296:BitVec 64))*(y%(4294967296:BitVec 64)))+(((x%(4294967296:BitVec 64))*(y%(4294967296:BitVec 64)))/(4294967296:BitVec 64)))%(4294967296:BitVec 64)))%(4294967296:BitVec 64))*(4294967296:BitVec 64)+(((x%(4294967296:BitVec 64))*(y%(4294967296:BitVec 64)))%(4294967296:BitVec 64))):=by
 have mx:=af_ x;have my:=af_ y;have sx:=agp x;have sy:=agp y;have bx:=x.isLt;have Ag:=y.isLt;have lx:(x%(4294967296:BitVec 64)).toNat<4294967296:=by rw[mx];omega
 have ly:(y%(4294967296:BitVec 64)).toNat<4294967296:=by rw[my];omega
 have hx:(x/(4294967296:BitVec 64)).toNat<4294967296:=by rw[sx];omega
 have hy:(y/(4294967296:BitVec 64)).toNat<4294967296:=by rw[sy];omega
 obtain⟨p00,q00⟩:=YO lx ly;obtain⟨Qz,Z9⟩:=YO hx ly;obtain⟨p01,q01⟩:=YO lx hy;obtain⟨p11,Z8⟩:=YO hx hy;have key:=words ((x%(4294967296:BitVec 64)).toNat*(y%(4294967296:BitVec 64)).toNat) ((x/(4294967296:BitVec 64)).toNat*(y%(4294967296:BitVec 64)).toNat) ((x%(4294967296:BitVec 64)).toNat*(y/(4294967296:BitVec 64)).toNat) ((x/(4294967296:BitVec 64)).toNat*(y/(4294967296:BitVec 64)).toNat);have tot:=split_mul x.toNat y.toNat;rw[←mx,←my,←sx,←sy]at tot;rw[←tot,←p00,←Qz,←p01,←p11]at key;rw[←p00]at q00;rw[←Qz]at Z9;rw[←p01]at q01;rw[←p11]at Z8;generalize (x%(4294967296:BitVec 64))*(y%(4294967296:BitVec 64))=QM at *;generalize (x/(4294967296:BitVec 64))*(y%(4294967296:BitVec 64))=V7 at *;generalize (x%(4294967296:BitVec 64))*(y/(4294967296:BitVec 64))=a01 at *;generalize (x/(4294967296:BitVec 64))*(y/(4294967296:BitVec 64))=a11 at *;have s0:=agp QM;have d1:(V7+QM/(4294967296:BitVec 64)).toNat=V7.toNat+QM.toNat/4294967296:=by rw[WW (by rw[s0];omega),s0]
 have d2:=agp (V7+QM/(4294967296:BitVec 64));have d3:=af_ (V7+QM/(4294967296:BitVec 64));have d4:(a01+(V7+QM/(4294967296:BitVec 64))%(4294967296:BitVec 64)).toNat=a01.toNat+(V7.toNat+QM.toNat/4294967296)%4294967296:=by rw[WW (by rw[d3];omega),d3,d1]
 have d5:=agp (a01+(V7+QM/(4294967296:BitVec 64))%(4294967296:BitVec 64));have d6:=af_ QM;have d7:=af_ (a01+(V7+QM/(4294967296:BitVec 64))%(4294967296:BitVec 64));have xy:x.toNat*y.toNat<18446744073709551616*18446744073709551616:=Nat.mul_lt_mul'' bx Ag;constructor;rw[aoF (by rw[d7];omega) (by rw[d6];omega),d7,d4,d6]
 have e1:(a11+(V7+QM/(4294967296:BitVec 64))/(4294967296:BitVec 64)).toNat=a11.toNat+(V7.toNat+QM.toNat/4294967296)/4294967296:=by
  rw[WW (by rw[d2,d1];omega),d2,d1]
 rw[WW (by rw[e1,d5,d4];omega),e1,d5,d4];exact key
theorem YN{a b:Int}{x y:BitVec 64}(hx:BJ a=some x)(hy:BJ b=some y):∃hi lo:BitVec 64,Words x y hi lo∧BK a b=some (bD.mk ((!((decide (a<0))==(decide (b<0))))&&(((hi.toNat:Int) !=0)||((lo.toNat:Int) !=0))) hi lo):=by
 refine⟨_,_,adb x y,?_⟩;unfold BK;rw[hx,hy];rfl
theorem aaH{a b:Int}(ha:-9007199254740992≤a∧a≤9007199254740992)(hb:-9007199254740992≤b∧b≤9007199254740992):M0 a b=some (adQ a b):=by
 unfold M0;obtain⟨hi,lo,W,hp⟩:=YN (acV ha) (acV hb);rw[hp,ak];clear hp;have hw:=W.eq;rw[asi,asi,ar2 (by omega),ar2 (by omega)]at hw;have hlo:=lo.isLt
 have hz:(((hi.toNat:Int) !=0)||((lo.toNat:Int) !=0))=!decide (hi.toNat=0∧lo.toNat=0):=by
  rw[arR];simp only[ars,arA,arH,aru];omega
 have key:=R6 ha hb (hi:=hi.toNat) (lo:=lo.toNat) hlo hw rfl;rw[key,hz];unfold Hy;simp only;generalize (!((decide (a<0))==(decide (b<0)))&&!decide (hi.toNat=0∧lo.toNat=0))=neg;by_cases h1:hi.toNat=0
 ·rw[aqH (c:=hi.toNat≠0) (by simp[h1])];cases neg with
  | true=>
   simp only[aqV,arf,asO,asD];by_cases h2:lo.toNat≤9223372036854775808
   ·rw[aqH (by simp[h1];omega),aqJ h2];by_cases h3:lo.toNat=9223372036854775808
    ·rw[aqJ (by simp;omega),aC,aqJ rfl];congr 1;omega
    ·rw[aqH (by simp;omega),aC,aqJ rfl,rY (n:=(lo.toNat:Int)) (by omega),rY (by omega)];congr 1;omega
   ·rw[aqJ (by simp;omega),aqH h2,aC,aqH (by simp)]
  | false=>
   simp only[aqS,aqT,arz,asC];by_cases h2:lo.toNat≤9223372036854775807
   ·rw[aqH (by simp[h1];omega),aqJ h2,aqH (by simp;omega),aC,aqJ rfl,rY (by omega)]
   ·rw[aqJ (by simp;omega),aqH h2,aC,aqH (by simp)]
 ·rw[aqJ (by simp;omega),aqJ h1,aC,aqH (by simp)];cases neg<;>rfl
end Go.Ft
namespace Go.Ft
open Go
attribute [local congr] gq
def Um(a b:ah)(r:Bool):ah × Int:=if (a.kind=2∧b.kind=2)∨(a.kind=3∧b.kind=3)then okV (Vu r)else wm 9
def aax(a b:ah):ah × Int:=
 if a.kind=2∧b.kind=2 then JL (a.cu+b.cu)else if a.kind=3∧b.kind=3 then (if a.bJ.length+b.bJ.length≤4096 then okV (mkS (a.bJ++b.bJ))else wm 3)
 else if a.kind=4∧b.kind=4 then (if a.aP.length+b.aP.length≤1024 then okV (FV (a.aP++b.aP))else wm 3)else wm 9
def abv(op:Str)(a b:ah):ah × Int:=
 if a.kind=2∧b.kind=2 then (if op=[45]then JL (a.cu-b.cu)else if op=[42]then JL (adQ a.cu b.cu)else if b.cu=0 then wm 12 else if op=[47]then JL (a.cu.tdiv b.cu)else okV (Xb (a.cu.tmod b.cu)))else wm 9
def ZG(op:Str)(a b:ah):ah × Int:=
 if op=[61,61]then okV (Vu (sS a b==0))else if op=[33,61]then okV (Vu (!(sS a b==0)))
 else if op=[60]then Um a b (decide (sS a b<0))else if op=[60,61]then Um a b (decide (sS a b≤0))else if op=[62]then Um a b (decide (0<sS a b))else if op=[62,61]then Um a b (decide (0≤sS a b))
 else if op=[43]then aax a b else abv op a b
theorem Fq(a b:ah)(k:Int):pV a b k=some (decide (a.kind=k∧b.kind=k)):=by
 unfold pV;congr 1;rw[arR];simp
theorem aaM{a b:ah}(ha:a.bulk<4611686018427387904)(hb:b.bulk<4611686018427387904):nO a b=some (if (a.kind=2∧b.kind=2)∨(a.kind=3∧b.kind=3)then .ok (sS a b)else .bad ⟨9⟩):=by
 unfold nO;rw[Fq,Fq,ak,agU,ak,jO];by_cases h:(a.kind=2∧b.kind=2)∨(a.kind=3∧b.kind=3)
 ·rw[aqJ h,aqJ (by simpa using h),jo,(Mi ha hb).1];rfl
 ·rw[aqH h,aqH (by simpa using h)];rfl
theorem tdiv_le{a b:Int}{N:Nat}(h:a.natAbs≤N):(a.tdiv b).natAbs≤N:=by
 rw[Int.natAbs_tdiv];exact asI (Nat.div_le_self _ _) h
theorem ab1{a b:Int}{N:Nat}(h:a.natAbs≤N):(a.tmod b).natAbs≤N:=by
 rw[Int.natAbs_tmod];exact asI (Nat.mod_le _ _) h
theorem afO{a b:ah}(ha:VV a)(hb:VV b):GH a b=some (AU (aax a b)):=by
 have la:=iR ha.1;have lb:=iR hb.1;have hL:rM=4294967296:=rfl;unfold GH aax;rw[Fq,Fq,Fq];simp only[ak,aqW];by_cases h2:a.kind=2∧b.kind=2
 ·rw[aqJ h2,aqJ h2,rY (by omega),Km];generalize JL (a.cu+b.cu)=p;unfold AU;split<;>rfl
 ·rw[aqH h2,aqH h2];by_cases h3:a.kind=3∧b.kind=3
  ·rw[aqJ h3,aqJ h3,rY (by omega),jO];by_cases hc:a.bJ.length+b.bJ.length≤4096
   ·rw[aqJ hc,aqJ (by simp;omega),jo,mO (by omega),ak];rfl
   ·rw[aqH hc,aqH (by simp;omega)];rfl
  ·rw[aqH h3,aqH h3,jO];by_cases h4:a.kind=4∧b.kind=4
   ·rw[aqJ h4,aqJ (by simpa using h4),jo,rY (by omega),jO];by_cases hc:a.aP.length+b.aP.length≤1024
    ·rw[aqJ hc,aqJ (by simp;omega),jo,mO (by simp;omega),ak,mO (by simp;omega),ak];rfl
    ·rw[aqH hc,aqH (by simp;omega)];rfl
   ·rw[aqH h4,aqH (by simpa using h4)];rfl
theorem abn{b:Int}(h:b≠0):VW (!(b==0))=some ():=bf (by simpa using h)
theorem ahE{op:Str}{a b:ah}(ha:VV a)(hb:VV b):pW op a b=some (AU (abv op a b)):=by
 have la:=iR ha.1;have lb:=iR hb.1;unfold pW abv;rw[Fq,ak,jO];by_cases h2:a.kind=2∧b.kind=2
 ·rw[aqJ (by simpa using h2),aqJ h2,jo];by_cases o1:op=[45]
  ·rw[aqJ (by simpa using o1),aqJ o1,rY (by omega),Km];generalize JL (a.cu-b.cu)=p;unfold AU;split<;>rfl
  ·rw[aqH (by simpa using o1),aqH o1];by_cases o2:op=[42]
   ·rw[aqJ (by simpa using o2),aqJ o2,aaT ⟨la.2.2.2.1,la.2.2.2.2⟩ ⟨lb.2.2.2.1,lb.2.2.2.2⟩,ak,Km];generalize JL (adQ a.cu b.cu)=p;unfold AU;split<;>rfl
   ·rw[aqH (by simpa using o2),aqH o2,jO];by_cases hz:b.cu=0
    ·rw[aqH (by simp[hz]),aqJ hz];rfl
    ·rw[aqJ (by simpa using hz),aqH hz,jo,abn hz,ak,ak];have hd:=tdiv_le (a:=a.cu) (b:=b.cu) (N:=9007199254740992) (by omega);by_cases o3:op=[47]
     ·rw[aqJ (by simpa using o3),aqJ o3,rY (by omega),Km];generalize JL (a.cu.tdiv b.cu)=p;unfold AU;split<;>rfl
     ·rw[aqH (by simpa using o3),aqH o3];rfl
 ·rw[aqH (by simpa using h2),aqH h2];rfl
theorem ZF{op:Str}{a b:ah}(ha:VV a)(hb:VV b)(ba:a.bulk<4611686018427387904)(bb:b.bulk<4611686018427387904):
  (if op==([61,61]:Str)then av (mY a b) fun x7=>av (fC x7) fun x8=>some (.ok x8)
  else if op==([33,61]:Str)then av (mY a b) fun x9=>av (fC (!x9)) fun G8=>some (.ok G8)
  else if op==([60]:Str)then dR (nO a b) (fun e10=>some (.bad e10)) fun NP=>av (fC (decide (NP<0))) fun U3=>some (.ok U3)
  else if op==([60,61]:Str)then dR (nO a b) (fun e11=>some (.bad e11)) fun Ua=>av (fC (decide (Ua≤0))) fun Z7=>some (.ok Z7)
  else if op==([62]:Str)then dR (nO a b) (fun e12=>some (.bad e12)) fun x15=>av (fC (decide (0<x15))) fun Z6=>some (.ok Z6)
  else if op==([62,61]:Str)then dR (nO a b) (fun e13=>some (.bad e13)) fun x17=>av (fC (decide (0≤x17))) fun x18=>some (.ok x18)
  else if op==([43]:Str)then dR (GH a b) (fun e14=>some (.bad e14)) fun x19=>some (.ok x19)
  else dR (pW op a b) (fun e15=>some (.bad e15)) fun x20=>some (.ok x20))=some (AU (ZG op a b)):=by
 unfold ZG;rw[(Kl ba bb).1,aaM ba bb,afO ha hb,ahE ha hb]
 have rel:∀r:Int→Bool,(dR (some (if (a.kind=2∧b.kind=2)∨(a.kind=3∧b.kind=3)then (.ok (sS a b):fE aG Int)else .bad ⟨9⟩)) (fun e10=>some (.bad e10)) fun NP=>av (fC (r NP)) fun U3=>some (.ok U3))=some (AU (Um a b (r (sS a b)))):=by
  intro r;unfold Um;by_cases h:(a.kind=2∧b.kind=2)∨(a.kind=3∧b.kind=3)
  ·rw[aqJ h,aqJ h];rfl
  ·rw[aqH h,aqH h];rfl
 rw[rel fun x=>decide (x<0),rel fun x=>decide (x≤0),rel fun x=>decide (0<x),rel fun x=>decide (0≤x)]
 have ret:∀p:ah × Int,(dR (some (AU p)) (fun e=>some (.bad e)) fun x=>some (.ok x))=some (AU p):=by
  intro p;unfold AU;split<;>rfl
 rw[ret,ret];simp only[aq7,ak,fC]
 repeat' split
 all_goals rfl
theorem ajW{l m:List ah}(hl:∀x∈l,xF x<16)(hm:∀x∈m,xF x<16):xF (FV (l++m))≤16:=by
 have e:xF (FV (l++m))=Em (l++m) 2:=by rw[uY];rfl
 rw[e,Ba];refine⟨by omega,fun x hx=>?_⟩;rcases asl.1 hx with h|h
 ·have:=hl x h;omega
 ·have:=hm x h;omega
theorem Xe{a:ah}(ha:VV a)(h4:a.kind=4):∀x∈a.aP,xF x<16:=by
 intro x hx;have h2:=ha.2;rw[uY,aqJ (by simp[h4])]at h2;have:=Y4 (n:=2) hx;omega
theorem YD(s:Str):WI (mkS s)=if s.length≤4096 then okV (mkS s)else wm 3:=by
 unfold WI;have e1:(mkS s).cu=0:=rfl;have e2:(mkS s).bJ=s:=rfl;have e3:(mkS s).aP.length=0:=rfl;have e4:xF (mkS s)=1:=by rw[uY];rfl
 rw[e1,e2,e3,e4,aqH (by omega)];by_cases h:s.length≤4096
 ·rw[aqJ h,aqH (by omega),aqH (by omega)]
 ·rw[aqH h,aqJ (by omega)]
theorem Vn{l:List ah}(hl:xF (FV l)≤16):WI (FV l)=if l.length≤1024 then okV (FV l)else wm 3:=by
 unfold WI;have e1:(FV l).cu=0:=rfl;have e2:(FV l).bJ.length=0:=rfl;have e3:(FV l).aP=l:=rfl;rw[e1,e2,e3,aqH (by omega)];by_cases h:l.length≤1024
 ·rw[aqJ h,aqH (by omega),aqH (by omega)]
 ·rw[aqH h,aqJ (by omega)]
theorem ajn{a b:ah}(ha:VV a)(hb:VV b):GV (aax a b) (a.bulk+b.bulk+8000):=by
 have la:=iR ha.1;have lb:=iR hb.1;unfold aax;split
 ·exact(QF _).mono (by omega)
 ·split
  ·split
   ·exact GV.ok (Ov (by simp;omega)) (by rw[zG];simp;omega)
   ·exact GV.er (by decide)
  ·split
   ·rename_i h4;split
    ·rename_i hc;refine GV.ok ((Xa (by simpa using hc) fun x hx=>?_).2.2 fun x hx=>?_) ?_
     ·rcases asl.1 hx with h|h
      ·exact ha.mem h
      ·exact hb.mem h
     ·rcases asl.1 hx with h|h
      ·exact Xe ha h4.1 x h
      ·exact Xe hb h4.2 x h
     ·rw[Eh,asv,asH];have e1:=qA a;have e2:=qA b;rw[ah.nR]at e1 e2;omega
    ·exact GV.er (by decide)
   ·exact GV.er (by decide)
theorem akv{op:Str}{a b:ah}(ha:VV a)(hb:VV b):GV (abv op a b) 7:=by
 have la:=iR ha.1;unfold abv;split
 ·split
  ·exact QF _
  ·split
   ·exact QF _
   ·split
    ·exact GV.er (by decide)
    ·split
     ·exact QF _
     ·have hd:=ab1 (a:=a.cu) (b:=b.cu) (N:=9007199254740992) (by omega);exact GV.ok (R7 (by omega)) (by rw[Ei];omega)
 ·exact GV.er (by decide)
theorem Qv(a b:ah)(r:Bool):GV (Um a b r) 7:=by
 unfold Um;split
 ·exact GV.ok (H9 _) (by rw[zH];omega)
 ·exact GV.er (by decide)
theorem akt{op:Str}{a b:ah}(ha:VV a)(hb:VV b):GV (ZG op a b) (a.bulk+b.bulk+8000):=by
 unfold ZG;split
 ·exact GV.ok (H9 _) (by rw[zH];omega)
 ·split
  ·exact GV.ok (H9 _) (by rw[zH];omega)
  ·split
   ·exact(Qv _ _ _).mono (by omega)
   ·split
    ·exact(Qv _ _ _).mono (by omega)
    ·split
     ·exact(Qv _ _ _).mono (by omega)
     ·split
      ·exact(Qv _ _ _).mono (by omega)
      ·split
       ·exact ajn ha hb
       ·exact(akv ha hb).mono (by omega)
theorem ake(x y:Int):decide (qG x y<0)=decide (x<y)∧decide (qG x y≤0)=!decide (y<x)∧decide (0<qG x y)=decide (y<x)∧decide (0≤qG x y)=!decide (x<y):=by
 unfold qG wU;by_cases h1:x<y
 ·have:¬y<x:=by omega
  simp[h1,this]
 ·by_cases h2:y<x<;>simp[h1,h2]
theorem akd(x y:Str):decide (EB x y<0)=Go.Op.bytesLess x y∧decide (EB x y≤0)=!(!(Go.Op.bytesLess x y||x==y))∧decide (0<EB x y)=(!(Go.Op.bytesLess x y||x==y))∧decide (0≤EB x y)=!Go.Op.bytesLess x y:=by
 unfold EB wU;cases h1:Go.Op.bytesLess x y<;>cases h2:(x==y)<;>simp
def af2(op:Str)(c:Int):Bool:=if op=[60]then decide (c<0)else if op=[60,61]then decide (c≤0)else if op=[62]then decide (0<c)else decide (0≤c)
theorem abr{op:Str}(x y:Int):uL op (decide (x<y)) (decide (y<x))=some (okV (Vu (af2 op (qG x y)))):=by
 obtain⟨h1,h2,h3,h4⟩:=ake x y;unfold uL af2 jd;rw[h1,h2,h3,h4];simp only[aq7,ak]
 repeat' split
 all_goals rfl
theorem abq{op:Str}(x y:Str):uL op (Go.Op.bytesLess x y) (!(Go.Op.bytesLess x y||x==y))=some (okV (Vu (af2 op (EB x y)))):=by
 obtain⟨h1,h2,h3,h4⟩:=akd x y;unfold uL af2 jd;rw[h1,h2,h3,h4];simp only[aq7,ak]
 repeat' split
 all_goals rfl
theorem afp{a b:ah}(h:a.kind=2∧b.kind=2):sS a b=qG a.cu b.cu:=by
 rw[Qp,h.1,h.2];rfl
theorem afo{a b:ah}(h:a.kind=3∧b.kind=3):sS a b=EB a.bJ b.bJ:=by
 rw[Qp,h.1,h.2];rfl
theorem ajt{op:Str}{a b:ah}(h4:fG op=some 4)(he:((op==([61,61]:Str))||(op==([33,61]:Str)))=false)(hp:(op==([43]:Str))=false):nN op a b=some (Um a b (af2 op (sS a b))):=by
 unfold nN Um;rw[aqH (by rw[he];simp),Bt,h4];simp only[ak,hp,asO,aqS,aqT,arO,asC];by_cases hk:a.kind=b.kind
 ·rw[aqH (by simpa using hk)];by_cases h2:a.kind=2
  ·rw[aqJ (by simpa using h2),aqJ (.inl ⟨h2,by omega⟩),afp ⟨h2,by omega⟩,abr]
  ·rw[aqH (by simpa using h2),aqH (by simpa using h2)];by_cases h3:a.kind=3
   ·rw[aqJ (by simpa using h3),aqJ (.inr ⟨h3,by omega⟩),afo ⟨h3,by omega⟩,abq]
   ·rw[aqH (by simpa using h3),aqH (by omega)];rfl
 ·rw[aqJ (by simpa using hk),aqH (by omega)];rfl
theorem ajz{op:Str}{a b:ah}(ha:VV a)(hb:VV b){n:Int}(h4:fG op=some n)(hn:(n==4)=false)(he:((op==([61,61]:Str))||(op==([33,61]:Str)))=false)(hp:(op==([43]:Str))=false)(ho:op=[45]∨op=[42]∨op=[47]∨op=[37]):nN op a b=some (abv op a b):=by
 have la:=iR ha.1;have lb:=iR hb.1;unfold nN abv;rw[aqH (by rw[he];simp),Bt,h4];simp only[ak,hp,hn,asO,aqS,aqT];by_cases hk:a.kind=b.kind
 ·rw[aqH (by simpa using hk)];by_cases h2:a.kind=2
  ·rw[aqJ (by simpa using h2),aqJ ⟨h2,by omega⟩];have mb:∀n:Int,(ah.mk 2 false n ([]:Str) [] [])=Xb n:=fun n=>rfl;have rs:∀n:Int,jB (Xb n)=some (JL n):=fun n=>by rw[Am (by rw[Ei];omega),YE]
   unfold Jo;rw[hp];simp only[mb,rs,aqS,aqT];have hd:=tdiv_le (a:=a.cu) (b:=b.cu) (N:=9007199254740992) (by omega);have hm:=ab1 (a:=a.cu) (b:=b.cu) (N:=9007199254740992) (by omega);have hi:JL (a.cu.tmod b.cu)=okV (Xb (a.cu.tmod b.cu)):=by unfold JL;rw[aqJ (by omega)]
   rw[rY (n:=a.cu-b.cu) (by omega),rY (n:=a.cu.tdiv b.cu) (by omega),aaH ⟨la.2.2.2.1,la.2.2.2.2⟩ ⟨lb.2.2.2.1,lb.2.2.2.2⟩,ak,hi];rcases ho with rfl|rfl|rfl|rfl
   ·rfl
   ·rfl
   ·by_cases hz:b.cu=0
    ·rw[aqH (by decide),aqH (by decide),aqJ (by simpa using hz),aqH (by decide),aqH (by decide),aqJ hz];rfl
    ·rw[aqH (by decide),aqH (by decide),aqH (by simpa using hz),aqH (by decide),aqH (by decide),aqH hz,abn hz,ak];rfl
   ·by_cases hz:b.cu=0
    ·rw[aqH (by decide),aqH (by decide),aqJ (by simpa using hz),aqH (by decide),aqH (by decide),aqJ hz];rfl
    ·rw[aqH (by decide),aqH (by decide),aqH (by simpa using hz),abn hz,ak,aqJ (by rfl),ak,aqH (by decide),aqH (by decide),aqH hz];rfl
  ·rw[aqH (by simpa using h2),aqH (by omega)];rfl
 ·rw[aqJ (by simpa using hk),aqH (by omega)];rfl
theorem aqp{a b:ah}(ha:VV a)(hb:VV b)(ba:a.bulk<1152921504606846976)(bb:b.bulk<1152921504606846976):nN [43] a b=some (aax a b):=by
 have la:=iR ha.1;have lb:=iR hb.1;have hL:rM=4294967296:=rfl;unfold nN aax;rw[aqH (by decide),Bt,show fG [43]=some 5 from rfl];have e5:((5:Int)==4)=false:=rfl;simp only[ak,e5,asO,aqS,aqT,arO,asC];by_cases hk:a.kind=b.kind
 ·rw[aqH (by simpa using hk)];by_cases h2:a.kind=2
  ·rw[aqJ (c:=(a.kind==2)=true) (by simpa using h2),aqJ (c:=a.kind=2∧b.kind=2) ⟨h2,by omega⟩,Jo,aqJ (by rfl),rY (by omega)];exact(Am (v:=Xb (a.cu+b.cu)) (by rw[Ei];omega)).trans (by rw[YE])
  ·rw[aqH (c:=(a.kind==2)=true) (by simpa using h2),aqH (c:=a.kind=2∧b.kind=2) (fun h=>h2 h.1)];by_cases h3:a.kind=3
   ·rw[aqJ (c:=(a.kind==3)=true) (by simpa using h3),aqJ (c:=a.kind=3∧b.kind=3) ⟨h3,by omega⟩,mO (by omega),ak,nX,ak];refine(Am (v:=mkS (a.bJ++b.bJ)) (by rw[zG];simp;omega)).trans ?_;rw[YD,asj]
   ·rw[aqH (c:=(a.kind==3)=true) (by simpa using h3),aqH (c:=a.kind=3∧b.kind=3) (fun h=>h3 h.1)];by_cases h4:a.kind=4
    ·rw[aqJ (c:=(a.kind==4)=true) (by simpa using h4),aqJ (c:=a.kind=4∧b.kind=4) ⟨h4,by omega⟩,mO (by simp;omega),ak,mO (by simp;omega),ak,asw];have e1:=qA a;have e2:=qA b;rw[ah.nR]at e1 e2;refine(Am (v:=FV (a.aP++b.aP)) (by rw[Eh,asv,asH];omega)).trans ?_;rw[Vn (ajW (Xe ha h4) (Xe hb (by omega))),asj]
    ·rw[aqH (c:=(a.kind==4)=true) (by simpa using h4),aqH (c:=a.kind=4∧b.kind=4) (fun h=>h4 h.1)];rfl
 ·rw[aqJ (by simpa using hk),aqH (by omega),aqH (by omega),aqH (by omega)];rfl
theorem WM{op:Str}{a b:ah}(ha:VV a)(hb:VV b)(ba:a.bulk<1152921504606846976)(bb:b.bulk<1152921504606846976)(hop:op∈opsL)(h1:op≠[38,38])(h2:op≠[124,124]):nN op a b=some (ZG op a b):=by
 simp only[opsL,arB,List.not_mem_nil,or_false]at hop;rcases hop with rfl|rfl|rfl|rfl|rfl|rfl|rfl|rfl|rfl|rfl|rfl|rfl|rfl
 ·exact absurd rfl h1
 ·exact absurd rfl h2
 ·unfold nN;rw[aqJ (by rfl),(Kl (by omega) (by omega)).2,ak,jd];simp only[ak];unfold ZG
  first|rw[aqJ rfl]|rw[aqH (by decide),aqJ rfl]
  cases sS a b==0<;>rfl
 ·unfold nN;rw[aqJ (by rfl),(Kl (by omega) (by omega)).2,ak,jd];simp only[ak];unfold ZG
  first|rw[aqJ rfl]|rw[aqH (by decide),aqJ rfl]
  cases sS a b==0<;>rfl
 ·rw[ajt rfl rfl rfl];rfl
 ·rw[ajt rfl rfl rfl];rfl
 ·rw[ajt rfl rfl rfl];rfl
 ·rw[ajt rfl rfl rfl];rfl
 ·rw[ajz ha hb rfl rfl rfl rfl (by simp)];rfl
 ·rw[ajz ha hb rfl rfl rfl rfl (by simp)];rfl
 ·rw[ajz ha hb rfl rfl rfl rfl (by simp)];rfl
 ·rw[ajz ha hb rfl rfl rfl rfl (by simp)];rfl
 ·rw[aqp ha hb ba bb];rfl
end Go.Ft
namespace Go.Ft
open Go
attribute [local congr] gq
def Ws(a:ah):Str:=if a.kind=0 then []else if a.kind=3 then a.bJ else if a.kind=1 then (if a.dD then [116,114,117,101]else [102,97,108,115,101])else u6 a.cu
def agB(s:Str):ah × Int:=match xU s with|some (n,true)=>okV (Xb n)|_=>wm 1
def aaP(name:Str)(a:ah):ah × Int:=
 if name=[108,101,110]then (if a.kind=3∨a.kind=4∨a.kind=5 then okV (Xb ((a.bJ.length:Int)+a.aP.length))else wm 9)
 else if name=[107,101,121,115]then (if a.kind=5 then okV (FV (a.keys.map mkS))else wm 9)
 else if name=[115,116,114,105,110,103]then (if a.kind=4∨a.kind=5 then wm 9 else okV (mkS (Ws a)))
 else if a.kind≠3 then wm 9
 else if name=[108,111,119,101,114]then okV (mkS (a.bJ.map (Us 65 90 32)))else if name=[117,112,112,101,114]then okV (mkS (a.bJ.map (Us 97 122 (-32))))else agB a.bJ
theorem Y9{n:Int}(h:-9007199254740992≤n∧n≤9007199254740992):(u6 n).length≤21:=by
 unfold u6;split
 ·have:=J2 20 n.natAbs (by have:(10:Nat) ^ 20=100000000000000000000:=(by decide);omega) (by omega);simp only[aq2];omega
 ·have:=J2 20 n.toNat (by have:(10:Nat) ^ 20=100000000000000000000:=(by decide);omega) (by omega);omega
theorem QK{u:Nat}(h:u<10):Ft.byteOf ((48+u:Nat):Int)=dg u:=by
 apply arD.1;have:((byteOf ((48+u:Nat):Int)).toNat:Int)=((48+u:Nat):Int):=OX (by omega) (by omega);rw[OM h];omega
theorem ahj:∀(k u:Nat),u<10 ^ k→u<100000000000000000000→0<k→u≤9223372036854775807→lu k (u:Int)=some (tL 20 u)∧(0<u→lu k (-(u:Int))=some (45::tL 20 u))
 | 0,_,_,_,h,_=>by omega
 | k+1,u,h,h20,_,hm=>by
  have hL:rM=4294967296:=rfl;rw[lu,lu,tY,tY];by_cases hu:u<10
  ·constructor
   ·rw[aqH (by simp),aqJ (by simp;omega),rY (by omega),Ij hu,show (48:Int)+(u:Int)=((48+u:Nat):Int)from by omega,QK hu]
   ·intro hp;rw[aqJ (by simp;omega),aqJ (by simp;omega),rY (by omega),Ij hu,show (48:Int) - -(u:Int)=((48+u:Nat):Int)from by omega,QK hu,mO (by simp;omega)];rfl
  ·have hk:0<k:=by
    rcases asz k with h0|h0
    ·subst h0;omega
    ·exact h0
   obtain⟨i1,i2⟩:=ahj k (u/10) (by rw[asc]at h;omega) (by omega) hk (by omega);have hlen:=J2 20 (u/10) (by have:(10:Nat) ^ 20=100000000000000000000:=(by decide);omega) (by omega);constructor
   ·rw[aqH (by simp),aqH (by simp;omega),show ((u:Int).tdiv 10)=((u/10:Nat):Int)from rfl,show ((u:Int).tmod 10)=((u%10:Nat):Int)from rfl,rY (by omega),i1,ak,rY (by omega),
     show (48:Int)+((u%10:Nat):Int)=((48+u%10:Nat):Int)from by omega,QK (by omega),mO (by simp;omega),Nw hu h20]
   ·intro hp
    rw[aqJ (by simp;omega),aqH (by simp;omega),Int.neg_tdiv,Int.neg_tmod,show ((u:Int).tdiv 10)=((u/10:Nat):Int)from rfl,show ((u:Int).tmod 10)=((u%10:Nat):Int)from rfl,rY (n:=-((u/10:Nat):Int)) (by omega),i2 (by omega),ak,rY (by omega),
     show (48:Int) - -((u%10:Nat):Int)=((48+u%10:Nat):Int)from by omega,QK (by omega),mO (by simp;omega),Nw hu h20,ar7]
theorem Ny:∀(k m:Nat) (n:Int) (r:Str),k≤m→lu k n=some r→lu m n=some r
 | 0,_,_,_,_,h=>by cases h
 | k+1,0,_,_,h,_=>by omega
 | k+1,m+1,n,r,hk,h=>by
  rw[lu,tY]at h⊢;split at h
  ·rename_i h1;rw[aqJ h1];split at h
   ·rename_i h2;rw[aqJ h2];exact h
   ·rename_i h2;rw[aqH h2];obtain⟨x,hx,h⟩:=kV h;rw[Ny k m _ _ (by omega) hx,ak];exact h
  ·rename_i h1;rw[aqH h1];split at h
   ·rename_i h2;rw[aqJ h2];exact h
   ·rename_i h2;rw[aqH h2];obtain⟨x,hx,h⟩:=kV h;rw[Ny k m _ _ (by omega) hx,ak];exact h
theorem abg{n:Int}(h:-9007199254740992≤n∧n≤9007199254740992):EY n=some (u6 n):=by
 have e20:(10:Nat) ^ 20=100000000000000000000:=by decide
 unfold EY u6;by_cases hn:n<0
 ·rw[aqJ hn];have:=(ahj 20 n.natAbs (by omega) (by omega) (by omega) (by omega)).2 (by omega);rw[show -((n.natAbs:Nat):Int)=n from by omega]at this;exact Ny 20 BIG n _ (by have:=iW;omega) this
 ·rw[aqH hn];have:=(ahj 20 n.toNat (by omega) (by omega) (by omega) (by omega)).1;rw[show ((n.toNat:Nat):Int)=n from by omega]at this;exact Ny 20 BIG n _ (by have:=iW;omega) this
theorem adV{n:Int}(h:-9007199254740992≤n∧n≤9007199254740992):strconv_Itoa n=some (u6 n):=by
 unfold strconv_Itoa;rw[aqJ (by omega)]
theorem kinds{a:ah}(ha:VV a):0≤a.kind∧a.kind≤5:=by
 have h1:=((yU a).1 ha.1).1;have:=aam h1;omega
theorem akV:∃n,BIG=n+1:=⟨BIG-1,by decide⟩
theorem Ko{a:ah}(ha:VV a)(hb:a.bulk<4611686018427387904):Ai a=some (if a.kind=4∨a.kind=5 then ([],9)else (Ws a,0))∧Gp a=some (if a.kind=4∨a.kind=5 then ([],9)else (Ws a,0)):=by
 have la:=iR ha.1;have hk:=kinds ha;unfold Ai Gp;by_cases h45:a.kind=4∨a.kind=5
 ·rw[aqJ h45,aqJ (by simpa using h45),aqJ (by simpa using h45)];exact⟨rfl,rfl⟩
 ·have b45:((a.kind==4)||(a.kind==5))=false:=by rw[arF,aq4,aq4];omega
  have bz:((0:Int) !=0)=false:=rfl;rw[aqH h45,FW hb,Wo hb,(Pe _).2 ha];simp only[b45,ak,bz,aqS,aqT];unfold Ws;by_cases h0:a.kind=0
  ·simp only[h0,arO,aqV,and_self]
  ·have b0:(a.kind==0)=false:=by simpa using h0
   simp only[b0,h0,aqS,aqT];by_cases h3:a.kind=3
   ·simp only[h3,arO,aqV,and_self]
   ·have b3:(a.kind==3)=false:=by simpa using h3
    simp only[b3,h3,aqS,aqT];obtain⟨n,hn⟩:=akV;unfold AP Js;rw[hn,xw,xA,A8,A9];by_cases h1:a.kind=1
    ·simp only[h1,arO,aqV,strconv_FormatBool,qw];have e10:((1:Int)==0)=false:=rfl;rw[e10];cases a.dD<;>exact⟨rfl,rfl⟩
    ·have h2:a.kind=2:=by omega
     rw[h2,abg ⟨la.2.2.2.1,la.2.2.2.2⟩,adV ⟨la.2.2.2.1,la.2.2.2.2⟩];exact⟨rfl,rfl⟩
theorem RY{s:Str}(hs:s.length≤281474976710656):(eO (vo s) fun n1 ok1=>dR (dU ok1 1) (fun e6=>some (.bad e6)) fun _=>av (qy n1) fun Ua=>some (.ok Ua))=some (AU (agB s))∧
  (eO (xU s) fun n1 ok1=>if !ok1 then some ((ah.mk 0 false 0 ([]:Str) [] []),1)else some ((ah.mk 2 false n1 ([]:Str) [] []),0))=some (agB s)∧GV (agB s) 7:=by
 obtain⟨n,ok,n',h1,h2,h3⟩:=number_eq hs;unfold agB;rw[h1,h2,aC,aC,jO];cases ok with
 | true=>
  obtain⟨e,h4⟩:=h3 rfl;subst e;exact⟨rfl,rfl,GV.ok (R7 h4) (by rw[Ei];omega)⟩
 | false=>exact⟨rfl,rfl,GV.er (by decide)⟩
theorem agy{name:Str}{a:ah}(ha:VV a)(hb:a.bulk<4611686018427387904):JW name a=some (AU (aaP name a)):=by
 have la:=iR ha.1;have hL:rM=4294967296:=rfl;unfold JW aaP iO;by_cases n1:name=[108,101,110]
 ·have m1:(name==([108,101,110]:Str))=true:=by simpa using n1
  rw[aqJ m1,aqJ n1];simp only[ak,agU,jO];by_cases hk:a.kind=3∨a.kind=4∨a.kind=5
  ·rw[aqJ (by simp;omega),aqJ hk,jo,rY (by omega)];rfl
  ·rw[aqH (by simp;omega),aqH hk];rfl
 ·have m1:(name==([108,101,110]:Str))=false:=by simpa using n1
  rw[m1,aqH (by simp),aqH n1];by_cases n2:name=[107,101,121,115]
  ·have m2:(name==([107,101,121,115]:Str))=true:=by simpa using n2
   rw[aqJ m2,aqJ n2,ak,jO];by_cases hk:a.kind=5
   ·rw[aqJ (by simpa using hk),aqJ hk,jo,ab4 (by omega)];rfl
   ·rw[aqH (by simpa using hk),aqH hk];rfl
  ·have m2:(name==([107,101,121,115]:Str))=false:=by simpa using n2
   rw[m2,aqH (by simp),aqH n2];by_cases n3:name=[115,116,114,105,110,103]
   ·have m3:(name==([115,116,114,105,110,103]:Str))=true:=by simpa using n3
    rw[aqJ m3,aqJ n3,(Ko ha hb).1];by_cases hk:a.kind=4∨a.kind=5
    ·rw[aqJ hk,aqJ hk,aC,jO];rfl
    ·rw[aqH hk,aqH hk,aC,jO];rfl
   ·have m3:(name==([115,116,114,105,110,103]:Str))=false:=by simpa using n3
    rw[m3,aqH (by simp),aqH n3,ak,jO];by_cases hk:a.kind=3
    ·have k3:(a.kind==3)=true:=by simpa using hk
     rw[k3,aqJ (by rfl),aqH (c:=a.kind≠3) (by simpa using hk),jo];by_cases n4:name=[108,111,119,101,114]
     ·rw[aqJ (c:=name=[108,111,119,101,114]) n4,aqJ (by simpa using n4),(KE (by omega) _ _ _).1];rfl
     ·have m4:(name==([108,111,119,101,114]:Str))=false:=by simpa using n4
      rw[m4,aqH (c:=false=true) (by simp),aqH (c:=name=[108,111,119,101,114]) n4];by_cases n5:name=[117,112,112,101,114]
      ·rw[aqJ (c:=name=[117,112,112,101,114]) n5,aqJ (by simpa using n5),(KE (by omega) _ _ _).1];rfl
      ·have m5:(name==([117,112,112,101,114]:Str))=false:=by simpa using n5
       rw[m5,aqH (c:=false=true) (by simp),aqH (c:=name=[117,112,112,101,114]) n5];exact(RY (by omega)).1
    ·have k3:(a.kind==3)=false:=by simpa using hk
     rw[k3,aqH (c:=false=true) (by simp),aqJ (c:=a.kind≠3) hk];rfl
theorem adw{name:Str}{a:ah}(ha:VV a)(hb:a.bulk<4611686018427387904):MV name a=some (aaP name a):=by
 have la:=iR ha.1;have hk5:=kinds ha;have hL:rM=4294967296:=rfl;unfold MV aaP;by_cases n1:name=[108,101,110]
 ·rw[aqJ (c:=name=[108,101,110]) n1];by_cases hk:a.kind=3∨a.kind=4∨a.kind=5
  ·rw[aqJ (by simp[n1];omega),aqJ hk,rY (by omega)];rfl
  ·have e1:(name==([107,101,121,115]:Str))=false:=by rw[n1];rfl
   have e2:(name==([115,116,114,105,110,103]:Str))=false:=by rw[n1];rfl
   rw[aqH (by simp[n1];omega),e1,e2,aqH (by simp),aqH (by simp),aqJ (by simp[n1]),aqH hk];rfl
 ·rw[aqH (c:=name=[108,101,110]) n1,aqH (by simp[n1])];by_cases n2:name=[107,101,121,115]
  ·rw[aqJ (c:=name=[107,101,121,115]) n2];by_cases hk:a.kind=5
   ·rw[aqJ (by simp[n2,hk]),aqJ hk,afW (by omega)];rfl
   ·have e2:(name==([115,116,114,105,110,103]:Str))=false:=by rw[n2];rfl
    rw[aqH (by simp[hk]),e2,aqH (by simp),aqJ (by simp[n2]),aqH hk];rfl
  ·rw[aqH (c:=name=[107,101,121,115]) n2,aqH (by simp[n2])];by_cases n3:name=[115,116,114,105,110,103]
   ·rw[aqJ (c:=name=[115,116,114,105,110,103]) n3,aqJ (by simp[n3]),(Ko ha hb).2];by_cases hk:a.kind=4∨a.kind=5
    ·rw[aqJ hk,aqJ hk,aC];rfl
    ·rw[aqH hk,aqH hk,aC];rfl
   ·rw[aqH (c:=name=[115,116,114,105,110,103]) n3,aqH (by simp[n3])];by_cases hk:a.kind=3
    ·rw[aqH (c:=a.kind≠3) (by simpa using hk),aqH (by simp[hk,n1,n2]),(KE (by omega) _ _ _).2,(KE (by omega) _ _ _).2];by_cases n4:name=[108,111,119,101,114]
     ·rw[aqJ (c:=name=[108,111,119,101,114]) n4,aqJ (by simp[n4])];rfl
     ·rw[aqH (c:=name=[108,111,119,101,114]) n4,aqH (by simp[n4])];by_cases n5:name=[117,112,112,101,114]
      ·rw[aqJ (c:=name=[117,112,112,101,114]) n5,aqJ (by simp[n5])];rfl
      ·rw[aqH (c:=name=[117,112,112,101,114]) n5,aqH (by simp[n5])];exact(RY (by omega)).2.1
    ·rw[aqJ (c:=a.kind≠3) (by simpa using hk),aqJ (by simp[hk])];rfl
theorem ajN{name:Str}{a:ah}(ha:VV a):GV (aaP name a) 5000000:=by
 have la:=iR ha.1
 have txt:(Ws a).length≤4096:=by
  unfold Ws;have:=Y9 ⟨la.2.2.2.1,la.2.2.2.2⟩;split
  ·simp
  ·split
   ·omega
   ·split
    ·split<;>simp
    ·omega
 have aqB:∀s∈a.keys,s.length≤4096:=by
  have h1:=((yU a).1 ha.1).1;intro s hs
  have key:∀(l:List Str) (p:Option Str),Ka p l=true→∀s∈l,s.length≤64:=by
   intro l
   induction l with
   | nil=>intro p _ s hs;cases hs
   | cons x l ih=>
    intro p h s hs;rw[Ka.eq_def]at h;simp only[aq5]at h;rcases arB.1 hs with rfl|hs
    ·exact(Ay h.1.1).2
    ·exact ih _ h.2 s hs
  by_cases h5:a.kind=5
  ·unfold ny at h1;rw[aqH (by omega)]at h1;split at h1
   ·cases h1
   ·split at h1
    ·cases h1
    ·split at h1
     ·cases h1
     ·split at h1
      ·cases h1
      ·rename_i hq;simp only[h5,arO,arQ,arH,Bool.not_eq_false,aq5]at hq;have:=key _ _ hq.2 s hs;omega
  ·have hp:=NV h1;unfold qP at hp;simp only[aq5,ars,aq7]at hp;have:=hp.2;have hz:a.keys.length=0:=by omega
   have:=arI hz;rw[this]at hs;cases hs
 unfold aaP;split
 ·split
  ·exact GV.ok (R7 (by omega)) (by rw[Ei];omega)
  ·exact GV.er (by decide)
 ·split
  ·split
   ·obtain⟨h1,h2⟩:=Yt la.2.2.1 aqB;exact GV.ok h1 (by omega)
   ·exact GV.er (by decide)
  ·split
   ·split
    ·exact GV.er (by decide)
    ·exact GV.ok (Ov txt) (by rw[zG];omega)
   ·split
    ·exact GV.er (by decide)
    ·split
     ·exact GV.ok (Ov (by simp;omega)) (by rw[zG];simp;omega)
     ·split
      ·exact GV.ok (Ov (by simp;omega)) (by rw[zG];simp;omega)
      ·exact(RY (by omega)).2.2.mono (by omega)
end Go.Ft
namespace Go.Ft
open Go
attribute [local congr] gq
def VT(a b:ah):ah × Int:=
 if a.kind=4 then okV (Vu (a.aP.any fun x=>sS x b==0))else if a.kind=3∧b.kind=3 then okV (Vu (lW a.bJ b.bJ).isSome)else if a.kind=5∧b.kind=3 then okV (Vu (OC a b.bJ).isSome)else wm 9
def VD(a b:ah):ah × Int:=
 if a.kind=4∧b.kind=3 then (if a.aP.all fun x=>x.kind==3 then (if (ng (a.aP.map (·.bJ)) b.bJ).length≤4096 then okV (mkS (ng (a.aP.map (·.bJ)) b.bJ))else wm 3)else wm 9)else wm 9
def afS(s t:Str):ah × Int:=if t=[]then wm 1 else if (nU t (s.length+1) s).length≤1024 then okV (FV ((nU t (s.length+1) s).map mkS))else wm 3
def aat(name:Str)(a b:ah):ah × Int:=
 if name=[100,101,102,97,117,108,116]then (if a.kind=0 then okV b else okV a)else if name=[99,111,110,116,97,105,110,115]then VT a b else if name=[106,111,105,110]then VD a b
 else if ¬(a.kind=3∧b.kind=3)then wm 9
 else if name=[115,116,97,114,116,115,119,105,116,104]then okV (Vu (preS a.bJ b.bJ))else if name=[101,110,100,115,119,105,116,104]then okV (Vu (ajo a.bJ b.bJ))else afS a.bJ b.bJ
theorem AV(p:ah × Int):(dR (some (AU p)) (fun e=>some (.bad e)) fun x=>some (.ok x))=some (AU p):=by
 unfold AU;split<;>rfl
theorem alC{a b:ah}(ha:a.bulk<4611686018427387904)(hb:b.bulk<4611686018427387904):oP a b BIG 0=some (.ok (a.aP.any fun x=>sS x b==0))∧pR a b BIG 0=some (okV (Vu (a.aP.any fun x=>sS x b==0))):=by
 have hl:=yw a;constructor
 ·rw[eH (F:=fun k (_:Unit) i=>oP a b k i) (l:=a.aP) (body:=fun _ e1 (_:Unit) r=>av (mY e1 b) fun x3=>if x3 then some (.ok true)else r ()) (fin:=fun _=>some (.ok false)) (by omega) (fun k s i=>rfl) ()]
  have key:∀(t:List ah) (i:Nat),(∀x∈t,x.bulk<4611686018427387904)→eB (R:=fE aG Bool) (fun _ e1 (_:Unit) r=>av (mY e1 b) fun x3=>if x3 then some (.ok true)else r ()) (fun _=>some (.ok false)) i t ()=some (.ok (t.any fun x=>sS x b==0)):=by
   intro t
   induction t with
   | nil=>intro i _;rfl
   | cons d t ih=>
    intro i h;rw[eB,(Kl (h d (by simp)) hb).1,ak,asT];cases (sS d b==0)with
    | true=>rfl
    | false=>simp only[aqS,aqT,ar0];exact ih (i+1) fun x hx=>h x (by simp[hx])
  exact key _ 0 fun x hx=>by have:=iQ hx;omega
 ·rw[eH (F:=fun k (_:Unit) i=>pR a b k i) (l:=a.aP) (body:=fun _ e1 (_:Unit) r=>av (yJ e1 b) fun x1=>if x1 then av (jd true) fun x2=>some (x2,0)else r ()) (fin:=fun _=>av (jd false) fun x3=>some (x3,0)) (by omega) (fun k s i=>rfl) ()]
  have key:∀(t:List ah) (i:Nat),(∀x∈t,x.bulk<4611686018427387904)→eB (fun _ e1 (_:Unit) r=>av (yJ e1 b) fun x1=>if x1 then av (jd true) fun x2=>some (x2,(0:Int))else r ()) (fun _=>av (jd false) fun x3=>some (x3,0)) i t ()=some (okV (Vu (t.any fun x=>sS x b==0))):=by
   intro t
   induction t with
   | nil=>intro i _;rfl
   | cons d t ih=>
    intro i h;rw[eB,(Kl (h d (by simp)) hb).2,ak,asT];cases (sS d b==0)with
    | true=>rfl
    | false=>simp only[aqS,aqT,ar0];exact ih (i+1) fun x hx=>h x (by simp[hx])
  exact key _ 0 fun x hx=>by have:=iQ hx;omega
theorem VR{a b:ah}(ha:VV a)(hb:VV b)(ba:a.bulk<4611686018427387904)(bb:b.bulk<4611686018427387904):(dR (w9 a b) (fun e1=>some (.bad e1)) fun x2=>av (fC x2) fun x3=>some (.ok x3))=some (AU (VT a b))∧zi a b=some (VT a b):=by
 have la:=iR ha.1;have lb:=iR hb.1;have hk:=yx a;unfold w9 zi VT iO;rw[(alC ba bb).1,(alC ba bb).2,Fq];by_cases h4:a.kind=4
 ·have b4:(a.kind==4)=true:=by simpa using h4
  simp only[h4,aqV,ak];exact⟨rfl,rfl⟩
 ·have b4:(a.kind==4)=false:=by simpa using h4
  simp only[b4,h4,aqT,ak,aqS,aqW];by_cases XZ:a.kind=3∧b.kind=3
  ·have e1:((b.kind !=3)||((a.kind !=3)&&(a.kind !=5)))=false:=by simp[XZ.1,XZ.2]
   have e5:(a.kind==5)=false:=by simp[XZ.1]
   simp only[XZ,and_self,aqV,strings_Contains];rw[aqJ (by omega),alv (by omega) (by omega)];simp only[ak,jo,ag9,arU];exact⟨rfl,rfl⟩
  ·rw[aqH XZ,aqH XZ];by_cases h53:a.kind=5∧b.kind=3
   ·have e1:((b.kind !=3)||((a.kind !=3)&&(a.kind !=5)))=false:=by simp[h53.1,h53.2]
    have e5:(a.kind==5)=true:=by simp[h53.1]
    have e3:(b.kind==3)=true:=by simp[h53.2]
    rw[aqJ h53,e1,e5,e3];simp only[aqV,ak,Oo,jo,aqS,aqT];rw[abX ha.1 ba,WO (by omega)];cases OC a b.bJ with
    | none=>exact⟨rfl,rfl⟩
    | some v=>exact⟨rfl,rfl⟩
   ·have e1:((b.kind !=3)||((a.kind !=3)&&(a.kind !=5)))=true:=by
     rw[ars,aq5,arA,arA,arA];omega
    have e2:(if (a.kind==5)=true then some (b.kind==3)else some false)=some false:=by
     by_cases h5:a.kind=5
     ·rw[aqJ (by simpa using h5)];have:(b.kind==3)=false:=by rw[aq4];omega
      rw[this]
     ·rw[aqH (by simpa using h5)]
    rw[aqH h53,e1,e2,ak,Oq];exact⟨rfl,rfl⟩
theorem ahm(a b:ah):GV (VT a b) 7:=by
 unfold VT;split
 ·exact GV.ok (H9 _) (by rw[zH];omega)
 ·split
  ·exact GV.ok (H9 _) (by rw[zH];omega)
  ·split
   ·exact GV.ok (H9 _) (by rw[zH];omega)
   ·exact GV.er (by decide)
theorem VF:∀(l:List Str) (t:Str),(ng l t).length=(l.map List.length).sum+t.length*(l.length-1)
 | [],t=>by simp[ng]
 | [x],t=>by simp[ng]
 | x::y::r,t=>by
  rw[ng,asj,asj,VF (y::r) t];simp only[arq,arJ,aq2,Nat.add_sub_cancel];rw[Nat.mul_add t.length r.length 1];omega
theorem Sm:∀(l:List Str) (x t:Str),ng (l++[x]) t=if l=[]then x else ng l t++(t++x)
 | [],x,t=>by simp[ng]
 | [a],x,t=>by simp[ng]
 | a::b::r,x,t=>by
  have ih:=Sm (b::r) x t;rw[ar7,ar7,ng,←ar7,ih,aqH (by simp),aqH (by simp),ng];simp
theorem aln{a b:ah}(la:∀x∈a.aP,x.bJ.length≤4096)(lb:b.bJ.length≤4096)(ll:a.aP.length≤1024):∀(t:List ah) (i n:Nat) (l:List Str),t=a.aP.drop i→i≤a.aP.length→l.length=i→n=(l.map List.length).sum→n≤i*4096→
  eB (R:=fE aG ah) (fun _ e2 (s:Int × List Str) r=>av (iO e2 3) fun x4=>dR (dU x4 9) (fun e3=>some (.bad e3)) fun _=>av (app s.2 ([e2.bJ]:List Str)) fun l2=>r (bq (s.1+(e2.bJ.length:Int)),l2))
   (fun s=>dR (dU (decide ((bq (s.1+(bq ((b.bJ.length:Int)*(if 0<(bq ((s.2.length:Int)-1))then (bq ((s.2.length:Int)-1))else 0)))))≤4096)) 3) (fun e4=>some (.bad e4)) fun _=>av (strings_Join s.2 b.bJ) fun x5=>av (mJ x5) fun x6=>some (.ok x6)) i t ((n:Int),l)
   =some (AU (if t.all fun x=>x.kind==3 then (if (ng (l++t.map (·.bJ)) b.bJ).length≤4096 then okV (mkS (ng (l++t.map (·.bJ)) b.bJ))else wm 3)else wm 9))
 | [],i,n,l,ht,hi,hl,hn,hb=>by
  have hj:=VF l b.bJ;have hL:b.bJ.length*(l.length-1)≤4096*1024:=Nat.mul_le_mul lb (by omega);rw[eB];simp only[List.all_nil,aqV,ar_,List.append_nil]
  have e:(if 0<(bq ((l.length:Int)-1))then (bq ((l.length:Int)-1))else 0)=((l.length-1:Nat):Int):=by
   rw[rY (by omega)];split<;>omega
  rw[e,←Int.natCast_mul,rY (n:=((b.bJ.length*(l.length-1):Nat):Int)) (by omega),rY (by omega),jO];by_cases hc:(ng l b.bJ).length≤4096
  ·rw[aqJ hc,aqJ (by simp;omega),jo,strings_Join,aqJ ⟨by omega,by omega⟩];rfl
  ·rw[aqH hc,aqH (by simp;omega)];rfl
 | x::t,i,n,l,ht,hi,hl,hn,hb=>by
  obtain⟨h1,e1,e2⟩:=uw ht;have hm:x∈a.aP:=by rw[e1];exact arj h1
  have hx:=la x hm;have FP:rM=4294967296:=rfl;rw[eB,iO,ak,jO,List.all_cons];by_cases h3:x.kind=3
  ·have b3:(x.kind==3)=true:=by simpa using h3
   rw[b3,aqJ rfl,jo,arQ];simp only;rw[mO (by simp;omega),ak,rY (by omega),show (n:Int)+(x.bJ.length:Int)=((n+x.bJ.length:Nat):Int)from by omega];rw[aln la lb ll t (i+1) (n+x.bJ.length) (l++[x.bJ]) e2 (by omega) (by simp;omega) (by simp[hn]) (by omega)];simp
  ·have b3:(x.kind==3)=false:=by simpa using h3
   rw[b3,aqH (by simp),arV,aqH (by simp)];rfl
theorem agT{a b:ah}(la:∀x∈a.aP,x.bJ.length≤4096)(lb:b.bJ.length≤4096)(ll:a.aP.length≤1024):∀(t:List ah) (i:Nat) (l:List Str) (k:Nat),t=a.aP.drop i→i≤a.aP.length→l.length=i→(ng l b.bJ).length≤i*8192→a.aP.length<k+i→
  rT a b k (ng l b.bJ) (i:Int)=some (if t.all fun x=>x.kind==3 then (if (ng (l++t.map (·.bJ)) b.bJ).length≤4096 then okV (mkS (ng (l++t.map (·.bJ)) b.bJ))else wm 3)else wm 9)
 | _,i,l,0,_,_,_,_,h=>by omega
 | [],i,l,k+1,ht,hi,hl,hb,hk=>by
  have h1:=CZ ht;rw[rT,aqH (by simp;omega),nX,ak];refine(Am (v:=mkS (ng l b.bJ)) (by rw[zG];omega)).trans ?_;rw[YD];simp
 | x::t,i,l,k+1,ht,hi,hl,hb,hk=>by
  obtain⟨h1,e1,e2⟩:=uw ht;have hm:x∈a.aP:=by rw[e1];exact arj h1
  have hx:=la x hm;have FP:rM=4294967296:=rfl;rw[rT,aqJ (by simp;omega),lX h1,ak,←e1,List.all_cons];by_cases h3:x.kind=3
  ·have b3:(x.kind==3)=true:=by simpa using h3
   have c3:(x.kind !=3)=false:=by simp[h3]
   rw[c3,aqH (by simp),b3,arQ];simp only[ak];have hs:=Sm l x.bJ b.bJ;by_cases h0:l=[]
   ·subst h0;have hi0:i=0:=by rw[←hl];rfl
    rw[aqJ rfl]at hs;rw[aqH (by simp;omega),mO (by simp[ng];omega),ak,mh (by omega)];have hj:ng ([]:List Str) b.bJ++x.bJ=ng ([]++[x.bJ]) b.bJ:=by rw[hs];rfl
    rw[hj,agT la lb ll t (i+1) ([]++[x.bJ]) k e2 (by omega) (by simp;omega) (by rw[hs];omega) (by omega)];simp
   ·have hi0:0<i:=by rw[←hl];exact arM.2 h0
    rw[aqJ (by simp;omega),mO (by omega),ak,mO (by simp;omega),ak,mh (by omega)];rw[aqH h0]at hs;rw[asW,←hs,agT la lb ll t (i+1) (l++[x.bJ]) k e2 (by omega) (by simp;omega) (by rw[hs];simp;omega) (by omega)];simp
  ·have b3:(x.kind==3)=false:=by simpa using h3
   have c3:(x.kind !=3)=true:=by simp[h3]
   rw[c3,aqJ rfl,b3,arV,aqH (by simp)];rfl
theorem VB{a b:ah}(ha:VV a)(hb:VV b):BS a b=some (AU (VD a b))∧Jm a b=some (VD a b):=by
 have la:=iR ha.1;have lb:=iR hb.1;have lx:∀x∈a.aP,x.bJ.length≤4096:=fun x hx=>(iR (ha.mem hx).1).1;unfold BS Jm VD iO;simp only[ak,QB];by_cases h:a.kind=4∧b.kind=3
 ·have e1:((a.kind==4)&&(b.kind==3))=true:=by simp[h.1,h.2]
  have e2:((a.kind !=4)||(b.kind !=3))=false:=by simp[h.1,h.2]
  rw[e1,e2,Oo,jo,aqJ h,aqH (c:=false=true) (by simp)];constructor
  ·rw[eH (F:=fun k (s:Int × List Str) i=>vv a b k s.1 s.2 i) (l:=a.aP)
    (body:=fun _ e2 (s:Int × List Str) r=>av (iO e2 3) fun x4=>dR (dU x4 9) (fun e3=>some (.bad e3)) fun _=>av (app s.2 ([e2.bJ]:List Str)) fun l2=>r (bq (s.1+(e2.bJ.length:Int)),l2))
    (fin:=fun s=>dR (dU (decide ((bq (s.1+(bq ((b.bJ.length:Int)*(if 0<(bq ((s.2.length:Int)-1))then (bq ((s.2.length:Int)-1))else 0)))))≤4096)) 3) (fun e4=>some (.bad e4)) fun _=>av (strings_Join s.2 b.bJ) fun x5=>av (mJ x5) fun x6=>some (.ok x6)) (by omega) (fun k s i=>rfl) (0,[])]
   have:=aln lx lb.1 la.2.1 a.aP 0 0 [] rfl (by omega) rfl rfl (by omega);simpa using this
  ·have:=agT lx lb.1 la.2.1 a.aP 0 [] BIG rfl (by omega) rfl (by simp[ng]) (by have:=iW;omega);simpa[ng]using this
 ·have e1:((a.kind==4)&&(b.kind==3))=false:=by rw[ar3,aq4,aq4];omega
  have e2:((a.kind !=4)||(b.kind !=3))=true:=by rw[ars,arA,arA];omega
  rw[e1,e2,Oq,aqH h,aqJ rfl];exact⟨rfl,rfl⟩
theorem agS(a b:ah):GV (VD a b) 5000:=by
 unfold VD;split
 ·split
  ·split
   ·rename_i h;exact GV.ok (Ov h) (by rw[zG];omega)
   ·exact GV.er (by decide)
  ·exact GV.er (by decide)
 ·exact GV.er (by decide)
theorem Hl(t:Str):∀(k:Nat) (s:Str),∀x∈nU t k s,x.length≤s.length
 | 0,s,x,h=>by simp only[nU,asa]at h;subst h;omega
 | k+1,s,x,h=>by
  rw[nU]at h;cases hi:lW s t with
  | none=>rw[hi]at h;simp only[asa]at h;subst h;omega
  | some i=>
   rw[hi]at h;simp only[arB]at h;rcases h with rfl|h
   ·simp;omega
   ·have:=Hl t k _ x h;simp only[asg]at this;omega
theorem agM(l:List Str):xF (FV (l.map mkS))≤16:=by
 have e:xF (FV (l.map mkS))=Em (l.map mkS) 2:=by rw[uY];rfl
 rw[e,Ba];refine⟨by omega,fun x hx=>?_⟩;obtain⟨s,_,rfl⟩:=ar4.1 hx;have e2:xF (mkS s)=1:=by rw[uY];rfl
 omega
end Go.Ft
