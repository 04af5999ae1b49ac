/- Proved here: plain facts on the functional texts. -/
import Derived.Test.YtdomnihfjnbnjaaGreatDoorSdPre1
import Derived.Test.YtdomnihfjnbnjaaGreatDoorSdFt1
import Derived.Test.YtdomnihfjnbnjaaGreatDoorSdPool1
set_option linter.unusedVariables false
set_option linter.unusedSimpArgs false
set_option linter.defProp false
set_option linter.unusedSectionVars false
set_option maxHeartbeats 2000000
namespace Go.Ft
open Go
attribute [local congr] eO
theorem Lc{α:Type}{f:α→Nat}{l:List α}{x:α}(h:x∈l):f x≤(l.map f).sum:=by
 induction l with
 | nil=>cases h
 | cons y l ih=>
  simp only[asy,as9];rcases asG.1 h with rfl|h
  ·omega
  ·have:=ih h;omega
theorem Oj{α:Type}{f:α→Nat}{l:List α}(h:∀x,1≤f x):l.length≤(l.map f).sum:=by
 induction l with
 | nil=>simp
 | cons y l ih=>simp only[asy,as9,ase];have:=h y;omega
theorem ah.jV(v:ah):1≤v.bulk:=by rw[ah.nN];omega
theorem ak.jV(v:ak):1≤v.bulk:=by rw[ak.nN];omega
theorem ay.jV(v:ay):1≤v.bulk:=by rw[ay.nN];omega
theorem vV(v:ah):v.aO.length<v.bulk:=by rw[ah.nN,ah.pX];have:=Oj (l:=v.aO) ah.jV;omega
theorem h_{v x:ah}(h:x∈v.aO):x.bulk<v.bulk:=by rw[ah.nN v,ah.pX];have:=Lc (f:=ah.bulk) h;omega
theorem Au(v:ah):v.keys.length<v.bulk:=by rw[ah.nN];have:=Oj (l:=v.keys) (f:=fun z:Str=>z.length+1) (fun x=>by omega);omega
theorem KX{v:ah}{x:Str}(h:x∈v.keys):x.length<v.bulk:=by rw[ah.nN v];have:=Lc (f:=fun z:Str=>z.length+1) h;omega
theorem Li(e:ak):e.args.length<e.bulk:=by rw[ak.nN,ak.pX];have:=Oj (l:=e.args) ak.jV;omega
theorem jq{e x:ak}(h:x∈e.args):x.bulk<e.bulk:=by rw[ak.nN e,ak.pX];have:=Lc (f:=ak.bulk) h;omega
theorem Lh(v:ak):v.keys.length<v.bulk:=by rw[ak.nN];have:=Oj (l:=v.keys) (f:=fun z:Str=>z.length+1) (fun x=>by omega);omega
theorem af5(v:ak):v.name.length<v.bulk:=by rw[ak.nN];omega
theorem Cn(v:ak):v.value.bulk<v.bulk:=by rw[ak.nN];omega
mutual
def ecnt:ak→Nat
 | ⟨_,_,_,args,_⟩=>1+He args
def He:List ak→Nat
 | []=>0
 | x::r=>ecnt x+He r
end
theorem FY(e:ak):ecnt e=1+He e.args:=by cases e;rfl
theorem aaZ:∀(l:List ak) (n:Nat),(∀x∈l,ecnt x≤x.bulk)→He l≤(l.map ak.bulk).sum
 | [],_,_=>by simp[He]
 | x::r,n,h=>by
  simp only[He,asy,as9];have:=h x (by simp);have:=aaZ r n fun y hy=>h y (by simp[hy]);omega
theorem OM:∀(n:Nat) (e:ak),e.bulk≤n→ecnt e≤e.bulk
 | 0,e,h=>by have:=e.jV;omega
 | n+1,e,h=>by
  rw[FY,ak.nN,ak.pX];have:=aaZ e.args n fun x hx=>OM n x (by have:=jq hx;omega);omega
theorem acS{go:ak→Option Int}:∀(l:List ak) (i s:Nat),(∀x∈l,go x=some (ecnt x:Int))→s+He l<4611686018427387904→
  dD (fun _ e2 (n1:Int) r=>au (go e2) fun x2=>r (bF (n1+x2))) (fun n1=>some n1) i l (s:Int)=some ((s+He l:Nat):Int)
 | [],i,s,_,_=>by simp[dD,He]
 | x::r,i,s,h,hs=>by
  simp only[He]at hs⊢;rw[dD,h x (by simp)];simp only[aj];have:bF ((s:Int)+(ecnt x:Int))=((s+ecnt x:Nat):Int):=by rw[zq (by omega)];omega
  rw[this,acS r (i+1) (s+ecnt x) (fun y hy=>h y (by simp[hy])) (by omega)];simp only[asB,atO];omega
theorem YX:∀(n:Nat) (e:ak),e.bulk≤n→e.bulk<4611686018427387904→pO (n+1) e=some (ecnt e:Int)∧yS (n+1) e=some (ecnt e:Int)
 | 0,e,h,_=>by have:=e.jV;omega
 | n+1,e,h,hB=>by
  have hl:=Li e;have hle:=OM _ e (asx _);rw[FY]at hle;constructor
  ·unfold pO zJ;have:=dI (F:=fun k s i=>uf (pO (n+1)) e k s i) (l:=e.args) (body:=fun _ e2 (n1:Int) r=>au (pO (n+1) e2) fun x2=>r (bF (n1+x2))) (fin:=fun n1=>some n1) (by omega) (fun k s i=>rfl) 1;rw[this,show (1:Int)=((1:Nat):Int)from rfl,acS e.args 0 1 (fun x hx=>(YX n x (by have:=jq hx;omega) (by have:=jq hx;omega)).1) (by omega),FY]
  ·unfold yS QW;have:=dI (F:=fun k s i=>Ic (yS (n+1)) e k s i) (l:=e.args) (body:=fun _ e2 (n1:Int) r=>au (yS (n+1) e2) fun x2=>r (bF (n1+x2))) (fin:=fun n1=>some n1) (by omega) (fun k s i=>rfl) 1;rw[this,show (1:Int)=((1:Nat):Int)from rfl,acS e.args 0 1 (fun x hx=>(YX n x (by have:=jq hx;omega) (by have:=jq hx;omega)).2) (by omega),FY]
theorem qY:∃n,BIG=n+1∧9223372036854775807≤n:=⟨BIG-1,by decide,by decide⟩
theorem count_eq{e:ak}(h:e.bulk<4611686018427387904):Du e=some (ecnt e:Int)∧Pz e=some (ecnt e:Int):=by
 obtain⟨n,hn,hn2⟩:=qY;unfold Du Pz;rw[hn];exact YX n e (by omega) h
def isName(s:Str):Bool:=decide (1≤s.length)&&decide (s.length≤64)&&(match s with|c::_=>isLet c|[]=>false)&&s.all fun c=>isLet c||dF c
def jm(s:Str):Bool:=isName s&&!((s==([116,114,117,101]:Str))||(s==([102,97,108,115,101]:Str))||(s==([110,117,108,108]:Str)))
theorem aqj(s:Str)(hs:s.length<4611686018427387904):rV s BIG 0=some (s.all fun c=>isLet c||dF c):=by
 have:=dI (F:=fun k (_:Unit) i=>rV s k i) (l:=s) (body:=fun(i:Nat) x3 _ r=>au (if !(isLet x3)then au (idx s (i:Int)) fun x5=>some (!(dF x5))else some false) fun b2=>if b2 then some false else r ()) (fin:=fun _=>some true) hs (fun k s i=>rfl) ();rw[this]
 have key:∀(t:Str) (i:Nat),t=s.drop i→dD (fun(i:Nat) x3 (_:Unit) r=>au (if !(isLet x3)then au (idx s (i:Int)) fun x5=>some (!(dF x5))else some false) fun b2=>if b2 then some false else r ()) (fun _=>some true) i t ()=some (t.all fun c=>isLet c||dF c):=by
  intro t
  induction t with
  | nil=>intro i _;rfl
  | cons c t ih=>
   intro i ht
   have hi:i<s.length:=by
    rcases asQ i s.length with h|h
    ·exact h
    ·rw[asw h]at ht;cases ht
   have hc:=ar0 hi;rw[←ht]at hc;have e1:c=s[i]:=(atb hc).1;have e2:=(atb hc).2;rw[dD,mF hi,←e1];simp only[aj];rw[ih (i+1) e2];cases h1:isLet c<;>cases h2:dF c<;>simp[h1,h2]
 exact key s 0 rfl
theorem TD(s:Str)(hs:s.length<4611686018427387904):yU s=some (isName s):=by
 unfold yU isName;rw[aqj s hs];by_cases h1:s.length<1
 ·have:s=[]:=by cases s;rfl;simp at h1
  subst this;simp
 ·by_cases h2:64<s.length
  ·have e1:decide ((64:Int)<(s.length:Int))=true:=by simp;omega
   have e2:decide (s.length≤64)=false:=by simp;omega
   simp[e1,e2]
  ·cases s with
   | nil=>simp at h1
   | cons c s=>
    have e1:decide ((((c::s).length:Nat):Int)<1)=false:=by simp;omega
    have e2:decide ((64:Int)<(((c::s).length:Nat):Int))=false:=by simp at h2⊢;omega
    have e3:decide ((c::s).length≤64)=true:=by simp at h2⊢;omega
    have e4:idx (c::s) 0=some c:=rfl;rw[e1,e2,e3,e4];cases h3:isLet c<;>simp[h3]
theorem ahV(s:Str)(hs:s.length<4611686018427387904):Gy s=some (isName s):=by
 unfold Gy
 have:=dI (F:=fun k (_:Unit) i=>Cb s k i) (l:=s) (body:=fun(i:Nat) x3 _ r=>au (if !(isLet x3)then (if (i:Int)==0 then some true else au (idx s (i:Int)) fun x5=>some (!(dF x5)))else some false) fun b2=>if b2 then some false else r ())
  (fin:=fun _=>some ((decide (1≤(s.length:Int)))&&(decide ((s.length:Int)≤64)))) hs (fun k s i=>rfl) ()
 rw[this]
 have key:∀(t:Str) (i:Nat),t=s.drop i→dD (fun(i:Nat) x3 (_:Unit) r=>au (if !(isLet x3)then (if (i:Int)==0 then some true else au (idx s (i:Int)) fun x5=>some (!(dF x5)))else some false) fun b2=>if b2 then some false else r ())
   (fun _=>some ((decide (1≤(s.length:Int)))&&(decide ((s.length:Int)≤64)))) i t ()=some ((decide (1≤s.length)&&decide (s.length≤64))&&((if i=0 then (match t with|c::_=>isLet c|[]=>true)else true)&&t.all fun c=>isLet c||dF c)):=by
  intro t
  induction t with
  | nil=>
   intro i _;rw[dD];have e1:decide ((1:Int)≤(s.length:Int))=decide (1≤s.length):=by congr 1;simp;omega
   have e2:decide ((s.length:Int)≤64)=decide (s.length≤64):=by congr 1;simp;omega
   rw[e1,e2];simp
  | cons c t ih=>
   intro i ht
   have hi:i<s.length:=by
    rcases asQ i s.length with h|h
    ·exact h
    ·rw[asw h]at ht;cases ht
   have hc:=ar0 hi;rw[←ht]at hc;have e1:c=s[i]:=(atb hc).1;have e2:=(atb hc).2;rw[dD,mF hi,←e1];simp only[aj];rw[ih (i+1) e2];by_cases h0:i=0
   ·subst h0;cases h1:isLet c<;>simp[h1]
   ·have:((i:Int)==0)=false:=by simp;omega
    rw[this];cases h1:isLet c<;>cases h2:dF c<;>simp[h1,h2,h0]
 rw[key s 0 rfl];unfold isName;cases s with
 | nil=>simp
 | cons c s=>simp[aud]
theorem Cc(s:Str)(hs:s.length<4611686018427387904):oz s=some (jm s)∧qw s=some (jm s):=by
 unfold oz qw jm qF;rw[TD s hs,ahV s hs];constructor
 ·cases isName s<;>simp
 ·simp only[aj,asB];cases isName s<;>simp[Bool.not_or,aud]
theorem QI(s:Str):Dm s=gT s:=rfl
theorem Vx(s:Str):∃n,gT s=some n:=by
 have:(gT s).isSome=true:=by
  unfold gT;simp only[apply_ite Option.isSome,Option.isSome_some,ite_self]
 exact Option.isSome_iff_exists.1 this
end Go.Ft
namespace Go.Ft
open Go
attribute [local congr] eO
def vE(s:Str):Bool:=decide (1≤s.length)&&decide (s.length≤64)
def VD(a b:Str):Int:=(qE a b).getD 0
theorem alz{a b:Str}(ha:a.length<4611686018427387904)(hb:b.length<4611686018427387904):iR a b=some (VD a b)∧qE a b=some (VD a b):=by
 obtain⟨c,h1,h2⟩:=UC ha hb;unfold VD;rw[h2];exact⟨h1,rfl⟩
def KJ:Option Str→List Str→Bool
 | _,[]=>true
 | p,k::r=>vE k&&(match p with|none=>true|some q=>decide (VD q k<0))&&KJ (some k) r
theorem YA(s:Str):((decide ((s.length:Int)<1))||(decide (64<(s.length:Int))))=!vE s:=by
 unfold vE;rw[asZ];simp only[asq,as3,atm,arP,asI];omega
theorem key_eq(s:Str):NV s=some (vE s):=by
 unfold NV vE;simp only[asB];rw[asZ];simp only[arV,arP];omega
def JZ(l:List Str)(i:Nat):Option Str:=if i=0 then none else l[i-1]?
theorem aeL{v:ah}(hv:v.bulk<4611686018427387904):∀(k i:Nat),v.keys.length<k+i→i≤v.keys.length→
  rO v k (i:Int)=some (KJ (JZ v.keys i) (v.keys.drop i))∧
  o8 v k (i:Int)=some (KJ (JZ v.keys i) (v.keys.drop i)&&((v.keys.length:Int)==(v.aO.length:Int)))
 | 0,i,h,h'=>by omega
 | k+1,i,h,h'=>by
  have hlen:=Au v;rw[rO,o8];by_cases hi:i<v.keys.length
  ·have hm:v.keys[i]∈v.keys:=asv hi;have hb:=KX hm;rw[ar0 hi,arK (by simp;omega),arK (by simp;omega),mF hi];simp only[aj,YA,key_eq,KJ];obtain⟨ih1,ih2⟩:=aeL hv k (i+1) (by omega) (by omega);have hp:JZ v.keys (i+1)=some v.keys[i]:=by simp[JZ,hi]
   rw[hp]at ih1 ih2;rw[mD (by omega),ih1,ih2];by_cases h0:i=0
   ·subst h0;have hp0:JZ v.keys 0=none:=rfl;rw[hp0];cases vE v.keys[0]<;>simp
   ·have hi1:i-1<v.keys.length:=by omega
    have hm1:v.keys[i-1]∈v.keys:=asv hi1;have hb1:=KX hm1;have hp0:JZ v.keys i=some v.keys[i-1]:=by simp[JZ,h0,hi1]
    have e1:bF ((i:Int)-1)=((i-1:Nat):Int):=by rw[zq (by omega)];omega
    obtain⟨c1,c2⟩:=alz (a:=v.keys[i-1]) (b:=v.keys[i]) (by omega) (by omega);have hpos:decide ((0:Int)<(i:Int))=true:=by simp;omega
    rw[hp0,e1,hpos,mF hi1];simp only[aj,c1,c2,arO]
    have hn:decide (VD v.keys[i-1] v.keys[i]<0)=!decide (0≤VD v.keys[i-1] v.keys[i]):=by
     by_cases h:0≤VD v.keys[i-1] v.keys[i]<;>simp[h]<;>omega
    rw[hn];cases vE v.keys[i]<;>cases decide (0≤VD v.keys[i-1] v.keys[i])<;>simp
  ·have:i=v.keys.length:=by omega
   subst this;simp[KJ]
theorem aaC{v:ah}(hv:v.bulk<4611686018427387904):BL v=some (((v.keys.length:Int)==(v.aO.length:Int))&&KJ none v.keys)∧w_ v=some (((v.keys.length:Int)==(v.aO.length:Int))&&KJ none v.keys):=by
 have hlen:=Au v;obtain⟨h1,h2⟩:=aeL hv BIG 0 (by have:=gX;omega) (by omega);have hp0:JZ v.keys 0=none:=rfl;rw[hp0,atl]at h1 h2;unfold BL w_;rw[show (0:Int)=((0:Nat):Int)from rfl,h1,h2];by_cases h:(v.keys.length:Int)=(v.aO.length:Int)
 ·simp[h]
 ·have:((v.keys.length:Int)==(v.aO.length:Int))=false:=by simpa using h
  simp[this];intro hh;exact absurd hh h
def rJ(v:ah):Bool:=
 (((((v.kind==1)||(!v.dZ))&&((v.kind==2)||(v.eB==0)))&&((v.kind==3)||(v.bV==([]:Str))))&&(((v.kind==4)||(v.kind==5))||((v.aO.length:Int)==0)))&&((v.kind==5)||((v.keys.length:Int)==0))
theorem an0(v:ah):GA v=some (rJ v):=by
 unfold GA rJ
 have hl:decide (0<(v.aO.length:Int))=!((v.aO.length:Int)==0):=by
  cases h:v.aO<;>simp;omega
 rw[hl];have hk:∀n:Int,(v.kind !=n)=!(v.kind==n):=fun n=>rfl;have hi:(v.eB !=0)=!(v.eB==0):=rfl;rw[hk,hk,hk,hk,hk,hi];generalize (v.kind==1)=a1;generalize (v.kind==2)=a2;generalize (v.kind==3)=a3;generalize (v.kind==4)=a4;generalize (v.kind==5)=a5;generalize v.dZ=b;generalize (v.eB==0)=c;generalize (v.bV==([]:Str))=d;generalize ((v.aO.length:Int)==0)=e;generalize ((v.keys.length:Int)==0)=f;revert a1 a2 a3 a4 a5 b c d e f;decide
def nG(v:ah)(level:Nat):Int:=
 if 16<level then 13
 else if (decide (v.kind<0))||(decide (5<v.kind))||!rJ v then 1
 else if (decide (v.eB<(-9007199254740992)))||(decide (9007199254740992<v.eB))then 2
 else if ((decide (4096<(v.bV.length:Int)))||(decide (1024<(v.aO.length:Int))))||(decide (1024<(v.keys.length:Int)))then 3
 else if v.kind==5&&!(((v.keys.length:Int)==(v.aO.length:Int))&&KJ none v.keys)then 1
 else if (((v.kind==4)||(v.kind==5))&&((v.aO.length:Int)==0))&&level==16 then 13
 else 0
theorem alx{v:ah}(hv:v.bulk<4611686018427387904)(level:Nat):Eu v (level:Int)=some (nG v level):=by
 unfold Eu nG Df;have h16:decide ((16:Int)<(level:Int))=decide (16<level):=by congr 1;simp;omega
 have aox:((level:Int)==16)=(level==16):=by
  rw[asZ];simp only[ar4];omega
 rw[h16,aox,(aaC hv).1];change (if decide (16<level)=true then some 13 else au (if (decide (v.kind<0)||decide (5<v.kind))=true then some true else au (some (rJ v)) fun x1=>some (!x1)) _)=_
 by_cases h0:16<level
 ·simp[h0]
 ·simp only[h0,ath,arG,arN,aj];cases h1:(decide (v.kind<0)||decide (5<v.kind))with
  | true=>simp
  | false=>
   cases h2:rJ v with
   | false=>simp
   | true=>
    simp only[arG,arN,asC,aj,Bool.or_self];split
    ·rfl
    ·split
     ·rfl
     ·cases h3:(v.kind==5)<;>cases h4:(((v.keys.length:Int)==(v.aO.length:Int))&&KJ none v.keys)<;>simp<;>(first|rfl|(split<;>rfl))
mutual
def vW:ah→Nat→Int
 | ⟨a,b,c,d,l,f⟩,level=>if nG ⟨a,b,c,d,l,f⟩ level !=0 then nG ⟨a,b,c,d,l,f⟩ level else Er l (level+1)
def Er:List ah→Nat→Int
 | [],_=>0
 | x::r,level=>if vW x level !=0 then vW x level else Er r level
end
theorem Nw(v:ah)(level:Nat):vW v level=if nG v level !=0 then nG v level else Er v.aO (level+1):=by cases v;rw[vW]
theorem aqU{go:ah→Int→Option Int}{level:Nat}:∀(l:List ah) (i:Nat),(∀x∈l,go x ((level+1:Nat):Int)=some (vW x (level+1)))→
  dD (fun _ e1 (_:Unit) r=>au (go e1 ((level+1:Nat):Int)) fun e2=>if e2 !=0 then some e2 else r ()) (fun _=>some 0) i l ()=some (Er l (level+1))
 | [],i,_=>by simp[dD,Er]
 | x::r,i,h=>by
  rw[dD,h x (by simp),Er];simp only[aj];rw[aqU r (i+1) (fun y hy=>h y (by simp[hy]))];split<;>rfl
theorem aa9:∀(n:Nat) (v:ah) (level:Nat),v.bulk≤n→v.bulk<4611686018427387904→level≤17→vo (n+1) v (level:Int)=some (vW v level)
 | 0,v,_,h,_,_=>by have:=v.jV;omega
 | n+1,v,level,h,hB,hlv=>by
  have hl:=vV v;rw[Nw];unfold vo FJ;have h16:decide ((16:Int)<(level:Int))=decide (16<level):=by congr 1;simp;omega
  have aox:((level:Int)==16)=(level==16):=by
   rw[asZ];simp only[ar4];omega
  rw[h16,aox,(aaC hB).2,an0];unfold nG;by_cases h0:16<level
  ·simp[h0]
  ·have hw:bF ((level:Int)+1)=((level+1:Nat):Int):=mD (by omega);have:=dI (F:=fun k (_:Unit) i=>zB (vo (n+1)) v (level:Int) k i) (l:=v.aO) (body:=fun _ e1 _ r=>au (vo (n+1) e1 ((level+1:Nat):Int)) fun e2=>if e2 !=0 then some e2 else r ()) (fin:=fun _=>some 0) (by omega) (fun k s i=>by rw[←hw];rfl) ();rw[this,aqU v.aO 0 fun x hx=>aa9 n x (level+1) (by have:=h_ hx;omega) (by have:=h_ hx;omega) (by omega)];simp only[h0,ath,arG,arN,aj];cases h1:(decide (v.kind<0)||decide (5<v.kind))with
   | true=>simp
   | false=>
    cases h2:rJ v with
    | false=>simp
    | true=>
     simp only[arG,arN,asC,aj,Bool.or_self];split
     ·simp
     ·split
      ·simp
      ·have h4:decide ((4:Int)≤v.kind)=((v.kind==4)||(v.kind==5)):=by
        simp only[asN,asI]at h1;rw[asZ];simp only[asq,arP,ar4];omega
       rw[h4]
       cases h3:(v.kind==5)<;>cases h5:(((v.keys.length:Int)==(v.aO.length:Int))&&KJ none v.keys)<;>simp<;>(first|rfl|(split<;>simp<;>rename_i hq<;>(first
        | exact fun hh=>absurd hq.2 (hh hq.1.1 hq.1.2)
        | exact fun a b c=>absurd ⟨⟨a,b⟩,c⟩ hq)))
theorem XZ{v:ah}(h:v.bulk<4611686018427387904):yT v=some (vW v 1):=by
 obtain⟨n,hn,hn2⟩:=qY;unfold yT PI;rw[hn];exact aa9 n v 1 (by omega) h (by omega)
def Sm(c:Int):Bool × Option Int:=if c !=0 then (false,some c)else (true,none)
theorem apw{v:ah}(hv:v.bulk<4611686018427387904)(level:Nat):mY none (level:Int) v=some (Sm (nG v level)):=by
 unfold mY Sm;simp only[alx hv,aj];by_cases h:nG v level=0<;>simp[h]
theorem ams{go:Option Int→ah→Int→Option (Bool × Option Int)}{level:Nat}:∀(l:List ah) (i:Nat),(∀x∈l,go none x ((level+1:Nat):Int)=some (Sm (vW x (level+1))))→
  dD (fun _ x1 (s1:Option Int) r=>fD (go s1 x1 ((level+1:Nat):Int)) fun b1 s2=>if !b1 then some (false,s2)else r s2) (fun s1=>some (true,s1)) i l none=some (Sm (Er l (level+1)))
 | [],i,_=>by simp[dD,Er,Sm]
 | x::r,i,h=>by
  rw[dD,h x (by simp),Er];by_cases hc:vW x (level+1)=0
  ·simp only[hc,Sm,as2,arG,arN,aC,asC];rw[ams r (i+1) (fun y hy=>h y (by simp[hy]))];rfl
  ·simp[hc,Sm]
theorem ag8:∀(n:Nat) (v:ah) (level:Nat),v.bulk≤n→v.bulk<4611686018427387904→level≤17→gH mY (n+1) none v (level:Int)=some (Sm (vW v level))
 | 0,v,_,h,_,_=>by have:=v.jV;omega
 | n+1,v,level,h,hB,hlv=>by
  have hl:=vV v;rw[Nw];unfold gH vY;rw[apw hB];by_cases h0:nG v level=0
  ·have asi:level≤16:=by
    rcases asQ 16 level with h|h
    ·unfold nG at h0;simp[h]at h0
    ·exact h
   have hw:bF ((level:Int)+1)=((level+1:Nat):Int):=mD (by omega);have:=dI (F:=fun k s i=>lF (gH mY (n+1)) v (level:Int) k s i) (l:=v.aO) (body:=fun _ x1 (s1:Option Int) r=>fD (gH mY (n+1) s1 x1 ((level+1:Nat):Int)) fun b1 s2=>if !b1 then some (false,s2)else r s2) (fin:=fun s1=>some (true,s1)) (by omega) (fun k s i=>by rw[←hw];rfl) none;simp only[h0,Sm,as2,arG,arN,aC,asC];rw[this,ams v.aO 0 fun x hx=>ag8 n x (level+1) (by have:=h_ hx;omega) (by have:=h_ hx;omega) (by omega)];rfl
  ·simp[h0,Sm]
theorem D9{v:ah}(h:v.bulk<4611686018427387904):kD v=some (vW v 1):=by
 obtain⟨n,hn,hn2⟩:=qY;unfold kD Et;rw[hn,show (1:Int)=((1:Nat):Int)from rfl,ag8 n v 1 (by omega) h (by omega)];unfold Sm;by_cases hc:vW v 1=0<;>simp[hc]
end Go.Ft
namespace Go.Ft
open Go
attribute [local congr] eO
def QE(v:ah):Bool:=(((((v.kind==0)&&(!v.dZ))&&(v.eB==0))&&(v.bV==([]:Str)))&&((v.aO.length:Int)==0))&&((v.keys.length:Int)==0)
theorem zero_eq(v:ah):FL v=some (QE v):=rfl
theorem aff(v:ah):Tx v (ah.mk 0 false 0 ([]:Str) [] [])=some (QE v):=by
 obtain⟨n,hn,hn2⟩:=qY;obtain⟨m,hm⟩:∃m,n=m+1:=⟨n-1,by omega⟩;have hB:BIG=(m+1)+1:=by omega
 unfold Tx;rw[hB,MI,Tw]
 have hz:QE v=!(((((v.kind !=0)||(!(v.dZ==false)))||(v.eB !=0))||(!(v.bV==([]:Str))))||((v.aO.length:Int) !=(([]:List ah).length:Int))||((v.keys.length:Int) !=(([]:List Str).length:Int))):=by
  unfold QE;have hk:(v.kind !=0)=!(v.kind==0):=rfl;have hi:(v.eB !=0)=!(v.eB==0):=rfl;have hl:((v.aO.length:Int) !=(([]:List ah).length:Int))=!((v.aO.length:Int)==0):=rfl;have hks:((v.keys.length:Int) !=(([]:List Str).length:Int))=!((v.keys.length:Int)==0):=rfl;rw[hk,hi,hl,hks];generalize (v.kind==0)=a;generalize v.dZ=b;generalize (v.eB==0)=c;generalize (v.bV==([]:Str))=d;generalize ((v.aO.length:Int)==0)=e;generalize ((v.keys.length:Int)==0)=f;revert a b c d e f;decide
 cases h:(((((v.kind !=0)||(!(v.dZ==false)))||(v.eB !=0))||(!(v.bV==([]:Str))))||((v.aO.length:Int) !=(([]:List ah).length:Int))||((v.keys.length:Int) !=(([]:List Str).length:Int)))with
 | true=>
  rw[hz,h];rfl
 | false=>
  rw[hz,h];simp only[asN]at h;have hl:v.aO=[]:=by have:=h.1.2;simpa using this
  have hk:v.keys=[]:=by have:=h.2;simpa using this
  simp only[arG,arN,as1];rw[hB,JV,hk];simp only[atq,auj,ath,arG,arN,Int.ofNat_zero];rw[hB,JU,hl];simp
def pW(e:ak):Bool:=
 if e.kind==1 then (e.args.length:Int)==0 else if e.kind==2 then (e.args.length:Int)==0 else if e.kind==3 then (e.args.length:Int)==1 else if e.kind==6 then (e.args.length:Int)==1
 else if e.kind==4 then (e.args.length:Int)==2 else if e.kind==7 then (e.args.length:Int)==2 else if e.kind==8 then (e.args.length:Int)==3 else ((e.kind==5)||(e.kind==9))||(e.kind==10)
theorem ama(e:ak):Px e=some (pW e):=by
 unfold Px pW;simp only[apply_ite some]
def CS(e:ak):Bool:=!((decide (e.kind<1))||(decide (10<e.kind)))
theorem aoS(e:ak)(h:CS e=true):zH e=some (pW e):=by
 unfold zH pW;unfold CS at h;simp only[as3,asN,asI]at h;simp only[apply_ite some]
 have hh:¬e.kind=1→¬e.kind=2→¬e.kind=3→¬e.kind=6→¬e.kind=4→¬e.kind=7→¬e.kind=8→(((e.kind==5)||(e.kind==9))||(e.kind==10))=true:=by
  intro h1 h2 h3 h6 h4 h7 h8;simp only[asq,ar4];omega
 by_cases h1:e.kind=1
 ·simp[h1]
 by_cases h2:e.kind=2
 ·simp[h2]
 by_cases h3:e.kind=3
 ·simp[h3]
 by_cases h6:e.kind=6
 ·simp[h6]
 by_cases h4:e.kind=4
 ·simp[h4]
 by_cases h7:e.kind=7
 ·simp[h7]
 by_cases h8:e.kind=8
 ·simp[h8]
 rw[hh h1 h2 h3 h6 h4 h7 h8]
 all_goals simp[h1,h2,h3,h4,h6,h7,h8]
def HZ(s:Str):Int:=(gT s).getD 0
theorem Ph(s:Str):gT s=some (HZ s):=by
 obtain⟨n,h⟩:=Vx s;unfold HZ;rw[h];rfl
def CW(e:ak):Bool:=
 if e.kind==2 then jm e.name else if e.kind==3 then jm e.name else if e.kind==5 then jm e.name else if e.kind==6 then (e.name==([33]:Str))||(e.name==([45]:Str))
 else if e.kind==7 then decide (0<HZ e.name)else e.name==([]:Str)
theorem aar(e:ak)(h:e.bulk<4611686018427387904):zF e=some (CW e)∧Pw e=some (CW e):=by
 have hn:=af5 e;obtain⟨p1,p2⟩:=Cc e.name (by omega);unfold zF Pw CW;rw[p1,p2,QI,Ph];simp only[aj,apply_ite some,atU]
theorem asS(l:List Str)(hl:l.length<4611686018427387904):gM l kL=some (l.any fun k=>!vE k):=by
 unfold gM jF;have:=dI (F:=fun k (_:Unit) i=>gL l kL k i) (l:=l) (body:=fun(i:Nat) e1 _ r=>au (kL e1) fun x1=>if x1 then some (i:Int)else r ()) (fin:=fun _=>some (-1)) hl (fun k s i=>rfl) ();rw[this]
 have key:∀(t:List Str) (i:Nat),au (dD (fun(i:Nat) e1 (_:Unit) r=>au (kL e1) fun x1=>if x1 then some (i:Int)else r ()) (fun _=>some (-1)) i t ()) (fun x1=>some (decide (0≤x1)))=some (t.any fun k=>!vE k):=by
  intro t
  induction t with
  | nil=>intro i;rfl
  | cons c t ih=>
   intro i;rw[dD];have e1:kL c=some (!vE c):=by unfold kL;rw[YA]
   rw[e1];simp only[aj,atE];cases h:vE c with
   | false=>simp
   | true=>
    simp only[asC,arG,arN,asT];exact ih (i+1)
 exact key l 0
def KA(e:ak):Bool:=if e.kind !=10 then (e.keys.length:Int)==0 else ((e.keys.length:Int)==(e.args.length:Int))&&!(e.keys.any fun k=>!vE k)
theorem aom(e:ak)(h:e.bulk<4611686018427387904):zG e=some (KA e):=by
 have hk:=Lh e;unfold zG KA;rw[asS e.keys (by omega)];split
 ·rfl
 ·cases ((e.keys.length:Int)==(e.args.length:Int))<;>simp
theorem alN(e:ak)(h:e.bulk<4611686018427387904):Bv e BIG 0=some (!(e.keys.any fun k=>!vE k)&&((e.keys.length:Int)==(e.args.length:Int))):=by
 have hk:=Lh e
 have:=dI (F:=fun k (_:Unit) i=>Bv e k i) (l:=e.keys) (body:=fun(i:Nat) e2 _ r=>au (if decide ((e2.length:Int)<1)then some true else au (idx e.keys (i:Int)) fun e3=>some (decide (64<(e3.length:Int)))) fun b4=>if b4 then some false else r ())
  (fin:=fun _=>some ((e.keys.length:Int)==(e.args.length:Int))) (by omega) (fun k s i=>rfl) ()
 rw[this]
 have key:∀(t:List Str) (i:Nat),t=e.keys.drop i→dD (fun(i:Nat) e2 (_:Unit) r=>au (if decide ((e2.length:Int)<1)then some true else au (idx e.keys (i:Int)) fun e3=>some (decide (64<(e3.length:Int)))) fun b4=>if b4 then some false else r ())
   (fun _=>some ((e.keys.length:Int)==(e.args.length:Int))) i t ()=some (!(t.any fun k=>!vE k)&&((e.keys.length:Int)==(e.args.length:Int))):=by
  intro t
  induction t with
  | nil=>intro i _;rfl
  | cons c t ih=>
   intro i ht
   have hi:i<e.keys.length:=by
    rcases asQ i e.keys.length with h|h
    ·exact h
    ·rw[asw h]at ht;cases ht
   have hc:=ar0 hi;rw[←ht]at hc;have e1:c=e.keys[i]:=(atb hc).1;have e2:=(atb hc).2;rw[dD,mF hi,←e1];simp only[aj,atE];rw[ih (i+1) e2];have e3:=YA c;cases h1:decide ((List.length c:Int)<1)<;>rw[h1]at e3
   ·simp only[asT]at e3;simp only[arG,arN,aj,e3];cases vE c<;>simp
   ·simp only[at0]at e3
    have:vE c=false:=by
     cases h:vE c with
     | false=>rfl
     | true=>rw[h]at e3;cases e3
    simp[this]
 exact key e.keys 0 rfl
def xS(e:ak):Bool:=CS e&&((e.kind==1)||QE e.value)&&CW e&&pW e&&KA e
theorem ac5(e:ak)(h:pW e=true):CS e=true:=by
 unfold pW at h;unfold CS;simp only[as3,asN,asI];by_cases h1:e.kind=1
 ·omega
 by_cases h2:e.kind=2
 ·omega
 by_cases h3:e.kind=3
 ·omega
 by_cases h6:e.kind=6
 ·omega
 by_cases h4:e.kind=4
 ·omega
 by_cases h7:e.kind=7
 ·omega
 by_cases h8:e.kind=8
 ·omega
 simp[h1,h2,h3,h4,h6,h7,h8]at h;omega
theorem afZ(e:ak)(h:e.bulk<4611686018427387904):MF e=some (xS e):=by
 unfold MF xS;rw[ama,(aar e h).2,aff,alN e h];have hk:=ac5 e;unfold KA;have hne:(e.kind !=1)=!(e.kind==1):=rfl;rw[hne];cases h1:pW e with
 | false=>cases (e.kind==1)<;>simp
 | true=>
  rw[hk h1];cases h2:CW e with
  | false=>cases (e.kind==1)<;>simp
  | true=>
   cases h3:(e.kind==1)<;>cases h4:QE e.value<;>simp<;>(first|done|(split<;>simp[Bool.and_comm]))
theorem Ed(y:List (Str × Int))(s t:Str)(n:Int):nX (sJ y s n) t=if t=s then n else nX y t:=by
 induction y with
 | nil=>by_cases h:t=s<;>simp[sJ,nX,h]
 | cons a y ih=>
  obtain⟨k,v⟩:=a;unfold sJ;by_cases h:s=k
  ·subst h;simp only[atd,arO];unfold nX;by_cases h2:t=s
   ·simp[h2]
   ·have:(t==s)=false:=asr.2 h2;simp[this,h2]
  ·have:(s==k)=false:=asr.2 h;rw[this];simp only[arG,arN];unfold nX;by_cases h2:t=k
   ·subst h2;have:¬t=s:=fun hh=>h hh.symm;simp[this]
   ·have h3:(t==k)=false:=asr.2 h2;rw[h3];simp only[arG,arN];exact ih
def OO:List Str→List Str→Bool
 | _,[]=>false
 | seen,s::r=>seen.contains s||OO (seen++[s]) r
theorem anY(l:List Str)(hl:l.length<4611686018427387904):t_ l=some (OO [] l):=by
 unfold t_;have:=dI (F:=fun k s i=>pK l k i s) (l:=l) (body:=fun _ s1 (y1:List (Str × Int)) r=>if decide (1<(nX (sJ y1 s1 (bF ((nX y1 s1)+1))) s1))then some true else r (sJ y1 s1 (bF ((nX y1 s1)+1)))) (fin:=fun _=>some false) hl (fun k s i=>rfl) [];rw[this]
 have key:∀(t:List Str) (i:Nat) (y:List (Str × Int)) (seen:List Str),(∀s,nX y s=if s∈seen then 1 else 0)→
   dD (fun _ s1 (y1:List (Str × Int)) r=>if decide (1<(nX (sJ y1 s1 (bF ((nX y1 s1)+1))) s1))then some true else r (sJ y1 s1 (bF ((nX y1 s1)+1)))) (fun _=>some false) i t y=some (OO seen t):=by
  intro t
  induction t with
  | nil=>intro i y seen _;rfl
  | cons c t ih=>
   intro i y seen hy;rw[dD,OO,Ed,arK rfl,hy c];by_cases hc:c∈seen
   ·have:bF 2=2:=by decide
    simp[hc,this]
   ·have:bF ((0:Int)+1)=1:=by decide
    simp only[hc,arN,this];have e:seen.contains c=false:=by simpa using hc
    rw[e];simp only[auj,ath,arG,arN,asT];refine ih (i+1) _ (seen++[c]) fun s=>?_;rw[Ed,hy s];by_cases h1:s=c
    ·subst h1;simp
    ·simp[h1]
 exact key l 0 [] [] (fun s=>by simp[nX])
theorem ZF(l:List Str)(i:Nat)(hi:i<l.length)(hl:l.length<4611686018427387904)(go:Int→Option Bool):∀(k j:Nat),i<k+j→j≤i→
  Dl l (i:Int) go k (j:Int)=if ((l.take i).drop j).contains l[i]then some true else go ((i+1:Nat):Int)
 | 0,j,h,h'=>by omega
 | k+1,j,h,h'=>by
  rw[Dl];by_cases hj:j<i
  ·have hlt:j<(l.take i).length:=by simp;omega
   rw[arK (by simpa using hj),mF hi,mF (by omega),ar0 hlt];simp only[aj,auh,aun];cases h1:(l[i]==l[j])with
   | true=>simp
   | false=>
    simp only[arG,arN,asT];rw[mD (by omega)];exact ZF l i hi hl go k (j+1) (by omega) (by omega)
  ·have:j=i:=by omega
   subst this;rw[arF (by simp),mD (by omega)];have:(List.take j l).drop j=[]:=asw (by simp;omega);rw[this];simp
theorem Wv(l:List Str)(hl:l.length<4611686018427387904):∀(k i:Nat),l.length<k+i→i≤l.length→zA l k (i:Int)=some (OO (l.take i) (l.drop i))
 | 0,i,h,h'=>by omega
 | k+1,i,h,h'=>by
  rw[zA];by_cases hi:i<l.length
  ·rw[arK (by simpa using hi),ar0 hi,OO];have:=ZF l i hi hl (zA l k) BIG 0 (by have:=gX;omega) (by omega);rw[show (0:Int)=((0:Nat):Int)from rfl,this,atl,Wv l hl k (i+1) (by omega) (by omega)];have e:List.take (i+1) l=List.take i l++[l[i]]:=by rw[auo,asb hi];rfl
   rw[e];cases (l.take i).contains l[i]<;>simp
  ·have:i=l.length:=by omega
   subst this;simp[OO]
theorem ahm(l:List Str)(hl:l.length<4611686018427387904):Pv l=some (OO [] l):=by
 have:=Wv l hl BIG 0 (by have:=gX;omega) (by omega);simpa[Pv]using this
def BJ(e:ak)(level:Nat):Int:=
 if 16<level then 13 else if !xS e then 1 else if e.kind==1&&(vW e.value 1 !=0)then vW e.value 1 else if decide (1024<(e.args.length:Int))then 3 else if OO [] e.keys then 7 else 0
theorem ahX(e:ak)(h:e.bulk<4611686018427387904)(level:Nat):Ce e (level:Int)=some (BJ e level):=by
 have hk:=Lh e;have hv:=Cn e;unfold Ce BJ;have h16:decide ((16:Int)<(level:Int))=decide (16<level):=by congr 1;simp;omega
 rw[h16,zero_eq,(aar e h).1,aom e h,D9 (by omega),anY e.keys (by omega)];by_cases h0:16<level
 ·simp[h0]
 ·simp only[h0,ath,arG,arN,aj];have hkd:((decide (e.kind<1))||(decide (10<e.kind)))=!CS e:=by simp[CS]
  have hne:(e.kind !=1)=!(e.kind==1):=rfl;rw[hkd,hne];unfold xS;cases h1:CS e with
  | false=>simp
  | true=>
   rw[aoS e h1]
   cases h3:(e.kind==1)<;>cases h4:QE e.value<;>cases h5:CW e<;>cases h6:pW e<;>cases h7:KA e<;>simp <;>
    (first|done|(split<;>(first|rfl|(split<;>(first|rfl|(split<;>rfl))))))
end Go.Ft
namespace Go.Ft
open Go
attribute [local congr] eO
mutual
def Fp:ak→Nat→Int
 | ⟨a,b,c,l,f⟩,level=>if BJ ⟨a,b,c,l,f⟩ level !=0 then BJ ⟨a,b,c,l,f⟩ level else Np l (level+1)
def Np:List ak→Nat→Int
 | [],_=>0
 | x::r,level=>if Fp x level !=0 then Fp x level else Np r level
end
theorem RO(e:ak)(level:Nat):Fp e level=if BJ e level !=0 then BJ e level else Np e.args (level+1):=by cases e;rw[Fp]
theorem Mk{go:ak→Int→Option Int}{level:Nat}:∀(l:List ak) (i:Nat),(∀x∈l,go x ((level+1:Nat):Int)=some (Fp x (level+1)))→
  dD (fun _ e1 (_:Unit) r=>au (go e1 ((level+1:Nat):Int)) fun e2=>if e2 !=0 then some e2 else r ()) (fun _=>some 0) i l ()=some (Np l (level+1))
 | [],i,_=>by simp[dD,Np]
 | x::r,i,h=>by
  rw[dD,h x (by simp),Np];simp only[aj];rw[Mk r (i+1) (fun y hy=>h y (by simp[hy]))];split<;>rfl
theorem Sj:∀(n:Nat) (e:ak) (level:Nat),e.bulk≤n→e.bulk<4611686018427387904→level≤17→pJ (n+1) e (level:Int)=some (Fp e level)∧yR (n+1) e (level:Int)=some (Fp e level)
 | 0,e,_,h,_,_=>by have:=e.jV;omega
 | n+1,e,level,h,hB,hlv=>by
  have hl:=Li e;have hv:=Cn e;have hks:=Lh e;have hw:bF ((level:Int)+1)=((level+1:Nat):Int):=mD (by omega);constructor
  ·rw[RO];unfold pJ zD;have:=dI (F:=fun k (_:Unit) i=>tZ (pJ (n+1)) e (level:Int) k i) (l:=e.args) (body:=fun _ e1 _ r=>au (pJ (n+1) e1 ((level+1:Nat):Int)) fun e2=>if e2 !=0 then some e2 else r ()) (fin:=fun _=>some 0) (by omega) (fun k s i=>by rw[←hw];rfl) ();rw[ahX e hB,this];simp only[aj];by_cases h0:BJ e level=0
   ·have asi:level≤16:=by
     rcases asQ 16 level with h|h
     ·unfold BJ at h0;simp[h]at h0
     ·exact h
    rw[Mk e.args 0 fun x hx=>(Sj n x (level+1) (by have:=jq hx;omega) (by have:=jq hx;omega) (by omega)).1];simp[h0]
   ·simp[h0]
  ·rw[RO];unfold yR QU;have:=dI (F:=fun k (_:Unit) i=>Ib (yR (n+1)) e (level:Int) k i) (l:=e.args) (body:=fun _ e1 _ r=>au (yR (n+1) e1 ((level+1:Nat):Int)) fun e2=>if e2 !=0 then some e2 else r ()) (fin:=fun _=>some 0) (by omega) (fun k s i=>by rw[←hw];rfl) ();have h16:decide ((16:Int)<(level:Int))=decide (16<level):=by congr 1;simp;omega
   rw[afZ e hB,XZ (by omega),ahm e.keys (by omega),this,h16];by_cases h0:16<level
   ·simp[BJ,h0]
   ·rw[Mk e.args 0 fun x hx=>(Sj n x (level+1) (by have:=jq hx;omega) (by have:=jq hx;omega) (by omega)).2];unfold BJ;simp only[h0,ath,arG,arN,aj];cases xS e with
    | false=>simp
    | true=>
     simp only[asC,arG,arN];cases h1:(e.kind==1&&(vW e.value 1 !=0))with
     | true=>
      have:vW e.value 1≠0:=by simp at h1;exact h1.2
      simp[this]
     | false=>
      simp only[arG,arN];by_cases h2:(1024:Int)<(e.args.length:Int)
      ·simp[h2]
      ·simp only[h2,ath,arG,arN];cases OO [] e.keys<;>simp
def xval(e:ak):Int:=if 4096<ecnt e then 15 else Fp e 1
theorem RN{e:ak}(h:e.bulk<4611686018427387904):je e=some (xval e)∧K7 e=some (xval e):=by
 obtain⟨n,hn,hn2⟩:=qY;obtain⟨c1,c2⟩:=count_eq h;obtain⟨v1,v2⟩:=Sj n e 1 (by omega) h (by omega);unfold je K7 xval Ii Xb;rw[c1,c2,hn];have:decide ((4096:Int)<(ecnt e:Int))=decide (4096<ecnt e):=by congr 1;simp;omega
 simp only[aj,this];rw[show (1:Int)=((1:Nat):Int)from rfl,v1,v2];by_cases h4:4096<ecnt e<;>simp[h4]
inductive Ty where
 | leaf (k:Int)
 | nest (k:Int) (t:Ty)
namespace Ty
def api:Ty→ay
 | leaf k=>⟨k,[]⟩
 | nest k t=>⟨k,[t.api]⟩
def wf:Ty→Prop
 | leaf k=>0≤k∧k≤7∧k≠5∧k≠6
 | nest k t=>(k=5∨k=6)∧t.wf
def dep:Ty→Nat
 | leaf _=>1
 | nest _ t=>1+t.dep
def kind:Ty→Int
 | leaf k=>k
 | nest k _=>k
theorem nD(t:Ty):t.api.kind=t.kind:=by cases t<;>rfl
theorem OQ(t:Ty):1≤t.dep:=by cases t<;>simp[dep]<;>omega
end Ty
theorem TQ{k:Int}(h:0≤k∧k≤7):∃s,yN k=some s∧(s==([]:Str))=false:=by
 obtain⟨n,rfl⟩:∃n:Nat,k=n:=⟨k.toNat,by omega⟩;have hn:n<8:=by omega
 match n,hn with
 | 0,_=>exact⟨_,rfl,rfl⟩
 | 1,_=>exact⟨_,rfl,rfl⟩
 | 2,_=>exact⟨_,rfl,rfl⟩
 | 3,_=>exact⟨_,rfl,rfl⟩
 | 4,_=>exact⟨_,rfl,rfl⟩
 | 5,_=>exact⟨_,rfl,rfl⟩
 | 6,_=>exact⟨_,rfl,rfl⟩
 | 7,_=>exact⟨_,rfl,rfl⟩
theorem aiq{k:Int}(h:¬(0≤k∧k≤7)):yN k=some []:=by
 unfold yN;rw[arK (by simp;omega)]
theorem ahn:∀(k level:Nat) (t:ay),18≤k+level→level≤17→∃c,kP k (level:Int) t=some c∧FI k t (level:Int)=some c∧(c=0→∃T:Ty,T.wf∧t=T.api∧T.dep+level≤17)
 | 0,level,t,h,h'=>by omega
 | k+1,level,t,h,h'=>by
  rw[kP,FI,QX];have h16:decide ((16:Int)<(level:Int))=decide (16<level):=by congr 1;simp;omega
  rw[h16];by_cases h0:16<level
  ·exact⟨13,by simp[h0],by simp[h0],by simp⟩
  ·simp only[h0,ath,arG,arN];by_cases hk:0≤t.kind∧t.kind≤7
   ·obtain⟨s,hs,hs2⟩:=TQ hk;have hb:(decide (t.kind<0)||decide (7<t.kind))=false:=by simp;omega
    rw[hs,hb];simp only[aj,hs2,iQ,AU,arG,arN];cases hn:((t.kind==5)||(t.kind==6))with
    | false=>
     simp only[ati,as1,as6,arG,arN,aj,arO];cases he:t.elem with
     | nil=>
      refine⟨0,by simp,by simp,fun _=>⟨.leaf t.kind,?_,?_,?_⟩⟩
      ·simp at hn;exact⟨hk.1,hk.2,hn.1,hn.2⟩
      ·cases t;simp at he;subst he;rfl
      ·simp only[Ty.dep];omega
     | cons x r=>exact⟨1,by first|(simp;done)|(simp;omega),by first|(simp;done)|(simp;omega),by simp⟩
    | true=>
     simp only[as6,asC,ati,arG,arN];have hnk:t.kind=5∨t.kind=6:=by simpa using hn
     match he:t.elem with
     | []=>exact⟨1,by simp,by simp,by simp⟩
     | [x]=>
      obtain⟨c,c1,c2,c3⟩:=ahn k (level+1) x (by omega) (by omega);have hw:bF ((level:Int)+1)=((level+1:Nat):Int):=mD (by omega);refine⟨c,?_,?_,fun hc=>?_⟩
      ·rw[hw,←c1];simp[idx]
      ·rw[hw,←c2];simp[idx]
      ·obtain⟨T,w1,w2,w3⟩:=c3 hc;refine⟨.nest t.kind T,⟨hnk,w1⟩,?_,?_⟩
       ·cases t;simp at he;subst he;simp[Ty.api,w2]
       ·simp only[Ty.dep];omega
     | x::y::r=>
      have hl:(((x::y::r).length:Int) !=1)=true:=by simp only[ase,asL];omega
      exact⟨1,by simp only[hl,arO,aj],by simp only[hl,arO],by simp⟩
   ·have hb:(decide (t.kind<0)||decide (7<t.kind))=true:=by simp;omega
    rw[aiq hk,hb];exact⟨1,by simp,by simp,by simp⟩
theorem amw:∀(T:Ty) (k level:Nat),T.wf→T.dep+level≤17→18≤k+level→kP k (level:Int) T.api=some 0
 | .leaf a,0,level,_,h,h'=>by simp only[Ty.dep]at h;omega
 | .leaf a,k+1,level,hw,h,h'=>by
  simp only[Ty.dep]at h;have h16:decide ((16:Int)<(level:Int))=false:=atc (by omega);obtain⟨s,hs,hs2⟩:=TQ (k:=a) ⟨hw.1,hw.2.1⟩;have hn:((a==5)||(a==6))=false:=by simp;exact⟨hw.2.2.1,hw.2.2.2⟩
  simp[kP,h16,Ty.api,hs,asr.1 hs2,iQ,hn]
 | .nest a T,0,level,_,h,h'=>by simp only[Ty.dep]at h;have:=T.OQ;omega
 | .nest a T,k+1,level,hw,h,h'=>by
  simp only[Ty.dep]at h;have hd:=T.OQ;have h16:decide ((16:Int)<(level:Int))=false:=atc (by omega);have hn:((a==5)||(a==6))=true:=by simpa using hw.1
  obtain⟨s,hs,hs2⟩:=TQ (k:=a) (by rcases hw.1 with h|h<;>omega);have hw64:bF ((level:Int)+1)=((level+1:Nat):Int):=mD (by omega);have:=amw T k (level+1) hw.2 (by omega) (by omega);rw[←this,←hw64];simp[kP,h16,Ty.api,hs,asr.1 hs2,iQ,hn,idx]
def Pf(t:ay):Int:=(jX t).getD 0
theorem Bq(t:ay):jX t=some (Pf t)∧AV t=some (Pf t)∧(Pf t=0→∃T:Ty,T.wf∧t=T.api∧T.dep≤16):=by
 obtain⟨c,c1,c2,c3⟩:=ahn BIG 1 t (by have:=gX;omega) (by omega);have e1:jX t=some c:=c1;have e2:AV t=some c:=c2;have:Pf t=c:=by unfold Pf;rw[e1];rfl
 rw[this];exact⟨e1,e2,fun h=>by obtain⟨T,a,b,d⟩:=c3 h;exact⟨T,a,b,by omega⟩⟩
theorem X5{T:Ty}(h:T.wf)(hd:T.dep≤16):Pf T.api=0:=by
 have:=amw T BIG 1 h (by omega) (by have:=gX;omega);have e1:jX T.api=some 0:=this;unfold Pf;rw[e1];rfl
theorem aeC:∀(T:Ty) (n:Nat),T.wf→T.dep≤n→rP n T.api=some T.api
 | .leaf a,0,_,h=>by simp[Ty.dep]at h
 | .leaf a,n+1,hw,h=>by
  have hn:((a==5)||(a==6))=false:=by simp;exact⟨hw.2.2.1,hw.2.2.2⟩
  simp[rP,uW,iQ,Ty.api,hn,fV]
 | .nest a T,0,_,h=>by simp only[Ty.dep]at h;omega
 | .nest a T,n+1,hw,h=>by
  simp only[Ty.dep]at h;have hn:((a==5)||(a==6))=true:=by simpa using hw.1
  have:=aeC T n hw.2 (by omega);simp[rP,uW,iQ,Ty.api,hn,oW,idx,this]
theorem Cv{T:Ty}(h:T.wf)(hd:T.dep≤1000):Dg T.api=some T.api:=aeC T BIG h (by have:=gX;omega)
def jy:Ty→Ty→Ty
 | .leaf a,.leaf b=>if a=7 then .leaf b else if b=7 then .leaf a else if a=b then .leaf a else .leaf 0
 | .leaf a,.nest b y=>if a=7 then .nest b y else .leaf 0
 | .nest a x,.leaf b=>if b=7 then .nest a x else .leaf 0
 | .nest a x,.nest b y=>if a=b then .nest a (jy x y)else .leaf 0
theorem A9:∀(a b:Ty),(jy a b).dep≤max a.dep b.dep
 | .leaf a,.leaf b=>by
  rw[jy];repeat' split
  all_goals simp only[Ty.dep];omega
 | .leaf a,.nest b y=>by
  rw[jy];split
  all_goals simp only[Ty.dep];omega
 | .nest a x,.leaf b=>by
  rw[jy];split
  all_goals simp only[Ty.dep];omega
 | .nest a x,.nest b y=>by
  have:=A9 x y;rw[jy];split
  all_goals simp only[Ty.dep];omega
theorem nY:∀(a b:Ty),a.wf→b.wf→(jy a b).wf
 | .leaf a,.leaf b,ha,hb=>by
  rw[jy];repeat' split
  ·exact hb
  ·exact ha
  ·exact ha
  ·simp[Ty.wf]
 | .leaf a,.nest b y,ha,hb=>by
  rw[jy];split
  ·exact hb
  ·simp[Ty.wf]
 | .nest a x,.leaf b,ha,hb=>by
  rw[jy];split
  ·exact ha
  ·simp[Ty.wf]
 | .nest a x,.nest b y,ha,hb=>by
  have:=nY x y ha.2 hb.2;rw[jy];split
  ·exact⟨ha.1,this⟩
  ·simp[Ty.wf]
theorem aiD:∀(n:Nat) (a b:Ty),a.wf→b.wf→a.dep≤n→a.dep≤1000→b.dep≤1000→oL n a.api b.api=some (jy a b).api∧vg n a.api b.api=some (jy a b).api
 | 0,a,b,_,_,h,_,_=>by have:=a.OQ;omega
 | n+1,.leaf x,.leaf y,ha,hb,h,h1,h2=>by
  rw[oL,qZ,vg,yx,jy,Cv ha h1,Cv hb h2];have hn:((x==5)||(x==6))=false:=by simp;exact⟨ha.2.2.1,ha.2.2.2⟩
  by_cases k1:x=7
  ·simp[k1,Ty.api]
  ·by_cases k2:y=7
   ·simp[k1,k2,Ty.api]
   ·by_cases k3:x=y
    ·subst k3;simp[k1,Ty.api,iQ,AU,hn,fV]
    ·simp[k1,k2,k3,Ty.api,fV,jY]
 | n+1,.leaf x,.nest y t,ha,hb,h,h1,h2=>by
  rw[oL,qZ,vg,yx,jy,Cv ha h1,Cv hb h2];have k2:¬y=7:=by rcases hb.1 with h|h<;>omega
  have k3:¬x=y:=by
   rintro rfl;rcases hb.1 with h|h
   ·exact ha.2.2.1 h
   ·exact ha.2.2.2 h
  by_cases k1:x=7
  ·simp[k1,Ty.api]
  ·simp[k1,k2,k3,Ty.api,fV,jY]
 | n+1,.nest x s,.leaf y,ha,hb,h,h1,h2=>by
  rw[oL,qZ,vg,yx,jy,Cv ha h1,Cv hb h2];have k1:¬x=7:=by rcases ha.1 with h|h<;>omega
  have k3:¬x=y:=by
   rintro rfl;rcases ha.1 with h|h
   ·exact hb.2.2.1 h
   ·exact hb.2.2.2 h
  by_cases k2:y=7
  ·simp[k1,k2,Ty.api]
  ·simp[k1,k2,k3,Ty.api,fV,jY]
 | n+1,.nest x s,.nest y t,ha,hb,h,h1,h2=>by
  rw[oL,qZ,vg,yx,jy,Cv ha h1,Cv hb h2];have k1:¬x=7:=by rcases ha.1 with h|h<;>omega
  have k2:¬y=7:=by rcases hb.1 with h|h<;>omega
  have hn:((x==5)||(x==6))=true:=by simp;exact ha.1
  simp only[Ty.dep]at h h1 h2;obtain⟨i1,i2⟩:=aiD n s t ha.2 hb.2 (by omega) (by omega) (by omega);by_cases k3:x=y
  ·subst k3;simp[k1,Ty.api,iQ,AU,hn,oW,jG,idx,i1,i2]
  ·simp[k1,k2,k3,Ty.api,fV,jY]
theorem join_eq{a b:Ty}(ha:a.wf)(hb:b.wf)(h1:a.dep≤1000)(h2:b.dep≤1000):BP a.api b.api=some (jy a b).api∧JQ a.api b.api=some (jy a b).api:=
 aiD BIG a b ha hb (by have:=gX;omega) h1 h2
theorem I4{a b:Ty}(ha:a.wf)(hb:b.wf)(h1:a.dep≤16)(h2:b.dep≤16):l7 a.api b.api=some (jy a b).api∧EJ a.api b.api=some (jy a b).api:=by
 unfold l7 EJ Fx aag;rw[(Bq _).1,(Bq _).1,(Bq _).2.1,(Bq _).2.1,X5 ha h1,X5 hb h2];obtain⟨j1,j2⟩:=join_eq ha hb (by omega) (by omega);simp[j1,j2]
end Go.Ft
namespace Go.Ft
open Go
attribute [local congr] eO
def dA:Ty→Ty→Bool
 | .leaf a,.leaf b=>((a==0)||(a==7))||(b==0)||(a==b)
 | .leaf a,.nest _ _=>(a==0)||(a==7)
 | .nest _ _,.leaf b=>b==0
 | .nest a x,.nest b y=>(a==b)&&dA x y
theorem aji:∀(n:Nat) (a b:Ty),a.wf→b.wf→a.dep≤n→jU n a.api b.api=some (dA a b)∧mP n a.api b.api=some (dA a b)
 | 0,a,b,_,_,h=>by have:=a.OQ;omega
 | n+1,.leaf x,.leaf y,ha,hb,h=>by
  rw[jU,kX,mP,rT,dA];simp only[fC,gV,Ty.api,aj];by_cases k:(((x==0)||(x==7))||(y==0))=true
  ·simp only[k,arO,at0,atU]
  ·rw[atA]at k;simp only[k,arG,arN,asT];by_cases hxy:x=y
   ·subst hxy;simp
   ·simp[hxy]
 | n+1,.leaf x,.nest y t,ha,hb,h=>by
  rw[jU,kX,mP,rT,dA];have k2:(y==0)=false:=by simp;rcases hb.1 with h|h<;>omega
  have k3:(x !=y)=true:=by
   simp only[asL];rintro rfl;rcases hb.1 with h|h
   ·exact ha.2.2.1 h
   ·exact ha.2.2.2 h
  simp only[fC,gV,Ty.api,aj,k2,k3,atM];by_cases k:((x==0)||(x==7))=true
  ·simp only[k,arO,atU]
  ·rw[atA]at k;simp only[k,arG,arN,arO,atU]
 | n+1,.nest x s,.leaf y,ha,hb,h=>by
  rw[jU,kX,mP,rT,dA];have k1:((x==0)||(x==7))=false:=by simp;rcases ha.1 with h|h<;>omega
  have k3:(x !=y)=true:=by
   simp only[asL];rintro rfl;rcases ha.1 with h|h
   ·exact hb.2.2.1 h
   ·exact hb.2.2.2 h
  simp only[fC,gV,Ty.api,aj,k1,k3,asT];by_cases k:(y==0)=true
  ·simp only[k,arO,atU]
  ·rw[atA]at k;simp only[k,arG,arN,arO,atU]
 | n+1,.nest x s,.nest y t,ha,hb,h=>by
  rw[jU,kX,mP,rT,dA];have k1:((x==0)||(x==7))=false:=by simp;rcases ha.1 with h|h<;>omega
  have k2:(y==0)=false:=by simp;rcases hb.1 with h|h<;>omega
  simp only[Ty.dep]at h;obtain⟨i1,i2⟩:=aji n s t ha.2 hb.2 (by omega);simp only[fC,gV,Ty.api,aj,k1,k2,asT];by_cases hxy:x=y
  ·subst hxy;simp[idx,i1,i2]
  ·simp[hxy]
theorem lT{a b:Ty}(ha:a.wf)(hb:b.wf)(h:a.dep≤1000):iM a.api b.api=some (dA a b)∧eX a.api b.api=some (dA a b):=
 aji BIG a b ha hb (by have:=gX;omega)
def dw(t:Ty):Bool:=(t.kind==0)||(t.kind==7)
theorem jH(t:Ty):fC t.api=some (dw t)∧gV t.api=some (dw t):=by
 unfold fC gV dw;rw[Ty.nD];exact⟨rfl,rfl⟩
def ZT:ay:=ay.mk 0 []
def sc(k:Int):Ty:=.leaf k
theorem QK{k:Int}(h:0≤k∧k≤7∧k≠5∧k≠6):(sc k).wf:=h
theorem of_eq(k:Int):eT k=some (sc k).api∧fM k=some (sc k).api∧jY k=some (sc k).api:=⟨rfl,rfl,rfl⟩
theorem afC(k:Int)(t:Ty):lU k t.api=some (Ty.nest k t).api∧jG k t.api=some (Ty.nest k t).api:=⟨rfl,rfl⟩
theorem oQ{a:Ty}(ha:a.wf)(h:a.dep≤1000){k:Int}(hk:0≤k∧k≤7∧k≠5∧k≠6):gG a.api k=some (dA a (sc k)):=by
 unfold gG;rw[(of_eq k).2.1];exact(lT ha (QK hk) h).2
theorem tN{k:Int}(h:k=0∨k=1∨k=2∨k=3∨k=4∨k=7):0≤k∧k≤7∧k≠5∧k≠6:=by omega
def Fv(x:Option (ay × Bool)):Option (ay × Int):=
 fD x fun x6 ok1=>if !ok1 then some (ZT,9)else au (AV x6) fun x7=>if x7 !=0 then some (ZT,13)else some (x6,0)
def RES(x y:Option (ay × Int)):Prop:=∃(T:Ty) (c:Int),T.wf∧T.dep≤16∧(c≠0→T=sc 0)∧x=some (T.api,c)∧y=some (T.api,c)
theorem RES.mk{x:Option (ay × Int)}{y:Option (ay × Bool)}(T:Ty)(b:Bool)(hx:x=some (if b then (T.api,0)else (ZT,9)))(hy:y=some (T.api,b))(hw:b=true→T.wf∧T.dep≤16):RES x (Fv y):=by
 subst hx hy;unfold Fv;cases b with
 | false=>exact⟨sc 0,9,by simp[sc,Ty.wf],by simp[sc,Ty.dep],fun _=>rfl,rfl,rfl⟩
 | true=>
  obtain⟨h1,h2⟩:=hw rfl;refine⟨T,0,h1,h2,fun h=>absurd rfl h,rfl,?_⟩;simp only[aC,asC,arG,arN,(Bq _).2.1,X5 h1 h2];rfl
theorem acs{t:Ty}(h:t.wf)(hd:t.dep≤16){e:ak}(he:e.kind=3)(r:List ay):RES (Ac t.api) (Fv (fQ e (t.api::r))):=by
 have i0:idx (t.api::r) 0=some t.api:=rfl;unfold Ac fQ;rw[(jH t).1];simp only[he,i0,aj,(jH t).2,Ty.nD];cases t with
 | leaf k=>
  have h6:(k==6)=false:=by simp;exact h.2.2.2
  refine RES.mk (.leaf k) (dw (.leaf k)) ?_ ?_ (fun _=>⟨h,hd⟩)
  ·simp only[Ty.kind,h6,arG,arN];cases dw (.leaf k)<;>rfl
  ·simp[Ty.kind,h6]
 | nest k s=>
  have hl:dw (.nest k s)=false:=by unfold dw;simp[Ty.kind];rcases h.1 with h|h<;>omega
  simp only[Ty.dep]at hd;by_cases h6:k=6
  ·subst h6;refine RES.mk s true ?_ ?_ (fun _=>⟨h.2,by omega⟩)
   ·simp[hl,Ty.kind,Ty.api,idx]
   ·simp[Ty.kind,Ty.api,idx]
  ·refine RES.mk (.nest k s) false ?_ ?_ (fun hh=>by cases hh)
   ·simp[hl,Ty.kind,h6,ZT]
   ·simp[Ty.kind,h6,hl]
theorem afP{t i:Ty}(h:t.wf)(hd:t.dep≤16)(hi:i.wf)(hid:i.dep≤16){e:ak}(he:e.kind=4)(r:List ay):RES (Cx t.api i.api) (Fv (fQ e (t.api::i.api::r))):=by
 have i0:idx (t.api::i.api::r) 0=some t.api:=rfl;have i1:idx (t.api::i.api::r) 1=some i.api:=rfl;unfold Cx fQ Pt;have c3:=lT hi (QK (tN (k:=3) (by omega))) (by omega);have c4:=lT hi (QK (tN (k:=4) (by omega))) (by omega);simp only[he,i0,i1,aj,(jH t).1,(jH t).2,Ty.nD,(of_eq _).1,c3.1,c4.1,oQ hi (by omega) (tN (k:=3) (by omega)),oQ hi (by omega) (tN (k:=4) (by omega))];generalize dA i (sc 3)=n3;generalize dA i (sc 4)=n4;cases t with
 | leaf k=>
  have h5:(k==5)=false:=by simp;exact h.2.2.1
  have h6:(k==6)=false:=by simp;exact h.2.2.2
  refine RES.mk (.leaf k) (dw (.leaf k)&&(n3||n4)) ?_ ?_ (fun _=>⟨h,hd⟩)
  ·simp only[Ty.kind,h5,h6,ati,arG,arN];cases dw (.leaf k)<;>cases n3<;>cases n4<;>rfl
  ·simp only[Ty.kind,h5,h6,arG,arN];cases dw (.leaf k)<;>cases n3<;>cases n4<;>simp
 | nest k s=>
  have hl:dw (.nest k s)=false:=by unfold dw;simp[Ty.kind];rcases h.1 with h|h<;>omega
  simp only[Ty.dep]at hd;rcases h.1 with h5|h6
  ·subst h5;refine RES.mk s n3 ?_ ?_ (fun _=>⟨h.2,by omega⟩)
   ·simp only[hl,Ty.kind,Ty.api];cases n3<;>simp[idx,ZT]
   ·simp[Ty.kind,Ty.api,idx]
  ·subst h6;refine RES.mk s n4 ?_ ?_ (fun _=>⟨h.2,by omega⟩)
   ·simp only[hl,Ty.kind,Ty.api];cases n4<;>simp[idx,ZT]
   ·simp[Ty.kind,Ty.api,idx]
theorem aeZ{t:Ty}(h:t.wf)(hd:t.dep≤16){e:ak}(he:e.kind=6)(r:List ay):RES (Cw e.name t.api) (Fv (fQ e (t.api::r))):=by
 have i0:idx (t.api::r) 0=some t.api:=rfl;have c3:=lT h (QK (tN (k:=3) (by omega))) (by omega);have c2:=lT h (QK (tN (k:=2) (by omega))) (by omega);unfold Cw fQ;simp only[he,i0,aj,(of_eq _).1,(of_eq _).2.1,c3.1,c2.1,oQ h (by omega) (tN (k:=3) (by omega)),oQ h (by omega) (tN (k:=2) (by omega))];cases hop:(e.name==([33]:Str))with
 | true=>
  refine RES.mk (sc 2) (dA t (sc 2)) ?_ ?_ (fun _=>⟨by simp[sc,Ty.wf],by simp[sc,Ty.dep]⟩)
  ·simp only[arO];cases dA t (sc 2)<;>rfl
  ·simp
 | false=>
  refine RES.mk (sc 3) (dA t (sc 3)) ?_ ?_ (fun _=>⟨by simp[sc,Ty.wf],by simp[sc,Ty.dep]⟩)
  ·simp only[arG,arN];cases dA t (sc 3)<;>rfl
  ·simp
theorem aje{a b c:Ty}(ha:a.wf)(had:a.dep≤16)(hb:b.wf)(hbd:b.dep≤16)(hc:c.wf)(hcd:c.dep≤16){e:ak}(he:e.kind=8)(r:List ay):
  RES (au (eT 2) fun Vu=>au (iM a.api Vu) fun Ro=>if !Ro then some ((ay.mk 0 []),9)else au (l7 b.api c.api) fun Lx=>some (Lx,0)) (Fv (fQ e (a.api::b.api::c.api::r))):=by
 have i0:idx (a.api::b.api::c.api::r) 0=some a.api:=rfl;have i1:idx (a.api::b.api::c.api::r) 1=some b.api:=rfl;have i2:idx (a.api::b.api::c.api::r) 2=some c.api:=rfl;have c2:=lT ha (QK (tN (k:=2) (by omega))) (by omega);have j:=I4 hb hc hbd hcd;have hjd:=A9 b c;refine RES.mk (jy b c) (dA a (sc 2)) ?_ ?_ (fun _=>⟨nY b c hb hc,by omega⟩)
 ·simp only[(of_eq _).1,aj,c2.1,j.1];cases dA a (sc 2)<;>rfl
 ·unfold fQ;simp[he,i0,i1,i2,j.2,oQ ha (by omega) (tN (k:=2) (by omega))]
end Go.Ft
namespace Go.Ft
open Go
attribute [local congr] eO
def cmB(a b:Ty)(k:Int):Bool:=(((dw a||(a.kind==k))&&(dw b||(b.kind==k)))&&((a.kind==k)||(b.kind==k)))
def MV(a b:Ty):Int:=if dw a then b.kind else if dw b||(a.kind==b.kind)then a.kind else -1
theorem Qf(a b:Ty)(k:Int):iC a.api b.api k=some (cmB a b k):=by
 unfold iC cmB;rw[(jH a).1,(jH b).1,Ty.nD,Ty.nD];simp only[aj];cases (dw a||(a.kind==k))<;>simp
theorem H7(a b:Ty):tC a.api b.api=some (MV a b):=by
 unfold tC MV;rw[(jH a).2,(jH b).2,Ty.nD,Ty.nD];simp only[aj];cases dw a
 ·simp only[arG,arN];split<;>rfl
 ·rfl
theorem UG{a b:Ty}(h:(dw a&&dw b)=false){k:Int}(hk:k≠0∧k≠7∧0≤k):cmB a b k=(MV a b==k):=by
 unfold cmB MV dw at *;generalize a.kind=x at *;generalize b.kind=y at *;rw[asZ];simp only[atm,asN,asr]at h;by_cases h1:x=0∨x=7
 ·have e:((x==0)||(x==7))=true:=by simpa using h1
  simp only[e,arO,at0,as6,arV,asq,ar4];omega
 ·have e:((x==0)||(x==7))=false:=by simpa using h1
  simp only[e,arG,arN,asT];by_cases h2:y=0∨y=7
  ·have e2:((y==0)||(y==7))=true:=by simpa using h2
   simp only[e2,at0,arO,Bool.and_true,arV,asq,ar4];omega
  ·have e2:((y==0)||(y==7))=false:=by simpa using h2
   simp only[e2,asT];by_cases h3:x=y
   ·simp only[h3,atd,arO,arV,asq,ar4];omega
   ·have e3:(x==y)=false:=by simpa using h3
    simp only[e3,arG,arN,arV,asq,ar4];omega
def Uw:Ty→Ty
 | .leaf k=>.leaf k
 | .nest _ t=>t
theorem A8{t:Ty}(h:t.wf)(hl:dw t=true):t=sc t.kind∧(t.kind=0∨t.kind=7):=by
 unfold dw at hl;simp only[asq,ar4]at hl;cases t with
 | leaf k=>exact⟨rfl,hl⟩
 | nest k s=>simp only[Ty.kind]at hl;rcases h.1 with h|h<;>omega
theorem aeu{t:Ty}(h:dw t=true∨t.kind=5)(hw:t.wf)(hd:t.dep≤16):uy t.api=some (Uw t).api∧FD t.api=some (Uw t).api∧(Uw t).wf∧(Uw t).dep≤15:=by
 unfold uy FD;rw[(jH t).1,(jH t).2];simp only[aj];cases t with
 | leaf k=>
  have hl:dw (.leaf k)=true:=by
   rcases h with h|h
   ·exact h
   ·simp only[Ty.kind]at h;exact absurd h hw.2.2.1
  rw[hl];exact⟨rfl,rfl,hw,by simp[Uw,Ty.dep]⟩
 | nest k s=>
  have hl:dw (.nest k s)=false:=by unfold dw;simp[Ty.kind];rcases hw.1 with h|h<;>omega
  rw[hl];simp only[Ty.dep]at hd;exact⟨by simp[Ty.api,idx,Uw],by simp[Ty.api,idx,Uw],hw.2,by simp only[Uw];omega⟩
theorem akQ{a b:Ty}(ha:a.wf)(had:a.dep≤16)(hb:b.wf)(hbd:b.dep≤16):RES (Ho a.api b.api) (Fv (K6 a.api b.api)):=by
 unfold Ho K6;rw[(jH a).1,(jH a).2,(jH b).1,(jH b).2,Ty.nD,Ty.nD];simp only[aj];have hone:(if dw a=true then some (dw b)else some false)=some (dw a&&dw b):=by cases dw a<;>rfl
 rw[hone];simp only[aj];cases hl:(dw a&&dw b)with
 | true=>
  simp only[arV]at hl;obtain⟨a1,a2⟩:=A8 ha hl.1;obtain⟨b1,b2⟩:=A8 hb hl.2;rcases a2 with a2|a2
  ·rw[a2]at a1;subst a1;exact RES.mk (sc 0) true rfl rfl (fun _=>⟨ha,had⟩)
  ·rw[a2]at a1;subst a1;rcases b2 with b2|b2
   ·rw[b2]at b1;subst b1;exact RES.mk (sc 0) true rfl rfl (fun _=>⟨hb,hbd⟩)
   ·rw[b2]at b1;subst b1;exact RES.mk (sc 7) true rfl rfl (fun _=>⟨hb,hbd⟩)
 | false=>
  simp only[arG,arN,Qf,H7,aj];rw[UG hl (k:=3) (by omega),UG hl (k:=4) (by omega),UG hl (k:=5) (by omega)];by_cases k5:MV a b=5
  ·have ea:dw a=true∨a.kind=5:=by
    unfold MV at k5;cases h:dw a with
    | true=>exact .inl rfl
    | false=>
     rw[h]at k5;simp only[arG,arN]at k5;split at k5
     ·exact .inr k5
     ·omega
   have eb:dw b=true∨b.kind=5:=by
    unfold MV at k5;cases h:dw b with
    | true=>exact .inl rfl
    | false=>
     rw[h]at k5;cases h2:dw a with
     | true=>rw[h2]at k5;exact .inr (by simpa using k5)
     | false=>
      rw[h2]at k5;simp only[arG,arN,asT]at k5;split at k5
      ·rename_i h3;right;simp only[ar4]at h3;omega
      ·omega
   obtain⟨x1,x2,x3,x4⟩:=aeu ea ha had;obtain⟨y1,y2,y3,y4⟩:=aeu eb hb hbd;have j:=I4 x3 y3 (by omega) (by omega);have jd:=A9 (Uw a) (Uw b);refine RES.mk (.nest 5 (jy (Uw a) (Uw b))) true ?_ ?_ (fun _=>⟨⟨.inl rfl,nY _ _ x3 y3⟩,by simp only[Ty.dep];omega⟩)
   ·simp[k5,x1,y1,j.1,lU,Ty.api]
   ·simp[k5,x2,y2,j.2,jG,Ty.api]
  ·refine RES.mk (sc (MV a b)) ((MV a b==3)||(MV a b==4)) ?_ ?_ (fun hh=>⟨?_,by simp[sc,Ty.dep]⟩)
   ·by_cases k3:MV a b=3
    ·simp[k3,eT,sc,Ty.api]
    ·by_cases k4:MV a b=4
     ·simp[k4,eT,sc,Ty.api]
     ·simp[k3,k4,k5,ZT]
   ·simp[k5,fM,jY,sc,Ty.api]
   ·simp only[asq,ar4]at hh;simp only[sc,Ty.wf];omega
def opsL:List Str:=[[38,38],[124,124],[61,61],[33,61],[60],[60,61],[62],[62,61],[45],[42],[47],[37],[43]]
theorem SN{s:Str}(h:0<HZ s):s∈opsL:=by
 unfold HZ gT at h;unfold opsL;by_cases h1:s=[124,124]
 ·simp[h1]
 by_cases h2:s=[38,38]
 ·simp[h2]
 by_cases h3:s=[61,61]
 ·simp[h3]
 by_cases h4:s=[33,61]
 ·simp[h4]
 by_cases h5:s=[60]
 ·simp[h5]
 by_cases h6:s=[60,61]
 ·simp[h6]
 by_cases h7:s=[62]
 ·simp[h7]
 by_cases h8:s=[62,61]
 ·simp[h8]
 by_cases h9:s=[43]
 ·simp[h9]
 by_cases h10:s=[45]
 ·simp[h10]
 by_cases h11:s=[42]
 ·simp[h11]
 by_cases h12:s=[47]
 ·simp[h12]
 by_cases L_:s=[37]
 ·simp[L_]
 simp[h1,h2,h3,h4,h5,h6,h7,h8,h9,h10,h11,h12,L_]at h
theorem aeK{a b:Ty}(ha:a.wf)(had:a.dep≤16)(hb:b.wf)(hbd:b.dep≤16){k:Int}(hk:0≤k∧k≤7∧k≠5∧k≠6):jk k a.api b.api=some (dA a (sc k)&&dA b (sc k)):=by
 unfold jk;rw[(of_eq k).1];simp only[aj,(lT ha (QK hk) (by omega)).1,(lT hb (QK hk) (by omega)).1];cases dA a (sc k)<;>rfl
theorem ac3{a b:Ty}(ha:a.wf)(had:a.dep≤16)(hb:b.wf)(hbd:b.dep≤16){op:Str}(hop:op∈opsL):RES (DU op a.api b.api) (Fv (nT op a.api b.api)):=by
 have b2:=aeK ha had hb hbd (tN (k:=2) (by omega));have b3:=aeK ha had hb hbd (tN (k:=3) (by omega));have ia2:=oQ ha (by omega) (tN (k:=2) (by omega));have ib2:=oQ hb (by omega) (tN (k:=2) (by omega));have ia3:=oQ ha (by omega) (tN (k:=3) (by omega));have ib3:=oQ hb (by omega) (tN (k:=3) (by omega));have w2:(sc 2).wf∧(sc 2).dep≤16:=⟨by simp[sc,Ty.wf],by simp[sc,Ty.dep]⟩;have w3:(sc 3).wf∧(sc 3).dep≤16:=⟨by simp[sc,Ty.wf],by simp[sc,Ty.dep]⟩;have hone:∀p q:Bool,(if p=true then some q else some false)=some (p&&q):=by intro p q;cases p<;>rfl
 have rel:∀(x:Option (ay × Int)) (y:Option (ay × Bool)),
   x=(au (fC a.api) fun x7=>au (if x7 then fC b.api else some false) fun b2=>au (if b2 then some true else iC a.api b.api 3) fun b3=>au (if b3 then some true else iC a.api b.api 4) fun b4=>
    if b4 then au (eT 2) fun Jj=>some (Jj,0)else some ((ay.mk 0 []),9))→
   y=(au (tC a.api b.api) fun Ak=>au (fM 2) fun x9=>au (gV a.api) fun Fh=>au (if Fh then gV b.api else some false) fun b4=>some (x9,((b4||(Ak==3))||(Ak==4))))→RES x (Fv y):=by
  intro x y hx hy;rw[hx,hy,(jH a).1,(jH a).2,(jH b).1,(jH b).2,Qf,Qf,H7,(of_eq 2).1,(of_eq 2).2.1];simp only[aj,hone];refine RES.mk (sc 2) (((dw a&&dw b)||(MV a b==3))||(MV a b==4)) ?_ rfl (fun _=>w2);cases hl:(dw a&&dw b)with
  | true=>rfl
  | false=>
   rw[UG hl (k:=3) (by omega),UG hl (k:=4) (by omega)];cases (MV a b==3)<;>cases (MV a b==4)<;>rfl
 have lg:∀(x:Option (ay × Int)) (y:Option (ay × Bool)),
   x=(au (jk 2 a.api b.api) fun x1=>if x1 then au (eT 2) fun x2=>some (x2,0)else some ((ay.mk 0 []),9))→
   y=(au (fM 2) fun x1=>au (gG a.api 2) fun x2=>au (if x2 then gG b.api 2 else some false) fun b2=>some (x1,b2))→RES x (Fv y):=by
  intro x y hx hy;rw[hx,hy,b2,ia2,ib2,(of_eq 2).1,(of_eq 2).2.1];simp only[aj,hone];refine RES.mk (sc 2) (dA a (sc 2)&&dA b (sc 2)) ?_ rfl (fun _=>w2);cases (dA a (sc 2)&&dA b (sc 2))<;>rfl
 have ar:∀(x:Option (ay × Int)) (y:Option (ay × Bool)),
   x=(au (jk 3 a.api b.api) fun x1=>if x1 then au (eT 3) fun x2=>some (x2,0)else some ((ay.mk 0 []),9))→
   y=(au (fM 3) fun x1=>au (gG a.api 3) fun x2=>au (if x2 then gG b.api 3 else some false) fun b2=>some (x1,b2))→RES x (Fv y):=by
  intro x y hx hy;rw[hx,hy,b3,ia3,ib3,(of_eq 3).1,(of_eq 3).2.1];simp only[aj,hone];refine RES.mk (sc 3) (dA a (sc 3)&&dA b (sc 3)) ?_ rfl (fun _=>w3);cases (dA a (sc 3)&&dA b (sc 3))<;>rfl
 have eqq:∀(x:Option (ay × Int)) (y:Option (ay × Bool)),x=(au (eT 2) fun x5=>some (x5,0))→y=(au (fM 2) fun x7=>some (x7,true))→RES x (Fv y):=by
  intro x y hx hy;exact RES.mk (sc 2) true (by rw[hx];rfl) (by rw[hy];rfl) (fun _=>w2)
 simp only[opsL,asG,List.not_mem_nil,or_false]at hop;rcases hop with rfl|rfl|rfl|rfl|rfl|rfl|rfl|rfl|rfl|rfl|rfl|rfl|rfl
 ·exact lg _ _ rfl rfl
 ·exact lg _ _ rfl rfl
 ·exact eqq _ _ rfl rfl
 ·exact eqq _ _ rfl rfl
 ·exact rel _ _ rfl rfl
 ·exact rel _ _ rfl rfl
 ·exact rel _ _ rfl rfl
 ·exact rel _ _ rfl rfl
 ·exact ar _ _ rfl rfl
 ·exact ar _ _ rfl rfl
 ·exact ar _ _ rfl rfl
 ·exact ar _ _ rfl rfl
 ·exact akQ ha had hb hbd
def yZ:Ty→List Ty→Ty
 | t,[]=>t
 | t,x::r=>yZ (jy t x) r
theorem aaP:∀(l:List Ty) (t:Ty),t.wf→t.dep≤16→(∀x∈l,x.wf∧x.dep≤16)→(yZ t l).wf∧(yZ t l).dep≤16
 | [],t,h,hd,_=>⟨h,hd⟩
 | x::r,t,h,hd,hl=>by
  have hx:=hl x (by simp);have jd:=A9 t x;exact aaP r (jy t x) (nY t x h hx.1) (by omega) fun y hy=>hl y (by simp[hy])
theorem Xq{K:ay→Option (ay × Int)}:∀(l:List Ty) (t:Ty) (i:Nat),t.wf→t.dep≤16→(∀x∈l,x.wf∧x.dep≤16)→
  dD (fun _ e1 (mo:ay) r=>au (l7 mo e1) fun x3=>r x3) K i (l.map Ty.api) t.api=K (yZ t l).api
 | [],t,i,_,_,_=>rfl
 | x::r,t,i,h,hd,hl=>by
  have hx:=hl x (by simp);have jd:=A9 t x;rw[asy,dD,(I4 h hx.1 hd hx.2).1];simp only[aj];exact Xq r (jy t x) (i+1) (nY t x h hx.1) (by omega) fun y hy=>hl y (by simp[hy])
theorem Xd{K:ay→Option (ay × Bool)}:∀(l:List Ty) (t:Ty) (i:Nat),t.wf→t.dep≤16→(∀x∈l,x.wf∧x.dep≤16)→
  dD (fun _ e1 (mo:ay) r=>au (EJ mo e1) fun x3=>r x3) K i (l.map Ty.api) t.api=K (yZ t l).api
 | [],t,i,_,_,_=>rfl
 | x::r,t,i,h,hd,hl=>by
  have hx:=hl x (by simp);have jd:=A9 t x;rw[asy,dD,(I4 h hx.1 hd hx.2).2];simp only[aj];exact Xd r (jy t x) (i+1) (nY t x h hx.1) (by omega) fun y hy=>hl y (by simp[hy])
theorem Oy{l:List Ty}(hl:∀x∈l,x.wf∧x.dep≤16)(hn:l.length<4611686018427387904){k:Int}(hk:k=5∨k=6){y:Option (ay × Bool)}(hy:y=some ((Ty.nest k (yZ (sc 7) l)).api,true)):
  RES (sI k (l.map Ty.api)) (Fv y):=by
 have w7:(sc 7).wf∧(sc 7).dep≤16:=⟨by simp[sc,Ty.wf],by simp[sc,Ty.dep]⟩;obtain⟨f1,f2⟩:=aaP l (sc 7) w7.1 w7.2 hl;unfold sI;rw[(of_eq 7).1];simp only[aj]
 have:=dI (F:=fun n s i=>qR k (l.map Ty.api) n i s) (l:=l.map Ty.api) (body:=fun _ e1 (mo:ay) r=>au (l7 mo e1) fun x3=>r x3)
  (fin:=fun mo=>au (lU k mo) fun x4=>au (jX x4) fun x5=>if x5 !=0 then some (ZT,13)else some (x4,0)) (by simpa using hn) (fun n s i=>rfl) (sc 7).api
 rw[this,Xq l (sc 7) 0 w7.1 w7.2 hl,hy];unfold Fv;rw[(afC k _).1];simp only[aj,aC,asC,arG,arN];obtain⟨t1,t2,t3⟩:=Bq (Ty.nest k (yZ (sc 7) l)).api;rw[t1,t2];simp only[aj];by_cases hc:Pf (Ty.nest k (yZ (sc 7) l)).api=0
 ·obtain⟨T,q1,q2,q3⟩:=t3 hc;exact⟨T,0,q1,q3,fun h=>absurd rfl h,by rw[hc,←q2];rfl,by rw[hc,←q2];rfl⟩
 ·exact⟨sc 0,13,by simp[sc,Ty.wf],by simp[sc,Ty.dep],fun _=>rfl,by rw[arK (by simpa using hc)];rfl,by rw[arK (by simpa using hc)];rfl⟩
theorem K9{l:List Ty}(hl:∀x∈l,x.wf∧x.dep≤16)(hn:l.length<4611686018427387904){e:ak}(he:e.kind=9∨e.kind=10):
  fQ e (l.map Ty.api)=some ((Ty.nest (if e.kind=10 then 6 else 5) (yZ (sc 7) l)).api,true):=by
 have w7:(sc 7).wf∧(sc 7).dep≤16:=⟨by simp[sc,Ty.wf],by simp[sc,Ty.dep]⟩;unfold fQ
 have:=dI (F:=fun n s i=>JM e (l.map Ty.api) n i s) (l:=l.map Ty.api) (body:=fun _ e1 (mo:ay) r=>au (EJ mo e1) fun x3=>r x3)
  (fin:=fun t1=>if e.kind==10 then (au (jG 6 t1) fun Lx=>some (Lx,true))else (au (jG 5 t1) fun Wo=>some (Wo,true))) (by simpa using hn) (fun n s i=>rfl) (sc 7).api
 rw[(of_eq 7).2.1];simp only[aj];rw[this,Xd l (sc 7) 0 w7.1 w7.2 hl];rcases he with he|he<;>simp[he,jG,Ty.api]
end Go.Ft
namespace Go.Ft
open Go
attribute [local congr] eO
theorem ao2:∃n,BIG=n+4:=⟨BIG-4,by decide⟩
theorem ag_:bF (0+1)=1:=by decide
theorem anK:bF (1+1)=2:=by decide
theorem anT{a w:Ty}(ha:a.wf)(had:a.dep≤16)(hw:w.wf):qQ [a.api] [w.api]=some (dA a w):=by
 obtain⟨n,hn⟩:=ao2;unfold qQ;rw[hn];have i0:∀x:Ty,idx [x.api] 0=some x.api:=fun _=>rfl;simp only[sH,i0,aj,(lT ha hw (by omega)).1,ag_];cases dA a w<;>simp
theorem ahw{a b w v:Ty}(ha:a.wf)(had:a.dep≤16)(hb:b.wf)(hbd:b.dep≤16)(hw:w.wf)(hv:v.wf):qQ [a.api,b.api] [w.api,v.api]=some (dA a w&&dA b v):=by
 obtain⟨n,hn⟩:=ao2;unfold qQ;rw[hn];have i0:∀x y:Ty,idx [x.api,y.api] 0=some x.api:=fun _ _=>rfl;have i1:∀x y:Ty,idx [x.api,y.api] 1=some y.api:=fun _ _=>rfl;simp only[sH,i0,i1,aj,(lT ha hw (by omega)).1,(lT hb hv (by omega)).1,ag_,anK];cases dA a w<;>cases dA b v<;>simp
theorem am_{e:ak}{alts:List (List ay)}{x:ay}{ts:List ay}(hl:alts.length<4611686018427387904)(hne:(e.name==([100,101,102,97,117,108,116]:Str))=false)(bs:List Bool)
  (h:alts.map (qQ ts)=bs.map some):ng e alts x ts BIG 0=some (if bs.any id then (x,0)else (ZT,9)):=by
 have:=dI (F:=fun k (_:Unit) i=>ng e alts x ts k i) (l:=alts) (body:=fun _ C9 _ r=>au (qQ ts C9) fun x3=>if !x3 then r ()else if !(e.name==([100,101,102,97,117,108,116]:Str))then some (x,0)else
   au (idx ts 0) fun e3=>if e3.kind==1 then au (idx ts 1) fun e4=>some (e4,0)else au (idx ts 0) fun e5=>some (e5,0)) (fin:=fun _=>some (ZT,9)) hl (fun k s i=>rfl) ()
 rw[this];clear this hl;simp only[hne,as1,arO];generalize 0=i
 induction alts generalizing bs i with
 | nil=>
  cases bs with
  | nil=>rfl
  | cons b bs=>simp at h
 | cons w alts ih=>
  cases bs with
  | nil=>simp at h
  | cons b bs=>
   simp only[asy,as8]at h;rw[dD,h.1];simp only[aj,atE,id];cases b with
   | true=>simp
   | false=>
    simp only[as1,arO,asT];exact ih bs h.2 (i+1)
theorem aa5(a:Ty):dA a (sc 0)=true:=by
 cases a<;>simp[sc,dA]
theorem any_ok{k:Int}(h:0≤k∧k≤7∧k≠5∧k≠6):(sc k).wf∧(sc k).dep≤16:=⟨h,by simp[sc,Ty.dep]⟩
theorem uI{k j:Int}(hk:k=5∨k=6)(h:0≤j∧j≤7∧j≠5∧j≠6):(Ty.nest k (sc j)).wf∧(Ty.nest k (sc j)).dep≤16:=⟨⟨hk,h⟩,by simp[sc,Ty.dep]⟩
def vU(name:Str)(n:Nat):Prop:=∃(alts:List (List ay)) (x:ay) (w:List ay) (r:List (List ay)),jr name=some (alts,x)∧alts=w::r∧w.length=n∧uZ name=some (n:Int)∧
 ∀(e:ak) (Ts:List Ty),e.name=name→Ts.length=n→(∀t∈Ts,t.wf∧t.dep≤16)→RES (ng e alts x (Ts.map Ty.api) BIG 0) (Fv (gu name (Ts.map Ty.api)))
theorem XD{name:Str}{alts:List Ty}{X:Ty}(hs:jr name=some (alts.map fun w=>[w.api],X.api))(hne:alts≠[])(hA:uZ name=some 1)(hw:∀w∈alts,w.wf)(hX:X.wf∧X.dep≤16)(hd:(name==([100,101,102,97,117,108,116]:Str))=false)
  (hl:alts.length<100)
  (hr:∀a:Ty,a.wf→a.dep≤16→gu name [a.api]=some (X.api,(alts.map (dA a)).any id)):vU name 1:=by
 obtain⟨w0,r0,h0⟩:∃w0 r0,alts=w0::r0:=by
  cases alts with
  | nil=>exact absurd rfl hne
  | cons a b=>exact⟨a,b,rfl⟩
 refine⟨_,_,[w0.api],r0.map fun w=>[w.api],hs,by rw[h0];rfl,rfl,hA,?_⟩;intro e Ts hn hlen hT
 match Ts,hlen with
 | [a],_=>
  obtain⟨a1,a2⟩:=hT a (by simp);simp only[asy,atf];refine RES.mk X ((alts.map (dA a)).any id) ?_ (hr a a1 a2) (fun _=>hX);rw[am_ (by simp;omega) (by rw[hn];exact hd) (alts.map (dA a)) ?_]
  ·simp only[atg,Function.comp_def];refine List.map_congr_left fun w hwm=>?_;exact anT a1 a2 (hw w hwm)
theorem abd{name:Str}{alts:List (Ty × Ty)}{X:Ty}(hs:jr name=some (alts.map fun w=>[w.1.api,w.2.api],X.api))(hne:alts≠[])(hA:uZ name=some 2)(hw:∀w∈alts,w.1.wf∧w.2.wf)(hX:X.wf∧X.dep≤16)(hd:(name==([100,101,102,97,117,108,116]:Str))=false)
  (hl:alts.length<100)
  (hr:∀a b:Ty,a.wf→a.dep≤16→b.wf→b.dep≤16→gu name [a.api,b.api]=some (X.api,(alts.map fun w=>dA a w.1&&dA b w.2).any id)):vU name 2:=by
 obtain⟨w0,r0,h0⟩:∃w0 r0,alts=w0::r0:=by
  cases alts with
  | nil=>exact absurd rfl hne
  | cons a b=>exact⟨a,b,rfl⟩
 refine⟨_,_,[w0.1.api,w0.2.api],r0.map fun w=>[w.1.api,w.2.api],hs,by rw[h0];rfl,rfl,hA,?_⟩;intro e Ts hn hlen hT
 match Ts,hlen with
 | [a,b],_=>
  obtain⟨a1,a2⟩:=hT a (by simp);obtain⟨b1,b2⟩:=hT b (by simp);simp only[asy,atf];refine RES.mk X ((alts.map fun w=>dA a w.1&&dA b w.2).any id) ?_ (hr a b a1 a2 b1 b2) (fun _=>hX);rw[am_ (by simp;omega) (by rw[hn];exact hd) (alts.map fun w=>dA a w.1&&dA b w.2) ?_]
  ·simp only[atg,Function.comp_def];refine List.map_congr_left fun w hwm=>?_;exact ahw a1 a2 b1 b2 (hw w hwm).1 (hw w hwm).2
theorem ar6(a b:Ty):idx [a.api,b.api] 0=some a.api:=rfl
theorem ar5(a b:Ty):idx [a.api,b.api] 1=some b.api:=rfl
theorem YB(p q:Bool):(if p=true then some true else some q)=some (p||q):=by cases p<;>rfl
theorem xP(p q:Bool):(if p=true then some q else some false)=some (p&&q):=by cases p<;>rfl
theorem ajo:vU [108,101,110] 1:=
 XD (alts:=[sc 4,.nest 5 (sc 0),.nest 6 (sc 0)]) (X:=sc 3) rfl (by simp) rfl (by simp[sc,Ty.wf]) (any_ok (by omega)) rfl (by simp) fun a h hd=>by
  have i4:=oQ h (by omega) (tN (k:=4) (by omega));have l5:=(lT h (uI (k:=5) (j:=0) (by omega) (by omega)).1 (by omega)).2;have l6:=(lT h (uI (k:=6) (j:=0) (by omega) (by omega)).1 (by omega)).2;rw[show gu [108,101,110] [a.api]=au (gG a.api 4) fun x3=>au (if x3 then some true else eX a.api (Ty.nest 5 (sc 0)).api) fun b1=>au (if b1 then some true else eX a.api (Ty.nest 6 (sc 0)).api) fun b2=>some ((sc 3).api,b2)from rfl,i4,l5,l6];simp only[aj,YB,asy,atf,atE,List.any_nil,id,atM,Bool.or_assoc]
theorem Nc{name:Str}{X:Ty}(hX:X.wf∧X.dep≤16)(hs:jr name=some ([[(sc 4).api]],X.api))(hA:uZ name=some 1)(hd:(name==([100,101,102,97,117,108,116]:Str))=false)
  (hr:∀a:Ty,gu name [a.api]=au (gG a.api 4) fun b=>some (X.api,b)):vU name 1:=
 XD (alts:=[sc 4]) (X:=X) hs (by simp) hA (by simp[sc,Ty.wf]) hX hd (by simp) fun a h hd=>by
  rw[hr,oQ h (by omega) (tN (k:=4) (by omega))];simp
theorem ac2:vU [108,111,119,101,114] 1:=Nc (X:=sc 4) (any_ok (by omega)) rfl rfl rfl fun a=>rfl
theorem ac0:vU [117,112,112,101,114] 1:=Nc (X:=sc 4) (any_ok (by omega)) rfl rfl rfl fun a=>rfl
theorem ajp:vU [105,110,116] 1:=Nc (X:=sc 3) (any_ok (by omega)) rfl rfl rfl fun a=>rfl
theorem aa_:vU [115,116,114,105,110,103] 1:=
 XD (alts:=[sc 1,sc 2,sc 3,sc 4]) (X:=sc 4) rfl (by simp) rfl (by simp[sc,Ty.wf]) (any_ok (by omega)) rfl (by simp) fun a h hd=>by
  have e1:gu [115,116,114,105,110,103] [a.api]=some ((sc 4).api,(a.kind !=5)&&(a.kind !=6)):=by
   rw[show gu [115,116,114,105,110,103] [a.api]=au (if a.api.kind !=5 then some (a.api.kind !=6)else some false) fun b10=>some ((sc 4).api,b10)from rfl,Ty.nD];cases (a.kind !=5)<;>rfl
  rw[e1];congr 2;cases a with
  | leaf k=>
   have hk:k=0∨k=1∨k=2∨k=3∨k=4∨k=7:=by obtain⟨h1,h2,h3,h4⟩:=h;omega
   rcases hk with rfl|rfl|rfl|rfl|rfl|rfl<;>rfl
  | nest k s=>rcases h.1 with rfl|rfl<;>simp[sc,dA,Ty.kind]
theorem agm:vU [107,101,121,115] 1:=
 XD (alts:=[.nest 6 (sc 0)]) (X:=.nest 5 (sc 4)) rfl (by simp) rfl (by simp[sc,Ty.wf]) (uI (by omega) (by omega)) rfl (by simp) fun a h hd=>by
  have l6:=(lT h (uI (k:=6) (j:=0) (by omega) (by omega)).1 (by omega)).2;rw[show gu [107,101,121,115] [a.api]=au (eX a.api (Ty.nest 6 (sc 0)).api) fun x33=>some ((Ty.nest 5 (sc 4)).api,x33)from rfl,l6];simp
theorem VR:vU [99,111,110,116,97,105,110,115] 2:=
 abd (alts:=[(.nest 5 (sc 0),sc 0),(sc 4,sc 4),(.nest 6 (sc 0),sc 4)]) (X:=sc 2) rfl (by simp) rfl (by simp[sc,Ty.wf]) (any_ok (by omega)) rfl (by simp) fun a b h hd hb hbd=>by
  have ia:=oQ h (by omega) (tN (k:=4) (by omega));have ib:=oQ hb (by omega) (tN (k:=4) (by omega));have l5:=(lT h (uI (k:=5) (j:=0) (by omega) (by omega)).1 (by omega)).2;have l6:=(lT h (uI (k:=6) (j:=0) (by omega) (by omega)).1 (by omega)).2
  rw[show gu [99,111,110,116,97,105,110,115] [a.api,b.api]=au (eX a.api (Ty.nest 5 (sc 0)).api) fun Fh=>au (if Fh then some true else au (gG b.api 4) fun Jj=>if Jj then
    (au (gG a.api 4) fun LA=>if LA then some true else eX a.api (Ty.nest 6 (sc 0)).api)else some false) fun b3=>some ((sc 2).api,b3)from rfl,l5,l6,ia,ib]
  simp only[aj,asy,atf,atE,List.any_nil,id,aa5];cases dA a (Ty.nest 5 (sc 0))<;>cases dA b (sc 4)<;>cases dA a (sc 4)<;>cases dA a (Ty.nest 6 (sc 0))<;>rfl
theorem agn:vU [106,111,105,110] 2:=
 abd (alts:=[(.nest 5 (sc 4),sc 4)]) (X:=sc 4) rfl (by simp) rfl (by simp[sc,Ty.wf]) (any_ok (by omega)) rfl (by simp) fun a b h hd hb hbd=>by
  have ib:=oQ hb (by omega) (tN (k:=4) (by omega));have l5:=(lT h (uI (k:=5) (j:=4) (by omega) (by omega)).1 (by omega)).2;rw[show gu [106,111,105,110] [a.api,b.api]=au (eX a.api (Ty.nest 5 (sc 4)).api) fun Lx=>au (if Lx then gG b.api 4 else some false) fun b6=>some ((sc 4).api,b6)from rfl,l5,ib];simp[xP]
theorem Nb{name:Str}{X:Ty}(hX:X.wf∧X.dep≤16)(hs:jr name=some ([[(sc 4).api,(sc 4).api]],X.api))(hA:uZ name=some 2)(hd:(name==([100,101,102,97,117,108,116]:Str))=false)
  (hr:∀a b:Ty,gu name [a.api,b.api]=au (gG a.api 4) fun x=>au (if x then gG b.api 4 else some false) fun b=>some (X.api,b)):vU name 2:=
 abd (alts:=[(sc 4,sc 4)]) (X:=X) hs (by simp) hA (by simp[sc,Ty.wf]) hX hd (by simp) fun a b h hd hb hbd=>by
  rw[hr,oQ h (by omega) (tN (k:=4) (by omega)),oQ hb (by omega) (tN (k:=4) (by omega))];simp[xP]
theorem ac1:vU [115,112,108,105,116] 2:=Nb (X:=.nest 5 (sc 4)) (uI (by omega) (by omega)) rfl rfl rfl fun a b=>rfl
theorem abb:vU [115,116,97,114,116,115,119,105,116,104] 2:=Nb (X:=sc 2) (any_ok (by omega)) rfl rfl rfl fun a b=>rfl
theorem agp:vU [101,110,100,115,119,105,116,104] 2:=Nb (X:=sc 2) (any_ok (by omega)) rfl rfl rfl fun a b=>rfl
theorem Y1:vU [100,101,102,97,117,108,116] 2:=by
 refine⟨[[(sc 0).api,(sc 0).api]],(sc 0).api,[(sc 0).api,(sc 0).api],[],rfl,rfl,rfl,rfl,?_⟩;intro e Ts hn hlen hT
 match Ts,hlen with
 | [a,b],_=>
  obtain⟨a1,a2⟩:=hT a (by simp);obtain⟨b1,b2⟩:=hT b (by simp);simp only[asy,atf]
  have e1:ng e [[(sc 0).api,(sc 0).api]] (sc 0).api [a.api,b.api] BIG 0=some (if a.kind==1 then (b.api,0)else (a.api,0)):=by
   obtain⟨n,hB⟩:=ao2;rw[hB,ng];have hsu:=ahw a1 a2 b1 b2 (w:=sc 0) (v:=sc 0) (any_ok (by omega)).1 (any_ok (by omega)).1;have i0:idx [[(sc 0).api,(sc 0).api]] 0=some [(sc 0).api,(sc 0).api]:=rfl;rw[i0];simp only[aj,hsu,aa5,hn,ar6,ar5,Ty.nD];simp;split<;>rfl
  have e2:gu [100,101,102,97,117,108,116] [a.api,b.api]=some (if a.kind==1 then (b.api,true)else (a.api,true)):=by
   rw[show gu [100,101,102,97,117,108,116] [a.api,b.api]=(if a.api.kind==1 then some (b.api,true)else some (a.api,true))from rfl,Ty.nD];split<;>rfl
  rw[e1,e2];cases (a.kind==1)with
  | true=>exact RES.mk b true rfl rfl (fun _=>⟨b1,b2⟩)
  | false=>exact RES.mk a true rfl rfl (fun _=>⟨a1,a2⟩)
theorem afe(name:Str):(jr name=some ([],(sc 0).api)∧uZ name=some (-1))∨∃n,vU name n:=by
 by_cases h1:name=[108,101,110]
 ·subst h1;exact .inr ⟨_,ajo⟩
 by_cases h2:name=[108,111,119,101,114]
 ·subst h2;exact .inr ⟨_,ac2⟩
 by_cases h3:name=[117,112,112,101,114]
 ·subst h3;exact .inr ⟨_,ac0⟩
 by_cases h4:name=[115,116,114,105,110,103]
 ·subst h4;exact .inr ⟨_,aa_⟩
 by_cases h5:name=[105,110,116]
 ·subst h5;exact .inr ⟨_,ajp⟩
 by_cases h6:name=[107,101,121,115]
 ·subst h6;exact .inr ⟨_,agm⟩
 by_cases h7:name=[99,111,110,116,97,105,110,115]
 ·subst h7;exact .inr ⟨_,VR⟩
 by_cases h8:name=[106,111,105,110]
 ·subst h8;exact .inr ⟨_,agn⟩
 by_cases h9:name=[115,112,108,105,116]
 ·subst h9;exact .inr ⟨_,ac1⟩
 by_cases h10:name=[115,116,97,114,116,115,119,105,116,104]
 ·subst h10;exact .inr ⟨_,abb⟩
 by_cases h11:name=[101,110,100,115,119,105,116,104]
 ·subst h11;exact .inr ⟨_,agp⟩
 by_cases h12:name=[100,101,102,97,117,108,116]
 ·subst h12;exact .inr ⟨_,Y1⟩
 left;constructor
 ·simp[jr,eT,lU,h1,h2,h3,h4,h5,h6,h7,h8,h9,h10,h11,h12,sc,Ty.api]
 ·simp[uZ,h1,h2,h3,h4,h5,h6,h7,h8,h9,h10,h11,h12]
end Go.Ft
namespace Go.Ft
open Go
attribute [local congr] eO
mutual
def Nn:ah→Ty
 | ⟨k,_,_,_,l,_⟩=>if k=0 then sc 1 else if k=1 then sc 2 else if k=2 then sc 3 else if k=3 then sc 4 else .nest (if k=4 then 5 else 6) (PO l (sc 7))
def PO:List ah→Ty→Ty
 | [],t=>t
 | x::r,t=>PO r (jy t (Nn x))
end
theorem EM(v:ah):Nn v=if v.kind=0 then sc 1 else if v.kind=1 then sc 2 else if v.kind=2 then sc 3 else if v.kind=3 then sc 4 else .nest (if v.kind=4 then 5 else 6) (PO v.aO (sc 7)):=by cases v;rw[Nn]
theorem Ep{v:ah}{level:Nat}(h:nG v level=0):level≤16∧0≤v.kind∧v.kind≤5∧(v.kind=4∨v.kind=5→v.aO=[]→level≠16):=by
 unfold nG at h;by_cases h0:16<level
 ·simp[h0]at h
 ·rw[arF h0]at h;cases h1:(decide (v.kind<0)||decide (5<v.kind)||!rJ v)with
  | true=>rw[h1]at h;simp at h
  | false=>
   rw[h1]at h;simp only[asN,asI]at h1;refine⟨by omega,by omega,by omega,fun hk hl h16=>?_⟩
   have e1:((((v.kind==4)||(v.kind==5))&&((v.aO.length:Int)==0))&&(level==16))=true:=by
    rw[hl,h16];rcases hk with hk|hk<;>simp[hk]
   rw[e1]at h;simp only[arG,arN,arO]at h;split at h
   ·omega
   ·split at h
    ·omega
    ·split at h<;>omega
theorem Wt:∀ {l:List ah} {level:Nat},Er l level=0→∀x∈l,vW x level=0
 | [],_,_,x,hx=>by cases hx
 | y::r,level,h,x,hx=>by
  rw[Er]at h;by_cases hy:vW y level=0
  ·rw[arF (by simpa using hy)]at h;rcases asG.1 hx with rfl|hx
   ·exact hy
   ·exact Wt h x hx
  ·rw[arK (by simpa using hy)]at h;exact absurd h hy
theorem Pe{v:ah}{level:Nat}(h:vW v level=0):nG v level=0∧∀x∈v.aO,vW x (level+1)=0:=by
 rw[Nw]at h;by_cases hn:nG v level=0
 ·rw[arF (by simpa using hn)]at h;exact⟨hn,Wt h⟩
 ·rw[arK (by simpa using hn)]at h;exact absurd h hn
theorem ofL{go:ah→Option ay}{join:ay→ay→Option ay}{K:ay→Option ay}{lv:Nat}(hlv:lv≤16)(hj:∀a b:Ty,a.wf→b.wf→a.dep≤1000→b.dep≤1000→join a.api b.api=some (jy a b).api):
  ∀(l:List ah) (t:Ty) (i:Nat),t.wf→t.dep+lv≤17→(∀x∈l,go x=some (Nn x).api∧(Nn x).wf∧(Nn x).dep+lv≤17)→
  dD (fun _ e1 (mo:ay) r=>au (go e1) fun x7=>au (join mo x7) fun x8=>r x8) K i l t.api=K (PO l t).api∧(PO l t).wf∧(PO l t).dep+lv≤17
 | [],t,i,h,hd,_=>⟨rfl,h,hd⟩
 | x::r,t,i,h,hd,hl=>by
  obtain⟨x1,x2,x3⟩:=hl x (by simp);have jd:=A9 t (Nn x);rw[dD,x1,PO];simp only[aj,hj t (Nn x) h x2 (by omega) (by omega)];exact ofL hlv hj r (jy t (Nn x)) (i+1) (nY _ _ h x2) (by omega) fun y hy=>hl y (by simp[hy])
theorem aqf:∀(n:Nat) (v:ah) (level:Nat),v.bulk≤n→v.bulk<4611686018427387904→vW v level=0→
  ru (n+1) v=some (Nn v).api∧EI (n+1) v=some (Nn v).api∧(Nn v).wf∧(Nn v).dep+level≤17
 | 0,v,_,h,_,_=>by have:=v.jV;omega
 | n+1,v,level,h,hB,hc=>by
  obtain⟨h0,hm⟩:=Pe hc;obtain⟨z1,z2,z3,z4⟩:=Ep h0;have hl:=vV v;rw[ru,Bp,EI,NU,EM];by_cases k0:v.kind=0
  ·simp only[k0];exact⟨rfl,rfl,(any_ok (by omega)).1,by simp[sc,Ty.dep];omega⟩
  by_cases k1:v.kind=1
  ·simp only[k1];exact⟨rfl,rfl,(any_ok (by omega)).1,by simp[sc,Ty.dep];omega⟩
  by_cases k2:v.kind=2
  ·simp only[k2];exact⟨rfl,rfl,(any_ok (by omega)).1,by simp[sc,Ty.dep];omega⟩
  by_cases k3:v.kind=3
  ·simp only[k3];exact⟨rfl,rfl,(any_ok (by omega)).1,by simp[sc,Ty.dep];omega⟩
  have k45:v.kind=4∨v.kind=5:=by omega
  have hlv:level≤15:=by
   by_cases hnil:v.aO=[]
   ·have:=z4 k45 hnil;omega
   ·obtain⟨x,hx⟩:=List.exists_mem_of_ne_nil _ hnil;have:=(Ep (Pe (hm x hx)).1).1;omega
  have e0:(v.kind==0)=false:=by simpa using k0
  have e1:(v.kind==1)=false:=by simpa using k1
  have e2:(v.kind==2)=false:=by simpa using k2
  have e3:(v.kind==3)=false:=by simpa using k3
  simp only[e0,e1,e2,e3,arG,arN,k0,k1,k2,k3];have w7:(sc 7).wf∧(sc 7).dep+(level+1)≤17:=⟨(any_ok (by omega)).1,by simp[sc,Ty.dep];omega⟩;have ih:=fun x (hx:x∈v.aO)=>aqf n x (level+1) (by have:=h_ hx;omega) (by have:=h_ hx;omega) (hm x hx)
  have s1:=dI (F:=fun k s i=>uV (ru (n+1)) v k i s) (l:=v.aO) (body:=fun _ e1 (mo:ay) r=>au (ru (n+1) e1) fun x7=>au (BP mo x7) fun x8=>r x8)
   (fin:=fun mo=>if v.kind==4 then oW 5 mo else oW 6 mo) (by omega) (fun k s i=>rfl) (sc 7).api
  have s2:=dI (F:=fun k s i=>Gz (EI (n+1)) v k i s) (l:=v.aO) (body:=fun _ e1 (mo:ay) r=>au (EI (n+1) e1) fun x7=>au (JQ mo x7) fun x8=>r x8)
   (fin:=fun t1=>if v.kind==5 then jG 6 t1 else jG 5 t1) (by omega) (fun k s i=>rfl) (sc 7).api
  obtain⟨a1,a2,a3⟩:=ofL (lv:=level+1) (K:=fun mo=>if v.kind==4 then oW 5 mo else oW 6 mo) (by omega) (fun a b x y z w=>(join_eq x y z w).1) v.aO (sc 7) 0 w7.1 w7.2 (fun x hx=>⟨(ih x hx).1,(ih x hx).2.2⟩);obtain⟨b1,_,_⟩:=ofL (lv:=level+1) (K:=fun t1=>if v.kind==5 then jG 6 t1 else jG 5 t1) (by omega) (fun a b x y z w=>(join_eq x y z w).2) v.aO (sc 7) 0 w7.1 w7.2 (fun x hx=>⟨(ih x hx).2.1,(ih x hx).2.2⟩);have t7:fV 7=some (sc 7).api:=rfl;have p7:jY 7=some (sc 7).api:=rfl;rw[t7,p7];simp only[aj];rw[s1,a1,s2,b1];refine⟨?_,?_,⟨?_,a2⟩,by simp only[Ty.dep];omega⟩
  ·rcases k45 with k|k<;>simp[k,oW,Ty.api]
  ·rcases k45 with k|k<;>simp[k,jG,Ty.api]
  ·split
   ·exact .inl rfl
   ·exact .inr rfl
theorem aeT{v:ah}(h:v.bulk<4611686018427387904)(hc:vW v 1=0):Gs v=some (Nn v).api∧PE v=some (Nn v).api∧(Nn v).wf∧(Nn v).dep≤16:=by
 obtain⟨n,hn,hn2⟩:=qY;obtain⟨a1,a2,a3,a4⟩:=aqf n v 1 (by omega) h hc;unfold Gs PE JD ab8;rw[D9 h,XZ h,hc,hn,a1,a2];exact⟨rfl,rfl,a3,by omega⟩
theorem adW{s:Str}(h:s.length<4611686018427387000):je (ak.mk 2 s (ah.mk 0 false 0 ([]:Str) [] []) [] [])=some (if jm s then 0 else 1):=by
 have hb:(ak.mk 2 s (ah.mk 0 false 0 ([]:Str) [] []) [] []).bulk<4611686018427387904:=by
  simp only[ak.bulk,ah.bulk,ah.kZ,ak.kZ,atf,List.sum_nil,atq];omega
 rw[(RN hb).1];have e1:ecnt (ak.mk 2 s (ah.mk 0 false 0 ([]:Str) [] []) [] [])=1:=by rw[FY];rfl
 unfold xval;rw[e1,RO]
 have e2:xS (ak.mk 2 s (ah.mk 0 false 0 ([]:Str) [] []) [] [])=jm s:=by
  have:QE (ah.mk 0 false 0 ([]:Str) [] [])=true:=rfl;simp[xS,CS,this,CW,pW,KA]
 have e3:BJ (ak.mk 2 s (ah.mk 0 false 0 ([]:Str) [] []) [] []) 1=if jm s then 0 else 1:=by
  unfold BJ;rw[e2];cases jm s<;>simp[OO]
 rw[e3];cases jm s<;>simp[Np]
def YS:List Str→List aT→Int
 | _,[]=>0
 | seen,d::r=>if !jm d.name then 1 else if Pf d.oM !=0 then Pf d.oM else if seen.contains d.name then 7 else YS (seen++[d.name]) r
def adf(env:List aT):Prop:=∀d∈env,∃T:Ty,T.wf∧T.dep≤16∧d.oM=T.api
theorem ai5:∀(r:List aT) (seen:List Str),YS seen r=0→adf r
 | [],_,_,d,hd=>by cases hd
 | x::r,seen,h,d,hd=>by
  rw[YS]at h;cases h1:jm x.name with
  | false=>rw[h1]at h;simp at h
  | true=>
   rw[h1]at h;simp only[asC,arG,arN]at h;by_cases h2:Pf x.oM=0
   ·rw[arF (by simpa using h2)]at h;obtain⟨T,t1,t2,t3⟩:=(Bq x.oM).2.2 h2;split at h
    ·simp at h
    ·rcases asG.1 hd with rfl|hd
     ·exact⟨T,t1,t3,t2⟩
     ·exact ai5 r _ h d hd
   ·rw[arK (by simpa using h2)]at h;exact absurd h h2
theorem aqO:∀(r:List aT) (i:Nat) (y:List (Str × Int)) (seen:List Str),(∀d∈r,d.name.length<4611686018427387000)→(∀s,nX y s=if s∈seen then 1 else 0)→
  dD (fun _ e1 (y1:List (Str × Int)) r=>au (je (ak.mk 2 e1.name (ah.mk 0 false 0 ([]:Str) [] []) [] [])) fun x2=>if x2 !=0 then some 1 else au (jX e1.oM) fun e2=>if e2 !=0 then some e2 else
   if decide (1<(nX (sJ y1 e1.name (bF ((nX y1 e1.name)+1))) e1.name))then some 7 else r (sJ y1 e1.name (bF ((nX y1 e1.name)+1)))) (fun _=>some 0) i r y=some (YS seen r)
 | [],_,_,_,_,_=>rfl
 | d::r,i,y,seen,hd,hy=>by
  rw[dD,YS,adW (hd d (by simp)),(Bq d.oM).1,Ed,arK rfl,hy d.name];cases h1:jm d.name with
  | false=>simp
  | true=>
   simp only[arO,aj,asC,arG,arN,as2];by_cases h2:Pf d.oM=0
   ·simp only[h2,as2,arG,arN];by_cases hc:d.name∈seen
    ·have:bF 2=2:=by decide
     simp[hc,this]
    ·have:bF ((0:Int)+1)=1:=by decide
     simp only[hc,arN,this];have e:seen.contains d.name=false:=by simpa using hc
     rw[e];simp only[auj,ath,arG,arN];refine aqO r (i+1) _ (seen++[d.name]) (fun z hz=>hd z (by simp[hz])) fun s=>?_;rw[Ed,hy s];by_cases h1:s=d.name
     ·subst h1;simp
     ·simp[h1]
   ·simp[h2]
theorem ai3(l:List aT)(i:Nat)(hi:i<l.length)(hl:l.length<4611686018427387904)(go:Int→Option Int):∀(k j:Nat),i<k+j→j≤i→
  Ia l (i:Int) go k (j:Int)=if (((l.take i).drop j).map (·.name)).contains l[i].name then some 7 else go ((i+1:Nat):Int)
 | 0,j,h,h'=>by omega
 | k+1,j,h,h'=>by
  rw[Ia];by_cases hj:j<i
  ·have hlt:j<(l.take i).length:=by simp;omega
   rw[arK (by simpa using hj),mF hi,mF (by omega),ar0 hlt];simp only[aj,asy,auh,aun];by_cases h1:l[j].name=l[i].name
   ·simp[h1]
   ·have e1:(l[j].name==l[i].name)=false:=by simpa using h1
    have e2:(l[i].name==l[j].name)=false:=by simpa using fun hh=>h1 hh.symm
    simp only[e1,e2,arG,arN,asT];rw[mD (by omega)];exact ai3 l i hi hl go k (j+1) (by omega) (by omega)
  ·have:j=i:=by omega
   subst this;rw[arF (by simp),mD (by omega)];have:(List.take j l).drop j=[]:=asw (by simp;omega);rw[this];simp
theorem aqN(l:List aT)(hl:l.length<4611686018427387904)(hd:∀d∈l,d.name.length<4611686018427387000):∀(k i:Nat),l.length<k+i→i≤l.length→EH l k (i:Int)=some (YS ((l.take i).map (·.name)) (l.drop i))
 | 0,i,h,h'=>by omega
 | k+1,i,h,h'=>by
  rw[EH];by_cases hi:i<l.length
  ·have hn:=hd l[i] (asv hi);rw[arK (by simpa using hi),ar0 hi,YS,mF hi];have:=ai3 l i hi hl (EH l k) BIG 0 (by have:=gX;omega) (by omega);rw[show (0:Int)=((0:Nat):Int)from rfl,this,atl,aqN l hl hd k (i+1) (by omega) (by omega)];simp only[aj,(Cc l[i].name (by omega)).2,(Bq _).2.1];have e:List.take (i+1) l=List.take i l++[l[i]]:=by rw[auo,asb hi];rfl
   rw[e,atF];cases jm l[i].name with
   | false=>simp
   | true=>
    simp only[asC,arG,arN];by_cases h2:Pf l[i].oM=0
    ·simp only[h2,Int.natCast_zero,as2,arG,arN];split<;>rfl
    ·simp[h2]
  ·have:i=l.length:=by omega
   subst this;simp[YS]
def aaW(env:List aT):Int:=if 1024<env.length then 3 else YS [] env
theorem ai4{env:List aT}(hl:env.length<4611686018427387904)(hd:∀d∈env,d.name.length<4611686018427387000):Ei env=some (aaW env)∧Yj env=some (aaW env)∧(aaW env=0→adf env):=by
 unfold Ei Yj aaW;have e:decide ((1024:Int)<(env.length:Int))=decide (1024<env.length):=by congr 1;simp;omega
 rw[e];by_cases h:1024<env.length
 ·simp[h]
 ·simp only[h,ath,arG,arN]
  have s1:=dI (F:=fun k s i=>Ae env k i s) (l:=env) (body:=fun _ e1 (y1:List (Str × Int)) r=>au (je (ak.mk 2 e1.name (ah.mk 0 false 0 ([]:Str) [] []) [] [])) fun x2=>if x2 !=0 then some 1 else au (jX e1.oM) fun e2=>if e2 !=0 then some e2 else
   if decide (1<(nX (sJ y1 e1.name (bF ((nX y1 e1.name)+1))) e1.name))then some 7 else r (sJ y1 e1.name (bF ((nX y1 e1.name)+1)))) (fin:=fun _=>some 0) hl (fun k s i=>rfl) []
  have s2:=aqN env hl hd BIG 0 (by have:=gX;omega) (by omega);refine⟨?_,by simpa using s2,ai5 env []⟩;rw[s1];exact aqO env 0 [] [] hd (fun s=>by simp[nX])
end Go.Ft
namespace Go.Ft
open Go
attribute [local congr] eO
theorem Wn:∀ {l:List ak} {level:Nat},Np l level=0→∀x∈l,Fp x level=0
 | [],_,_,x,hx=>by cases hx
 | y::r,level,h,x,hx=>by
  rw[Np]at h;by_cases hy:Fp y level=0
  ·rw[arF (by simpa using hy)]at h;rcases asG.1 hx with rfl|hx
   ·exact hy
   ·exact Wn h x hx
  ·rw[arK (by simpa using hy)]at h;exact absurd h hy
theorem Sk{e:ak}{level:Nat}(h:BJ e level=0):xS e=true∧(e.kind=1→vW e.value 1=0)∧e.args.length≤1024:=by
 unfold BJ at h;split at h
 ·omega
 ·cases h1:xS e with
  | false=>rw[h1]at h;simp at h
  | true=>
   rw[h1]at h;simp only[asC,arG,arN]at h;by_cases h2:(e.kind==1&&(vW e.value 1 !=0))=true
   ·rw[arK h2]at h;simp[h]at h2
   ·rw[arF h2]at h;refine⟨rfl,fun hk=>?_,?_⟩
    ·simp only[arV,ar4,asL,not_and]at h2;have:=h2 hk;simpa using this
    ·split at h
     ·omega
     ·rename_i h3;simp only[arP]at h3;omega
theorem Wm{e:ak}{level:Nat}(h:Fp e level=0):BJ e level=0∧∀x∈e.args,Fp x (level+1)=0:=by
 rw[RO]at h;by_cases hn:BJ e level=0
 ·rw[arF (by simpa using hn)]at h;exact⟨hn,Wn h⟩
 ·rw[arK (by simpa using hn)]at h;exact absurd h hn
def bodyC(go:ak→Option (ay × Int)):Nat→ak→List ay→(List ay→Option (List ay × Int))→Option (List ay × Int):=
 fun _ e1 bP r=>fD (go e1) fun x2 f1=>if f1 !=0 then some ([],f1)else au (app bP [x2]) fun xk=>r xk
def Rh(go:ak→Option (ay × Int)):Nat→ak→List ay→(List ay→Option (ay × Int))→Option (ay × Int):=
 fun _ e1 bP r=>fD (go e1) fun x5 f1=>if f1 !=0 then some (ZT,f1)else au (app bP [x5]) fun l2=>r l2
theorem anf{goC goR:ak→Option (ay × Int)}{K:List ay→Option (ay × Int)}:∀(l:List ak) (out:List Ty) (i:Nat),(∀x∈l,RES (goC x) (goR x))→out.length+l.length≤4000→
  (∃c,c≠0∧dD (bodyC goC) (fun o=>some (o,0)) i l (out.map Ty.api)=some ([],c)∧dD (Rh goR) K i l (out.map Ty.api)=some (ZT,c))∨
  (∃Ts:List Ty,Ts.length=l.length∧(∀t∈Ts,t.wf∧t.dep≤16)∧dD (bodyC goC) (fun o=>some (o,0)) i l (out.map Ty.api)=some ((out++Ts).map Ty.api,0)∧dD (Rh goR) K i l (out.map Ty.api)=K ((out++Ts).map Ty.api))
 | [],out,i,_,_=>.inr ⟨[],rfl,fun t ht=>(by cases ht),by simp[dD],by simp[dD]⟩
 | x::r,out,i,h,hn=>by
  simp only[ase]at hn;obtain⟨T,c,w,d,z,e1,e2⟩:=h x (by simp);rw[dD,dD,bodyC,Rh];simp only[e1,e2,aC];by_cases hc:c=0
  ·subst hc
   have ha:app (out.map Ty.api) [T.api]=some ((out++[T]).map Ty.api):=by
    rw[aU (by simp[wX];omega)];simp
   simp only[as2,arG,arN,ha,aj];rcases anf (K:=K) r (out++[T]) (i+1) (fun y hy=>h y (by simp[hy])) (by simp;omega)with⟨c,c1,c2,c3⟩|⟨Ts,c1,c2,c3,c4⟩
   ·exact .inl ⟨c,c1,c2,c3⟩
   ·refine .inr ⟨T::Ts,by simp[c1],?_,?_,?_⟩
    ·intro t ht;rcases asG.1 ht with rfl|ht
     ·exact⟨w,d⟩
     ·exact c2 t ht
    ·have:=c3;rw[atI]at this;exact this
    ·have:=c4;rw[atI]at this;exact this
  ·exact .inl ⟨c,hc,by simp[hc],by simp[hc]⟩
theorem YW{env:List aT}(hW:adf env)(hl:env.length<4611686018427387904)(e:ak)(he:e.kind=2):RES (vO env e.name) (ED e env):=by
 unfold vO ED;have h1:(e.kind==1)=false:=by simp[he]
 rw[h1];simp only[arG,arN];have s1:=dI (F:=fun k (_:Unit) i=>qU env e.name k i) (l:=env) (body:=fun _ e1 _ r=>if e1.name==e.name then some (e1.oM,0)else r ()) (fin:=fun _=>some (ZT,10)) hl (fun k s i=>rfl) ();have s2:=dI (F:=fun k (_:Unit) i=>FC e env k i) (l:=env) (body:=fun(i:Nat) e1 _ r=>if e1.name==e.name then au (idx env (i:Int)) fun e3=>some (e3.oM,0)else r ()) (fin:=fun _=>some (ZT,10)) hl (fun k s i=>rfl) ();rw[s1,s2]
 have key:∀(t:List aT) (i:Nat),t=env.drop i→RES (dD (fun _ e1 (_:Unit) r=>if e1.name==e.name then some (e1.oM,0)else r ()) (fun _=>some (ZT,10)) i t ())
   (dD (fun(i:Nat) e1 (_:Unit) r=>if e1.name==e.name then au (idx env (i:Int)) fun e3=>some (e3.oM,0)else r ()) (fun _=>some (ZT,10)) i t ()):=by
  intro t
  induction t with
  | nil=>intro i _;exact⟨sc 0,10,(any_ok (by omega)).1,(any_ok (by omega)).2,fun _=>rfl,rfl,rfl⟩
  | cons d t ih=>
   intro i ht
   have hi:i<env.length:=by
    rcases asQ i env.length with h|h
    ·exact h
    ·rw[asw h]at ht;cases ht
   have hc:=ar0 hi;rw[←ht]at hc;have e1:d=env[i]:=(atb hc).1;have e2:=(atb hc).2;rw[dD,dD,mF hi,←e1];simp only[aj];cases (d.name==e.name)with
   | true=>
    simp only[arO];obtain⟨T,t1,t2,t3⟩:=hW d (by rw[e1];exact asv hi);exact⟨T,0,t1,t2,fun h=>absurd rfl h,by rw[t3],by rw[t3]⟩
   | false=>
    simp only[arG,arN];exact ih (i+1) e2
 exact key env 0 rfl
theorem OB{e:ak}(h:xS e=true):CS e=true∧CW e=true∧pW e=true:=by
 unfold xS at h;simp only[arV]at h;exact⟨h.1.1.1.1,h.1.1.2,h.1.2⟩
theorem len1{α:Type}{l:List α}(h:l.length=1):∃a,l=[a]:=by
 match l,h with
 | [a],_=>exact⟨a,rfl⟩
theorem len2{α:Type}{l:List α}(h:l.length=2):∃a b,l=[a,b]:=by
 match l,h with
 | [a,b],_=>exact⟨a,b,rfl⟩
theorem aol{α:Type}{l:List α}(h:l.length=3):∃a b c,l=[a,b,c]:=by
 match l,h with
 | [a,b,c],_=>exact⟨a,b,c,rfl⟩
theorem OG{env:List aT}(hW:adf env)(hl:env.length<4611686018427387904):∀(b:Nat) (e:ak) (level k m:Nat),e.bulk≤b→e.bulk<4611686018427387904→Fp e level=0→3*b+3≤k→b+1≤m→
  RES (gK k e env) (jO m e env)
 | 0,e,_,_,_,h,_,_,_,_=>by have:=e.jV;omega
 | b+1,e,level,k,m,h,hB,hx,hk,hm=>by
  obtain⟨x1,x2⟩:=Wm hx;obtain⟨f1,f2,f3⟩:=Sk x1;obtain⟨p1,p2,p3⟩:=OB f1;have hal:=Li e;obtain⟨k1,rfl⟩:∃k1,k=k1+3:=⟨k-3,by omega⟩;obtain⟨m1,rfl⟩:∃m1,m=m1+1:=⟨m-1,by omega⟩
  have args:∀k2:Nat,3*b+3≤k2→(∃c,c≠0∧oI (gK k2) e.args env BIG [] 0=some ([],c)∧uY (jO m1) e env BIG [] 0=some (ZT,c))∨
    (∃Ts:List Ty,Ts.length=e.args.length∧(∀t∈Ts,t.wf∧t.dep≤16)∧oI (gK k2) e.args env BIG [] 0=some (Ts.map Ty.api,0)∧uY (jO m1) e env BIG [] 0=Fv (fQ e (Ts.map Ty.api))):=by
   intro k2 hk2;have s1:=dI (F:=fun k s i=>oI (gK k2) e.args env k s i) (l:=e.args) (body:=bodyC fun x=>gK k2 x env) (fin:=fun o=>some (o,0)) (by omega) (fun k s i=>rfl) [];have s2:=dI (F:=fun k s i=>uY (jO m1) e env k s i) (l:=e.args) (body:=Rh fun x=>jO m1 x env) (fin:=fun l1=>Fv (fQ e l1)) (by omega) (fun k s i=>rfl) [];rw[s1,s2];have:=anf (K:=fun l1=>Fv (fQ e l1)) (goC:=fun x=>gK k2 x env) (goR:=fun x=>jO m1 x env) e.args [] 0 (fun x hx=>OG hW hl b x (level+1) k2 m1 (by have:=jq hx;omega) (by have:=jq hx;omega) (x2 x hx) hk2 (by omega)) (by simp;omega);simpa using this
  have err:∀c:Int,RES (some (ZT,c)) (some (ZT,c)):=fun c=>⟨sc 0,c,(any_ok (by omega)).1,(any_ok (by omega)).2,fun _=>rfl,rfl,rfl⟩;rw[gK,DT,jO,EG];unfold CS at p1;simp only[as3,asN,asI]at p1;have hkind:e.kind=1∨e.kind=2∨e.kind=3∨e.kind=4∨e.kind=5∨e.kind=6∨e.kind=7∨e.kind=8∨e.kind=9∨e.kind=10:=by omega
  have Qq:kG (k1+2) e.args env=oI (gK (k1+1)) e.args env BIG [] 0:=rfl;rcases hkind with hk'|hk'|hk'|hk'|hk'|hk'|hk'|hk'|hk'|hk'
  ·
   have hz:e.args=[]:=by unfold pW at p3;simp[hk']at p3;exact p3
   have h1:kG (k1+2) e.args env=some ([],0):=by
    rw[Qq,hz];rfl
   obtain⟨o1,o2,o3,o4⟩:=aeT (v:=e.value) (by have:=Cn e;omega) (f2 hk');rw[h1];unfold ED;simp only[hk',aC,o1,o2];exact⟨Nn e.value,0,o3,o4,fun h=>absurd rfl h,rfl,rfl⟩
  ·
   have hz:e.args=[]:=by unfold pW at p3;simp[hk']at p3;exact p3
   have h1:kG (k1+2) e.args env=some ([],0):=by
    rw[Qq,hz];rfl
   have:=YW hW hl e hk';rw[h1];simpa[hk']using this
  ·have hlen:e.args.length=1:=by unfold pW at p3;simp[hk']at p3;omega
   rw[Qq];rcases args (k1+1) (by omega)with⟨c,c1,c2,c3⟩|⟨Ts,c1,c2,c3,c4⟩
   ·rw[c2];simp only[hk'];simpa[c1,c3,ZT]using err c
   ·rw[c3];obtain⟨t,rfl⟩:=len1 (c1.trans hlen);obtain⟨w,d⟩:=c2 t (by simp);have:=acs w d hk' [];simp only[hk'];simpa[c4,idx]using this
  ·have hlen:e.args.length=2:=by unfold pW at p3;simp[hk']at p3;omega
   rw[Qq];rcases args (k1+1) (by omega)with⟨c,c1,c2,c3⟩|⟨Ts,c1,c2,c3,c4⟩
   ·rw[c2];simp only[hk'];simpa[c1,c3,ZT]using err c
   ·rw[c3];obtain⟨t,u,rfl⟩:=len2 (c1.trans hlen);obtain⟨w,d⟩:=c2 t (by simp);obtain⟨w',d'⟩:=c2 u (by simp);have:=afP w d w' d' hk' [];simp only[hk'];simpa[c4,idx]using this
  ·
   have hc5:lV (k1+2) e env=Ad (gK (k1+1)) (lV (k1+1)) (kG (k1+1)) e env:=rfl;have aq6:kG (k1+1) e.args env=oI (gK k1) e.args env BIG [] 0:=rfl;simp only[hk'];rw[hc5,Ad];rcases afe e.name with⟨s1,s2⟩|⟨n,alts,x,w,r,s1,s2,s3,s4,s5⟩
   ·rw[s1,s2];simpa[ZT]using err 10
   ·rw[s1,s4];subst s2;have hi:idx (w::r) 0=some w:=rfl;have hne:((((w::r).length:Nat):Int)==0)=false:=by simp;omega
    have hn0:decide (((n:Nat):Int)<0)=false:=by simp
    simp only[aC,hne,arG,arN,hi,aj,s3,hn0];by_cases hlen:e.args.length=n
    ·have e1:((e.args.length:Int) !=(n:Int))=false:=by simp[hlen]
     have e2:((n:Int) !=(e.args.length:Int))=false:=by simp[hlen]
     rw[aq6];rcases args k1 (by omega)with⟨c,c1,c2,c3⟩|⟨Ts,c1,c2,c3,c4⟩
     ·rw[c2];simpa[e1,e2,c1,c3,ZT]using err c
     ·have:=s5 e Ts rfl (by omega) c2;have Un:fQ e (Ts.map Ty.api)=gu e.name (Ts.map Ty.api):=by unfold fQ;simp[hk']
      rw[c3];rw[Un]at c4;simpa[e1,e2,c4]using this
    ·have e1:((e.args.length:Int) !=(n:Int))=true:=by simp;omega
     have e2:((n:Int) !=(e.args.length:Int))=true:=by simp;omega
     simpa[e1,e2,ZT]using err 1
  ·have hlen:e.args.length=1:=by unfold pW at p3;simp[hk']at p3;omega
   rw[Qq];rcases args (k1+1) (by omega)with⟨c,c1,c2,c3⟩|⟨Ts,c1,c2,c3,c4⟩
   ·rw[c2];simp only[hk'];simpa[c1,c3,ZT]using err c
   ·rw[c3];obtain⟨t,rfl⟩:=len1 (c1.trans hlen);obtain⟨w,d⟩:=c2 t (by simp);have:=aeZ w d hk' [];simp only[hk'];simpa[c4,idx]using this
  ·have hlen:e.args.length=2:=by unfold pW at p3;simp[hk']at p3;omega
   have hop:e.name∈opsL:=by
    unfold CW at p2;simp[hk']at p2;exact SN p2
   rw[Qq];rcases args (k1+1) (by omega)with⟨c,c1,c2,c3⟩|⟨Ts,c1,c2,c3,c4⟩
   ·rw[c2];simp only[hk'];simpa[c1,c3,ZT]using err c
   ·rw[c3];obtain⟨t,u,rfl⟩:=len2 (c1.trans hlen);obtain⟨w,d⟩:=c2 t (by simp);obtain⟨w',d'⟩:=c2 u (by simp);have:=ac3 w d w' d' hop;have Un:fQ e [t.api,u.api]=nT e.name t.api u.api:=by unfold fQ;simp[hk',idx]
    simp only[asy,atf]at c4;rw[Un]at c4;simp only[hk'];simpa[c4,idx]using this
  ·have hlen:e.args.length=3:=by unfold pW at p3;simp[hk']at p3;omega
   rw[Qq];rcases args (k1+1) (by omega)with⟨c,c1,c2,c3⟩|⟨Ts,c1,c2,c3,c4⟩
   ·rw[c2];simp only[hk'];simpa[c1,c3,ZT]using err c
   ·rw[c3];obtain⟨t,u,v,rfl⟩:=aol (c1.trans hlen);obtain⟨w,d⟩:=c2 t (by simp);obtain⟨w',d'⟩:=c2 u (by simp);obtain⟨w'',d''⟩:=c2 v (by simp);have:=aje w d w' d' w'' d'' hk' [];simp only[hk'];simpa[c4,idx]using this
  ·rw[Qq];rcases args (k1+1) (by omega)with⟨c,c1,c2,c3⟩|⟨Ts,c1,c2,c3,c4⟩
   ·rw[c2];simp only[hk'];simpa[c1,c3,ZT]using err c
   ·rw[c3];have hn:=K9 c2 (by omega) (e:=e) (.inl hk');have:=Oy c2 (by omega) (k:=5) (.inl rfl) (by simpa[hk']using hn);simp only[hk'];simpa[c4]using this
  ·rw[Qq];rcases args (k1+1) (by omega)with⟨c,c1,c2,c3⟩|⟨Ts,c1,c2,c3,c4⟩
   ·rw[c2];simp only[hk'];simpa[c1,c3,ZT]using err c
   ·rw[c3];have hn:=K9 c2 (by omega) (e:=e) (.inr hk');have:=Oy c2 (by omega) (k:=6) (.inr rfl) (by simpa[hk']using hn);simp only[hk'];simpa[c4]using this
end Go.Ft
namespace Go.Ft
open Go
attribute [local congr] eO
theorem aaE(T:Ty):jy T (sc 7)=T:=by
 cases T with
 | leaf a=>
  unfold sc;rw[jy];by_cases h:a=7
  ·simp[h]
  ·simp[h]
 | nest a t=>unfold sc;rw[jy];simp
theorem adk{T:Ty}(h:T.wf)(hd:T.dep≤16):l7 T.api (sc 7).api=some T.api:=by
 rw[(I4 h (any_ok (by omega)).1 hd (any_ok (by omega)).2).1,aaE]
end Go.Ft
namespace Go.Ft
open Go
attribute [local congr] eO
theorem O8{e:ak}(h:xval e=0):Fp e 1=0:=by
 unfold xval at h;split at h
 ·cases h
 ·exact h
theorem acW{e:ak}{env:List aT}(h:e.bulk≤1099511627776)(hl:env.length<4611686018427387904)(hd:∀d∈env,d.name.length<4611686018427387000):
  (∃c,c≠0∧Bf e env=some (ZT,c)∧Tp e env=some (ZT,c))∨(∃T:Ty,T.wf∧T.dep≤16∧Bf e env=some (T.api,0)∧Tp e env=some (T.api,0)∧nW e env=some (T.api,0)∧xval e=0∧aaW env=0):=by
 obtain⟨v1,v2,v3⟩:=ai4 (env:=env) hl hd;obtain⟨x1,x2⟩:=RN (e:=e) (by omega);unfold Bf Tp;rw[v1,v2,x1,x2];simp only[aj];by_cases hv:aaW env=0
 ·simp only[hv,as2,arG,arN];by_cases hx:xval e=0
  ·simp only[hx,as2,arG,arN];have hc:=O8 hx;obtain⟨T,c,w,d,z,r1,r2⟩:=OG (v3 hv) hl e.bulk e 1 BIG BIG (asx _) (by omega) hc (by have:=gX;omega) (by have:=gX;omega);have r1':M_ e env=some (T.api,c):=r1;have r2':nW e env=some (T.api,c):=r2;rw[r1',r2'];simp only[aC];by_cases h0:c=0
   ·subst h0;have t7:eT 7=some (sc 7).api:=rfl;rw[arF (by simp),t7];simp only[aj,adk w d];exact .inr ⟨T,w,d,by simp⟩
   ·rw[arK (by simpa using h0),z h0];exact .inl ⟨c,h0,rfl,rfl⟩
  ·have hx':(xval e !=0)=true:=by simpa using hx
   simp only[hx',arO];exact .inl ⟨_,hx,rfl,rfl⟩
 ·have hv':(aaW env !=0)=true:=by simpa using hv
  simp only[hv',arO];exact .inl ⟨_,hv,rfl,rfl⟩
end Go.Ft
namespace Go.Ft
open Go
attribute [local congr] eO
def ZV:ah:=ah.mk 0 false 0 ([]:Str) [] []
theorem aoX(level:Nat)(h:level≤16):vW ZV level=0:=by
 have h0:nG ZV level=0:=by
  unfold nG;rw[arF (by omega)];simp[ZV,rJ]
 rw[Nw,h0];simp[ZV,Er]
theorem aeS:ZV.bulk=7:=by unfold ZV ah.bulk ah.kZ;simp
theorem M8{go:ah→Option ah}{R:Type}{fin:ah→Option R}:∀(l:List ah) (i:Nat) (out:ah),(∀x∈l,go x=some x)→out.aO.length+l.length≤wX→
  dD (fun _ x (out:ah) r=>au (go x) fun x3=>au (app out.aO [x3]) fun x4=>r (ah.mk out.kind out.dZ out.eB out.bV x4 out.keys)) fin i l out
   =fin (ah.mk out.kind out.dZ out.eB out.bV (out.aO++l) out.keys)
 | [],i,out,_,_=>by cases out;simp[dD]
 | x::l,i,out,h,hl=>by
  simp only[ase]at hl;rw[dD,h x (by simp),aj,aU (by simp;omega),aj];refine(M8 l (i+1) _ (fun y hy=>h y (by simp[hy])) (by simp;omega)).trans ?_;simp
theorem Zv{S:ah→Prop}(hS:∀v,S v→v.aO.length≤wX∧v.keys.length≤wX∧∀x∈v.aO,S x):∀(n:Nat) (v:ah),v.bulk≤n→v.bulk<4611686018427387904→S v→oK (n+1) v=some v∧qP (n+1) v=some v
 | 0,v,h,_,_=>by have:=v.jV;omega
 | n+1,v,h,hb,hs=>by
  obtain⟨hl,hk,hm⟩:=hS v hs;have ih:∀x∈v.aO,oK (n+1) x=some x∧qP (n+1) x=some x:=fun x hx=>Zv hS n x (by have:=h_ hx;omega) (by have:=h_ hx;omega) (hm x hx);have hL:wX=4294967296:=rfl;constructor
  ·rw[oK,Bl,kQ,aU (by simp;omega),aj];rw[dI (F:=fun k s i=>uU (oK (n+1)) v k i s) (l:=v.aO) (body:=fun _ x (out:ah) r=>au (oK (n+1) x) fun x3=>au (app out.aO [x3]) fun x4=>r (ah.mk out.kind out.dZ out.eB out.bV x4 out.keys)) (fin:=fun out=>some out) (by omega) (fun k s i=>rfl)];rw[M8 v.aO 0 _ (fun x hx=>(ih x hx).1) (by simp;omega)];cases v;simp
  ·rw[qP,DK];rw[dI (F:=fun k s i=>xF (qP (n+1)) v k i s) (l:=v.aO) (body:=fun _ x (out:ah) r=>au (qP (n+1) x) fun x3=>au (app out.aO [x3]) fun x4=>r (ah.mk out.kind out.dZ out.eB out.bV x4 out.keys)) (fin:=fun out=>au (app out.keys v.keys) fun x4=>some (ah.mk out.kind out.dZ out.eB out.bV out.aO x4)) (by omega) (fun k s i=>rfl)];rw[M8 v.aO 0 _ (fun x hx=>(ih x hx).2) (by simp;omega),aU (by simp;omega)];cases v;simp
theorem Zw{S:ah→Prop}(hS:∀v,S v→v.aO.length≤wX∧v.keys.length≤wX∧∀x∈v.aO,S x){v:ah}(h:S v)(hb:v.bulk<4611686018427387904):nk v=some v∧yH v=some v:=by
 obtain⟨n,hn,hn2⟩:=qY;unfold nk yH;rw[hn];exact Zv hS n v (by omega) hb h
theorem aeY{v:ah}(h:v.bulk≤wX):nk v=some v∧yH v=some v:=
 Zw (S:=fun v=>v.bulk≤wX) (fun v h=>⟨by have:=vV v;omega,by have:=Au v;omega,fun x hx=>by have:=h_ hx;omega⟩) h (by have hL:wX=4294967296:=rfl;omega)
def Km:List Str→List ah→Str→Option ah
 | k::ks,x::xs,q=>if k=q then some x else Km ks xs q
 | _,_,_=>none
theorem Uq:∀ {ks:List Str} {xs:List ah} {q:Str} {v:ah},Km ks xs q=some v→v∈xs
 | k::ks,x::xs,q,v,h=>by
  rw[Km]at h;split at h
  ·cases h;simp
  ·simp[Uq h]
 | [],_,_,_,h=>by simp[Km]at h
 | _::_,[],_,_,h=>by simp[Km]at h
theorem aaM(ks:List Str)(q:Str):Km ks [] q=none:=by cases ks<;>rfl
def Uo(v:ah)(q:Str):Option ah:=if v.kind=5 then Km v.keys v.aO q else none
def afx:Option ah→ah × Bool
 | some x=>(x,true)
 | none=>(ZV,false)
theorem Ta(v:ah)(q:Str)(hv:v.keys.length<4611686018427387904):∀(k i:Nat),v.keys.length<k+i→i≤v.keys.length→Ig v q k (i:Int)=some (afx (Km (v.keys.drop i) (v.aO.drop i) q))
 | 0,i,h,h'=>by omega
 | k+1,i,h,h'=>by
  rw[Ig];by_cases hi:i<v.keys.length
  ·rw[arK (by simp;omega),mF hi,aj,ar0 hi];by_cases hl:i<v.aO.length
   ·rw[ar0 hl,Km];by_cases he:v.keys[i]=q
    ·rw[arK (by simpa using he),arK he,arF (by simp;omega),mF hl];rfl
    ·rw[arF (by simpa using he),arF he,mD (by omega),Ta v q hv k (i+1) (by omega) (by omega)]
   ·have e0:v.aO.drop i=[]:=asw (by omega);have e1:v.aO.drop (i+1)=[]:=asw (by omega);rw[e0,aaM];by_cases he:v.keys[i]=q
    ·rw[arK (by simpa using he),arK (by simp;omega)];rfl
    ·rw[arF (by simpa using he),mD (by omega),Ta v q hv k (i+1) (by omega) (by omega),e1,aaM]
  ·have:i=v.keys.length:=by omega
   subst this;rw[arF (by simp),List.drop_length];cases v.aO.drop v.keys.length<;>rfl
theorem alh{v:ah}(hv:v.keys.length<4611686018427387904)(q:Str):Yl v q=some (afx (Uo v q)):=by
 unfold Yl Uo;by_cases h:v.kind=5
 ·rw[arF (by simpa using h),arK h];exact Ta v q hv BIG 0 (by have:=gX;omega) (by omega)
 ·rw[arK (by simpa using h),arF h];rfl
theorem afQ(l:List Str)(q:Str)(hl:l.length<4611686018427387904):∃j:Int,jh l q=some j∧((j=-1∧q∉l)∨∃i:Nat,j=i∧∃h:i<l.length,l[i]=q∧∀k (hk:k<i),l[k]'(by omega)≠q):=by
 unfold jh;rw[dI (F:=fun k (_:Unit) i=>iH l q k i) (l:=l) (body:=fun(i:Nat) e1 (_:Unit) r=>if q==e1 then some (i:Int)else r ()) (fin:=fun _=>some (-1)) hl (fun k s i=>rfl) ()]
 have key:∀(t:List Str) (i:Nat),t=l.drop i→(∀k (hk:k<i) (hl:k<l.length),l[k]≠q)→∃j:Int,dD (fun(i:Nat) e1 (_:Unit) r=>if q==e1 then some (i:Int)else r ()) (fun _=>some (-1)) i t ()=some j∧((j=-1∧q∉l)∨∃i:Nat,j=i∧∃h:i<l.length,l[i]=q∧∀k (hk:k<i),l[k]'(by omega)≠q):=by
  intro t
  induction t with
  | nil=>
   intro i ht hne;refine⟨-1,rfl,.inl ⟨rfl,fun hm=>?_⟩⟩;obtain⟨k,hk,he⟩:=List.mem_iff_getElem.1 hm
   have:l.length≤i:=by
    rcases asQ i l.length with h|h
    ·rw[ar0 h]at ht;cases ht
    ·exact h
   exact hne k (by omega) hk he
  | cons d t ih=>
   intro i ht hne
   have hi:i<l.length:=by
    rcases asQ i l.length with h|h
    ·exact h
    ·rw[asw h]at ht;cases ht
   have hc:=ar0 hi;rw[←ht]at hc;have e1':=(atb hc).1;have e2':=(atb hc).2;rw[dD];by_cases he:q=d
   ·rw[arK (by simpa using he)];exact⟨i,rfl,.inr ⟨i,rfl,hi,by rw[←e1',he],fun k hk=>hne k hk (by omega)⟩⟩
   ·rw[arF (by simpa using he)];refine ih (i+1) e2' fun k hk hkl=>?_;by_cases hki:k=i
    ·subst hki;rw[←e1'];exact fun h=>he h.symm
    ·exact hne k (by omega) hkl
 exact key l 0 rfl (fun k hk=>by omega)
theorem aeh:∀(ks:List Str) (xs:List ah) (q:Str) (i:Nat) (h:i<ks.length),ks[i]=q→(∀k (hk:k<i),ks[k]'(by omega)≠q)→Km ks xs q=xs[i]?
 | [],_,_,i,h,_,_=>by simp at h
 | k::ks,[],q,i,h,_,_=>by simp[Km]
 | k::ks,x::xs,q,0,h,he,_=>by simp at he;simp[Km,he]
 | k::ks,x::xs,q,i+1,h,he,hn=>by
  have h0:=hn 0 (by omega);simp only[atX]at h0;rw[Km,arF h0,List.getElem?_cons_succ];exact aeh ks xs q i (by simpa using h) (by simpa using he) fun k hk=>by have:=hn (k+1) (by omega);simpa using this
theorem aaL:∀(ks:List Str) (xs:List ah) (q:Str),q∉ks→Km ks xs q=none
 | [],_,_,_=>by simp[Km]
 | k::ks,[],q,_=>by simp[Km]
 | k::ks,x::xs,q,h=>by
  simp only[asG,not_or]at h;rw[Km,arF (fun e=>h.1 e.symm),aaL ks xs q h.2]
theorem anL{v:ah}(hb:v.bulk<4611686018427387904)(hv:∀x∈v.aO,nk x=some x)(q:Str):Aw v q=some (afx (Uo v q)):=by
 have hk:=Au v;obtain⟨j,h1,h2⟩:=afQ v.keys q (by omega);unfold Aw Uo;rw[h1,aj];by_cases h5:v.kind=5
 ·rw[arK h5];rcases h2 with⟨rfl,hn⟩|⟨i,rfl,hi,he,hf⟩
  ·rw[arK (by simp),aaL _ _ _ hn];rfl
  ·rw[aeh _ _ _ i hi he hf];by_cases hl:i<v.aO.length
   ·rw[arF (by simp[h5];omega),mF hl,aj,asb hl,hv _ (asv hl)];rfl
   ·rw[arK (by simp[h5];omega),ata (by omega)];rfl
 ·rw[arF h5,arK (by simp[h5])];rfl
end Go.Ft
namespace Go.Ft
open Go
attribute [local congr] eO
def Cm{α:Type}(f:α→α→Int):List α→List α→Int
 | [],[]=>0
 | [],_::_=>-1
 | _::_,[]=>1
 | x::xs,y::ys=>if f x y !=0 then f x y else Cm f xs ys
theorem xU{α:Type}{l t:List α}{d:α}{i:Nat}(h:d::t=l.drop i):∃hi:i<l.length,d=l[i]∧t=l.drop (i+1):=by
 have hi:i<l.length:=by
  rcases asQ i l.length with h'|h'
  ·exact h'
  ·rw[asw h']at h;cases h
 have hc:=ar0 hi;rw[←h]at hc;exact⟨hi,(atb hc).1,(atb hc).2⟩
theorem DN{α:Type}{l:List α}{i:Nat}(h:[]=l.drop i):l.length≤i:=by
 rcases asQ i l.length with h'|h'
 ·rw[ar0 h']at h;cases h
 ·exact h'
theorem Qg{α:Type}{a b:List α}{cmp:α→α→Option Int}{f:α→α→Int}(hc:∀x∈a,∀y∈b,cmp x y=some (f x y)):∀(s t:List α) (i:Nat),s=a.drop i→t=b.drop i→i≤a.length→i≤b.length→
  dD (fun(i:Nat) e1 (_:Unit) r=>if decide ((b.length:Int)≤(i:Int))then some 1 else au (idx b (i:Int)) fun e2=>au (cmp e1 e2) fun c1=>if c1 !=0 then some c1 else r ())
   (fun _=>if decide ((a.length:Int)<(b.length:Int))then some (-1)else some 0) i s ()=some (Cm f s t)
 | [],[],i,hs,ht,_,_=>by
  have h1:=DN hs;have h2:=DN ht;rw[dD,Cm,arF (by simp;omega)]
 | [],y::t,i,hs,ht,_,_=>by
  have h1:=DN hs;obtain⟨h2,_,_⟩:=xU ht;rw[dD,Cm,arK (by simp;omega)]
 | x::s,[],i,hs,ht,_,_=>by
  have h2:=DN ht;rw[dD,Cm,arK (by simp;omega)]
 | x::s,y::t,i,hs,ht,_,_=>by
  obtain⟨h1,e1,e2⟩:=xU hs;obtain⟨h2,e3,e4⟩:=xU ht;rw[dD,Cm,arF (by simp;omega),mF h2,aj,←e3,hc x (by rw[e1];exact asv h1) y (by rw[e3];exact asv h2),aj];split
  ·rfl
  ·exact Qg hc s t (i+1) e2 e4 (by omega) (by omega)
theorem sign_eq(b:Bool):pI b=some (if b then -1 else 1):=by unfold pI;cases b<;>rfl
theorem UF{α:Type}{a b:List α}{cmp:α→α→Option Int}{f:α→α→Int}{g:Int→Option Int}(hg:∀x∈a,∀y∈b,g (f x y)=some (f x y))(hc:∀x∈a,∀y∈b,cmp x y=some (f x y))(ha:a.length<4611686018427387904){F:Nat→Int→Option Int}
  (hF:∀k (i:Nat),F (k+1) (i:Int)=if (decide ((i:Int)<(a.length:Int)))&&(decide ((i:Int)<(b.length:Int)))then au (idx a (i:Int)) fun e1=>au (idx b (i:Int)) fun e2=>au (cmp e1 e2) fun c1=>if c1 !=0 then g c1 else F k (bF ((i:Int)+1))
   else if (a.length:Int)==(b.length:Int)then some 0 else pI (decide ((a.length:Int)<(b.length:Int)))):
  ∀(s t:List α) (k i:Nat),s=a.drop i→t=b.drop i→i≤a.length→i≤b.length→a.length<k+i→F k (i:Int)=some (Cm f s t)
 | _,_,0,i,_,_,_,_,h=>by omega
 | [],[],k+1,i,hs,ht,_,_,_=>by
  have h1:=DN hs;have h2:=DN ht;rw[hF,Cm,arF (by simp;omega),arK (by simp;omega)]
 | [],y::t,k+1,i,hs,ht,_,_,_=>by
  have h1:=DN hs;obtain⟨h2,_,_⟩:=xU ht;rw[hF,Cm,arF (by simp;omega),arF (by simp;omega),sign_eq,arK (by simp;omega)]
 | x::s,[],k+1,i,hs,ht,_,_,_=>by
  have h2:=DN ht;obtain⟨h1,_,_⟩:=xU hs;rw[hF,Cm,arF (by simp;omega),arF (by simp;omega),sign_eq,arF (by simp;omega)]
 | x::s,y::t,k+1,i,hs,ht,_,_,hk=>by
  obtain⟨h1,e1,e2⟩:=xU hs;obtain⟨h2,e3,e4⟩:=xU ht;have hx:x∈a:=by rw[e1];exact asv h1
  have hy:y∈b:=by rw[e3];exact asv h2
  rw[hF,Cm,arK (by simp;omega),mF h1,aj,mF h2,aj,←e1,←e3,hc x hx y hy,aj];split
  ·exact hg x hx y hy
  ·rw[mD (by omega)];exact UF hg hc ha hF s t k (i+1) e2 e4 (by omega) (by omega) (by omega)
mutual
def uz:ah→ah→Int
 | ⟨k,b,n,s,l,ks⟩,y=>
  if uQ k y.kind !=0 then uQ k y.kind else if k==1 then zk (!b&&y.dZ) (b&&!y.dZ)else if k==2 then uQ n y.eB else if k==3 then LH s y.bV else if k==4 then QF l y.aO
  else if k==5 then (if Cm gF ks y.keys !=0 then Cm gF ks y.keys else QF l y.aO)else 0
def QF:List ah→List ah→Int
 | [],[]=>0
 | [],_::_=>-1
 | _::_,[]=>1
 | x::xs,y::ys=>if uz x y !=0 then uz x y else QF xs ys
end
theorem Ws:∀l m:List ah,QF l m=Cm uz l m
 | [],[]=>by rw[QF,Cm]
 | [],_::_=>by rw[QF,Cm]
 | _::_,[]=>by rw[QF,Cm]
 | x::xs,y::ys=>by rw[QF,Cm,Ws xs ys]
theorem ady(x y:ah):uz x y=if uQ x.kind y.kind !=0 then uQ x.kind y.kind else if x.kind==1 then zk (!x.dZ&&y.dZ) (x.dZ&&!y.dZ)else if x.kind==2 then uQ x.eB y.eB else if x.kind==3 then LH x.bV y.bV else if x.kind==4 then Cm uz x.aO y.aO
  else if x.kind==5 then (if Cm gF x.keys y.keys !=0 then Cm gF x.keys y.keys else Cm uz x.aO y.aO)else 0:=by
 cases x;rw[uz,Ws]
theorem aa7(x y:Int):(if x !=y then pI (decide (x<y))else some 0)=some (uQ x y):=by
 unfold uQ zk;rw[sign_eq];by_cases h:x=y
 ·subst h;simp
 ·by_cases h2:x<y
  ·simp[h,h2]
  ·have:y<x:=by omega
   simp[h,h2,this]
theorem aaq(x y:Str):(if (gF x y !=0)=true then pI (decide (gF x y<0))else some 0)=some (gF x y):=by
 rw[sign_eq];rcases (show gF x y=-1∨gF x y=0∨gF x y=1 from Ub _ _)with h|h|h<;>simp[h]
theorem abN:∀(n:Nat) (a b:ah),a.bulk≤n→a.bulk<4611686018427387904→b.bulk<4611686018427387904→jg (n+1) a b=some (uz a b)∧∀m,2*n+2≤m→oP m a b=some (uz a b)
 | 0,a,_,h,_,_=>by have:=a.jV;omega
 | n+1,a,b,h,hA,hB=>by
  have hla:=vV a;have hka:=Au a;have hlb:=vV b;have hkb:=Au b
  have ih:∀x∈a.aO,∀y∈b.aO,jg (n+1) x y=some (uz x y)∧∀m,2*n+2≤m→oP m x y=some (uz x y):=
   fun x hx y hy=>abN n x y (by have:=h_ hx;omega) (by have:=h_ hx;omega) (by have:=h_ hy;omega)
  have ks:∀x∈a.keys,x.length<4611686018427387904:=fun x hx=>by have:=KX hx;omega
  have ks':∀x∈b.keys,x.length<4611686018427387904:=fun x hx=>by have:=KX hx;omega
  constructor
  ·rw[jg,xK,ady,tO,aj]
   have hL:bG a.aO b.aO (jg (n+1))=some (Cm uz a.aO b.aO):=by
    unfold bG
    rw[dI (F:=fun k (_:Unit) i=>bX a.aO b.aO (jg (n+1)) k i) (l:=a.aO)
     (body:=fun(i:Nat) e1 (_:Unit) r=>if decide ((b.aO.length:Int)≤(i:Int))then some 1 else au (idx b.aO (i:Int)) fun e2=>au (jg (n+1) e1 e2) fun c1=>if c1 !=0 then some c1 else r ())
     (fin:=fun _=>if decide ((a.aO.length:Int)<(b.aO.length:Int))then some (-1)else some 0) (by omega) (fun k s i=>rfl) ()]
    exact Qg (fun x hx y hy=>(ih x hx y hy).1) _ _ 0 rfl rfl (by omega) (by omega)
   have hK:dB a.keys b.keys iR=some (Cm gF a.keys b.keys):=by
    unfold dB
    rw[dI (F:=fun k (_:Unit) i=>dQ a.keys b.keys iR k i) (l:=a.keys)
     (body:=fun(i:Nat) e1 (_:Unit) r=>if decide ((b.keys.length:Int)≤(i:Int))then some 1 else au (idx b.keys (i:Int)) fun e2=>au (iR e1 e2) fun c1=>if c1 !=0 then some c1 else r ())
     (fin:=fun _=>if decide ((a.keys.length:Int)<(b.keys.length:Int))then some (-1)else some 0) (by omega) (fun k s i=>rfl) ()]
    exact Qg (fun x hx y hy=>K_ (ks x hx) (ks' y hy)) _ _ 0 rfl rfl (by omega) (by omega)
   rw[hL,hK,tO,UD,aj]
   have hb:(au (uT a.dZ) fun x1=>au (uT b.dZ) fun x2=>cmp_Compare_int x1 x2)=some (zk (!a.dZ&&b.dZ) (a.dZ&&!b.dZ)):=by
    unfold uT;cases a.dZ<;>cases b.dZ<;>simp[tO,uQ]
   rw[hb]
   repeat' split
   all_goals rfl
  ·intro m hm;obtain⟨m,rfl⟩:∃q,m=q+2:=⟨m-2,by omega⟩;rw[oP,LX,ady,JR,QZ]
   have hL:Dp (oP m) a.aO b.aO BIG 0=some (Cm uz a.aO b.aO):=
    UF (g:=some) (fun x hx y hy=>rfl) (fun x hx y hy=>(ih x hx y hy).2 m (by omega)) (by omega) (F:=Dp (oP m) a.aO b.aO) (fun k i=>rfl) _ _ BIG 0 rfl rfl (by omega) (by omega) (by have:=gX;omega)
   have hK:PG a.keys b.keys=some (Cm gF a.keys b.keys):=by
    unfold PG;refine UF (g:=fun c=>if c !=0 then pI (decide (c<0))else some 0) (fun x hx y hy=>aaq x y) (fun x hx y hy=>TP (ks x hx) (ks' y hy)) (by omega) (F:=Dn a.keys b.keys) (fun k i=>?_) _ _ BIG 0 rfl rfl (by omega) (by omega) (by have:=gX;omega);rw[Dn];congr 1;congr 1;funext e1;congr 1;funext e2;congr 1;funext c;by_cases hc:(c !=0)=true
    ·rw[arK hc,arK hc,arK hc]
    ·rw[arF hc,arF hc]
   rw[hL,hK,aj];by_cases hk:a.kind=b.kind
   ·have e1:(a.kind !=b.kind)=false:=by simpa using hk
    have e2:(uQ a.kind b.kind !=0)=false:=by simpa using Hg.2 hk
    rw[e1,e2];simp only[arG,arN,aa7]
    have hb:(if (!(a.dZ==b.dZ))=true then pI b.dZ else some 0)=some (zk (!a.dZ&&b.dZ) (a.dZ&&!b.dZ)):=by
     rw[sign_eq];cases a.dZ<;>cases b.dZ<;>rfl
    have hs:(if (!(a.bV==b.bV))=true then pI (Go.Op.bytesLess a.bV b.bV)else some 0)=some (LH a.bV b.bV):=by
     rw[sign_eq];unfold LH zk;by_cases h:a.bV=b.bV
     ·rw[h];simp[Bg]
     ·cases h1:Go.Op.bytesLess a.bV b.bV<;>simp[h]
    rw[hb,hs]
    repeat' split
    all_goals rfl
   ·have e1:(a.kind !=b.kind)=true:=by simpa using hk
    have e2:(uQ a.kind b.kind !=0)=true:=by simpa using fun h=>hk (Hg.1 h)
    have:=aa7 a.kind b.kind;rw[arK e1]at this;rw[arK e1,arK e2,this]
theorem Nl{a b:ah}(hA:a.bulk<4611686018427387904)(hB:b.bulk<4611686018427387904):wY a b=some (uz a b)∧JX a b=some (uz a b):=by
 obtain⟨n,hn,hn2⟩:=qY;unfold wY JX;constructor
 ·rw[hn];exact(abN n a b (by omega) hA hB).1
 ·exact(abN a.bulk a b (asx _) hA hB).2 BIG (by have:=gX;omega)
theorem Vl{a b:ah}(hA:a.bulk<4611686018427387904)(hB:b.bulk<4611686018427387904):nu a b=some (uz a b==0)∧GD a b=some (uz a b==0):=by
 unfold nu GD;rw[(Nl hA hB).1,(Nl hA hB).2];exact⟨rfl,rfl⟩
end Go.Ft
namespace Go.Ft
open Go
attribute [local congr] eO
mutual
def Al:ah→Nat
 | ⟨k,_,_,_,l,_⟩=>if (k==4)||(k==5)then Fq l 2 else 1
def Fq:List ah→Nat→Nat
 | [],n=>n
 | x::r,n=>Fq r (max n (1+Al x))
end
theorem yC(v:ah):Al v=if (v.kind==4)||(v.kind==5)then Fq v.aO 2 else 1:=by cases v;rw[Al]
theorem Dx:∀(l:List ah) (n m:Nat),Fq l n≤m↔n≤m∧∀x∈l,1+Al x≤m
 | [],n,m=>by simp[Fq]
 | x::r,n,m=>by
  rw[Fq,Dx r];simp only[asG,forall_eq_or_imp,Nat.max_le];exact⟨fun h=>⟨h.1.1,h.1.2,h.2⟩,fun h=>⟨⟨h.1,h.2.1⟩,h.2.2⟩⟩
theorem ad9(l:List ah)(n:Nat):n≤Fq l n:=((Dx l n _).1 (asx _)).1
theorem aay{l:List ah}{n:Nat}{x:ah}(h:x∈l):1+Al x≤Fq l n:=((Dx l n _).1 (asx _)).2 x h
theorem Yz(v:ah):1≤Al v:=by
 rw[yC];split
 ·have:=ad9 v.aO 2;omega
 ·omega
theorem aax:∀(n:Nat) (v:ah),v.bulk≤n→Al v≤v.bulk
 | 0,v,h=>by have:=v.jV;omega
 | n+1,v,h=>by
  rw[yC];split
  ·rw[Dx];refine⟨?_,fun x hx=>?_⟩
   ·rw[ah.nN];omega
   ·have:=h_ hx;have:=aax n x (by omega);omega
  ·exact v.jV
theorem WW{go:ah→Option Int}:∀(l:List ah) (i s:Nat),(∀x∈l,go x=some (Al x:Int))→(∀x∈l,Al x<4611686018427387904)→
  dD (fun _ e1 (n1:Int) r=>au (go e1) fun x1=>r (if n1<(bF (1+x1))then (bF (1+x1))else n1)) (fun n1=>some n1) i l (s:Int)=some (Fq l s:Int)
 | [],i,s,_,_=>rfl
 | x::r,i,s,h,hb=>by
  have hx:=hb x (by simp);rw[dD,h x (by simp),aj,Fq];have e:bF (1+(Al x:Int))=((1+Al x:Nat):Int):=by rw[zq (by omega)];omega
  rw[e]
  have e2:(if (s:Int)<((1+Al x:Nat):Int)then ((1+Al x:Nat):Int)else (s:Int))=((max s (1+Al x):Nat):Int):=by
   split<;>congr 1<;>omega
  rw[e2];exact WW r (i+1) _ (fun y hy=>h y (by simp[hy])) (fun y hy=>hb y (by simp[hy]))
theorem ahO:∀(n:Nat) (v:ah),v.bulk≤n→v.bulk<4611686018427387904→wo (n+1) v=some (Al v:Int)
 | 0,v,h,_=>by have:=v.jV;omega
 | n+1,v,h,hb=>by
  have hl:=vV v;rw[wo,NY,yC];by_cases hk:((v.kind==4)||(v.kind==5))=true
  ·rw[arK hk,arF (by simp at hk⊢;omega)];rw[dI (F:=fun k s i=>Gg (wo (n+1)) v k s i) (l:=v.aO) (body:=fun _ e1 (n1:Int) r=>au (wo (n+1) e1) fun x1=>r (if n1<(bF (1+x1))then (bF (1+x1))else n1)) (fin:=fun n1=>some n1) (by omega) (fun k s i=>rfl)];exact WW v.aO 0 2 (fun x hx=>ahO n x (by have:=h_ hx;omega) (by have:=h_ hx;omega)) (fun x hx=>by have:=h_ hx;have:=aax _ x (asx _);omega)
  ·rw[arF hk,arK (by simp at hk⊢;omega)];rfl
theorem ab7{v:ah}(h:v.bulk<4611686018427387904):MJ v=some (Al v:Int):=by
 obtain⟨n,hn,hn2⟩:=qY;unfold MJ;rw[hn];exact ahO n v (by omega) h
mutual
def Zu:ah→Bool
 | ⟨a,b,c,d,l,f⟩=>(nG ⟨a,b,c,d,l,f⟩ 1==0)&&ahb l
def ahb:List ah→Bool
 | []=>true
 | x::r=>Zu x&&ahb r
end
theorem Zt:∀l:List ah,ahb l=true↔∀x∈l,Zu x=true
 | []=>by simp[ahb]
 | x::r=>by simp[ahb,Zt r]
theorem wS(v:ah):Zu v=true↔nG v 1=0∧∀x∈v.aO,Zu x=true:=by
 cases v;rw[Zu,arV,Zt];simp
theorem Wq(v:ah)(level:Nat):nG v level=if 16<level then 13 else if nG v 1≠0 then nG v 1 else if ((((v.kind==4)||(v.kind==5))&&((v.aO.length:Int)==0))&&level==16)=true then 13 else 0:=by
 unfold nG;have e1:((1:Nat)==16)=false:=rfl;rw[e1];generalize ((decide (v.kind<0))||(decide (5<v.kind))||!rJ v)=c1;generalize ((decide (v.eB<(-9007199254740992)))||(decide (9007199254740992<v.eB)))=c2;generalize (((decide (4096<(v.bV.length:Int)))||(decide (1024<(v.aO.length:Int))))||(decide (1024<(v.keys.length:Int))))=c3;generalize (v.kind==5&&!(((v.keys.length:Int)==(v.aO.length:Int))&&KJ none v.keys))=c4;generalize ((((v.kind==4)||(v.kind==5))&&((v.aO.length:Int)==0))&&level==16)=c5;by_cases h:16<level
 ·rw[arK h,arK h]
 ·rw[arF h,arF h];cases c1<;>cases c2<;>cases c3<;>cases c4<;>simp
theorem Pb{v:ah}(h:nG v 1=0):rJ v=true:=by
 unfold nG at h;cases hp:rJ v with
 | true=>rfl
 | false=>simp[hp]at h
theorem Sy{v:ah}(h:Zu v=true)(hk:((v.kind==4)||(v.kind==5))=false):v.aO=[]:=by
 have hp:=Pb ((wS v).1 h).1;unfold rJ at hp;simp only[arV,hk,asT,ar4]at hp;exact as5 (by omega)
theorem Wu:∀(l:List ah) (level:Nat),(∀x∈l,vW x level=if level+Al x≤17 then 0 else 13)→Er l level=if ∀x∈l,level+Al x≤17 then 0 else 13
 | [],level,_=>by simp[Er]
 | x::r,level,h=>by
  rw[Er,h x (by simp),Wu r level fun y hy=>h y (by simp[hy])];by_cases h1:level+Al x≤17
  ·simp[h1]
  ·simp[h1]
theorem Nv:∀(n:Nat) (v:ah) (level:Nat),v.bulk≤n→Zu v=true→1≤level→vW v level=if level+Al v≤17 then 0 else 13
 | 0,v,_,h,_,_=>by have:=v.jV;omega
 | n+1,v,level,h,hv,hl=>by
  obtain⟨h1,h2⟩:=(wS v).1 hv;have hp:=Yz v
  have hn:nG v level=if 16<level then 13 else if ((((v.kind==4)||(v.kind==5))&&((v.aO.length:Int)==0))&&level==16)=true then 13 else 0:=by
   rw[Wq,h1];simp
  rw[Nw];by_cases h16:16<level
  ·rw[arK h16]at hn;rw[hn,arK (by simp),arF (by omega)]
  ·rw[arF h16]at hn;rw[Wu v.aO (level+1) fun x hx=>Nv n x (level+1) (by have:=h_ hx;omega) (h2 x hx) (by omega)];cases hk:((v.kind==4)||(v.kind==5))with
   | false=>
    have he:=Sy hv hk;rw[hk]at hn;have hl1:Al v=1:=by rw[yC,hk];rfl
    simp only[ati,arG,arN]at hn;rw[hn,hl1,he,arF (by simp),arK (by simp),arK (by omega)]
   | true=>
    have hl1:Al v=Fq v.aO 2:=by rw[yC,hk];rfl
    rw[hk]at hn;simp only[as6]at hn
    have key:level+Fq v.aO 2≤17↔level≤15∧∀x∈v.aO,level+1+Al x≤17:=by
     have:=Dx v.aO 2 (17-level);constructor
     ·intro h;obtain⟨a,b⟩:=this.1 (by omega);exact⟨by omega,fun x hx=>by have:=b x hx;omega⟩
     ·rintro⟨a,b⟩;have:=this.2 ⟨by omega,fun x hx=>by have:=b x hx;omega⟩;omega
    rw[hl1];by_cases he:v.aO=[]
    ·rw[arK (c:=∀x∈v.aO,level+1+Al x≤17) (by simp[he])];by_cases Vn:level=16
     ·rw[arK (by simp[he,Vn])]at hn;rw[hn,arK (by simp),arF (fun h=>by have:=key.1 h;omega)]
     ·rw[arF (by simp[Vn])]at hn;rw[hn,arF (by simp),arK (key.2 ⟨by omega,by simp[he]⟩)]
    ·have hpos:0<v.aO.length:=as_.2 he;rw[arF (by simp[he])]at hn;rw[hn,arF (by simp)];obtain⟨x,hx⟩:=List.exists_mem_of_ne_nil _ he;have hpx:=Yz x;refine eO (propext (Iff.trans ?_ key.symm));exact⟨fun h=>⟨by have:=h x hx;omega,h⟩,fun h=>h.2⟩
theorem aha:∀(n:Nat) (v:ah) (level:Nat),v.bulk≤n→vW v level=0→Zu v=true
 | 0,v,_,h,_=>by have:=v.jV;omega
 | n+1,v,level,h,hc=>by
  obtain⟨h1,h2⟩:=Pe hc;refine(wS v).2 ⟨?_,fun x hx=>aha n x (level+1) (by have:=h_ hx;omega) (h2 x hx)⟩;rw[Wq]at h1;split at h1
  ·omega
  ·split at h1
   ·exact h1
   ·rename_i hq;exact aum.1 hq
def VV(v:ah):Prop:=Zu v=true∧Al v≤16
theorem KU(v:ah):vW v 1=0↔VV v:=by
 constructor
 ·intro h;have ho:=aha _ v 1 (asx _) h;refine⟨ho,?_⟩;rw[Nv _ v 1 (asx _) ho (by omega)]at h;split at h
  ·omega
  ·cases h
 ·rintro⟨h1,h2⟩;rw[Nv _ v 1 (asx _) h1 (by omega),arK (by omega)]
theorem VV.mem{v x:ah}(h:VV v)(hx:x∈v.aO):VV x:=by
 refine⟨((wS v).1 h.1).2 x hx,?_⟩;have h2:=h.2;rw[yC]at h2;split at h2
 ·have:=aay (n:=2) hx;omega
 ·rename_i hk;have:=Sy h.1 (by simpa using hk);rw[this]at hx;cases hx
theorem ara:VV ZV:=(KU _).1 (aoX 1 (by omega))
theorem Wp{go:Int→ah→Int→Option (Bool × Int)}{level:Nat}:∀(l:List ah) (i s:Nat),(∀x∈l,∀s:Nat,go (s:Int) x ((level+1:Nat):Int)=some (true,((max s (level+Al x):Nat):Int)))→
  dD (fun _ x1 (s1:Int) r=>fD (go s1 x1 ((level+1:Nat):Int)) fun b1 s2=>if !b1 then some (false,s2)else r s2) (fun s1=>some (true,s1)) i l (s:Int)=some (true,((l.foldl (fun s x=>max s (level+Al x)) s:Nat):Int))
 | [],i,s,_=>rfl
 | x::r,i,s,h=>by
  rw[dD,h x (by simp),aC,arF (by simp)];exact Wp r (i+1) _ fun y hy=>h y (by simp[hy])
theorem aaO:∀(l:List ah) (level s n:Nat),l.foldl (fun s x=>max s (level+Al x)) (max s (level+n))=max s (level+(Fq l (n+1)-1))
 | [],level,s,n=>by simp[Fq]
 | x::r,level,s,n=>by
  rw[atP,Fq];have e:max (max s (level+n)) (level+Al x)=max s (level+max n (Al x)):=by omega
  rw[e,aaO r level s];congr 3;rw[show max n (Al x)+1=max (n+1) (1+Al x)from by omega]
theorem ag6:∀(n:Nat) (v:ah) (level s:Nat),v.bulk≤n→v.bulk<4611686018427387904→Zu v=true→1≤level→level+n<4611686018427387904→gH iw (n+1) (s:Int) v (level:Int)=some (true,((max s (level-1+Al v):Nat):Int))
 | 0,v,_,_,h,_,_,_,_=>by have:=v.jV;omega
 | n+1,v,level,s,h,hB,hv,hl,hn=>by
  have hll:=vV v;obtain⟨h1,h2⟩:=(wS v).1 hv;rw[gH,vY,iw,aC,arF (by simp)];have hw:bF ((level:Int)+1)=((level+1:Nat):Int):=mD (by omega)
  have ih:∀x∈v.aO,∀s:Nat,gH iw (n+1) (s:Int) x ((level+1:Nat):Int)=some (true,((max s (level+Al x):Nat):Int)):=fun x hx s=>
   ag6 n x (level+1) s (by have:=h_ hx;omega) (by have:=h_ hx;omega) (h2 x hx) (by omega) (by omega)
  have sc:∀s:Nat,lF (gH iw (n+1)) v (level:Int) BIG (s:Int) 0=some (true,((v.aO.foldl (fun s x=>max s (level+Al x)) s:Nat):Int)):=by
   intro s;rw[dI (F:=fun k s i=>lF (gH iw (n+1)) v (level:Int) k s i) (l:=v.aO) (body:=fun _ x1 (s1:Int) r=>fD (gH iw (n+1) s1 x1 ((level+1:Nat):Int)) fun b1 s2=>if !b1 then some (false,s2)else r s2) (fin:=fun s1=>some (true,s1)) (by omega) (fun k s i=>by rw[←hw];rfl)];exact Wp v.aO 0 s ih
  unfold tY;rw[hw,yC];cases hk:((v.kind==4)||(v.kind==5))with
  | false=>
   have hnil:=Sy hv hk;simp only[ati,arG,arN];have e:(if (s:Int)<(level:Int)then (level:Int)else (s:Int))=((max s level:Nat):Int):=by split<;>omega
   rw[e,sc,hnil];simp only[List.foldl_nil];rw[show level-1+1=level from by omega]
  | true=>
   simp only[as6,arO];by_cases he:v.aO=[]
   ·have q:((v.aO.length:Int)==0)=true:=by simp[he]
    simp only[q,arO];have e:(if (s:Int)<((level+1:Nat):Int)then ((level+1:Nat):Int)else (s:Int))=((max s (level+1):Nat):Int):=by split<;>omega
    rw[e,sc,he];simp only[List.foldl_nil,Fq];rw[show level-1+2=level+1 from by omega]
   ·have q:((v.aO.length:Int)==0)=false:=by simp[he]
    simp only[q,arG,arN];have e:(if (s:Int)<(level:Int)then (level:Int)else (s:Int))=((max s (level+0):Nat):Int):=by split<;>omega
    rw[e,sc,aaO]
    have hne:∃x r,v.aO=x::r:=by
     cases hc:v.aO with
     | nil=>exact absurd hc he
     | cons x r=>exact⟨x,r,rfl⟩
    obtain⟨x,r,hc⟩:=hne;have hx:=Yz x
    have e2:Fq v.aO (0+1)=Fq v.aO 2:=by
     rw[hc,Fq,Fq];congr 1;omega
    rw[e2];have:=ad9 v.aO 2;congr 3;omega
theorem abO{v:ah}(h:v.bulk<2305843009213693952)(hv:Zu v=true):zu v=some (Al v:Int):=by
 obtain⟨n,hn,hn2⟩:=qY;unfold zu Et;have key:=ag6 v.bulk v 1 0 (asx _) (by omega) hv (by omega) (by omega)
 have mono:∀(k:Nat) (s:Int) (x:ah) (lv:Int) (r:Bool × Int),gH iw k s x lv=some r→∀m,k≤m→gH iw m s x lv=some r:=by
  intro k
  induction k with
  | zero=>intro s x lv r h;cases h
  | succ k ih=>
   intro s x lv r h m hm;obtain⟨m,rfl⟩:∃q,m=q+1:=⟨m-1,by omega⟩
   have lp:∀(v:ah) (level:Int) (f:Nat) (s i:Int) (r:Bool × Int),lF (gH iw k) v level f s i=some r→lF (gH iw m) v level f s i=some r:=by
    intro v level f
    induction f with
    | zero=>intro s i r h;cases h
    | succ f ihf=>
     intro s i r h;rw[lF]at h⊢;split at h
     ·rename_i hc;rw[arK hc];obtain⟨x,hx,h⟩:=lq h;obtain⟨b,s2,hb,h⟩:=gy h;rw[hx,aj,ih _ _ _ _ hb m (by omega),aC];split at h
      ·rename_i hc2;rw[arK hc2];exact h
      ·rename_i hc2;rw[arF hc2];exact ihf _ _ _ h
     ·rename_i hc;rw[arF hc];exact h
   rw[gH,vY]at h⊢;obtain⟨b,s2,hb,h⟩:=gy h;rw[hb,aC];split at h
   ·rename_i hc;rw[arK hc];exact h
   ·rename_i hc;rw[arF hc];exact lp _ _ _ _ _ _ h
 have:=mono _ _ _ _ _ key BIG (by have:=gX;omega);rw[show ((0:Nat):Int)=0 from rfl,show ((1:Nat):Int)=1 from rfl]at this;rw[this,aC];simp
theorem mJ{v:ah}(h:Zu v=true):v.bV.length≤4096∧v.aO.length≤1024∧v.keys.length≤1024∧-9007199254740992≤v.eB∧v.eB≤9007199254740992:=by
 have h1:=((wS v).1 h).1;unfold nG at h1;rw[arF (by omega)]at h1;split at h1
 ·cases h1
 ·split at h1
  ·cases h1
  ·rename_i h2;split at h1
   ·cases h1
   ·rename_i h3;simp only[asq,arP,not_or,Int.not_lt]at h2 h3;omega
theorem Pd{v:ah}(h:Zu v=true)(hb:v.bulk<4611686018427387904):nk v=some v∧yH v=some v:=
 Zw (S:=fun v=>Zu v=true) (fun v h=>by
  have:=mJ h;have hL:wX=4294967296:=rfl
  exact⟨by omega,by omega,((wS v).1 h).2⟩) h hb
theorem adD{v:ah}(h:Zu v=true)(hb:v.bulk<4611686018427387904)(q:Str):Aw v q=some (afx (Uo v q)):=
 anL hb (fun x hx=>(Pd (((wS v).1 h).2 x hx) (by have:=h_ hx;omega)).1) q
end Go.Ft
namespace Go.Ft
open Go
attribute [local congr] eO
def Zf(b:Bool):ah:=ah.mk 1 b 0 ([]:Str) [] []
def mkI(n:Int):ah:=ah.mk 2 false n ([]:Str) [] []
def mkS(s:Str):ah:=ah.mk 3 false 0 s [] []
def Jo(l:List ah):ah:=ah.mk 4 false 0 ([]:Str) l []
def VE(lo hi:UInt8)(Gq:Int)(c:UInt8):UInt8:=if (decide ((lo.toNat:Int)≤(c.toNat:Int)))&&(decide ((c.toNat:Int)≤(hi.toNat:Int)))then Ft.byteOf (bF ((c.toNat:Int)+Gq))else c
theorem wO{α:Type}{l m:List α}(h:l.length+m.length≤wX):app l m=some (l++m):=aU h
theorem Xe{s:Str}(hs:s.length≤wX)(lo hi:UInt8)(Gq:Int):za s lo hi Gq=some (s.map (VE lo hi Gq))∧Xa s lo hi Gq=some (s.map (VE lo hi Gq)):=by
 have hL:wX=4294967296:=rfl;constructor
 ·unfold za
  rw[dI (F:=fun k s1 i=>sw s lo hi Gq k i s1) (l:=s) (body:=fun(i:Nat) c (b:Str) r=>
   au (if decide ((lo.toNat:Int)≤(c.toNat:Int))then au (idx s (i:Int)) fun x2=>some (decide ((x2.toNat:Int)≤(hi.toNat:Int)))else some false) fun b2=>
   if b2 then au (idx s (i:Int)) fun x3=>au (app b [(Ft.byteOf (bF ((x3.toNat:Int)+Gq)))]) fun b3=>r b3 else au (idx s (i:Int)) fun x4=>au (app b [x4]) fun b4=>r b4) (fin:=fun b=>some b) (by omega) (fun k s i=>rfl)]
  have key:∀(t:Str) (i:Nat) (b:Str),t=s.drop i→b.length+t.length≤wX→dD (fun(i:Nat) c (b:Str) r=>
   au (if decide ((lo.toNat:Int)≤(c.toNat:Int))then au (idx s (i:Int)) fun x2=>some (decide ((x2.toNat:Int)≤(hi.toNat:Int)))else some false) fun b2=>
   if b2 then au (idx s (i:Int)) fun x3=>au (app b [(Ft.byteOf (bF ((x3.toNat:Int)+Gq)))]) fun b3=>r b3 else au (idx s (i:Int)) fun x4=>au (app b [x4]) fun b4=>r b4) (fun b=>some b) i t b=some (b++t.map (VE lo hi Gq)):=by
   intro t
   induction t with
   | nil=>intro i b _ _;simp[dD]
   | cons c t ih=>
    intro i b ht hb;obtain⟨hi',e1,e2⟩:=xU ht;simp only[ase]at hb;rw[dD,mF hi',←e1];simp only[aj]
    have hone:(if decide ((lo.toNat:Int)≤(c.toNat:Int))=true then some (decide ((c.toNat:Int)≤(hi.toNat:Int)))else some false)=some ((decide ((lo.toNat:Int)≤(c.toNat:Int)))&&(decide ((c.toNat:Int)≤(hi.toNat:Int)))):=by
     cases decide ((lo.toNat:Int)≤(c.toNat:Int))<;>rfl
    rw[hone,aj,wO (by simp;omega),wO (by simp;omega)];simp only[aj,asy];cases hc:((decide ((lo.toNat:Int)≤(c.toNat:Int)))&&(decide ((c.toNat:Int)≤(hi.toNat:Int))))with
    | true=>
     simp only[arO];rw[ih (i+1) _ e2 (by simp;omega),VE,hc];simp
    | false=>
     simp only[arG,arN];rw[ih (i+1) _ e2 (by simp;omega),VE,hc];simp
  have:=key s 0 [] rfl (by simp;omega);simpa using this
 ·unfold Xa
  rw[dI (F:=fun k b i=>Dk s lo hi Gq k b i) (l:=s) (body:=fun(i:Nat) c (b:Str) r=>
   if (decide ((lo.toNat:Int)≤(c.toNat:Int)))&&(decide ((c.toNat:Int)≤(hi.toNat:Int)))then au (app b ([(Ft.byteOf (bF ((c.toNat:Int)+Gq)))]:List UInt8)) fun b2=>r b2 else au (app b ([c]:List UInt8)) fun b3=>r b3) (fin:=fun b=>some b) (by omega) (fun k s i=>rfl)]
  have key:∀(t:Str) (i:Nat) (b:Str),b.length+t.length≤wX→dD (fun(i:Nat) c (b:Str) r=>
   if (decide ((lo.toNat:Int)≤(c.toNat:Int)))&&(decide ((c.toNat:Int)≤(hi.toNat:Int)))then au (app b ([(Ft.byteOf (bF ((c.toNat:Int)+Gq)))]:List UInt8)) fun b2=>r b2 else au (app b ([c]:List UInt8)) fun b3=>r b3) (fun b=>some b) i t b=some (b++t.map (VE lo hi Gq)):=by
   intro t
   induction t with
   | nil=>intro i b _;simp[dD]
   | cons c t ih=>
    intro i b hb;simp only[ase]at hb;rw[dD,wO (by simp;omega),wO (by simp;omega)];simp only[aj,asy];cases hc:((decide ((lo.toNat:Int)≤(c.toNat:Int)))&&(decide ((c.toNat:Int)≤(hi.toNat:Int))))with
    | true=>
     simp only[arO];rw[ih (i+1) _ (by simp;omega),VE,hc];simp
    | false=>
     simp only[arG,arN];rw[ih (i+1) _ (by simp;omega),VE,hc];simp
  have:=key s 0 [] (by simp;omega);simpa using this
theorem Ot:∀(s t:Str),s.length<t.length→mE s t=none
 | [],t,h=>by
  unfold mE;cases t with
  | nil=>simp at h
  | cons c t=>rfl
 | b::l,t,h=>by
  unfold mE;simp only[ase]at h
  have hp:t.isPrefixOf (b::l)=false:=by
   cases hq:t.isPrefixOf (b::l)with
   | false=>rfl
   | true=>
    have:=(atN.1 hq).length_le;simp only[ase]at this;omega
  rw[hp,Ot l t (by omega)];rfl
theorem MW:∀ {s t:Str} {i:Nat},mE s t=some i→i+t.length≤s.length
 | [],t,i,h=>by
  unfold mE at h;split at h
  ·rename_i ht;simp only[asB]at h;have:t=[]:=by simpa using ht
   subst this;simp;omega
  ·cases h
 | b::l,t,i,h=>by
  unfold mE at h;split at h
  ·rename_i ht;simp only[asB]at h;have:=(atN.1 ht).length_le;omega
  ·obtain⟨j,hj,rfl⟩:=Option.map_eq_some_iff.1 h;have:=MW hj;simp only[ase];omega
def Ko(s t:Str)(k:Nat):Int:=match mE (s.drop k) t with|none=>-1|some i=>((k+i:Nat):Int)
theorem VH(t s:Str):t.isPrefixOf s=(s.take t.length==t):=by
 rw[asZ,atN,List.prefix_iff_eq_take];simp only[ar4];exact⟨fun h=>h.symm,fun h=>h.symm⟩
theorem aaT{s t:Str}(hs:s.length<1152921504606846976)(ht:t.length<1152921504606846976):∀(k i:Nat),s.length<k+i→i≤s.length→Fz s t k (i:Int)=some (Ko s t i)
 | 0,i,h,h'=>by omega
 | k+1,i,h,h'=>by
  rw[Fz,zq (by omega)];by_cases hi:i+t.length≤s.length
  ·rw[arK (by simp;omega),bI (by omega) (by omega) (by omega),aj]
   have e:(s.take ((i:Int)+(t.length:Int)).toNat).drop (i:Int).toNat=(s.drop i).take t.length:=by
    rw[atz];congr 1<;>omega
   rw[e,←VH];by_cases he:i<s.length
   ·have hc:=ar0 he;unfold Ko;rw[hc,mE];cases hp:t.isPrefixOf (s[i]::s.drop (i+1))with
    | true=>simp
    | false=>
     simp only[arG,arN];rw[mD (by omega),aaT hs ht k (i+1) (by omega) (by omega)];unfold Ko;cases mE (s.drop (i+1)) t with
     | none=>rfl
     | some j=>simp only[Option.map_some,asB];omega
   ·have hd:s.drop i=[]:=asw (by omega);have ht0:t=[]:=as5 (by omega);unfold Ko;rw[hd,ht0];simp[mE]
  ·rw[arF (by simp;omega)];unfold Ko;rw[Ot _ _ (by simp;omega)]
theorem find_eq{s t:Str}(hs:s.length<1152921504606846976)(ht:t.length<1152921504606846976){i:Nat}(hi:i≤s.length):JL s t (i:Int)=some (Ko s t i):=
 aaT hs ht BIG i (by have:=gX;omega) hi
theorem am1{s t:Str}(hs:s.length<1152921504606846976)(ht:t.length<1152921504606846976):JL s t 0=some (Ko s t 0):=find_eq hs ht (i:=0) (by omega)
theorem aiX(s t:Str)(k:Nat):decide (0≤Ko s t k)=(mE (s.drop k) t).isSome:=by
 unfold Ko;cases mE (s.drop k) t with
 | none=>rfl
 | some i=>simp;omega
theorem SQ(t:Str)(ht:t≠[]):∀(k:Nat) (s:Str),(ou t k s).length≤s.length+1
 | 0,s=>by simp[ou]
 | k+1,s=>by
  rw[ou];cases h:mE s t with
  | none=>simp
  | some i=>
   have:=MW h;have hl:0<t.length:=as_.2 ht;have ih:=SQ t ht k (s.drop (i+t.length));simp only[ase];simp only[atB]at ih;omega
theorem WJ{s t:Str}(hs:s.length<1152921504606846976)(ht:t.length<1152921504606846976)(h0:t≠[])(hL:s.length+2≤wX):∀(n k q:Nat) (l:List ah) (i:Nat),s.length-i<n→n≤k→s.length-i<q→i≤s.length→l.length+(s.length-i)+2≤wX→
  Dj s t k l (i:Int) (Ko s t i)=AB (Jo (l++(ou t q (s.drop i)).map mkS))
 | 0,_,_,_,_,h,_,_,_,_=>by omega
 | n+1,0,_,_,_,h,h',_,_,_=>by omega
 | n+1,k+1,0,_,_,_,_,h,_,_=>by omega
 | n+1,k+1,q+1,l,i,hn,hk,hq,hi,hl=>by
  have hp:0<t.length:=as_.2 h0;rw[Dj,ou];unfold Ko;cases hx:mE (s.drop i) t with
  | none=>
   rw[arF (by simp),sZ hi];simp only[aj,K5];rw[wO (by simp;omega),aj];rfl
  | some j=>
   have hf:=MW hx;simp only[atB]at hf
   have e0:(s.take ((i+j:Nat):Int).toNat).drop (i:Int).toNat=(s.drop i).take j:=by
    rw[atz];congr 1;omega
   have e1:bF (((i+j:Nat):Int)+(t.length:Int))=((i+(j+t.length):Nat):Int):=by rw[zq (by omega)];omega
   simp only;rw[arK (by simp;omega),bI (by omega) (by omega) (by omega),aj,e0,K5,aj,wO (by simp;omega),aj,e1,find_eq hs ht (by omega),aj];rw[WJ hs ht h0 hL n k q _ (i+(j+t.length)) (by omega) (by omega) (by omega) (by omega) (by simp;omega)];simp[mkS]
theorem ahz{s t:Str}(hL:s.length+2≤wX)(ht:t.length<1152921504606846976)(h0:t≠[]):K4 s t=AB (Jo ((ou t (s.length+1) s).map mkS)):=by
 have hLL:wX=4294967296:=rfl;unfold K4;rw[arF (by simpa using h0),am1 (by omega) ht,aj];have:=WJ (s:=s) (t:=t) (by omega) ht h0 hL (s.length+1) BIG (s.length+1) [] 0 (by omega) (by have:=gX;omega) (by omega) (by omega) (by simp;omega);simpa using this
theorem WH:∀(l:List Str) (i:Nat) (out:ah),out.aO.length+l.length≤wX→
  dD (fun _ s1 (out:ah) r=>au (mW s1) fun x2=>au (app out.aO [x2]) fun x3=>r (ah.mk out.kind out.dZ out.eB out.bV x3 out.keys)) (fun out=>some out) i l out=some (ah.mk out.kind out.dZ out.eB out.bV (out.aO++l.map mkS) out.keys)
 | [],i,out,_=>by cases out;simp[dD]
 | s::l,i,out,h=>by
  simp only[ase]at h;rw[dD,mW,aj,wO (by simp;omega),aj];refine(WH l (i+1) _ (by simp;omega)).trans ?_;simp[mkS]
theorem adK{l:List Str}(h:l.length≤wX):A_ l=some (Jo (l.map mkS)):=by
 have hLL:wX=4294967296:=rfl;unfold A_;rw[dI (F:=fun k s i=>zY l k i s) (l:=l) (body:=fun _ s1 (out:ah) r=>au (mW s1) fun x2=>au (app out.aO [x2]) fun x3=>r (ah.mk out.kind out.dZ out.eB out.bV x3 out.keys)) (fin:=fun out=>some out) (by omega) (fun k s i=>rfl),WH l 0 _ (by simp;omega)];rfl
def preS(s t:Str):Bool:=(decide (t.length≤s.length))&&(s.take t.length==t)
def ahx(s t:Str):Bool:=(decide (t.length≤s.length))&&(s.drop (s.length-t.length)==t)
theorem ak8(s t:Str):(if decide ((t.length:Int)≤(s.length:Int))then au (sl s 0 (t.length:Int)) fun x7=>some (x7==t)else some false)=some (preS s t):=by
 unfold preS;by_cases h:t.length≤s.length
 ·rw[arK (by simp;omega),Z0 h,aj];simp[h]
 ·rw[arF (by simp;omega)];simp[h]
theorem ak7{s t:Str}(hs:s.length<1152921504606846976)(ht:t.length<1152921504606846976):(if decide ((t.length:Int)≤(s.length:Int))then au (sl s (bF ((s.length:Int)-(t.length:Int))) (s.length:Int)) fun x9=>some (x9==t)else some false)=some (ahx s t):=by
 unfold ahx;by_cases h:t.length≤s.length
 ·rw[arK (by simp;omega),zq (by omega),show (s.length:Int)-(t.length:Int)=((s.length-t.length:Nat):Int)from by omega,sZ (by omega),aj];simp[h]
 ·rw[arF (by simp;omega)];simp[h]
theorem alj(s t:Str):strings_HasPrefix s t=some (preS s t):=ak8 s t
theorem ali{s t:Str}(hs:s.length<1152921504606846976)(ht:t.length<1152921504606846976):strings_HasSuffix s t=some (ahx s t):=ak7 hs ht
end Go.Ft
namespace Go.Ft
open Go
attribute [local congr] eO
def dg(u:Nat):UInt8:=UInt8.ofNat (48+u)
theorem Qd{u:Nat}(h:u<10):(dg u).toNat=48+u:=by
 unfold dg;rw[UInt8.toNat_ofNat',atL (by omega)]
theorem ai9{u:Nat}(h:u<10):dF (dg u)=true:=by
 unfold dF;rw[Qd h];simp;omega
theorem Qc:∀(k m u:Nat),u<10 ^ k→u<10 ^ m→0<k→0<m→uo k u=uo m u
 | 0,_,_,_,_,h,_=>by omega
 | _,0,_,_,_,_,h=>by omega
 | k+1,m+1,u,h,h',_,_=>by
  rw[uo,uo];by_cases hu:u<10
  ·rw[arK hu,arK hu]
  ·rw[arF hu,arF hu]
   have hk:0<k:=by
    rcases atT k with h0|h0
    ·subst h0;omega
    ·exact h0
   have hm:0<m:=by
    rcases atT m with h0|h0
    ·subst h0;omega
    ·exact h0
   rw[Qc k m (u/10) (by rw[atx]at h;omega) (by rw[atx]at h';omega) hk hm]
theorem KC:∀(k u:Nat),u<10 ^ k→0<k→(uo k u).length≤k
 | 0,_,_,h=>by omega
 | k+1,u,h,_=>by
  rw[uo];split
  ·simp
  ·rename_i hu
   have hk:0<k:=by
    rcases atT k with h0|h0
    ·subst h0;omega
    ·exact h0
   have:=KC k (u/10) (by rw[atx]at h;omega) hk;simp only[aui,List.length_singleton];omega
theorem IJ{u:Nat}(h:u<10):uo 20 u=[dg u]:=by rw[uo,arK h];rfl
theorem OP{u:Nat}(h:¬u<10)(hb:u<100000000000000000000):uo 20 u=uo 20 (u/10)++[dg (u%10)]:=by
 have e:uo 20 u=uo 19 (u/10)++[dg (u%10)]:=by rw[uo,arF h];rfl
 rw[e,Qc 19 20 (u/10) (by have:(10:Nat) ^ 19=10000000000000000000:=(by decide);omega) (by have:(10:Nat) ^ 20=100000000000000000000:=(by decide);omega) (by omega) (by omega)]
attribute [local irreducible] uo
def Zy:Str→Nat→Nat
 | [],acc=>acc
 | c::r,acc=>Zy r (acc*10+(c.toNat-48))
def xZ(acc:Nat)(s:Str):Nat:=Zy s acc
theorem BO(acc:Nat):xZ acc []=acc:=rfl
theorem oV(acc:Nat)(c:UInt8)(s:Str):xZ acc (c::s)=xZ (acc*10+(c.toNat-48)) s:=by simp only[xZ,Zy]
theorem QG:∀(s t:Str) (acc:Nat),Zy (s++t) acc=Zy t (Zy s acc)
 | [],t,acc=>rfl
 | c::s,t,acc=>by rw[atu,Zy,Zy,QG s t]
theorem QH(s t:Str)(acc:Nat):xZ acc (s++t)=xZ (xZ acc s) t:=QG s t acc
theorem adC:∀(s:Str) (acc:Nat),acc≤xZ acc s
 | [],acc=>asx _
 | c::s,acc=>by rw[oV];have:=adC s (acc*10+(c.toNat-48));omega
def agl(s:Str):Prop:=s≠[]∧(∀c∈s,dF c=true)∧(1<s.length→(s.head?.map UInt8.toNat)≠some 48)
theorem xG:∀(n u:Nat),u≤n→u<100000000000000000000→agl (uo 20 u)∧xZ 0 (uo 20 u)=u∧(0<u→((uo 20 u).head?.map UInt8.toNat)≠some 48)
 | n,u,h,hb=>by
  by_cases hu:u<10
  ·rw[IJ hu];refine⟨⟨by simp,fun c hc=>?_,fun h=>by simp at h⟩,?_,fun hp=>?_⟩
   ·rw[atw.1 hc];exact ai9 hu
   ·simp[oV,BO,Qd hu]
   ·simp[Qd hu];omega
  ·match n,h with
   | 0,h=>omega
   | n+1,h=>
    obtain⟨⟨h1,h2,h3⟩,h4,h5⟩:=xG n (u/10) (by omega) (by omega);rw[OP hu hb]
    have hh:((uo 20 (u/10)++[dg (u%10)]).head?.map UInt8.toNat)=((uo 20 (u/10)).head?.map UInt8.toNat):=by
     cases hd:uo 20 (u/10)with
     | nil=>exact absurd hd h1
     | cons a l=>rfl
    refine⟨⟨by simp,fun c hc=>?_,fun _=>?_⟩,?_,fun _=>?_⟩
    ·rcases atG.1 hc with hc|hc
     ·exact h2 c hc
     ·rw[atw.1 hc];exact ai9 (by omega)
    ·rw[hh];exact h5 (by omega)
    ·rw[QH,h4];simp only[oV,BO,Qd (show u%10<10 from by omega)];omega
    ·rw[hh];exact h5 (by omega)
theorem r_{c:UInt8}(h:dF c=true):48≤c.toNat∧c.toNat≤57:=by
 unfold dF at h;simp only[arV,arP]at h;omega
theorem am6{c:UInt8}(h:dF c=true):c=dg (c.toNat-48):=by
 have:=r_ h;apply as0.1;rw[Qd (by omega)];omega
theorem adB:∀(s:Str) (acc:Nat),(∀c∈s,dF c=true)→xZ acc s<(acc+1)*10 ^ s.length
 | [],acc,_=>by simp[BO]
 | c::s,acc,h=>by
  have hc:=r_ (h c (by simp));have:=adB s (acc*10+(c.toNat-48)) fun x hx=>h x (by simp[hx]);rw[oV,ase,atx]
  have e:(acc*10+(c.toNat-48)+1)*10 ^ s.length≤(acc+1)*(10 ^ s.length*10):=by
   rw[at7 (10 ^ s.length) 10,←auk];exact asV _ (by omega)
  omega
theorem UL:∀(n:Nat) (s:Str),s.length≤n→agl s→s.length≤19→uo 20 (xZ 0 s)=s∧(1<s.length→10≤xZ 0 s)∧(s.length=1→xZ 0 s<10)
 | 0,s,h,hc,_=>by
  have:=as_.2 hc.1;omega
 | n+1,s,h,⟨h1,h2,h3⟩,h19=>by
  by_cases hl:s.length=1
  ·obtain⟨c,rfl⟩:=len1 hl;have hd:=h2 c (by simp);have hn:=r_ hd;have e:xZ 0 [c]=c.toNat-48:=by simp[oV,BO]
   rw[e,IJ (by omega),←am6 hd];exact⟨rfl,fun h=>by simp at h,fun _=>by omega⟩
  ·have hpos:=as_.2 h1;have hs:s=s.dropLast++[s.getLast h1]:=(List.dropLast_concat_getLast h1).symm;have hdl:s.dropLast.length=s.length-1:=List.length_dropLast;have hd:=h2 (s.getLast h1) (List.getLast_mem h1);have hn:=r_ hd;have hne:s.dropLast≠[]:=fun h=>by rw[h]at hdl;simp at hdl;omega
   have hhd:s.dropLast.head?=s.head?:=by
    cases s with
    | nil=>exact absurd rfl h1
    | cons a l=>cases l with
     | nil=>simp at hl
     | cons b r=>rfl
   have hz:=h3 (by omega);have hcd:agl s.dropLast:=⟨hne,fun c hc=>h2 c ((List.dropLast_sublist s).subset hc),fun _=>by rw[hhd];exact hz⟩;obtain⟨i1,i2,i3⟩:=UL n s.dropLast (by omega) hcd (by omega)
   have hv:xZ 0 s=xZ 0 s.dropLast*10+((s.getLast h1).toNat-48):=by
    conv=>lhs;rw[hs]
    rw[QH];rfl
   have hp:1≤xZ 0 s.dropLast:=by
    by_cases h10:s.dropLast.length=1
    ·obtain⟨a,ha⟩:=len1 h10;have ha1:dF a=true:=h2 a ((List.dropLast_sublist s).subset (by rw[ha];simp));have ha2:=r_ ha1;rw[←hhd,ha]at hz;simp only[List.head?_cons,Option.map_some,atD,asB]at hz;rw[ha];simp only[oV,BO];omega
    ·have:=i2 (by omega);omega
   have hlt:=adB s 0 h2
   have h20:xZ 0 s<100000000000000000000:=by
    have:(10:Nat) ^ s.length≤10 ^ 19:=aty (by omega) h19;have e19:(10:Nat) ^ 19=10000000000000000000:=by decide
    omega
   refine⟨?_,fun _=>by omega,fun h=>absurd h hl⟩;rw[OP (by omega) h20];have e1:xZ 0 s/10=xZ 0 s.dropLast:=by omega
   have e2:xZ 0 s%10=(s.getLast h1).toNat-48:=by omega
   rw[e1,e2,i1,←am6 hd];exact hs.symm
theorem Yy:∀(s:Str) (acc:Nat),(∀c∈s,dF c=true)→xZ acc s<18446744073709551616→Kg acc s=(0,xZ acc s)
 | [],acc,_,_=>rfl
 | c::s,acc,h,hb=>by
  have hc:=r_ (h c (by simp));have hg:=adC s (acc*10+(c.toNat-48));rw[oV]at hb⊢;rw[Kg,arK hc,arF (by omega),arF (by omega)];exact Yy s _ (fun x hx=>h x (by simp[hx])) hb
theorem U0{u:Nat}(h:u<9223372036854775808):vR (uo 20 u)=(0,(u:Int)):=by
 obtain⟨⟨h1,h2,h3⟩,h4,h5⟩:=xG u u (asx _) (by omega);cases hd:uo 20 u with
 | nil=>exact absurd hd h1
 | cons c r=>
  rw[hd]at h2 h4;have hc:=r_ (h2 c (by simp));unfold vR;have e1:¬(c.toNat=43∨c.toNat=45):=by omega
  have hm:=Yy (c::r) 0 h2 (by omega);rw[h4]at hm;have e45:¬c.toNat=45:=by omega
  have e43:¬c.toNat=43:=by omega
  simp only[e43,e45,or_self,arN,hm,reduceCtorEq];simp;omega
theorem ajx{u:Nat}(h:u<9223372036854775808):vR (45::uo 20 u)=(0,-(u:Int)):=by
 obtain⟨⟨h1,h2,h3⟩,h4,h5⟩:=xG u u (asx _) (by omega);unfold vR;have e45:(45:UInt8).toNat=45:=rfl;have hm:=Yy (uo 20 u) 0 h2 (by omega);rw[h4]at hm;simp only[e45,or_true,arO];rw[arF h1,hm];simp;omega
theorem afu{s:Str}(hs:s.length≤281474976710656):∃n ok,vL s=some (n,ok)∧(ok=true→s=vF n∧-9007199254740992≤n∧n≤9007199254740992)∧(∀m:Int,s=vF m→-9007199254740992≤m→m≤9007199254740992→ok=true∧n=m):=by
 have hat:∀m:Int,-9007199254740992≤m→m≤9007199254740992→vR (vF m)=(0,m):=by
  intro m h1 h2;unfold vF;split
  ·rw[ajx (by omega)];congr 1;omega
  ·rw[U0 (by omega)];congr 1;omega
 unfold vL strconv_Atoi strconv_Itoa;rw[arK hs,aC];by_cases hz:(vR s).1=0
 ·rw[arK hz];simp only[Option.isSome_none,arG,arN]
  have hr:-9223372036854775808≤(vR s).2∧(vR s).2≤9223372036854775807:=by
   have mg:∀(l:Str) (acc:Nat),acc<18446744073709551616→(Kg acc l).2<18446744073709551616:=by
    intro l
    induction l with
    | nil=>intro acc h;exact h
    | cons c l ih=>
     intro acc h;rw[Kg];split
     ·split
      ·simp
      ·split
       ·simp
       ·exact ih _ (by omega)
     ·simp
   unfold vR;cases s with
   | nil=>simp
   | cons c r=>
    simp only
    repeat' split
    all_goals simp_all
    all_goals omega
  rw[arK hr,aj,aj];by_cases hi:vF (vR s).2=s
  ·by_cases hb:-9007199254740992≤(vR s).2∧(vR s).2≤9007199254740992
   ·rw[arF (by simp[hi];omega)];exact⟨_,_,rfl,fun _=>⟨hi.symm,hb⟩,fun m h1 h2 h3=>⟨rfl,by rw[h1,hat m h2 h3]⟩⟩
   ·rw[arK (by simp[hi];omega)];exact⟨_,_,rfl,(fun h=>by cases h),fun m h1 h2 h3=>absurd (by rw[h1,hat m h2 h3];exact⟨h2,h3⟩) hb⟩
  ·rw[arK (by simp[hi])];exact⟨_,_,rfl,(fun h=>by cases h),fun m h1 h2 h3=>absurd (by rw[h1,hat m h2 h3]) hi⟩
 ·rw[arF hz];simp only[Option.isSome_some,arO,aj,at0];exact⟨_,_,rfl,(fun h=>by cases h),fun m h1 h2 h3=>absurd (by rw[h1,hat m h2 h3]) hz⟩
theorem afk{s:Str}(hs:s.length≤16):∀(t:Str) (i acc:Nat),t=s.drop i→acc<10 ^ i→
  ∃n ok,dD (fun(i:Nat) c (n1:Int) r=>au (qx c) fun x3=>if !x3 then some ((0:Int),false)else au (idx s (i:Int)) fun x4=>r (bF ((bF ((bF (10*n1))+(x4.toNat:Int)))-48))) (fun n1=>some (n1,(decide (n1≤9007199254740992)))) i t (acc:Int)=some (n,ok)∧
   (ok=true↔(∀c∈t,dF c=true)∧xZ acc t≤9007199254740992)∧(ok=true→n=xZ acc t):=by
 intro t
 induction t with
 | nil=>
  intro i acc ht ha;refine⟨_,_,rfl,?_,fun _=>rfl⟩;simp[BO];omega
 | cons c t ih=>
  intro i acc ht ha;obtain⟨hi,e1,e2⟩:=xU ht;rw[dD,alf,aj,mF hi,←e1];simp only[aj];cases hd:dF c with
  | false=>
   refine⟨0,false,rfl,?_,fun h=>by cases h⟩;simp[hd]
  | true=>
   have hc:=r_ hd;have h16:(10:Nat) ^ i≤10 ^ 15:=aty (by omega) (by omega);have e15:(10:Nat) ^ 15=1000000000000000:=by decide
   simp only[asC,arG,arN]
   have ew:bF ((bF ((bF (10*(acc:Int)))+(c.toNat:Int)))-48)=((acc*10+(c.toNat-48):Nat):Int):=by
    rw[zq (n:=10*(acc:Int)) (by omega),zq (n:=10*(acc:Int)+(c.toNat:Int)) (by omega),zq (by omega)];omega
   rw[ew];obtain⟨n,ok,q1,q2,q3⟩:=ih (i+1) (acc*10+(c.toNat-48)) e2 (by rw[atx];omega);refine⟨n,ok,q1,?_,q3⟩;rw[q2,oV];simp[hd]
theorem RZ(s:Str):∃n ok,Bz s=some (n,ok)∧(ok=true→∃u:Nat,n=u∧s=uo 20 u∧u≤9007199254740992)∧∀u:Nat,s=uo 20 u→u≤9007199254740992→ok=true∧n=u:=by
 unfold Bz;by_cases h0:s=[]∨16<s.length
 ·have e:((s==([]:Str))||(decide (16<(s.length:Int))))=true:=by
   rcases h0 with h|h
   ·simp[h]
   ·simp;right;omega
  rw[arK e];simp only[aj,arO];refine⟨0,false,rfl,(fun h=>by cases h),fun u h1 h2=>?_⟩;obtain⟨⟨q1,_,_⟩,_,_⟩:=xG u u (asx _) (by omega);have hl:=KC 16 u (by have:(10:Nat) ^ 16=10000000000000000:=(by decide);omega) (by omega);rw[Qc 16 20 u (by have:(10:Nat) ^ 16=10000000000000000:=(by decide);omega) (by have:(10:Nat) ^ 20=100000000000000000000:=(by decide);omega) (by omega) (by omega),←h1]at hl;rcases h0 with h|h
  ·rw[h1]at h;exact absurd h q1
  ·omega
 ·have hne:s≠[]:=fun h=>h0 (.inl h);have hlen:s.length≤16:=by omega
  have hpos:=as_.2 hne;have e:((s==([]:Str))||(decide (16<(s.length:Int))))=false:=by simp[hne];omega
  rw[arF (by rw[e];simp)];obtain⟨n,ok,q1,q2,q3⟩:=afk hlen s 0 0 rfl (by simp)
  have hF:AQ s BIG 0 0=some (n,ok):=by
   rw[dI (F:=fun k n1 i=>AQ s k n1 i) (l:=s) (body:=fun(i:Nat) c (n1:Int) r=>au (qx c) fun x3=>if !x3 then some ((0:Int),false)else au (idx s (i:Int)) fun x4=>r (bF ((bF ((bF (10*n1))+(x4.toNat:Int)))-48))) (fin:=fun n1=>some (n1,(decide (n1≤9007199254740992)))) (by omega) (fun k s i=>rfl) 0];exact q1
  have zero:∀(c:UInt8) (r:Str),s=c::r→idx s 0=some c:=fun c r h=>by rw[h];rfl
  obtain⟨c,r,hcr⟩:∃c r,s=c::r:=by
   cases s with
   | nil=>exact absurd rfl hne
   | cons c r=>exact⟨c,r,rfl⟩
  have hb1:(if decide (1<(s.length:Int))=true then au (idx s 0) fun x1=>some ((x1.toNat:Int)==48)else some false)=some ((decide (1<s.length))&&((c.toNat:Int)==48)):=by
   rw[zero c r hcr];by_cases h1:1<s.length
   ·rw[arK (by simp;omega),aj];simp[h1]
   ·rw[arF (by simp;omega)];simp[h1]
  rw[hb1,aj];by_cases hz:1<s.length∧c.toNat=48
  ·rw[arK (by simp[hz.1];omega)];refine⟨0,false,rfl,(fun h=>by cases h),fun u h1 h2=>?_⟩;obtain⟨⟨_,_,q⟩,_,_⟩:=xG u u (asx _) (by omega);rw[←h1]at q;have:=q hz.1;rw[hcr]at this;simp[hz.2]at this
  ·rw[arF (by simp;intro h;omega),hF];refine⟨n,ok,rfl,fun h=>?_,fun u h1 h2=>?_⟩
   ·obtain⟨d1,d2⟩:=q2.1 h;have hcan:agl s:=⟨hne,d1,fun h1=>by rw[hcr];simp;omega⟩;exact⟨xZ 0 s,q3 h,(UL _ s (asx _) hcan (by omega)).1.symm,d2⟩
   ·obtain⟨⟨_,q5,_⟩,q4,_⟩:=xG u u (asx _) (by omega);rw[←h1]at q5 q4;have hok:ok=true:=q2.2 ⟨q5,by omega⟩;exact⟨hok,by rw[q3 hok,q4]⟩
theorem number_eq{s:Str}(hs:s.length≤281474976710656):∃n ok n',vL s=some (n,ok)∧H_ s=some (n',ok)∧(ok=true→n=n'∧-9007199254740992≤n∧n≤9007199254740992):=by
 obtain⟨n,ok,p1,p2,p3⟩:=afu hs;unfold H_
 have fin:∀(n':Int) (ok':Bool),(ok'=true→s=vF n'∧-9007199254740992≤n'∧n'≤9007199254740992)→(∀m:Int,s=vF m→-9007199254740992≤m→m≤9007199254740992→ok'=true)→ok'=ok∧(ok=true→n=n'∧-9007199254740992≤n∧n≤9007199254740992):=by
  intro n' ok' a1 a2
  have e:ok'=ok:=by
   cases ok with
   | true=>obtain⟨b1,b2,b3⟩:=p2 rfl;exact a2 n b1 b2 b3
   | false=>
    cases ok' with
    | false=>rfl
    | true=>obtain⟨b1,b2,b3⟩:=a1 rfl;have:=(p3 n' b1 b2 b3).1;cases this
  refine⟨e,fun h=>?_⟩;subst e;obtain⟨b1,b2,b3⟩:=a1 h;have:=(p3 n' b1 b2 b3).2;exact⟨this,by omega,by omega⟩
 cases hc:s with
 | nil=>
  simp only[atd,asC,arG,arN,aj];obtain⟨n',ok',r1,r2,r3⟩:=RZ [];rw[hc]at p1
  obtain⟨f1,f2⟩:=fin n' ok' (fun h=>by
   obtain⟨u,u1,u2,u3⟩:=r2 h;rw[hc,u1];refine⟨?_,by omega,by omega⟩
   unfold vF;rw[arF (by omega)];simpa using u2) (fun m h1 h2 h3=>by
   rw[hc]at h1;unfold vF at h1;split at h1
   ·cases h1
   ·exact(r3 _ h1 (by omega)).1)
  exact⟨n,ok,n',p1,by rw[r1,f1],f2⟩
 | cons c r=>
  rw[hc]at p1;have e0:(!((c::r:Str)==([]:Str)))=true:=rfl;have i0:idx (c::r) 0=some c:=rfl;simp only[e0,arO,i0,aj]
  have dn:∀u:Nat,u<100000000000000000000→∀(x:UInt8) (l:Str),uo 20 u=x::l→x.toNat≠45:=by
   intro u hu x l h;obtain⟨⟨_,q,_⟩,_,_⟩:=xG u u (asx _) hu;rw[h]at q;have:=r_ (q x (by simp));omega
  by_cases h45:(c.toNat:Int)=45
  ·rw[arK (by simpa using h45)]
   have hsl:sl (c::r) 1 (((c::r:Str).length:Nat):Int)=some r:=by
    have:=sZ (s:=c::r) (i:=1) (by simp);simpa using this
   rw[hsl,aj];obtain⟨n',ok',r1,r2,r3⟩:=RZ r;rw[r1,aC];have asz:c=45:=as0.1 (by have:(45:UInt8).toNat=45:=rfl;omega)
   obtain⟨f1,f2⟩:=fin (bF (0-n')) (ok'&&(n' !=0)) (fun h=>by
    simp only[arV,asL]at h;obtain⟨u,u1,u2,u3⟩:=r2 h.1;rw[zq (by omega),u1];refine⟨?_,by omega,by omega⟩;unfold vF;rw[arK (by omega),hc,asz];congr 1
    rw[u2];congr 1;omega) (fun m h1 h2 h3=>by
    rw[hc]at h1;unfold vF at h1;split at h1
    ·rename_i hm;simp only[as8]at h1;obtain⟨o1,o2⟩:=r3 _ h1.2 (by omega);rw[o1,o2];simp;omega
    ·exact absurd (by omega) (dn _ (by omega) c r h1.symm))
   exact⟨n,ok,_,p1,by rw[f1],f2⟩
  ·rw[arF (by simpa using h45)];obtain⟨n',ok',r1,r2,r3⟩:=RZ (c::r)
   obtain⟨f1,f2⟩:=fin n' ok' (fun h=>by
    obtain⟨u,u1,u2,u3⟩:=r2 h;rw[hc,u1];refine⟨?_,by omega,by omega⟩
    unfold vF;rw[arF (by omega)];simpa using u2) (fun m h1 h2 h3=>by
    rw[hc]at h1;unfold vF at h1;split at h1
    ·simp only[as8]at h1;exact absurd (by rw[h1.1];rfl) h45
    ·exact(r3 _ h1 (by omega)).1)
   exact⟨n,ok,n',p1,by rw[r1,f1],f2⟩
end Go.Ft
namespace Go.Ft
open Go
attribute [local congr] eO
def Qo(l:List aF):ah:=ah.mk 5 false 0 ([]:Str) (l.map (·.value)) (l.map (·.name))
def aoR(l:List aF):Prop:=l.Pairwise fun x y=>gF x.name y.name<0
def kC(l:List aF):List aF:=l.mergeSort fun x y=>!decide (gF y.name x.name<0)
theorem vX(l:List aF):(kC l).Perm l:=List.mergeSort_perm _ _
theorem Zx{l:List aF}(h:(l.map (·.name)).Nodup):aoR (kC l):=by
 have hs:(kC l).Pairwise fun x y=>¬gF y.name x.name<0:=by
  have:=List.pairwise_mergeSort (le:=fun x y:aF=>!decide (gF y.name x.name<0)) (fun a b c h1 h2=>by
   simp only[as3,asI]at *
   exact Gi h2 h1) (fun a b=>by
   simp only[asq,as3,asI]
   rw[yA];omega) l
  refine this.imp fun {a b} h=>?_;simpa using h
 have hn:((kC l).map (·.name)).Nodup:=((vX l).map _).nodup_iff.2 h;rw[List.Nodup,List.pairwise_map]at hn;refine(hs.and hn).imp fun {a b} h=>?_;have h0:gF a.name b.name≠0:=fun e=>h.2 (Ch e);have:=h.1;rw[yA]at this;omega
structure Ent(vars:List aF):Prop where
 len:vars.length≤1024
 key:∀x∈vars,vE x.name=true
 val:∀x∈vars,VV x.value∧x.value.bulk<1152921504606846976
 nodup:(vars.map (·.name)).Nodup
theorem GN{s:Str}(h:vE s=true):1≤s.length∧s.length≤64:=by
 unfold vE at h;simpa using h
def aat(vars:List aF):ah × Int:=if ∃x∈vars,Al x.value=16 then (ZV,13)else (Qo (kC vars),0)
theorem aga{l:List aF}{q:aF}(hl:l.length<4611686018427387904)(h:∀y∈l,y.name≠q.name):fB l (fun z0=>lG z0 q)=some false:=by
 unfold fB iY;rw[dI (F:=fun k (_:Unit) i=>gq l (fun z0=>lG z0 q) k i) (l:=l) (body:=fun(i:Nat) e1 (_:Unit) r=>au (lG e1 q) fun x1=>if x1 then some (i:Int)else r ()) (fin:=fun _=>some (-1)) hl (fun k s i=>rfl) ()]
 have key:∀(t:List aF) (i:Nat),(∀y∈t,y.name≠q.name)→dD (fun(i:Nat) e1 (_:Unit) r=>au (lG e1 q) fun x1=>if x1 then some (i:Int)else r ()) (fun _=>some (-1)) i t ()=some (-1):=by
  intro t
  induction t with
  | nil=>intro i _;rfl
  | cons d t ih=>
   intro i ht;rw[dD,lG,aj,arF (by simpa using ht d (by simp))];exact ih (i+1) fun y hy=>ht y (by simp[hy])
 rw[key l 0 h];rfl
theorem entry_eq{vars:List aF}(H:Ent vars){i:Nat}(hi:i<vars.length):BM vars (i:Int)=some (if Al vars[i].value=16 then 13 else 0):=by
 have hlen:=H.len;have hm:vars[i]∈vars:=asv hi;have hkl:=GN (H.key _ hm);obtain⟨hv,hb⟩:=H.val _ hm;unfold BM;rw[mF hi,aj,arF (by simp;omega),D9 (by omega),(KU _).2 hv,aj,arF (by simp),abO (by omega) hv.1,aj];have:=hv.2;by_cases h16:Al vars[i].value=16
 ·rw[arK (by simp[h16]),arK h16]
 ·have hsl:sl vars 0 (i:Int)=some (vars.take i):=by rw[bI (by omega) (by omega) (by omega)];simp
  rw[arF (by simp;omega),arF h16,hsl,aj,aga (by simp;omega),aj]
  ·rfl
  ·intro y hy he;obtain⟨j,hj,e⟩:=List.mem_iff_getElem.1 hy;simp only[List.length_take]at hj;have hn:=H.nodup;rw[List.Nodup,List.pairwise_iff_getElem]at hn;have:=hn j i (by simp;omega) (by simpa using hi) (by omega);apply this;simp only[List.getElem_map];rw[←he,←e];simp
theorem TT:∀(l:List aF) (i:Nat) (o:List aF),(∀x∈l,nk x.value=some x.value)→o.length+l.length≤wX→
  dD (fun _ e2 (bP:ah) r=>au (app bP.keys ([e2.name]:List Str)) fun x2=>au (nk e2.value) fun x3=>au (app bP.aO [x3]) fun x4=>r (ah.mk bP.kind bP.dZ bP.eB bP.bV x4 x2)) (fun bP=>some (bP,(0:Int))) i l (Qo o)=some (Qo (o++l),0)
 | [],i,o,_,_=>by simp[dD]
 | x::l,i,o,hb,hl=>by
  simp only[ase]at hl;have ok1:(Qo o).keys=o.map (·.name):=rfl;have ol1:(Qo o).aO=o.map (·.value):=rfl;rw[dD,ok1,ol1,wO (by simp;omega),aj,hb x (by simp),aj,wO (by simp;omega),aj];have e1:(ah.mk (Qo o).kind (Qo o).dZ (Qo o).eB (Qo o).bV (o.map (·.value)++[x.value]) (o.map (·.name)++[x.name]))=Qo (o++[x]):=by simp[Qo]
  rw[e1];refine(TT l (i+1) (o++[x]) (fun y hy=>hb y (by simp[hy])) (by simp;omega)).trans ?_;simp
theorem akD{vars:List aF}(H:Ent vars):D_ vars=some (aat vars):=by
 have hL:wX=4294967296:=rfl;have hlen:=H.len;unfold D_ aat;rw[arF (by simp;omega)]
 have fin:(au (fK vars) fun RU=>au (WM (fun x=>x.name) RU) fun uG=>wh uG BIG 0 (ah.mk 5 false 0 ([]:Str) [] []))=some (Qo (kC vars),0):=by
  have hs:WM (fun x:aF=>x.name) vars=some (kC vars):=by
   unfold WM;rw[arK ⟨by omega,fun x hx=>by have:=GN (H.key x hx);show x.name.length<_;omega,H.nodup⟩];rfl
  rw[fK,wO (by simp;omega),List.nil_append,aj,hs,aj];have hsl:(kC vars).length=vars.length:=(vX vars).length_eq;rw[dI (F:=fun k s i=>wh (kC vars) k i s) (l:=kC vars) (body:=fun _ e2 (bP:ah) r=>au (app bP.keys ([e2.name]:List Str)) fun x2=>au (nk e2.value) fun x3=>au (app bP.aO [x3]) fun x4=>r (ah.mk bP.kind bP.dZ bP.eB bP.bV x4 x2)) (fin:=fun bP=>some (bP,(0:Int))) (by omega) (fun k s i=>rfl)];exact TT (kC vars) 0 [] (fun x hx=>by obtain⟨q1,q2⟩:=H.val x ((vX vars).mem_iff.1 hx);exact(Pd q1.1 (by omega)).1) (by simp;omega)
 have key:∀(k i:Nat),vars.length<k+i→i≤vars.length→wm vars k (i:Int)=some (if ∃x∈vars.drop i,Al x.value=16 then (ZV,13)else (Qo (kC vars),0)):=by
  intro k
  induction k with
  | zero=>intro i h h';omega
  | succ k ih=>
   intro i h h';rw[wm];by_cases hi:i<vars.length
   ·rw[arK (by simp;omega),entry_eq H hi,aj,ar0 hi];by_cases h16:Al vars[i].value=16
    ·rw[arK h16,arK (by simp),arK ⟨vars[i],List.mem_cons_self,h16⟩];rfl
    ·rw[arF h16,arF (by simp),mD (by omega),ih (i+1) (by omega) (by omega)];congr 1;refine eO (propext ⟨fun⟨x,hx,hq⟩=>⟨x,List.mem_cons_of_mem _ hx,hq⟩,fun⟨x,hx,hq⟩=>?_⟩);rcases asG.1 hx with rfl|hx
     ·exact absurd hq h16
     ·exact⟨x,hx,hq⟩
   ·have hie:i=vars.length:=by omega
    rw[arF (by simp;omega),fin,arF (by rw[hie];simp)]
 exact key BIG 0 (by have:=gX;omega) (by omega)
theorem aeM:∀(l:List aF) (p:Option Str),(∀x∈l,vE x.name=true)→aoR l→(∀q,p=some q→q.length<4611686018427387904∧∀x∈l,gF q x.name<0)→KJ p (l.map (·.name))=true
 | [],p,_,_,_=>by simp[KJ]
 | x::l,p,hk,ha,hp=>by
  unfold aoR at ha;rw[List.pairwise_cons]at ha;have hx:=GN (hk x (by simp));rw[asy,KJ.eq_def];simp only;rw[hk x (by simp),aeM l (some x.name) (fun y hy=>hk y (by simp[hy])) ha.2 (fun q hq=>by cases hq;exact⟨by omega,ha.1⟩)];cases p with
  | none=>rfl
  | some q=>
   obtain⟨h1,h2⟩:=hp q rfl;have hn:VD q x.name=gF q x.name:=by unfold VD;rw[TP h1 (by omega)];rfl
   simp[hn,h2 x (by simp)]
theorem alD{vars:List aF}(H:Ent vars)(h:¬ ∃x∈vars,Al x.value=16):VV (Qo (kC vars)):=by
 have hp:=vX vars;have hlen:=H.len;have hl:=hp.length_eq;have hkeys:KJ none ((kC vars).map (·.name))=true:=aeM _ none (fun x hx=>H.key x (hp.mem_iff.1 hx)) (Zx H.nodup) (fun q hq=>by cases hq);constructor
 ·refine(wS _).2 ⟨?_,fun x hx=>?_⟩
  ·unfold nG;rw[arF (by omega)];have e1:(Qo (kC vars)).kind=5:=rfl;have e2:(Qo (kC vars)).keys=(kC vars).map (·.name):=rfl;have e3:(Qo (kC vars)).aO=(kC vars).map (·.value):=rfl;have e4:(Qo (kC vars)).eB=0:=rfl;have e5:(Qo (kC vars)).bV=[]:=rfl;have e6:rJ (Qo (kC vars))=true:=by simp[rJ,Qo]
   rw[e1,e2,e3,e4,e5,e6,hkeys];simp[hl];omega
  ·obtain⟨y,hy,rfl⟩:=atn.1 hx;exact(H.val y (hp.mem_iff.1 hy)).1.1
 ·rw[yC,arK (by rfl),Dx];refine⟨by omega,fun x hx=>?_⟩;obtain⟨y,hy,rfl⟩:=atn.1 hx;have hy':=hp.mem_iff.1 hy;have:=(H.val y hy').1.2;have:Al y.value≠16:=fun e=>h ⟨y,hy',e⟩;omega
end Go.Ft
namespace Go.Ft
open Go
attribute [local congr] eO
def Br{α:Type}(p:α × Int):fG aG α:=if p.2=0 then .ok p.1 else .bad ⟨p.2⟩
def okV(v:ah):ah × Int:=(v,0)
def ze(c:Int):ah × Int:=(ZV,c)
@[simp] theorem arL(v:ah):Br (okV v)=.ok v:=rfl
theorem rQ{c:Int}(h:c≠0):Br (ze c)=.bad ⟨c⟩:=arF h
theorem jZ(b:Bool)(c:Int):dV b c=some (if b then .ok ()else .bad ⟨c⟩):=by
 unfold dV Bb;cases b<;>rfl
theorem PS(c:Int):dV true c=some (.ok ()):=jZ true c
theorem PU(c:Int):dV false c=some (.bad ⟨c⟩):=jZ false c
def GV(p:ah × Int)(N:Nat):Prop:=(p.2=0→VV p.1∧p.1.bulk≤N)∧(p.2≠0→p.1=ZV)
theorem GV.er{c:Int}{N:Nat}(h:c≠0):GV (ze c) N:=⟨fun h'=>absurd h' h,fun _=>rfl⟩
theorem GV.ok{v:ah}{N:Nat}(h:VV v)(hb:v.bulk≤N):GV (okV v) N:=⟨fun _=>⟨h,hb⟩,fun h=>absurd rfl h⟩
theorem GV.mono{p:ah × Int}{N M:Nat}(h:GV p N)(hm:N≤M):GV p M:=⟨fun h0=>⟨(h.1 h0).1,by have:=(h.1 h0).2;omega⟩,h.2⟩
theorem acz{v:ah}(h:nG v 1=0)(hl:v.aO=[])(hk:((v.kind==4)||(v.kind==5))=false):VV v:=by
 refine⟨(wS v).2 ⟨h,by simp[hl]⟩,?_⟩;rw[yC,hk];simp
theorem Iq(b:Bool):VV (Zf b):=acz (by unfold nG Zf rJ;simp) rfl rfl
theorem TS{n:Int}(h:-9007199254740992≤n∧n≤9007199254740992):VV (mkI n):=acz (by unfold nG mkI rJ;simp;omega) rfl rfl
theorem PX{s:Str}(h:s.length≤4096):VV (mkS s):=acz (by unfold nG mkS rJ;simp;omega) rfl rfl
theorem vP(v:ah):v.bulk=1+1+1+(v.bV.length+1)+(ah.kZ v.aO+1)+((v.keys.map fun z:Str=>z.length+1).sum+1)+1:=by
 rw[ah.nN]
theorem zN(b:Bool):(Zf b).bulk=7:=by rw[vP];simp[Zf,ah.kZ]
theorem Ke(n:Int):(mkI n).bulk=7:=by rw[vP];simp[mkI,ah.kZ]
theorem Ci(s:Str):(mkS s).bulk=s.length+7:=by rw[vP];simp[mkS,ah.kZ];omega
theorem Kc(l:List ah):(Jo l).bulk=(l.map ah.bulk).sum+7:=by rw[vP];simp[Jo,ah.pX];omega
theorem Yx{l:List ah}(h:l.length≤1024)(hv:∀x∈l,VV x):Zu (Jo l)=true∧(VV (Jo l)↔∀x∈l,Al x<16):=by
 have h0:Zu (Jo l)=true:=(wS _).2 ⟨by unfold nG Jo rJ;simp;omega,fun x hx=>(hv x hx).1⟩;refine⟨h0,?_⟩;have e:Al (Jo l)=Fq l 2:=by rw[yC];rfl
 constructor
 ·intro h x hx;have:=h.2;rw[e,Dx]at this;have:=this.2 x hx;omega
 ·intro h;refine⟨h0,?_⟩;rw[e,Dx];exact⟨by omega,fun x hx=>by have:=h x hx;omega⟩
theorem WC{α:Type}{f:α→Nat}{l:List α}{c:Nat}(h:∀x∈l,f x≤c):(l.map f).sum≤l.length*c:=by
 induction l with
 | nil=>simp
 | cons x l ih=>
  have:=h x (by simp);have:=ih fun y hy=>h y (by simp[hy]);rw[asy,as9,ase,auf];omega
theorem ZM{l:List Str}(h:l.length≤1024)(hs:∀s∈l,s.length≤4096):VV (Jo (l.map mkS))∧(Jo (l.map mkS)).bulk≤1024*4103+7:=by
 constructor
 ·refine(Yx (by simpa using h) fun x hx=>?_).2.2 fun x hx=>?_
  ·obtain⟨s,hm,rfl⟩:=atn.1 hx;exact PX (hs s hm)
  ·obtain⟨s,hm,rfl⟩:=atn.1 hx;rw[yC];simp[mkS]
 ·rw[Kc,atg]
  have:=WC (f:=ah.bulk ∘ mkS) (l:=l) (c:=4103) fun s hm=>by
   have:=hs s hm;simp only[aua,Ci];omega
  have:l.length*4103≤1024*4103:=asV _ h;omega
def okO(x:Option ah)(c:Int):ah × Int:=match x with|some v=>okV v|none=>ze c
def Ry(a b:ah):ah × Int:=
 if a.kind=4∧b.kind=2 then (if 0≤b.eB∧b.eB<a.aO.length then okO a.aO[b.eB.toNat]? 8 else ze 8)
 else if a.kind=5∧b.kind=3 then okO (Uo a b.bV) 8 else ze 9
theorem Uv{a b:ah}(ha:VV a)(hb:a.bulk<4611686018427387904)(h:¬(a.kind=4∧b.kind=2)):yF a b=some (Br (Ry a b)):=by
 unfold yF iU Ry;rw[arF h];simp only[aj];rw[xP,aj];by_cases h5:a.kind=5∧b.kind=3
 ·rw[arK h5];have e:((a.kind==5)&&(b.kind==3))=true:=by simp[h5.1,h5.2]
  rw[e,PS,jJ,adD ha.1 hb,fD];cases Uo a b.bV with
  | none=>simp only[afx];rw[PU];rfl
  | some v=>simp only[afx];rw[PS];rfl
 ·rw[arF h5]
  have e:((a.kind==5)&&(b.kind==3))=false:=by
   rw[atm,asr,asr];omega
  rw[e,PU];rfl
theorem YT{a b:ah}(ha:VV a)(hb:a.bulk<4611686018427387904):wI a b=some (Br (Ry a b)):=by
 by_cases h:a.kind=4∧b.kind=2
 ·unfold wI iU Ry;rw[arK h];simp only[aj];rw[xP,aj];have e:((a.kind==4)&&(b.kind==2))=true:=by simp[h.1,h.2]
  rw[arK e];by_cases hi:0≤b.eB∧b.eB<a.aO.length
  ·have e2:((decide (0≤b.eB))&&(decide (b.eB<(a.aO.length:Int))))=true:=by simp[hi.1,hi.2]
   rw[e2,PS,jJ,arK hi,aiJ hi.1 hi.2,aj,asb (by omega)];rfl
  ·have e2:((decide (0≤b.eB))&&(decide (b.eB<(a.aO.length:Int))))=false:=by
    rw[atm,asI,asI];omega
   rw[e2,PU,arF hi];rfl
 ·have he:=Uv ha hb h;unfold wI iU;simp only[aj];rw[xP,aj,arF (by simp only[arV,ar4];exact h),he];generalize Ry a b=p;unfold Br;split<;>rfl
theorem adZ{a:ah}(ha:VV a){x:Option ah}(h:∀v,x=some v→v∈a.aO){c:Int}(hc:c≠0):GV (okO x c) a.bulk:=by
 cases x with
 | none=>exact GV.er hc
 | some v=>
  have hm:=h v rfl;exact GV.ok (ha.mem hm) (by have:=h_ hm;omega)
theorem aeb{a b:ah}(ha:VV a):GV (Ry a b) a.bulk:=by
 unfold Ry;by_cases h1:a.kind=4∧b.kind=2
 ·rw[arK h1];by_cases h2:0≤b.eB∧b.eB<a.aO.length
  ·rw[arK h2];exact adZ (c:=8) ha (fun v h=>List.mem_of_getElem? h) (by decide)
  ·rw[arF h2];exact GV.er (by decide)
 ·rw[arF h1];by_cases h2:a.kind=5∧b.kind=3
  ·rw[arK h2];refine adZ (c:=8) ha (fun v h=>?_) (by decide);unfold Uo at h;rw[arK h2.1]at h;exact Uq h
  ·rw[arF h2];exact GV.er (by decide)
def unS(op:Str)(a:ah):ah × Int:=
 if op=[33]then (if a.kind=1 then okV (Zf (!a.dZ))else ze 9)else if a.kind=2 then okV (mkI (0-a.eB))else ze 9
theorem SF(v:ah):vK v=some (if v.kind=1 then .ok v.dZ else .bad ⟨9⟩):=by
 unfold vK iU;rw[aj,jZ];by_cases h:v.kind=1
 ·simp[h]
 ·simp[h]
theorem abR{op:Str}{a:ah}(ha:VV a):EX op a=some (Br (unS op a)):=by
 have hl:=mJ ha.1;unfold EX unS;by_cases h:op=[33]
 ·rw[arK h,arK (by simp[h]),SF];by_cases hk:a.kind=1
  ·rw[arK hk,arK hk];rfl
  ·rw[arF hk,arF hk];rfl
 ·rw[arF h,arF (by simpa using h),iU,aj,jZ];by_cases hk:a.kind=2
  ·rw[arK hk,arK (by simp[hk]),jJ,zq (by omega)];rfl
  ·rw[arF hk,arF (by simp[hk])];rfl
theorem anO{op:Str}{a:ah}(ha:VV a):GV (unS op a) 7:=by
 have hl:=mJ ha.1;unfold unS;split
 ·split
  ·exact GV.ok (Iq _) (by rw[zN];omega)
  ·exact GV.er (by decide)
 ·split
  ·exact GV.ok (TS (by omega)) (by rw[Ke];omega)
  ·exact GV.er (by decide)
def afm(v:ah):ah × Int:=
 if v.eB < -9007199254740992∨9007199254740992<v.eB then ze 11 else if 4096<v.bV.length∨1024<v.aO.length then ze 3 else if 16<Al v then ze 13 else okV v
theorem WX{v:ah}(hb:v.bulk<4611686018427387904):AB v=some (afm v):=by
 unfold AB afm;by_cases h1:v.eB < -9007199254740992∨9007199254740992<v.eB
 ·rw[arK h1,arK (by simpa using h1)];rfl
 ·rw[arF h1,arF (by simpa using h1)];by_cases h2:4096<v.bV.length∨1024<v.aO.length
  ·rw[arK h2,arK (by simp;omega)];rfl
  ·rw[arF h2,arF (by simp;omega),ab7 hb,aj];by_cases h3:16<Al v
   ·rw[arK h3,arK (by simp;omega)];rfl
   ·rw[arF h3,arF (by simp;omega)];rfl
def Oq(n:Int):ah × Int:=if -9007199254740992≤n∧n≤9007199254740992 then okV (mkI n)else ze 11
theorem KW(n:Int):sU n=some (Br (Oq n)):=by
 unfold sU Oq;rw[jZ];by_cases h:-9007199254740992≤n∧n≤9007199254740992
 ·rw[arK h,arK (by simp[h.1,h.2])];rfl
 ·rw[arF h,arF (by simp only[arV,arP];exact h)];rfl
theorem R7(n:Int):GV (Oq n) 7:=by
 unfold Oq;split
 ·rename_i h;exact GV.ok (TS h) (by rw[Ke];omega)
 ·exact GV.er (by decide)
def apG(n:Int):Int:=if n < -9223372036854775808 then -9223372036854775808 else if 9223372036854775807<n then 9223372036854775807 else n
def ais(a b:Int):Int:=apG (a*b)
theorem words(p00 VA p01 p11:Nat):(p11+(VA+p00/4294967296)/4294967296+(p01+(VA+p00/4294967296)%4294967296)/4294967296)*18446744073709551616 +
  ((p01+(VA+p00/4294967296)%4294967296)%4294967296*4294967296+p00%4294967296)=p11*18446744073709551616+(VA+p01)*4294967296+p00:=by omega
theorem split_mul(x y:Nat):x*y=(x/4294967296)*(y/4294967296)*18446744073709551616+((x/4294967296)*(y%4294967296)+(x%4294967296)*(y/4294967296))*4294967296+(x%4294967296)*(y%4294967296):=by
 conv=>lhs;rw[←Nat.div_add_mod x 4294967296,←Nat.div_add_mod y 4294967296]
 generalize x/4294967296=xh;generalize x%4294967296=xl;generalize y/4294967296=yh;generalize y%4294967296=yl;simp only[auf,Nat.mul_add]
 have e1:4294967296*xh*(4294967296*yh)=xh*yh*18446744073709551616:=by
  rw[Nat.mul_mul_mul_comm,at7 (4294967296*4294967296)]
 have e2:4294967296*xh*yl=xh*yl*4294967296:=by rw[auk,at7]
 have e3:xl*(4294967296*yh)=xl*yh*4294967296:=by rw[Nat.mul_left_comm,at7]
 rw[e1,e2,e3];omega
end Go.Ft
namespace Go.Ft
open Go
attribute [local congr] eO
theorem acr{a b:Int}(ha:-9007199254740992≤a∧a≤9007199254740992)(hb:-9007199254740992≤b∧b≤9007199254740992){hi lo:Nat}(hlo:lo<18446744073709551616)(h:hi*18446744073709551616+lo=a.natAbs*b.natAbs){neg:Bool}(hn:neg=(!((decide (a<0))==(decide (b<0)))&&!(decide (hi=0∧lo=0)))):
  ais a b=if hi≠0 then (if neg then -9223372036854775808 else 9223372036854775807)else if neg then (if lo≤9223372036854775808 then -(lo:Int)else -9223372036854775808)else if lo≤9223372036854775807 then (lo:Int)else 9223372036854775807:=by
 have hm:a*b=if neg then -((a.natAbs*b.natAbs:Nat):Int)else ((a.natAbs*b.natAbs:Nat):Int):=by
  rw[←h];have e:((a.natAbs*b.natAbs:Nat):Int)=((hi*18446744073709551616+lo:Nat):Int):=by rw[h]
  rw[Int.natCast_mul]at e;by_cases h1:a<0<;>by_cases h2:b<0
  ·have:a*b=(a.natAbs:Int)*b.natAbs:=by
    rw[show (a.natAbs:Int)=-a from by omega,show (b.natAbs:Int)=-b from by omega,Int.neg_mul_neg]
   rw[this,e,hn];simp[h1,h2]
  ·have:a*b=-((a.natAbs:Int)*b.natAbs):=by
    rw[show (a.natAbs:Int)=-a from by omega,show (b.natAbs:Int)=b from by omega,Int.neg_mul,Int.neg_neg]
   rw[this,e,hn];by_cases h0:hi=0∧lo=0
   ·simp[h0]
   ·rw[arK (by simp[h1,h2,h0])]
  ·have:a*b=-((a.natAbs:Int)*b.natAbs):=by
    rw[show (a.natAbs:Int)=a from by omega,show (b.natAbs:Int)=-b from by omega,Int.mul_neg,Int.neg_neg]
   rw[this,e,hn];by_cases h0:hi=0∧lo=0
   ·simp[h0]
   ·rw[arK (by simp[h1,h2,h0])]
  ·have:a*b=(a.natAbs:Int)*b.natAbs:=by
    rw[show (a.natAbs:Int)=a from by omega,show (b.natAbs:Int)=b from by omega]
   rw[this,e,hn];simp[h1,h2]
 unfold ais apG;rw[hm,←h];cases neg with
 | true=>simp only[arO];(repeat' split)<;>omega
 | false=>simp only[arG,arN];(repeat' split)<;>omega
theorem ajr{a:Int}(h:-9007199254740992≤a∧a≤9007199254740992):(if decide (a<0)=true then some (-(BitVec.ofInt 64 a))else some (BitVec.ofInt 64 a))=some (BitVec.ofNat 64 a.natAbs):=by
 by_cases hn:a<0
 ·rw[arK (by simpa using hn)];congr 1;apply BitVec.eq_of_toInt_eq;rw[BitVec.toInt_neg,BitVec.toInt_ofInt,BitVec.toInt_ofNat'];simp only[Int.bmod];omega
 ·rw[arF (by simpa using hn)];congr 1;apply BitVec.eq_of_toInt_eq;rw[BitVec.toInt_ofInt,BitVec.toInt_ofNat'];simp only[Int.bmod];omega
theorem msk(x:BitVec 64):(x &&& (4294967295:BitVec 64)).toNat=x.toNat%4294967296:=by
 rw[BitVec.toNat_and];exact Nat.and_two_pow_sub_one_eq_mod x.toNat 32
theorem shr(x:BitVec 64):(x >>> 32).toNat=x.toNat/4294967296:=by
 rw[BitVec.toNat_ushiftRight,Nat.shiftRight_eq_div_pow]
theorem alk{x y:BitVec 64}(hx:x.toNat<4294967296)(hy:y.toNat<4294967296):(x*y).toNat=x.toNat*y.toNat∧x.toNat*y.toNat≤18446744065119617025:=by
 have h:x.toNat*y.toNat≤4294967295*4294967295:=Nat.mul_le_mul (by omega) (by omega);rw[BitVec.toNat_mul,atL (by omega)];exact⟨rfl,by omega⟩
theorem alm{x y:BitVec 64}(h:x.toNat+y.toNat<18446744073709551616):(x+y).toNat=x.toNat+y.toNat:=by
 rw[BitVec.toNat_add,atL (by omega)]
theorem por{x y:BitVec 64}(hy:y.toNat<4294967296):((x <<< 32) ||| y).toNat=x.toNat%4294967296*4294967296+y.toNat:=by
 rw[BitVec.toNat_or,BitVec.toNat_shiftLeft,Nat.shiftLeft_eq]
 have e:x.toNat*2 ^ 32%2 ^ 64=(x.toNat%4294967296) <<< 32:=by
  rw[Nat.shiftLeft_eq,show (2:Nat) ^ 64=2 ^ 32*2 ^ 32 from rfl,Nat.mul_mod_mul_right]
 rw[e,←Nat.shiftLeft_add_eq_or_of_lt (by simpa using hy),Nat.shiftLeft_eq]
structure Words(x y hi lo:BitVec 64):Prop where
 eq:hi.toNat*18446744073709551616+lo.toNat=x.toNat*y.toNat
theorem abM(x y:BitVec 64):Words x y (((x >>> 32)*(y >>> 32)+(((x >>> 32)*(y &&& (4294967295:BitVec 64))+(((x &&& (4294967295:BitVec 64))*(y &&& (4294967295:BitVec 64))) >>> 32)) >>> 32))+(((x &&& (4294967295:BitVec 64))*(y >>> 32)+(((x >>> 32)*(y &&& (4294967295:BitVec 64))+(((x &&& (4294967295:BitVec 64))*(y &&& (4294967295:BitVec 64))) >>> 32)) &&& (4294967295:BitVec 64))) >>> 32))
  ((((x &&& (4294967295:BitVec 64))*(y >>> 32)+(((x >>> 32)*(y &&& (4294967295:BitVec 64))+(((x &&& (4294967295:BitVec 64))*(y &&& (4294967295:BitVec 64))) >>> 32)) &&& (4294967295:BitVec 64))) <<< 32) ||| (((x &&& (4294967295:BitVec 64))*(y &&& (4294967295:BitVec 64))) &&& (4294967295:BitVec 64))):=by
 have mx:=msk x;have my:=msk y;have sx:=shr x;have sy:=shr y;have bx:=x.isLt;have Gq:=y.isLt;have lx:(x &&& (4294967295:BitVec 64)).toNat<4294967296:=by rw[mx];omega
 have ly:(y &&& (4294967295:BitVec 64)).toNat<4294967296:=by rw[my];omega
 have hx:(x >>> 32).toNat<4294967296:=by rw[sx];omega
 have hy:(y >>> 32).toNat<4294967296:=by rw[sy];omega
 obtain⟨p00,q00⟩:=alk lx ly;obtain⟨VA,q10⟩:=alk hx ly;obtain⟨p01,q01⟩:=alk lx hy;obtain⟨p11,q11⟩:=alk hx hy;have key:=words ((x &&& (4294967295:BitVec 64)).toNat*(y &&& (4294967295:BitVec 64)).toNat) ((x >>> 32).toNat*(y &&& (4294967295:BitVec 64)).toNat) ((x &&& (4294967295:BitVec 64)).toNat*(y >>> 32).toNat) ((x >>> 32).toNat*(y >>> 32).toNat);have tot:=split_mul x.toNat y.toNat;rw[←mx,←my,←sx,←sy]at tot;rw[←tot,←p00,←VA,←p01,←p11]at key;rw[←p00]at q00;rw[←VA]at q10;rw[←p01]at q01;rw[←p11]at q11;generalize (x &&& (4294967295:BitVec 64))*(y &&& (4294967295:BitVec 64))=a00 at *;generalize (x >>> 32)*(y &&& (4294967295:BitVec 64))=a10 at *;generalize (x &&& (4294967295:BitVec 64))*(y >>> 32)=a01 at *;generalize (x >>> 32)*(y >>> 32)=a11 at *;have s0:=shr a00;have d1:(a10+a00 >>> 32).toNat=a10.toNat+a00.toNat/4294967296:=by rw[alm (by rw[s0];omega),s0]
 have d2:=shr (a10+a00 >>> 32);have d3:=msk (a10+a00 >>> 32);have d4:(a01+(a10+a00 >>> 32 &&& (4294967295:BitVec 64))).toNat=a01.toNat+(a10.toNat+a00.toNat/4294967296)%4294967296:=by rw[alm (by rw[d3];omega),d3,d1]
 have d5:=shr (a01+(a10+a00 >>> 32 &&& (4294967295:BitVec 64)));have d6:=msk a00;have xy:x.toNat*y.toNat<18446744073709551616*18446744073709551616:=Nat.mul_lt_mul'' bx Gq;constructor;rw[por (by rw[d6];omega),d4,d6]
 have e1:(a11+(a10+a00 >>> 32) >>> 32).toNat=a11.toNat+(a10.toNat+a00.toNat/4294967296)/4294967296:=by
  rw[alm (by rw[d2,d1];omega),d2,d1]
 rw[alm (by rw[e1,d5,d4];omega),e1,d5,d4];exact key
theorem aco{a b:Int}(ha:-9007199254740992≤a∧a≤9007199254740992)(hb:-9007199254740992≤b∧b≤9007199254740992):Ob a b=some (ais a b):=by
 unfold Ob Dv J5;rw[ajr ha,ajr hb];simp only[aj];have W:=abM (BitVec.ofNat 64 a.natAbs) (BitVec.ofNat 64 b.natAbs);generalize ((((BitVec.ofNat 64 a.natAbs) >>> 32)*((BitVec.ofNat 64 b.natAbs) >>> 32)+((((BitVec.ofNat 64 a.natAbs) >>> 32)*((BitVec.ofNat 64 b.natAbs) &&& (4294967295:BitVec 64))+((((BitVec.ofNat 64 a.natAbs) &&& (4294967295:BitVec 64))*((BitVec.ofNat 64 b.natAbs) &&& (4294967295:BitVec 64))) >>> 32)) >>> 32))+((((BitVec.ofNat 64 a.natAbs) &&& (4294967295:BitVec 64))*((BitVec.ofNat 64 b.natAbs) >>> 32)+((((BitVec.ofNat 64 a.natAbs) >>> 32)*((BitVec.ofNat 64 b.natAbs) &&& (4294967295:BitVec 64))+((((BitVec.ofNat 64 a.natAbs) &&& (4294967295:BitVec 64))*((BitVec.ofNat 64 b.natAbs) &&& (4294967295:BitVec 64))) >>> 32)) &&& (4294967295:BitVec 64))) >>> 32))=hi at *;generalize (((((BitVec.ofNat 64 a.natAbs) &&& (4294967295:BitVec 64))*((BitVec.ofNat 64 b.natAbs) >>> 32)+((((BitVec.ofNat 64 a.natAbs) >>> 32)*((BitVec.ofNat 64 b.natAbs) &&& (4294967295:BitVec 64))+((((BitVec.ofNat 64 a.natAbs) &&& (4294967295:BitVec 64))*((BitVec.ofNat 64 b.natAbs) &&& (4294967295:BitVec 64))) >>> 32)) &&& (4294967295:BitVec 64))) <<< 32) ||| ((((BitVec.ofNat 64 a.natAbs) &&& (4294967295:BitVec 64))*((BitVec.ofNat 64 b.natAbs) &&& (4294967295:BitVec 64))) &&& (4294967295:BitVec 64)))=lo at *;have hw:=W.eq;rw[BitVec.toNat_ofNat,BitVec.toNat_ofNat,atL (by omega),atL (by omega)]at hw;have hlo:=lo.isLt
 have hz:decide (([(hi.toNat:Int),(lo.toNat:Int)]:List Int)=([0,0]:List Int))=decide (hi.toNat=0∧lo.toNat=0):=by
  congr 1;simp only[as8,aue,Int.natCast_eq_zero]
 have key:=acr ha hb (hi:=hi.toNat) (lo:=lo.toNat) hlo hw rfl;rw[key];unfold tH;simp only[List.getD_cons_zero,auc];rw[hz];generalize (!((decide (a<0))==(decide (b<0)))&&!decide (hi.toNat=0∧lo.toNat=0))=neg;by_cases h1:hi.toNat=0
 ·rw[arF (c:=((hi.toNat:Int) !=0)=true) (by simp[h1]),arF (c:=hi.toNat≠0) (by simp[h1])];cases neg with
  | true=>
   simp only[as6,asC,ati,arG,arN,arO];by_cases h2:lo.toNat≤9223372036854775808
   ·rw[arK (by simp;omega),arK h2,aC,arK rfl];congr 1;rw[BitVec.toNat_neg];unfold bF IntKind.wrap;simp[IntKind.bits,IntKind.signed];omega
   ·rw[arF (by simp;omega),arF h2,aC,arF (by simp)];rfl
  | false=>
   simp only[ati,as1,as6,arG,arN];by_cases h2:lo.toNat≤9223372036854775807
   ·rw[arK (by simp;omega),arK h2,aC,arK rfl,zq (by omega)]
   ·rw[arF (by simp;omega),arF h2,aC,arF (by simp)];rfl
 ·rw[arK (by simp;omega),arK h1,aC,arF (by simp)];cases neg<;>rfl
end Go.Ft
