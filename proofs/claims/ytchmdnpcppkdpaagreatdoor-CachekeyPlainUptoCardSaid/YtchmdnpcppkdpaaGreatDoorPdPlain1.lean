/- Proved here: plain facts on the functional texts. -/
import Derived.Test.YtchmdnpcppkdpaaGreatDoorPdPre1
import Derived.Test.YtchmdnpcppkdpaaGreatDoorPdFt1
import Derived.Test.YtchmdnpcppkdpaaGreatDoorPdPool1
set_option linter.unusedVariables false
set_option linter.unusedSimpArgs false
set_option linter.defProp false
set_option linter.unusedSectionVars false
set_option maxHeartbeats 2000000
namespace Go.Ft
open Go
attribute [local congr] fD
theorem Iy{α:Type}{f:α→Nat}{l:List α}{x:α}(h:x∈l):f x≤(l.map f).sum:=by
 induction l with
 | nil=>cases h
 | cons y l ih=>
  simp only[aor,aoK];rcases aoJ.1 h with rfl|h
  ·omega
  ·have:=ih h;omega
theorem K9{α:Type}{f:α→Nat}{l:List α}(h:∀x,1≤f x):l.length≤(l.map f).sum:=by
 induction l with
 | nil=>simp
 | cons y l ih=>simp only[aor,aoK,an5];have:=h y;omega
theorem ah.lg(v:ah):1≤v.bulk:=by rw[ah.kW];omega
theorem au.lg(v:au):1≤v.bulk:=by rw[au.kW];omega
theorem uq(v:ah):v.aN.length<v.bulk:=by rw[ah.kW,ah.pF];have:=K9 (l:=v.aN) ah.lg;omega
theorem ig{v x:ah}(h:x∈v.aN):x.bulk<v.bulk:=by rw[ah.kW v,ah.pF];have:=Iy (f:=ah.bulk) h;omega
theorem yK(v:ah):v.keys.length<v.bulk:=by rw[ah.kW];have:=K9 (l:=v.keys) (f:=fun z:Str=>z.length+1) (fun x=>by omega);omega
theorem Ig{v:ah}{x:Str}(h:x∈v.keys):x.length<v.bulk:=by rw[ah.kW v];have:=Iy (f:=fun z:Str=>z.length+1) h;omega
theorem Ue(e:au):e.args.length<e.bulk:=by rw[au.kW,au.pF];have:=K9 (l:=e.args) au.lg;omega
theorem lG{e x:au}(h:x∈e.args):x.bulk<e.bulk:=by rw[au.kW e,au.pF];have:=Iy (f:=au.bulk) h;omega
theorem IG(v:au):v.keys.length<v.bulk:=by rw[au.kW];have:=K9 (l:=v.keys) (f:=fun z:Str=>z.length+1) (fun x=>by omega);omega
theorem acC(v:au):v.name.length<v.bulk:=by rw[au.kW];omega
theorem G_(v:au):v.value.bulk<v.bulk:=by rw[au.kW];omega
mutual
def ecnt:au→Nat
 | ⟨_,_,_,args,_⟩=>1+El args
def El:List au→Nat
 | []=>0
 | x::r=>ecnt x+El r
end
theorem Dp(e:au):ecnt e=1+El e.args:=by cases e;rfl
theorem XT:∀(l:List au) (n:Nat),(∀x∈l,ecnt x≤x.bulk)→El l≤(l.map au.bulk).sum
 | [],_,_=>by simp[El]
 | x::r,n,h=>by
  simp only[El,aor,aoK];have:=h x (by simp);have:=XT r n fun y hy=>h y (by simp[hy]);omega
theorem Lm:∀(n:Nat) (e:au),e.bulk≤n→ecnt e≤e.bulk
 | 0,e,h=>by have:=e.lg;omega
 | n+1,e,h=>by
  rw[Dp,au.kW,au.pF];have:=XT e.args n fun x hx=>Lm n x (by have:=lG hx;omega);omega
theorem ZE{go:au→Option Int}:∀(l:List au) (i s:Nat),(∀x∈l,go x=some (ecnt x:Int))→s+El l<4611686018427387904→
  eX (fun _ e2 (n1:Int) r=>av (go e2) fun x2=>r (bq (n1+x2))) (fun n1=>some n1) i l (s:Int)=some ((s+El l:Nat):Int)
 | [],i,s,_,_=>by simp[eX,El]
 | x::r,i,s,h,hs=>by
  simp only[El]at hs⊢;rw[eX,h x (by simp)];simp only[aj];have:bq ((s:Int)+(ecnt x:Int))=((s+ecnt x:Nat):Int):=by rw[qN (by omega)];omega
  rw[this,ZE r (i+1) (s+ecnt x) (fun y hy=>h y (by simp[hy])) (by omega)];simp only[aoq,apu];omega
theorem VB:∀(n:Nat) (e:au),e.bulk≤n→e.bulk<4611686018427387904→nV (n+1) e=some (ecnt e:Int)∧wT (n+1) e=some (ecnt e:Int)
 | 0,e,h,_=>by have:=e.lg;omega
 | n+1,e,h,hB=>by
  have hl:=Ue e;have hle:=Lm _ e (aod _);rw[Dp]at hle;constructor
  ·unfold nV xL;have:=fu (F:=fun k s i=>qU (nV (n+1)) e k s i) (l:=e.args) (body:=fun _ e2 (n1:Int) r=>av (nV (n+1) e2) fun x2=>r (bq (n1+x2))) (fin:=fun n1=>some n1) (by omega) (fun k s i=>rfl) 1;rw[this,show (1:Int)=((1:Nat):Int)from rfl,ZE e.args 0 1 (fun x hx=>(VB n x (by have:=lG hx;omega) (by have:=lG hx;omega)).1) (by omega),Dp]
  ·unfold wT NC;have:=fu (F:=fun k s i=>EK (wT (n+1)) e k s i) (l:=e.args) (body:=fun _ e2 (n1:Int) r=>av (wT (n+1) e2) fun x2=>r (bq (n1+x2))) (fin:=fun n1=>some n1) (by omega) (fun k s i=>rfl) 1;rw[this,show (1:Int)=((1:Nat):Int)from rfl,ZE e.args 0 1 (fun x hx=>(VB n x (by have:=lG hx;omega) (by have:=lG hx;omega)).2) (by omega),Dp]
theorem pJ:∃n,BIG=n+1∧9223372036854775807≤n:=⟨BIG-1,by decide,by decide⟩
theorem count_eq{e:au}(h:e.bulk<4611686018427387904):Bf e=some (ecnt e:Int)∧Mg e=some (ecnt e:Int):=by
 obtain⟨n,hn,hn2⟩:=pJ;unfold Bf Mg;rw[hn];exact VB n e (by omega) h
def isName(s:Str):Bool:=decide (1≤s.length)&&decide (s.length≤64)&&(match s with|c::_=>isLet c|[]=>false)&&s.all fun c=>isLet c||dh c
def jv(s:Str):Bool:=isName s&&!((s==([116,114,117,101]:Str))||(s==([102,97,108,115,101]:Str))||(s==([110,117,108,108]:Str)))
theorem al4(s:Str)(hs:s.length<4611686018427387904):qb s BIG 0=some (s.all fun c=>isLet c||dh c):=by
 have:=fu (F:=fun k (_:Unit) i=>qb s k i) (l:=s) (body:=fun(i:Nat) x3 _ r=>av (if !(isLet x3)then av (idx s (i:Int)) fun x5=>some (!(dh x5))else some false) fun b2=>if b2 then some false else r ()) (fin:=fun _=>some true) hs (fun k s i=>rfl) ();rw[this]
 have key:∀(t:Str) (i:Nat),t=s.drop i→eX (fun(i:Nat) x3 (_:Unit) r=>av (if !(isLet x3)then av (idx s (i:Int)) fun x5=>some (!(dh x5))else some false) fun b2=>if b2 then some false else r ()) (fun _=>some true) i t ()=some (t.all fun c=>isLet c||dh c):=by
  intro t
  induction t with
  | nil=>intro i _;rfl
  | cons c t ih=>
   intro i ht
   have hi:i<s.length:=by
    rcases aoD i s.length with h|h
    ·exact h
    ·rw[aob h]at ht;cases ht
   have hc:=an0 hi;rw[←ht]at hc;have e1:c=s[i]:=(ao4 hc).1;have e2:=(ao4 hc).2;rw[eX,gK hi,←e1];simp only[aj];rw[ih (i+1) e2];cases h1:isLet c<;>cases h2:dh c<;>simp[h1,h2]
 exact key s 0 rfl
theorem P5(s:Str)(hs:s.length<4611686018427387904):wV s=some (isName s):=by
 unfold wV isName;rw[al4 s hs];by_cases h1:s.length<1
 ·have:s=[]:=by cases s;rfl;simp at h1
  subst this;simp
 ·by_cases h2:64<s.length
  ·have e1:decide ((64:Int)<(s.length:Int))=true:=by simp;omega
   have e2:decide (s.length≤64)=false:=by simp;omega
   simp[e1,e2]
  ·cases s with
   | nil=>simp at h1
   | cons c s=>
    have e1:decide ((((c::s).length:Nat):Int)<1)=false:=by simp;omega
    have e2:decide ((64:Int)<(((c::s).length:Nat):Int))=false:=by simp at h2⊢;omega
    have e3:decide ((c::s).length≤64)=true:=by simp at h2⊢;omega
    have e4:idx (c::s) 0=some c:=rfl;rw[e1,e2,e3,e4];cases h3:isLet c<;>simp[h3]
theorem aeb(s:Str)(hs:s.length<4611686018427387904):KO s=some (isName s):=by
 unfold KO
 have:=fu (F:=fun k (_:Unit) i=>Gm s k i) (l:=s) (body:=fun(i:Nat) x3 _ r=>av (if !(isLet x3)then (if (i:Int)==0 then some true else av (idx s (i:Int)) fun x5=>some (!(dh x5)))else some false) fun b2=>if b2 then some false else r ())
  (fin:=fun _=>some ((decide (1≤(s.length:Int)))&&(decide ((s.length:Int)≤64)))) hs (fun k s i=>rfl) ()
 rw[this]
 have key:∀(t:Str) (i:Nat),t=s.drop i→eX (fun(i:Nat) x3 (_:Unit) r=>av (if !(isLet x3)then (if (i:Int)==0 then some true else av (idx s (i:Int)) fun x5=>some (!(dh x5)))else some false) fun b2=>if b2 then some false else r ())
   (fun _=>some ((decide (1≤(s.length:Int)))&&(decide ((s.length:Int)≤64)))) i t ()=some ((decide (1≤s.length)&&decide (s.length≤64))&&((if i=0 then (match t with|c::_=>isLet c|[]=>true)else true)&&t.all fun c=>isLet c||dh c)):=by
  intro t
  induction t with
  | nil=>
   intro i _;rw[eX];have e1:decide ((1:Int)≤(s.length:Int))=decide (1≤s.length):=by congr 1;simp;omega
   have e2:decide ((s.length:Int)≤64)=decide (s.length≤64):=by congr 1;simp;omega
   rw[e1,e2];simp
  | cons c t ih=>
   intro i ht
   have hi:i<s.length:=by
    rcases aoD i s.length with h|h
    ·exact h
    ·rw[aob h]at ht;cases ht
   have hc:=an0 hi;rw[←ht]at hc;have e1:c=s[i]:=(ao4 hc).1;have e2:=(ao4 hc).2;rw[eX,gK hi,←e1];simp only[aj];rw[ih (i+1) e2];by_cases h0:i=0
   ·subst h0;cases h1:isLet c<;>simp[h1]
   ·have:((i:Int)==0)=false:=by simp;omega
    rw[this];cases h1:isLet c<;>cases h2:dh c<;>simp[h1,h2,h0]
 rw[key s 0 rfl];unfold isName;cases s with
 | nil=>simp
 | cons c s=>simp[Bool.and_assoc]
theorem Ce(s:Str)(hs:s.length<4611686018427387904):mU s=some (jv s)∧uI s=some (jv s):=by
 unfold mU uI jv oN;rw[P5 s hs,aeb s hs];constructor
 ·cases isName s<;>simp
 ·simp only[aj,aoq];cases isName s<;>simp[Bool.not_or,Bool.and_assoc]
theorem Ns(s:Str):A8 s=g_ s:=rfl
theorem RZ(s:Str):∃n,g_ s=some n:=by
 have:(g_ s).isSome=true:=by
  unfold g_;simp only[apply_ite Option.isSome,Option.isSome_some,ite_self]
 exact Option.isSome_iff_exists.1 this
end Go.Ft
namespace Go.Ft
open Go
attribute [local congr] fD
def tJ(s:Str):Bool:=decide (1≤s.length)&&decide (s.length≤64)
def R8(a b:Str):Int:=(sW a b).getD 0
theorem ahA{a b:Str}(ha:a.length<4611686018427387904)(hb:b.length<4611686018427387904):iC a b=some (R8 a b)∧sW a b=some (R8 a b):=by
 obtain⟨c,h1,h2⟩:=QT ha hb;unfold R8;rw[h2];exact⟨h1,rfl⟩
def H7:Option Str→List Str→Bool
 | _,[]=>true
 | p,k::r=>tJ k&&(match p with|none=>true|some q=>decide (R8 q k<0))&&H7 (some k) r
theorem Vi(s:Str):((decide ((s.length:Int)<1))||(decide (64<(s.length:Int))))=!tJ s:=by
 unfold tJ;rw[ao9];simp only[aov,aoR,ao7,anZ,aoz];omega
theorem key_eq(s:Str):UY s=some (tJ s):=by
 unfold UY tJ;simp only[aoq];rw[ao9];simp only[an_,anZ];omega
def Gv(l:List Str)(i:Nat):Option Str:=if i=0 then none else l[i-1]?
theorem abh{v:ah}(hv:v.bulk<4611686018427387904):∀(k i:Nat),v.keys.length<k+i→i≤v.keys.length→
  pX v k (i:Int)=some (H7 (Gv v.keys i) (v.keys.drop i))∧
  uJ v k (i:Int)=some (H7 (Gv v.keys i) (v.keys.drop i)&&((v.keys.length:Int)==(v.aN.length:Int)))
 | 0,i,h,h'=>by omega
 | k+1,i,h,h'=>by
  have hlen:=yK v;rw[pX,uJ];by_cases hi:i<v.keys.length
  ·have hm:v.keys[i]∈v.keys:=aol hi;have hb:=Ig hm;rw[an0 hi,anN (by simp;omega),anN (by simp;omega),gK hi];simp only[aj,Vi,key_eq,H7];obtain⟨ih1,ih2⟩:=abh hv k (i+1) (by omega) (by omega);have hp:Gv v.keys (i+1)=some v.keys[i]:=by simp[Gv,hi]
   rw[hp]at ih1 ih2;rw[iG (by omega),ih1,ih2];by_cases h0:i=0
   ·subst h0;have hp0:Gv v.keys 0=none:=rfl;rw[hp0];cases tJ v.keys[0]<;>simp
   ·have hi1:i-1<v.keys.length:=by omega
    have hm1:v.keys[i-1]∈v.keys:=aol hi1;have hb1:=Ig hm1;have hp0:Gv v.keys i=some v.keys[i-1]:=by simp[Gv,h0,hi1]
    have e1:bq ((i:Int)-1)=((i-1:Nat):Int):=by rw[qN (by omega)];omega
    obtain⟨c1,c2⟩:=ahA (a:=v.keys[i-1]) (b:=v.keys[i]) (by omega) (by omega);have hpos:decide ((0:Int)<(i:Int))=true:=by simp;omega
    rw[hp0,e1,hpos,gK hi1];simp only[aj,c1,c2,anX]
    have hn:decide (R8 v.keys[i-1] v.keys[i]<0)=!decide (0≤R8 v.keys[i-1] v.keys[i]):=by
     by_cases h:0≤R8 v.keys[i-1] v.keys[i]<;>simp[h]<;>omega
    rw[hn];cases tJ v.keys[i]<;>cases decide (0≤R8 v.keys[i-1] v.keys[i])<;>simp
  ·have:i=v.keys.length:=by omega
   subst this;simp[H7]
theorem Xw{v:ah}(hv:v.bulk<4611686018427387904):zM v=some (((v.keys.length:Int)==(v.aN.length:Int))&&H7 none v.keys)∧Dz v=some (((v.keys.length:Int)==(v.aN.length:Int))&&H7 none v.keys):=by
 have hlen:=yK v;obtain⟨h1,h2⟩:=abh hv BIG 0 (by have:=dX;omega) (by omega);have hp0:Gv v.keys 0=none:=rfl;rw[hp0,aoV]at h1 h2;unfold zM Dz;rw[show (0:Int)=((0:Nat):Int)from rfl,h1,h2];by_cases h:(v.keys.length:Int)=(v.aN.length:Int)
 ·simp[h]
 ·have:((v.keys.length:Int)==(v.aN.length:Int))=false:=by simpa using h
  simp[this];intro hh;exact absurd hh h
def pK(v:ah):Bool:=
 (((((v.kind==1)||(!v.dR))&&((v.kind==2)||(v.dS==0)))&&((v.kind==3)||(v.bR==([]:Str))))&&(((v.kind==4)||(v.kind==5))||((v.aN.length:Int)==0)))&&((v.kind==5)||((v.keys.length:Int)==0))
theorem ajF(v:ah):Mj v=some (pK v):=by
 unfold Mj pK
 have hl:decide (0<(v.aN.length:Int))=!((v.aN.length:Int)==0):=by
  cases h:v.aN<;>simp;omega
 rw[hl];have hk:∀n:Int,(v.kind !=n)=!(v.kind==n):=fun n=>rfl;have hi:(v.dS !=0)=!(v.dS==0):=rfl;rw[hk,hk,hk,hk,hk,hi];generalize (v.kind==1)=a1;generalize (v.kind==2)=a2;generalize (v.kind==3)=a3;generalize (v.kind==4)=a4;generalize (v.kind==5)=a5;generalize v.dR=b;generalize (v.dS==0)=c;generalize (v.bR==([]:Str))=d;generalize ((v.aN.length:Int)==0)=e;generalize ((v.keys.length:Int)==0)=f;revert a1 a2 a3 a4 a5 b c d e f;decide
def lV(v:ah)(level:Nat):Int:=
 if 16<level then 13
 else if (decide (v.kind<0))||(decide (5<v.kind))||!pK v then 1
 else if (decide (v.dS<(-9007199254740992)))||(decide (9007199254740992<v.dS))then 2
 else if ((decide (4096<(v.bR.length:Int)))||(decide (1024<(v.aN.length:Int))))||(decide (1024<(v.keys.length:Int)))then 3
 else if v.kind==5&&!(((v.keys.length:Int)==(v.aN.length:Int))&&H7 none v.keys)then 1
 else if (((v.kind==4)||(v.kind==5))&&((v.aN.length:Int)==0))&&level==16 then 13
 else 0
theorem ahy{v:ah}(hv:v.bulk<4611686018427387904)(level:Nat):BZ v (level:Int)=some (lV v level):=by
 unfold BZ lV AB;have h16:decide ((16:Int)<(level:Int))=decide (16<level):=by congr 1;simp;omega
 have aki:((level:Int)==16)=(level==16):=by
  rw[ao9];simp only[aoi];omega
 rw[h16,aki,(Xw hv).1];change (if decide (16<level)=true then some 13 else av (if (decide (v.kind<0)||decide (5<v.kind))=true then some true else av (some (pK v)) fun x1=>some (!x1)) _)=_
 by_cases h0:16<level
 ·simp[h0]
 ·simp only[h0,aoO,anL,anW,aj];cases h1:(decide (v.kind<0)||decide (5<v.kind))with
  | true=>simp
  | false=>
   cases h2:pK v with
   | false=>simp
   | true=>
    simp only[anL,anW,aot,aj,Bool.or_self];split
    ·rfl
    ·split
     ·rfl
     ·cases h3:(v.kind==5)<;>cases h4:(((v.keys.length:Int)==(v.aN.length:Int))&&H7 none v.keys)<;>simp<;>(first|rfl|(split<;>rfl))
mutual
def uw:ah→Nat→Int
 | ⟨a,b,c,d,l,f⟩,level=>if lV ⟨a,b,c,d,l,f⟩ level !=0 then lV ⟨a,b,c,d,l,f⟩ level else Au l (level+1)
def Au:List ah→Nat→Int
 | [],_=>0
 | x::r,level=>if uw x level !=0 then uw x level else Au r level
end
theorem Ku(v:ah)(level:Nat):uw v level=if lV v level !=0 then lV v level else Au v.aN (level+1):=by cases v;rw[uw]
theorem amG{go:ah→Int→Option Int}{level:Nat}:∀(l:List ah) (i:Nat),(∀x∈l,go x ((level+1:Nat):Int)=some (uw x (level+1)))→
  eX (fun _ e1 (_:Unit) r=>av (go e1 ((level+1:Nat):Int)) fun e2=>if e2 !=0 then some e2 else r ()) (fun _=>some 0) i l ()=some (Au l (level+1))
 | [],i,_=>by simp[eX,Au]
 | x::r,i,h=>by
  rw[eX,h x (by simp),Au];simp only[aj];rw[amG r (i+1) (fun y hy=>h y (by simp[hy]))];split<;>rfl
theorem X5:∀(n:Nat) (v:ah) (level:Nat),v.bulk≤n→v.bulk<4611686018427387904→level≤17→wU (n+1) v (level:Int)=some (uw v level)
 | 0,v,_,h,_,_=>by have:=v.lg;omega
 | n+1,v,level,h,hB,hlv=>by
  have hl:=uq v;rw[Ku];unfold wU NI;have h16:decide ((16:Int)<(level:Int))=decide (16<level):=by congr 1;simp;omega
  have aki:((level:Int)==16)=(level==16):=by
   rw[ao9];simp only[aoi];omega
  rw[h16,aki,(Xw hB).2,ajF];unfold lV;by_cases h0:16<level
  ·simp[h0]
  ·have hw:bq ((level:Int)+1)=((level+1:Nat):Int):=iG (by omega);have:=fu (F:=fun k (_:Unit) i=>EN (wU (n+1)) v (level:Int) k i) (l:=v.aN) (body:=fun _ e1 _ r=>av (wU (n+1) e1 ((level+1:Nat):Int)) fun e2=>if e2 !=0 then some e2 else r ()) (fin:=fun _=>some 0) (by omega) (fun k s i=>by rw[←hw];rfl) ();rw[this,amG v.aN 0 fun x hx=>X5 n x (level+1) (by have:=ig hx;omega) (by have:=ig hx;omega) (by omega)];simp only[h0,aoO,anL,anW,aj];cases h1:(decide (v.kind<0)||decide (5<v.kind))with
   | true=>simp
   | false=>
    cases h2:pK v with
    | false=>simp
    | true=>
     simp only[anL,anW,aot,aj,Bool.or_self];split
     ·simp
     ·split
      ·simp
      ·have h4:decide ((4:Int)≤v.kind)=((v.kind==4)||(v.kind==5)):=by
        simp only[aoE,aoz]at h1;rw[ao9];simp only[aov,anZ,aoi];omega
       rw[h4]
       cases h3:(v.kind==5)<;>cases h5:(((v.keys.length:Int)==(v.aN.length:Int))&&H7 none v.keys)<;>simp<;>(first|rfl|(split<;>simp<;>rename_i hq<;>(first
        | exact fun hh=>absurd hq.2 (hh hq.1.1 hq.1.2)
        | exact fun a b c=>absurd ⟨⟨a,b⟩,c⟩ hq)))
theorem YH{v:ah}(h:v.bulk<4611686018427387904):D5 v=some (uw v 1):=by
 obtain⟨n,hn,hn2⟩:=pJ;unfold D5 TK;rw[hn];exact X5 n v 1 (by omega) h (by omega)
def O3(c:Int):Bool × Option Int:=if c !=0 then (false,some c)else (true,none)
theorem alb{v:ah}(hv:v.bulk<4611686018427387904)(level:Nat):lK none (level:Int) v=some (O3 (lV v level)):=by
 unfold lK O3;simp only[ahy hv,aj];by_cases h:lV v level=0<;>simp[h]
theorem ait{go:Option Int→ah→Int→Option (Bool × Option Int)}{level:Nat}:∀(l:List ah) (i:Nat),(∀x∈l,go none x ((level+1:Nat):Int)=some (O3 (uw x (level+1))))→
  eX (fun _ x1 (s1:Option Int) r=>eD (go s1 x1 ((level+1:Nat):Int)) fun b1 s2=>if !b1 then some (false,s2)else r s2) (fun s1=>some (true,s1)) i l none=some (O3 (Au l (level+1)))
 | [],i,_=>by simp[eX,Au,O3]
 | x::r,i,h=>by
  rw[eX,h x (by simp),Au];by_cases hc:uw x (level+1)=0
  ·simp only[hc,O3,apf,anL,anW,aB,aot];rw[ait r (i+1) (fun y hy=>h y (by simp[hy]))];rfl
  ·simp[hc,O3]
theorem adr:∀(n:Nat) (v:ah) (level:Nat),v.bulk≤n→v.bulk<4611686018427387904→level≤17→fQ lK (n+1) none v (level:Int)=some (O3 (uw v level))
 | 0,v,_,h,_,_=>by have:=v.lg;omega
 | n+1,v,level,h,hB,hlv=>by
  have hl:=uq v;rw[Ku];unfold fQ uy;rw[alb hB];by_cases h0:lV v level=0
  ·have anR:level≤16:=by
    rcases aoD 16 level with h|h
    ·unfold lV at h0;simp[h]at h0
    ·exact h
   have hw:bq ((level:Int)+1)=((level+1:Nat):Int):=iG (by omega);have:=fu (F:=fun k s i=>kg (fQ lK (n+1)) v (level:Int) k s i) (l:=v.aN) (body:=fun _ x1 (s1:Option Int) r=>eD (fQ lK (n+1) s1 x1 ((level+1:Nat):Int)) fun b1 s2=>if !b1 then some (false,s2)else r s2) (fin:=fun s1=>some (true,s1)) (by omega) (fun k s i=>by rw[←hw];rfl) none;simp only[h0,O3,apf,anL,anW,aB,aot];rw[this,ait v.aN 0 fun x hx=>adr n x (level+1) (by have:=ig hx;omega) (by have:=ig hx;omega) (by omega)];rfl
  ·simp[h0,O3]
theorem DT{v:ah}(h:v.bulk<4611686018427387904):kL v=some (uw v 1):=by
 obtain⟨n,hn,hn2⟩:=pJ;unfold kL BX;rw[hn,show (1:Int)=((1:Nat):Int)from rfl,adr n v 1 (by omega) h (by omega)];unfold O3;by_cases hc:uw v 1=0<;>simp[hc]
end Go.Ft
namespace Go.Ft
open Go
attribute [local congr] fD
def Nl(v:ah):Bool:=(((((v.kind==0)&&(!v.dR))&&(v.dS==0))&&(v.bR==([]:Str)))&&((v.aN.length:Int)==0))&&((v.keys.length:Int)==0)
theorem zero_eq(v:ah):Db v=some (Nl v):=rfl
theorem abN(v:ah):PO v (ah.mk 0 false 0 ([]:Str) [] [])=some (Nl v):=by
 obtain⟨n,hn,hn2⟩:=pJ;obtain⟨m,hm⟩:∃m,n=m+1:=⟨n-1,by omega⟩;have hB:BIG=(m+1)+1:=by omega
 unfold PO;rw[hB,JH,PN]
 have hz:Nl v=!(((((v.kind !=0)||(!(v.dR==false)))||(v.dS !=0))||(!(v.bR==([]:Str))))||((v.aN.length:Int) !=(([]:List ah).length:Int))||((v.keys.length:Int) !=(([]:List Str).length:Int))):=by
  unfold Nl;have hk:(v.kind !=0)=!(v.kind==0):=rfl;have hi:(v.dS !=0)=!(v.dS==0):=rfl;have hl:((v.aN.length:Int) !=(([]:List ah).length:Int))=!((v.aN.length:Int)==0):=rfl;have hks:((v.keys.length:Int) !=(([]:List Str).length:Int))=!((v.keys.length:Int)==0):=rfl;rw[hk,hi,hl,hks];generalize (v.kind==0)=a;generalize v.dR=b;generalize (v.dS==0)=c;generalize (v.bR==([]:Str))=d;generalize ((v.aN.length:Int)==0)=e;generalize ((v.keys.length:Int)==0)=f;revert a b c d e f;decide
 cases h:(((((v.kind !=0)||(!(v.dR==false)))||(v.dS !=0))||(!(v.bR==([]:Str))))||((v.aN.length:Int) !=(([]:List ah).length:Int))||((v.keys.length:Int) !=(([]:List Str).length:Int)))with
 | true=>
  rw[hz,h];rfl
 | false=>
  rw[hz,h];simp only[aoE]at h;have hl:v.aN=[]:=by have:=h.1.2;simpa using this
  have hk:v.keys=[]:=by have:=h.2;simpa using this
  simp only[anL,anW,aoC];rw[hB,Gs,hk];simp only[aoS,Int.lt_irrefl,aoO,anL,anW,Int.ofNat_zero];rw[hB,Gq,hl];simp
def vw(e:au):Bool:=
 if e.kind==1 then (e.args.length:Int)==0 else if e.kind==2 then (e.args.length:Int)==0 else if e.kind==3 then (e.args.length:Int)==1 else if e.kind==6 then (e.args.length:Int)==1
 else if e.kind==4 then (e.args.length:Int)==2 else if e.kind==7 then (e.args.length:Int)==2 else if e.kind==8 then (e.args.length:Int)==3 else ((e.kind==5)||(e.kind==9))||(e.kind==10)
theorem ah9(e:au):Md e=some (vw e):=by
 unfold Md vw;simp only[apply_ite some]
def Cj(e:au):Bool:=!((decide (e.kind<1))||(decide (10<e.kind)))
theorem akx(e:au)(h:Cj e=true):xJ e=some (vw e):=by
 unfold xJ vw;unfold Cj at h;simp only[aoR,aoE,aoz]at h;simp only[apply_ite some]
 have hh:¬e.kind=1→¬e.kind=2→¬e.kind=3→¬e.kind=6→¬e.kind=4→¬e.kind=7→¬e.kind=8→(((e.kind==5)||(e.kind==9))||(e.kind==10))=true:=by
  intro h1 h2 h3 h6 h4 h7 h8;simp only[aov,aoi];omega
 by_cases h1:e.kind=1
 ·simp[h1]
 by_cases h2:e.kind=2
 ·simp[h2]
 by_cases h3:e.kind=3
 ·simp[h3]
 by_cases h6:e.kind=6
 ·simp[h6]
 by_cases h4:e.kind=4
 ·simp[h4]
 by_cases h7:e.kind=7
 ·simp[h7]
 by_cases h8:e.kind=8
 ·simp[h8]
 rw[hh h1 h2 h3 h6 h4 h7 h8]
 all_goals simp[h1,h2,h3,h4,h6,h7,h8]
def EB(s:Str):Int:=(g_ s).getD 0
theorem LY(s:Str):g_ s=some (EB s):=by
 obtain⟨n,h⟩:=RZ s;unfold EB;rw[h];rfl
def Cy(e:au):Bool:=
 if e.kind==2 then jv e.name else if e.kind==3 then jv e.name else if e.kind==5 then jv e.name else if e.kind==6 then (e.name==([33]:Str))||(e.name==([45]:Str))
 else if e.kind==7 then decide (0<EB e.name)else e.name==([]:Str)
theorem Xm(e:au)(h:e.bulk<4611686018427387904):xH e=some (Cy e)∧Mc e=some (Cy e):=by
 have hn:=acC e;obtain⟨p1,p2⟩:=Ce e.name (by omega);unfold xH Mc Cy;rw[p1,p2,Ns,LY];simp only[aj,apply_ite some,and_self]
theorem aok(l:List Str)(hl:l.length<4611686018427387904):fV l jO=some (l.any fun k=>!tJ k):=by
 unfold fV iR;have:=fu (F:=fun k (_:Unit) i=>fU l jO k i) (l:=l) (body:=fun(i:Nat) e1 _ r=>av (jO e1) fun x1=>if x1 then some (i:Int)else r ()) (fin:=fun _=>some (-1)) hl (fun k s i=>rfl) ();rw[this]
 have key:∀(t:List Str) (i:Nat),av (eX (fun(i:Nat) e1 (_:Unit) r=>av (jO e1) fun x1=>if x1 then some (i:Int)else r ()) (fun _=>some (-1)) i t ()) (fun x1=>some (decide (0≤x1)))=some (t.any fun k=>!tJ k):=by
  intro t
  induction t with
  | nil=>intro i;rfl
  | cons c t ih=>
   intro i;rw[eX];have e1:jO c=some (!tJ c):=by unfold jO;rw[Vi]
   rw[e1];simp only[aj,apM];cases h:tJ c with
   | false=>simp
   | true=>
    simp only[aot,anL,anW,ao2];exact ih (i+1)
 exact key l 0
def Ht(e:au):Bool:=if e.kind !=10 then (e.keys.length:Int)==0 else ((e.keys.length:Int)==(e.args.length:Int))&&!(e.keys.any fun k=>!tJ k)
theorem aj5(e:au)(h:e.bulk<4611686018427387904):xI e=some (Ht e):=by
 have hk:=IG e;unfold xI Ht;rw[aok e.keys (by omega)];split
 ·rfl
 ·cases ((e.keys.length:Int)==(e.args.length:Int))<;>simp
theorem ahL(e:au)(h:e.bulk<4611686018427387904):zB e BIG 0=some (!(e.keys.any fun k=>!tJ k)&&((e.keys.length:Int)==(e.args.length:Int))):=by
 have hk:=IG e
 have:=fu (F:=fun k (_:Unit) i=>zB e k i) (l:=e.keys) (body:=fun(i:Nat) e2 _ r=>av (if decide ((e2.length:Int)<1)then some true else av (idx e.keys (i:Int)) fun e3=>some (decide (64<(e3.length:Int)))) fun b4=>if b4 then some false else r ())
  (fin:=fun _=>some ((e.keys.length:Int)==(e.args.length:Int))) (by omega) (fun k s i=>rfl) ()
 rw[this]
 have key:∀(t:List Str) (i:Nat),t=e.keys.drop i→eX (fun(i:Nat) e2 (_:Unit) r=>av (if decide ((e2.length:Int)<1)then some true else av (idx e.keys (i:Int)) fun e3=>some (decide (64<(e3.length:Int)))) fun b4=>if b4 then some false else r ())
   (fun _=>some ((e.keys.length:Int)==(e.args.length:Int))) i t ()=some (!(t.any fun k=>!tJ k)&&((e.keys.length:Int)==(e.args.length:Int))):=by
  intro t
  induction t with
  | nil=>intro i _;rfl
  | cons c t ih=>
   intro i ht
   have hi:i<e.keys.length:=by
    rcases aoD i e.keys.length with h|h
    ·exact h
    ·rw[aob h]at ht;cases ht
   have hc:=an0 hi;rw[←ht]at hc;have e1:c=e.keys[i]:=(ao4 hc).1;have e2:=(ao4 hc).2;rw[eX,gK hi,←e1];simp only[aj,apM];rw[ih (i+1) e2];have e3:=Vi c;cases h1:decide ((List.length c:Int)<1)<;>rw[h1]at e3
   ·simp only[ao2]at e3;simp only[anL,anW,aj,e3];cases tJ c<;>simp
   ·simp only[Bool.true_or]at e3
    have:tJ c=false:=by
     cases h:tJ c with
     | false=>rfl
     | true=>rw[h]at e3;cases e3
    simp[this]
 exact key e.keys 0 rfl
def vZ(e:au):Bool:=Cj e&&((e.kind==1)||Nl e.value)&&Cy e&&vw e&&Ht e
theorem ZJ(e:au)(h:vw e=true):Cj e=true:=by
 unfold vw at h;unfold Cj;simp only[aoR,aoE,aoz];by_cases h1:e.kind=1
 ·omega
 by_cases h2:e.kind=2
 ·omega
 by_cases h3:e.kind=3
 ·omega
 by_cases h6:e.kind=6
 ·omega
 by_cases h4:e.kind=4
 ·omega
 by_cases h7:e.kind=7
 ·omega
 by_cases h8:e.kind=8
 ·omega
 simp[h1,h2,h3,h4,h6,h7,h8]at h;omega
theorem acv(e:au)(h:e.bulk<4611686018427387904):JE e=some (vZ e):=by
 unfold JE vZ;rw[ah9,(Xm e h).2,abN,ahL e h];have hk:=ZJ e;unfold Ht;have hne:(e.kind !=1)=!(e.kind==1):=rfl;rw[hne];cases h1:vw e with
 | false=>cases (e.kind==1)<;>simp
 | true=>
  rw[hk h1];cases h2:Cy e with
  | false=>cases (e.kind==1)<;>simp
  | true=>
   cases h3:(e.kind==1)<;>cases h4:Nl e.value<;>simp<;>(first|done|(split<;>simp[Bool.and_comm]))
theorem Ir(y:List (Str × Int))(s t:Str)(n:Int):rR (vL y s n) t=if t=s then n else rR y t:=by
 induction y with
 | nil=>by_cases h:t=s<;>simp[vL,rR,h]
 | cons a y ih=>
  obtain⟨k,v⟩:=a;unfold vL;by_cases h:s=k
  ·subst h;simp only[ao0,anX];unfold rR;by_cases h2:t=s
   ·simp[h2]
   ·have:(t==s)=false:=an7.2 h2;simp[this,h2]
  ·have:(s==k)=false:=an7.2 h;rw[this];simp only[anL,anW];unfold rR;by_cases h2:t=k
   ·subst h2;have:¬t=s:=fun hh=>h hh.symm;simp[this]
   ·have h3:(t==k)=false:=an7.2 h2;rw[h3];simp only[anL,anW];exact ih
def Lp:List Str→List Str→Bool
 | _,[]=>false
 | seen,s::r=>seen.contains s||Lp (seen++[s]) r
theorem ajE(l:List Str)(hl:l.length<4611686018427387904):qR l=some (Lp [] l):=by
 unfold qR;have:=fu (F:=fun k s i=>nU l k i s) (l:=l) (body:=fun _ s1 (y1:List (Str × Int)) r=>if decide (1<(rR (vL y1 s1 (bq ((rR y1 s1)+1))) s1))then some true else r (vL y1 s1 (bq ((rR y1 s1)+1)))) (fin:=fun _=>some false) hl (fun k s i=>rfl) [];rw[this]
 have key:∀(t:List Str) (i:Nat) (y:List (Str × Int)) (seen:List Str),(∀s,rR y s=if s∈seen then 1 else 0)→
   eX (fun _ s1 (y1:List (Str × Int)) r=>if decide (1<(rR (vL y1 s1 (bq ((rR y1 s1)+1))) s1))then some true else r (vL y1 s1 (bq ((rR y1 s1)+1)))) (fun _=>some false) i t y=some (Lp seen t):=by
  intro t
  induction t with
  | nil=>intro i y seen _;rfl
  | cons c t ih=>
   intro i y seen hy;rw[eX,Lp,Ir,anN rfl,hy c];by_cases hc:c∈seen
   ·have:bq 2=2:=by decide
    simp[hc,this]
   ·have:bq ((0:Int)+1)=1:=by decide
    simp only[hc,anW,this];have e:seen.contains c=false:=by simpa using hc
    rw[e];simp only[Int.lt_irrefl,aoO,anL,anW,ao2];refine ih (i+1) _ (seen++[c]) fun s=>?_;rw[Ir,hy s];by_cases h1:s=c
    ·subst h1;simp
    ·simp[h1]
 exact key l 0 [] [] (fun s=>by simp[rR])
theorem Wu(l:List Str)(i:Nat)(hi:i<l.length)(hl:l.length<4611686018427387904)(go:Int→Option Bool):∀(k j:Nat),i<k+j→j≤i→
  AZ l (i:Int) go k (j:Int)=if ((l.take i).drop j).contains l[i]then some true else go ((i+1:Nat):Int)
 | 0,j,h,h'=>by omega
 | k+1,j,h,h'=>by
  rw[AZ];by_cases hj:j<i
  ·have hlt:j<(l.take i).length:=by simp;omega
   rw[anN (by simpa using hj),gK hi,gK (by omega),an0 hlt];simp only[aj,List.contains_cons,List.getElem_take];cases h1:(l[i]==l[j])with
   | true=>simp
   | false=>
    simp only[anL,anW,ao2];rw[iG (by omega)];exact Wu l i hi hl go k (j+1) (by omega) (by omega)
  ·have:j=i:=by omega
   subst this;rw[anG (by simp),iG (by omega)];have:(List.take j l).drop j=[]:=aob (by simp;omega);rw[this];simp
theorem SS(l:List Str)(hl:l.length<4611686018427387904):∀(k i:Nat),l.length<k+i→i≤l.length→xE l k (i:Int)=some (Lp (l.take i) (l.drop i))
 | 0,i,h,h'=>by omega
 | k+1,i,h,h'=>by
  rw[xE];by_cases hi:i<l.length
  ·rw[anN (by simpa using hi),an0 hi,Lp];have:=Wu l i hi hl (xE l k) BIG 0 (by have:=dX;omega) (by omega);rw[show (0:Int)=((0:Nat):Int)from rfl,this,aoV,SS l hl k (i+1) (by omega) (by omega)];have e:List.take (i+1) l=List.take i l++[l[i]]:=by rw[List.take_add_one,an6 hi];rfl
   rw[e];cases (l.take i).contains l[i]<;>simp
  ·have:i=l.length:=by omega
   subst this;simp[Lp]
theorem adL(l:List Str)(hl:l.length<4611686018427387904):Ma l=some (Lp [] l):=by
 have:=SS l hl BIG 0 (by have:=dX;omega) (by omega);simpa[Ma]using this
def zK(e:au)(level:Nat):Int:=
 if 16<level then 13 else if !vZ e then 1 else if e.kind==1&&(uw e.value 1 !=0)then uw e.value 1 else if decide (1024<(e.args.length:Int))then 3 else if Lp [] e.keys then 7 else 0
theorem aed(e:au)(h:e.bulk<4611686018427387904)(level:Nat):zW e (level:Int)=some (zK e level):=by
 have hk:=IG e;have hv:=G_ e;unfold zW zK;have h16:decide ((16:Int)<(level:Int))=decide (16<level):=by congr 1;simp;omega
 rw[h16,zero_eq,(Xm e h).1,aj5 e h,DT (by omega),ajE e.keys (by omega)];by_cases h0:16<level
 ·simp[h0]
 ·simp only[h0,aoO,anL,anW,aj];have hkd:((decide (e.kind<1))||(decide (10<e.kind)))=!Cj e:=by simp[Cj]
  have hne:(e.kind !=1)=!(e.kind==1):=rfl;rw[hkd,hne];unfold vZ;cases h1:Cj e with
  | false=>simp
  | true=>
   rw[akx e h1]
   cases h3:(e.kind==1)<;>cases h4:Nl e.value<;>cases h5:Cy e<;>cases h6:vw e<;>cases h7:Ht e<;>simp <;>
    (first|done|(split<;>(first|rfl|(split<;>(first|rfl|(split<;>rfl))))))
end Go.Ft
namespace Go.Ft
open Go
attribute [local congr] fD
mutual
def FM:au→Nat→Int
 | ⟨a,b,c,l,f⟩,level=>if zK ⟨a,b,c,l,f⟩ level !=0 then zK ⟨a,b,c,l,f⟩ level else Kk l (level+1)
def Kk:List au→Nat→Int
 | [],_=>0
 | x::r,level=>if FM x level !=0 then FM x level else Kk r level
end
theorem Ou(e:au)(level:Nat):FM e level=if zK e level !=0 then zK e level else Kk e.args (level+1):=by cases e;rw[FM]
theorem Ju{go:au→Int→Option Int}{level:Nat}:∀(l:List au) (i:Nat),(∀x∈l,go x ((level+1:Nat):Int)=some (FM x (level+1)))→
  eX (fun _ e1 (_:Unit) r=>av (go e1 ((level+1:Nat):Int)) fun e2=>if e2 !=0 then some e2 else r ()) (fun _=>some 0) i l ()=some (Kk l (level+1))
 | [],i,_=>by simp[eX,Kk]
 | x::r,i,h=>by
  rw[eX,h x (by simp),Kk];simp only[aj];rw[Ju r (i+1) (fun y hy=>h y (by simp[hy]))];split<;>rfl
theorem O0:∀(n:Nat) (e:au) (level:Nat),e.bulk≤n→e.bulk<4611686018427387904→level≤17→nT (n+1) e (level:Int)=some (FM e level)∧wS (n+1) e (level:Int)=some (FM e level)
 | 0,e,_,h,_,_=>by have:=e.lg;omega
 | n+1,e,level,h,hB,hlv=>by
  have hl:=Ue e;have hv:=G_ e;have hks:=IG e;have hw:bq ((level:Int)+1)=((level+1:Nat):Int):=iG (by omega);constructor
  ·rw[Ou];unfold nT xG;have:=fu (F:=fun k (_:Unit) i=>qQ (nT (n+1)) e (level:Int) k i) (l:=e.args) (body:=fun _ e1 _ r=>av (nT (n+1) e1 ((level+1:Nat):Int)) fun e2=>if e2 !=0 then some e2 else r ()) (fin:=fun _=>some 0) (by omega) (fun k s i=>by rw[←hw];rfl) ();rw[aed e hB,this];simp only[aj];by_cases h0:zK e level=0
   ·have anR:level≤16:=by
     rcases aoD 16 level with h|h
     ·unfold zK at h0;simp[h]at h0
     ·exact h
    rw[Ju e.args 0 fun x hx=>(O0 n x (level+1) (by have:=lG hx;omega) (by have:=lG hx;omega) (by omega)).1];simp[h0]
   ·simp[h0]
  ·rw[Ou];unfold wS Nz;have:=fu (F:=fun k (_:Unit) i=>EJ (wS (n+1)) e (level:Int) k i) (l:=e.args) (body:=fun _ e1 _ r=>av (wS (n+1) e1 ((level+1:Nat):Int)) fun e2=>if e2 !=0 then some e2 else r ()) (fin:=fun _=>some 0) (by omega) (fun k s i=>by rw[←hw];rfl) ();have h16:decide ((16:Int)<(level:Int))=decide (16<level):=by congr 1;simp;omega
   rw[acv e hB,YH (by omega),adL e.keys (by omega),this,h16];by_cases h0:16<level
   ·simp[zK,h0]
   ·rw[Ju e.args 0 fun x hx=>(O0 n x (level+1) (by have:=lG hx;omega) (by have:=lG hx;omega) (by omega)).2];unfold zK;simp only[h0,aoO,anL,anW,aj];cases vZ e with
    | false=>simp
    | true=>
     simp only[aot,anL,anW];cases h1:(e.kind==1&&(uw e.value 1 !=0))with
     | true=>
      have:uw e.value 1≠0:=by simp at h1;exact h1.2
      simp[this]
     | false=>
      simp only[anL,anW];by_cases h2:(1024:Int)<(e.args.length:Int)
      ·simp[h2]
      ·simp only[h2,aoO,anL,anW];cases Lp [] e.keys<;>simp
def xval(e:au):Int:=if 4096<ecnt e then 15 else FM e 1
theorem Ut{e:au}(h:e.bulk<4611686018427387904):lN e=some (xval e)∧Me e=some (xval e):=by
 obtain⟨n,hn,hn2⟩:=pJ;obtain⟨c1,c2⟩:=count_eq h;obtain⟨v1,v2⟩:=O0 n e 1 (by omega) h (by omega);unfold lN Me xval ES TI;rw[c1,c2,hn];have:decide ((4096:Int)<(ecnt e:Int))=decide (4096<ecnt e):=by congr 1;simp;omega
 simp only[aj,this];rw[show (1:Int)=((1:Nat):Int)from rfl,v1,v2];by_cases h4:4096<ecnt e<;>simp[h4]
inductive Ty where
 | leaf (k:Int)
 | nest (k:Int) (t:Ty)
namespace Ty
def api:Ty→ni
 | leaf k=>⟨k,[]⟩
 | nest k t=>⟨k,[t.api]⟩
def wf:Ty→Prop
 | leaf k=>0≤k∧k≤7∧k≠5∧k≠6
 | nest k t=>(k=5∨k=6)∧t.wf
def dep:Ty→Nat
 | leaf _=>1
 | nest _ t=>1+t.dep
def kind:Ty→Int
 | leaf k=>k
 | nest k _=>k
theorem amT(t:Ty):t.api.kind=t.kind:=by cases t<;>rfl
theorem aa8(t:Ty):1≤t.dep:=by cases t<;>simp[dep]<;>omega
end Ty
theorem Qe{k:Int}(h:0≤k∧k≤7):∃s,CX k=some s∧(s==([]:Str))=false:=by
 obtain⟨n,rfl⟩:∃n:Nat,k=n:=⟨k.toNat,by omega⟩;have hn:n<8:=by omega
 match n,hn with
 | 0,_=>exact⟨_,rfl,rfl⟩
 | 1,_=>exact⟨_,rfl,rfl⟩
 | 2,_=>exact⟨_,rfl,rfl⟩
 | 3,_=>exact⟨_,rfl,rfl⟩
 | 4,_=>exact⟨_,rfl,rfl⟩
 | 5,_=>exact⟨_,rfl,rfl⟩
 | 6,_=>exact⟨_,rfl,rfl⟩
 | 7,_=>exact⟨_,rfl,rfl⟩
theorem aeA{k:Int}(h:¬(0≤k∧k≤7)):CX k=some []:=by
 unfold CX;rw[anN (by simp;omega)]
theorem adM:∀(k level:Nat) (t:ni),18≤k+level→level≤17→∃c,mI k (level:Int) t=some c∧Da k t (level:Int)=some c∧(c=0→∃T:Ty,T.wf∧t=T.api∧T.dep+level≤17)
 | 0,level,t,h,h'=>by omega
 | k+1,level,t,h,h'=>by
  rw[mI,Da,ND];have h16:decide ((16:Int)<(level:Int))=decide (16<level):=by congr 1;simp;omega
  rw[h16];by_cases h0:16<level
  ·exact⟨13,by simp[h0],by simp[h0],by simp⟩
  ·simp only[h0,aoO,anL,anW];by_cases hk:0≤t.kind∧t.kind≤7
   ·obtain⟨s,hs,hs2⟩:=Qe hk;have hb:(decide (t.kind<0)||decide (7<t.kind))=false:=by simp;omega
    rw[hs,hb];simp only[aj,hs2,rC,TJ,anL,anW];cases hn:((t.kind==5)||(t.kind==6))with
    | false=>
     simp only[aoY,aoC,aoU,anL,anW,aj,anX];cases he:t.elem with
     | nil=>
      refine⟨0,by simp,by simp,fun _=>⟨.leaf t.kind,?_,?_,?_⟩⟩
      ·simp at hn;exact⟨hk.1,hk.2,hn.1,hn.2⟩
      ·cases t;simp at he;subst he;rfl
      ·simp only[Ty.dep];omega
     | cons x r=>exact⟨1,by first|(simp;done)|(simp;omega),by first|(simp;done)|(simp;omega),by simp⟩
    | true=>
     simp only[aoU,aot,aoY,anL,anW];have hnk:t.kind=5∨t.kind=6:=by simpa using hn
     match he:t.elem with
     | []=>exact⟨1,by simp,by simp,by simp⟩
     | [x]=>
      obtain⟨c,c1,c2,c3⟩:=adM k (level+1) x (by omega) (by omega);have hw:bq ((level:Int)+1)=((level+1:Nat):Int):=iG (by omega);refine⟨c,?_,?_,fun hc=>?_⟩
      ·rw[hw,←c1];simp[idx]
      ·rw[hw,←c2];simp[idx]
      ·obtain⟨T,w1,w2,w3⟩:=c3 hc;refine⟨.nest t.kind T,⟨hnk,w1⟩,?_,?_⟩
       ·cases t;simp at he;subst he;simp[Ty.api,w2]
       ·simp only[Ty.dep];omega
     | x::y::r=>
      have hl:(((x::y::r).length:Int) !=1)=true:=by simp only[an5,aoF];omega
      exact⟨1,by simp only[hl,anX,aj],by simp only[hl,anX],by simp⟩
   ·have hb:(decide (t.kind<0)||decide (7<t.kind))=true:=by simp;omega
    rw[aeA hk,hb];exact⟨1,by simp,by simp,by simp⟩
theorem aiv:∀(T:Ty) (k level:Nat),T.wf→T.dep+level≤17→18≤k+level→mI k (level:Int) T.api=some 0
 | .leaf a,0,level,_,h,h'=>by simp only[Ty.dep]at h;omega
 | .leaf a,k+1,level,hw,h,h'=>by
  simp only[Ty.dep]at h;have h16:decide ((16:Int)<(level:Int))=false:=aoG (by omega);obtain⟨s,hs,hs2⟩:=Qe (k:=a) ⟨hw.1,hw.2.1⟩;have hn:((a==5)||(a==6))=false:=by simp;exact⟨hw.2.2.1,hw.2.2.2⟩
  simp[mI,h16,Ty.api,hs,an7.1 hs2,rC,hn]
 | .nest a T,0,level,_,h,h'=>by simp only[Ty.dep]at h;have:=T.aa8;omega
 | .nest a T,k+1,level,hw,h,h'=>by
  simp only[Ty.dep]at h;have hd:=T.aa8;have h16:decide ((16:Int)<(level:Int))=false:=aoG (by omega);have hn:((a==5)||(a==6))=true:=by simpa using hw.1
  obtain⟨s,hs,hs2⟩:=Qe (k:=a) (by rcases hw.1 with h|h<;>omega);have hw64:bq ((level:Int)+1)=((level+1:Nat):Int):=iG (by omega);have:=aiv T k (level+1) hw.2 (by omega) (by omega);rw[←this,←hw64];simp[mI,h16,Ty.api,hs,an7.1 hs2,rC,hn,idx]
def YQ(t:ni):Int:=(AJ t).getD 0
theorem agT(t:ni):AJ t=some (YQ t)∧Mi t=some (YQ t)∧(YQ t=0→∃T:Ty,T.wf∧t=T.api∧T.dep≤16):=by
 obtain⟨c,c1,c2,c3⟩:=adM BIG 1 t (by have:=dX;omega) (by omega);have e1:AJ t=some c:=c1;have e2:Mi t=some c:=c2;have:YQ t=c:=by unfold YQ;rw[e1];rfl
 rw[this];exact⟨e1,e2,fun h=>by obtain⟨T,a,b,d⟩:=c3 h;exact⟨T,a,b,by omega⟩⟩
theorem agS{T:Ty}(h:T.wf)(hd:T.dep≤16):YQ T.api=0:=by
 have:=aiv T BIG 1 h (by omega) (by have:=dX;omega);have e1:AJ T.api=some 0:=this;unfold YQ;rw[e1];rfl
end Go.Ft
namespace Go.Ft
open Go
attribute [local congr] fD
def ZT:ni:=ni.mk 0 []
def sc(k:Int):Ty:=.leaf k
def amA(x:Option (ni × Bool)):Option (ni × Int):=
 eD x fun x6 ok1=>if !ok1 then some (ZT,9)else av (Mi x6) fun x7=>if x7 !=0 then some (ZT,13)else some (x6,0)
def RES(x y:Option (ni × Int)):Prop:=∃(T:Ty) (c:Int),T.wf∧T.dep≤16∧(c≠0→T=sc 0)∧x=some (T.api,c)∧y=some (T.api,c)
theorem RES.mk{x:Option (ni × Int)}{y:Option (ni × Bool)}(T:Ty)(b:Bool)(hx:x=some (if b then (T.api,0)else (ZT,9)))(hy:y=some (T.api,b))(hw:b=true→T.wf∧T.dep≤16):RES x (amA y):=by
 subst hx hy;unfold amA;cases b with
 | false=>exact⟨sc 0,9,by simp[sc,Ty.wf],by simp[sc,Ty.dep],fun _=>rfl,rfl,rfl⟩
 | true=>
  obtain⟨h1,h2⟩:=hw rfl;refine⟨T,0,h1,h2,fun h=>absurd rfl h,rfl,?_⟩;simp only[aB,aot,anL,anW,(agT _).2.1,agS h1 h2];rfl
end Go.Ft
namespace Go.Ft
open Go
attribute [local congr] fD
def opsL:List Str:=[[38,38],[124,124],[61,61],[33,61],[60],[60,61],[62],[62,61],[45],[42],[47],[37],[43]]
theorem YU{s:Str}(h:0<EB s):s∈opsL:=by
 unfold EB g_ at h;unfold opsL;by_cases h1:s=[124,124]
 ·simp[h1]
 by_cases h2:s=[38,38]
 ·simp[h2]
 by_cases h3:s=[61,61]
 ·simp[h3]
 by_cases h4:s=[33,61]
 ·simp[h4]
 by_cases h5:s=[60]
 ·simp[h5]
 by_cases h6:s=[60,61]
 ·simp[h6]
 by_cases h7:s=[62]
 ·simp[h7]
 by_cases h8:s=[62,61]
 ·simp[h8]
 by_cases h9:s=[43]
 ·simp[h9]
 by_cases h10:s=[45]
 ·simp[h10]
 by_cases h11:s=[42]
 ·simp[h11]
 by_cases h12:s=[47]
 ·simp[h12]
 by_cases MN:s=[37]
 ·simp[MN]
 simp[h1,h2,h3,h4,h5,h6,h7,h8,h9,h10,h11,h12,MN]at h
end Go.Ft
namespace Go.Ft
open Go
attribute [local congr] fD
theorem aeT(p q:Bool):(if p=true then some true else some q)=some (p||q):=by cases p<;>rfl
theorem OL(p q:Bool):(if p=true then some q else some false)=some (p&&q):=by cases p<;>rfl
end Go.Ft
namespace Go.Ft
open Go
attribute [local congr] fD
theorem YE{v:ah}{level:Nat}(h:lV v level=0):level≤16∧0≤v.kind∧v.kind≤5∧(v.kind=4∨v.kind=5→v.aN=[]→level≠16):=by
 unfold lV at h;by_cases h0:16<level
 ·simp[h0]at h
 ·rw[anG h0]at h;cases h1:(decide (v.kind<0)||decide (5<v.kind)||!pK v)with
  | true=>rw[h1]at h;simp at h
  | false=>
   rw[h1]at h;simp only[aoE,aoz]at h1;refine⟨by omega,by omega,by omega,fun hk hl h16=>?_⟩
   have e1:((((v.kind==4)||(v.kind==5))&&((v.aN.length:Int)==0))&&(level==16))=true:=by
    rw[hl,h16];rcases hk with hk|hk<;>simp[hk]
   rw[e1]at h;simp only[anL,anW,anX]at h;split at h
   ·omega
   ·split at h
    ·omega
    ·split at h<;>omega
theorem SN:∀ {l:List ah} {level:Nat},Au l level=0→∀x∈l,uw x level=0
 | [],_,_,x,hx=>by cases hx
 | y::r,level,h,x,hx=>by
  rw[Au]at h;by_cases hy:uw y level=0
  ·rw[anG (by simpa using hy)]at h;rcases aoJ.1 hx with rfl|hx
   ·exact hy
   ·exact SN h x hx
  ·rw[anN (by simpa using hy)]at h;exact absurd h hy
theorem aby{v:ah}{level:Nat}(h:uw v level=0):lV v level=0∧∀x∈v.aN,uw x (level+1)=0:=by
 rw[Ku]at h;by_cases hn:lV v level=0
 ·rw[anG (by simpa using hn)]at h;exact⟨hn,SN h⟩
 ·rw[anN (by simpa using hn)]at h;exact absurd h hn
theorem ahh{s:Str}(h:s.length<4611686018427387000):lN (au.mk 2 s (ah.mk 0 false 0 ([]:Str) [] []) [] [])=some (if jv s then 0 else 1):=by
 have hb:(au.mk 2 s (ah.mk 0 false 0 ([]:Str) [] []) [] []).bulk<4611686018427387904:=by
  simp only[au.bulk,ah.bulk,ah.mq,au.mq,apd,List.sum_nil,aoS];omega
 rw[(Ut hb).1];have e1:ecnt (au.mk 2 s (ah.mk 0 false 0 ([]:Str) [] []) [] [])=1:=by rw[Dp];rfl
 unfold xval;rw[e1,Ou]
 have e2:vZ (au.mk 2 s (ah.mk 0 false 0 ([]:Str) [] []) [] [])=jv s:=by
  have:Nl (ah.mk 0 false 0 ([]:Str) [] [])=true:=rfl;simp[vZ,Cj,this,Cy,vw,Ht]
 have e3:zK (au.mk 2 s (ah.mk 0 false 0 ([]:Str) [] []) [] []) 1=if jv s then 0 else 1:=by
  unfold zK;rw[e2];cases jv s<;>simp[Lp]
 rw[e3];cases jv s<;>simp[Kk]
end Go.Ft
namespace Go.Ft
open Go
attribute [local congr] fD
theorem SG:∀ {l:List au} {level:Nat},Kk l level=0→∀x∈l,FM x level=0
 | [],_,_,x,hx=>by cases hx
 | y::r,level,h,x,hx=>by
  rw[Kk]at h;by_cases hy:FM y level=0
  ·rw[anG (by simpa using hy)]at h;rcases aoJ.1 hx with rfl|hx
   ·exact hy
   ·exact SG h x hx
  ·rw[anN (by simpa using hy)]at h;exact absurd h hy
theorem Yz{e:au}{level:Nat}(h:zK e level=0):vZ e=true∧(e.kind=1→uw e.value 1=0)∧e.args.length≤1024:=by
 unfold zK at h;split at h
 ·omega
 ·cases h1:vZ e with
  | false=>rw[h1]at h;simp at h
  | true=>
   rw[h1]at h;simp only[aot,anL,anW]at h;by_cases h2:(e.kind==1&&(uw e.value 1 !=0))=true
   ·rw[anN h2]at h;simp[h]at h2
   ·rw[anG h2]at h;refine⟨rfl,fun hk=>?_,?_⟩
    ·simp only[an_,aoi,aoF,not_and]at h2;have:=h2 hk;simpa using this
    ·split at h
     ·omega
     ·rename_i h3;simp only[anZ]at h3;omega
theorem abu{e:au}{level:Nat}(h:FM e level=0):zK e level=0∧∀x∈e.args,FM x (level+1)=0:=by
 rw[Ou]at h;by_cases hn:zK e level=0
 ·rw[anG (by simpa using hn)]at h;exact⟨hn,SG h⟩
 ·rw[anN (by simpa using hn)]at h;exact absurd h hn
theorem Vu{e:au}(h:vZ e=true):Cj e=true∧Cy e=true∧vw e=true:=by
 unfold vZ at h;simp only[an_]at h;exact⟨h.1.1.1.1,h.1.1.2,h.1.2⟩
theorem len1{α:Type}{l:List α}(h:l.length=1):∃a,l=[a]:=by
 match l,h with
 | [a],_=>exact⟨a,rfl⟩
theorem len2{α:Type}{l:List α}(h:l.length=2):∃a b,l=[a,b]:=by
 match l,h with
 | [a,b],_=>exact⟨a,b,rfl⟩
theorem anE{α:Type}{l:List α}(h:l.length=3):∃a b c,l=[a,b,c]:=by
 match l,h with
 | [a,b,c],_=>exact⟨a,b,c,rfl⟩
end Go.Ft
namespace Go.Ft
open Go
attribute [local congr] fD
theorem abt{e:au}(h:xval e=0):FM e 1=0:=by
 unfold xval at h;split at h
 ·cases h
 ·exact h
end Go.Ft
namespace Go.Ft
open Go
attribute [local congr] fD
def ZV:ah:=ah.mk 0 false 0 ([]:Str) [] []
theorem akA(level:Nat)(h:level≤16):uw ZV level=0:=by
 have h0:lV ZV level=0:=by
  unfold lV;rw[anG (by omega)];simp[ZV,pK]
 rw[Ku,h0];simp[ZV,Au]
theorem abp:ZV.bulk=7:=by unfold ZV ah.bulk ah.mq;simp
theorem J6{go:ah→Option ah}{R:Type}{fin:ah→Option R}:∀(l:List ah) (i:Nat) (out:ah),(∀x∈l,go x=some x)→out.aN.length+l.length≤w9→
  eX (fun _ x (out:ah) r=>av (go x) fun x3=>av (app out.aN [x3]) fun x4=>r (ah.mk out.kind out.dR out.dS out.bR x4 out.keys)) fin i l out
   =fin (ah.mk out.kind out.dR out.dS out.bR (out.aN++l) out.keys)
 | [],i,out,_,_=>by cases out;simp[eX]
 | x::l,i,out,h,hl=>by
  simp only[an5]at hl;rw[eX,h x (by simp),aj,aT (by simp;omega),aj];refine(J6 l (i+1) _ (fun y hy=>h y (by simp[hy])) (by simp;omega)).trans ?_;simp
theorem Wh{S:ah→Prop}(hS:∀v,S v→v.aN.length≤w9∧v.keys.length≤w9∧∀x∈v.aN,S x):∀(n:Nat) (v:ah),v.bulk≤n→v.bulk<4611686018427387904→S v→nk (n+1) v=some v∧pq (n+1) v=some v
 | 0,v,h,_,_=>by have:=v.lg;omega
 | n+1,v,h,hb,hs=>by
  obtain⟨hl,hk,hm⟩:=hS v hs;have ih:∀x∈v.aN,nk (n+1) x=some x∧pq (n+1) x=some x:=fun x hx=>Wh hS n x (by have:=ig hx;omega) (by have:=ig hx;omega) (hm x hx);have hL:w9=4294967296:=rfl;constructor
  ·rw[nk,zu,gH,aT (by simp;omega),aj];rw[fu (F:=fun k s i=>sN (nk (n+1)) v k i s) (l:=v.aN) (body:=fun _ x (out:ah) r=>av (nk (n+1) x) fun x3=>av (app out.aN [x3]) fun x4=>r (ah.mk out.kind out.dR out.dS out.bR x4 out.keys)) (fin:=fun out=>some out) (by omega) (fun k s i=>rfl)];rw[J6 v.aN 0 _ (fun x hx=>(ih x hx).1) (by simp;omega)];cases v;simp
  ·rw[pq,Bu];rw[fu (F:=fun k s i=>vQ (pq (n+1)) v k i s) (l:=v.aN) (body:=fun _ x (out:ah) r=>av (pq (n+1) x) fun x3=>av (app out.aN [x3]) fun x4=>r (ah.mk out.kind out.dR out.dS out.bR x4 out.keys)) (fin:=fun out=>av (app out.keys v.keys) fun x4=>some (ah.mk out.kind out.dR out.dS out.bR out.aN x4)) (by omega) (fun k s i=>rfl)];rw[J6 v.aN 0 _ (fun x hx=>(ih x hx).2) (by simp;omega),aT (by simp;omega)];cases v;simp
theorem Wi{S:ah→Prop}(hS:∀v,S v→v.aN.length≤w9∧v.keys.length≤w9∧∀x∈v.aN,S x){v:ah}(h:S v)(hb:v.bulk<4611686018427387904):lX v=some v∧wJ v=some v:=by
 obtain⟨n,hn,hn2⟩:=pJ;unfold lX wJ;rw[hn];exact Wh hS n v (by omega) hb h
theorem abx{v:ah}(h:v.bulk≤w9):lX v=some v∧wJ v=some v:=
 Wi (S:=fun v=>v.bulk≤w9) (fun v h=>⟨by have:=uq v;omega,by have:=yK v;omega,fun x hx=>by have:=ig hx;omega⟩) h (by have hL:w9=4294967296:=rfl;omega)
def G5:List Str→List ah→Str→Option ah
 | k::ks,x::xs,q=>if k=q then some x else G5 ks xs q
 | _,_,_=>none
theorem XF:∀ {ks:List Str} {xs:List ah} {q:Str} {v:ah},G5 ks xs q=some v→v∈xs
 | k::ks,x::xs,q,v,h=>by
  rw[G5]at h;split at h
  ·cases h;simp
  ·simp[XF h]
 | [],_,_,_,h=>by simp[G5]at h
 | _::_,[],_,_,h=>by simp[G5]at h
theorem XE(ks:List Str)(q:Str):G5 ks [] q=none:=by cases ks<;>rfl
def Sj(v:ah)(q:Str):Option ah:=if v.kind=5 then G5 v.keys v.aN q else none
def ab3:Option ah→ah × Bool
 | some x=>(x,true)
 | none=>(ZV,false)
theorem Px(v:ah)(q:Str)(hv:v.keys.length<4611686018427387904):∀(k i:Nat),v.keys.length<k+i→i≤v.keys.length→EO v q k (i:Int)=some (ab3 (G5 (v.keys.drop i) (v.aN.drop i) q))
 | 0,i,h,h'=>by omega
 | k+1,i,h,h'=>by
  rw[EO];by_cases hi:i<v.keys.length
  ·rw[anN (by simp;omega),gK hi,aj,an0 hi];by_cases hl:i<v.aN.length
   ·rw[an0 hl,G5];by_cases he:v.keys[i]=q
    ·rw[anN (by simpa using he),anN he,anG (by simp;omega),gK hl];rfl
    ·rw[anG (by simpa using he),anG he,iG (by omega),Px v q hv k (i+1) (by omega) (by omega)]
   ·have e0:v.aN.drop i=[]:=aob (by omega);have e1:v.aN.drop (i+1)=[]:=aob (by omega);rw[e0,XE];by_cases he:v.keys[i]=q
    ·rw[anN (by simpa using he),anN (by simp;omega)];rfl
    ·rw[anG (by simpa using he),iG (by omega),Px v q hv k (i+1) (by omega) (by omega),e1,XE]
  ·have:i=v.keys.length:=by omega
   subst this;rw[anG (by simp),List.drop_length];cases v.aN.drop v.keys.length<;>rfl
theorem ahg{v:ah}(hv:v.keys.length<4611686018427387904)(q:Str):UZ v q=some (ab3 (Sj v q)):=by
 unfold UZ Sj;by_cases h:v.kind=5
 ·rw[anG (by simpa using h),anN h];exact Px v q hv BIG 0 (by have:=dX;omega) (by omega)
 ·rw[anN (by simpa using h),anG h];rfl
theorem aco(l:List Str)(q:Str)(hl:l.length<4611686018427387904):∃j:Int,iL l q=some j∧((j=-1∧q∉l)∨∃i:Nat,j=i∧∃h:i<l.length,l[i]=q∧∀k (hk:k<i),l[k]'(by omega)≠q):=by
 unfold iL;rw[fu (F:=fun k (_:Unit) i=>gX l q k i) (l:=l) (body:=fun(i:Nat) e1 (_:Unit) r=>if q==e1 then some (i:Int)else r ()) (fin:=fun _=>some (-1)) hl (fun k s i=>rfl) ()]
 have key:∀(t:List Str) (i:Nat),t=l.drop i→(∀k (hk:k<i) (hl:k<l.length),l[k]≠q)→∃j:Int,eX (fun(i:Nat) e1 (_:Unit) r=>if q==e1 then some (i:Int)else r ()) (fun _=>some (-1)) i t ()=some j∧((j=-1∧q∉l)∨∃i:Nat,j=i∧∃h:i<l.length,l[i]=q∧∀k (hk:k<i),l[k]'(by omega)≠q):=by
  intro t
  induction t with
  | nil=>
   intro i ht hne;refine⟨-1,rfl,.inl ⟨rfl,fun hm=>?_⟩⟩;obtain⟨k,hk,he⟩:=List.mem_iff_getElem.1 hm
   have:l.length≤i:=by
    rcases aoD i l.length with h|h
    ·rw[an0 h]at ht;cases ht
    ·exact h
   exact hne k (by omega) hk he
  | cons d t ih=>
   intro i ht hne
   have hi:i<l.length:=by
    rcases aoD i l.length with h|h
    ·exact h
    ·rw[aob h]at ht;cases ht
   have hc:=an0 hi;rw[←ht]at hc;have e1':=(ao4 hc).1;have e2':=(ao4 hc).2;rw[eX];by_cases he:q=d
   ·rw[anN (by simpa using he)];exact⟨i,rfl,.inr ⟨i,rfl,hi,by rw[←e1',he],fun k hk=>hne k hk (by omega)⟩⟩
   ·rw[anG (by simpa using he)];refine ih (i+1) e2' fun k hk hkl=>?_;by_cases hki:k=i
    ·subst hki;rw[←e1'];exact fun h=>he h.symm
    ·exact hne k (by omega) hkl
 exact key l 0 rfl (fun k hk=>by omega)
theorem aaV:∀(ks:List Str) (xs:List ah) (q:Str) (i:Nat) (h:i<ks.length),ks[i]=q→(∀k (hk:k<i),ks[k]'(by omega)≠q)→G5 ks xs q=xs[i]?
 | [],_,_,i,h,_,_=>by simp at h
 | k::ks,[],q,i,h,_,_=>by simp[G5]
 | k::ks,x::xs,q,0,h,he,_=>by simp at he;simp[G5,he]
 | k::ks,x::xs,q,i+1,h,he,hn=>by
  have h0:=hn 0 (by omega);simp only[List.getElem_cons_zero]at h0;rw[G5,anG h0,List.getElem?_cons_succ];exact aaV ks xs q i (by simpa using h) (by simpa using he) fun k hk=>by have:=hn (k+1) (by omega);simpa using this
theorem XD:∀(ks:List Str) (xs:List ah) (q:Str),q∉ks→G5 ks xs q=none
 | [],_,_,_=>by simp[G5]
 | k::ks,[],q,_=>by simp[G5]
 | k::ks,x::xs,q,h=>by
  simp only[aoJ,not_or]at h;rw[G5,anG (fun e=>h.1 e.symm),XD ks xs q h.2]
theorem ajs{v:ah}(hb:v.bulk<4611686018427387904)(hv:∀x∈v.aN,lX x=some x)(q:Str):yM v q=some (ab3 (Sj v q)):=by
 have hk:=yK v;obtain⟨j,h1,h2⟩:=aco v.keys q (by omega);unfold yM Sj;rw[h1,aj];by_cases h5:v.kind=5
 ·rw[anN h5];rcases h2 with⟨rfl,hn⟩|⟨i,rfl,hi,he,hf⟩
  ·rw[anN (by simp),XD _ _ _ hn];rfl
  ·rw[aaV _ _ _ i hi he hf];by_cases hl:i<v.aN.length
   ·rw[anG (by simp[h5];omega),gK hl,aj,an6 hl,hv _ (aol hl)];rfl
   ·rw[anN (by simp[h5];omega),aoQ (by omega)];rfl
 ·rw[anG h5,anN (by simp[h5])];rfl
end Go.Ft
namespace Go.Ft
open Go
attribute [local congr] fD
def Aa{α:Type}(f:α→α→Int):List α→List α→Int
 | [],[]=>0
 | [],_::_=>-1
 | _::_,[]=>1
 | x::xs,y::ys=>if f x y !=0 then f x y else Aa f xs ys
theorem wh{α:Type}{l t:List α}{d:α}{i:Nat}(h:d::t=l.drop i):∃hi:i<l.length,d=l[i]∧t=l.drop (i+1):=by
 have hi:i<l.length:=by
  rcases aoD i l.length with h'|h'
  ·exact h'
  ·rw[aob h']at h;cases h
 have hc:=an0 hi;rw[←h]at hc;exact⟨hi,(ao4 hc).1,(ao4 hc).2⟩
theorem Bv{α:Type}{l:List α}{i:Nat}(h:[]=l.drop i):l.length≤i:=by
 rcases aoD i l.length with h'|h'
 ·rw[an0 h']at h;cases h
 ·exact h'
theorem MZ{α:Type}{a b:List α}{cmp:α→α→Option Int}{f:α→α→Int}(hc:∀x∈a,∀y∈b,cmp x y=some (f x y)):∀(s t:List α) (i:Nat),s=a.drop i→t=b.drop i→i≤a.length→i≤b.length→
  eX (fun(i:Nat) e1 (_:Unit) r=>if decide ((b.length:Int)≤(i:Int))then some 1 else av (idx b (i:Int)) fun e2=>av (cmp e1 e2) fun c1=>if c1 !=0 then some c1 else r ())
   (fun _=>if decide ((a.length:Int)<(b.length:Int))then some (-1)else some 0) i s ()=some (Aa f s t)
 | [],[],i,hs,ht,_,_=>by
  have h1:=Bv hs;have h2:=Bv ht;rw[eX,Aa,anG (by simp;omega)]
 | [],y::t,i,hs,ht,_,_=>by
  have h1:=Bv hs;obtain⟨h2,_,_⟩:=wh ht;rw[eX,Aa,anN (by simp;omega)]
 | x::s,[],i,hs,ht,_,_=>by
  have h2:=Bv ht;rw[eX,Aa,anN (by simp;omega)]
 | x::s,y::t,i,hs,ht,_,_=>by
  obtain⟨h1,e1,e2⟩:=wh hs;obtain⟨h2,e3,e4⟩:=wh ht;rw[eX,Aa,anG (by simp;omega),gK h2,aj,←e3,hc x (by rw[e1];exact aol h1) y (by rw[e3];exact aol h2),aj];split
  ·rfl
  ·exact MZ hc s t (i+1) e2 e4 (by omega) (by omega)
theorem sign_eq(b:Bool):nR b=some (if b then -1 else 1):=by unfold nR;cases b<;>rfl
theorem QW{α:Type}{a b:List α}{cmp:α→α→Option Int}{f:α→α→Int}{g:Int→Option Int}(hg:∀x∈a,∀y∈b,g (f x y)=some (f x y))(hc:∀x∈a,∀y∈b,cmp x y=some (f x y))(ha:a.length<4611686018427387904){F:Nat→Int→Option Int}
  (hF:∀k (i:Nat),F (k+1) (i:Int)=if (decide ((i:Int)<(a.length:Int)))&&(decide ((i:Int)<(b.length:Int)))then av (idx a (i:Int)) fun e1=>av (idx b (i:Int)) fun e2=>av (cmp e1 e2) fun c1=>if c1 !=0 then g c1 else F k (bq ((i:Int)+1))
   else if (a.length:Int)==(b.length:Int)then some 0 else nR (decide ((a.length:Int)<(b.length:Int)))):
  ∀(s t:List α) (k i:Nat),s=a.drop i→t=b.drop i→i≤a.length→i≤b.length→a.length<k+i→F k (i:Int)=some (Aa f s t)
 | _,_,0,i,_,_,_,_,h=>by omega
 | [],[],k+1,i,hs,ht,_,_,_=>by
  have h1:=Bv hs;have h2:=Bv ht;rw[hF,Aa,anG (by simp;omega),anN (by simp;omega)]
 | [],y::t,k+1,i,hs,ht,_,_,_=>by
  have h1:=Bv hs;obtain⟨h2,_,_⟩:=wh ht;rw[hF,Aa,anG (by simp;omega),anG (by simp;omega),sign_eq,anN (by simp;omega)]
 | x::s,[],k+1,i,hs,ht,_,_,_=>by
  have h2:=Bv ht;obtain⟨h1,_,_⟩:=wh hs;rw[hF,Aa,anG (by simp;omega),anG (by simp;omega),sign_eq,anG (by simp;omega)]
 | x::s,y::t,k+1,i,hs,ht,_,_,hk=>by
  obtain⟨h1,e1,e2⟩:=wh hs;obtain⟨h2,e3,e4⟩:=wh ht;have hx:x∈a:=by rw[e1];exact aol h1
  have hy:y∈b:=by rw[e3];exact aol h2
  rw[hF,Aa,anN (by simp;omega),gK h1,aj,gK h2,aj,←e1,←e3,hc x hx y hy,aj];split
  ·exact hg x hx y hy
  ·rw[iG (by omega)];exact QW hg hc ha hF s t k (i+1) e2 e4 (by omega) (by omega) (by omega)
mutual
def vo:ah→ah→Int
 | ⟨k,b,n,s,l,ks⟩,y=>
  if sI k y.kind !=0 then sI k y.kind else if k==1 then w_ (!b&&y.dR) (b&&!y.dR)else if k==2 then sI n y.dS else if k==3 then I4 s y.bR else if k==4 then Nn l y.aN
  else if k==5 then (if Aa f_ ks y.keys !=0 then Aa f_ ks y.keys else Nn l y.aN)else 0
def Nn:List ah→List ah→Int
 | [],[]=>0
 | [],_::_=>-1
 | _::_,[]=>1
 | x::xs,y::ys=>if vo x y !=0 then vo x y else Nn xs ys
end
theorem SL:∀l m:List ah,Nn l m=Aa vo l m
 | [],[]=>by rw[Nn,Aa]
 | [],_::_=>by rw[Nn,Aa]
 | _::_,[]=>by rw[Nn,Aa]
 | x::xs,y::ys=>by rw[Nn,Aa,SL xs ys]
theorem aai(x y:ah):vo x y=if sI x.kind y.kind !=0 then sI x.kind y.kind else if x.kind==1 then w_ (!x.dR&&y.dR) (x.dR&&!y.dR)else if x.kind==2 then sI x.dS y.dS else if x.kind==3 then I4 x.bR y.bR else if x.kind==4 then Aa vo x.aN y.aN
  else if x.kind==5 then (if Aa f_ x.keys y.keys !=0 then Aa f_ x.keys y.keys else Aa vo x.aN y.aN)else 0:=by
 cases x;rw[vo,SL]
theorem X0(x y:Int):(if x !=y then nR (decide (x<y))else some 0)=some (sI x y):=by
 unfold sI w_;rw[sign_eq];by_cases h:x=y
 ·subst h;simp
 ·by_cases h2:x<y
  ·simp[h,h2]
  ·have:y<x:=by omega
   simp[h,h2,this]
theorem Xk(x y:Str):(if (f_ x y !=0)=true then nR (decide (f_ x y<0))else some 0)=some (f_ x y):=by
 rw[sign_eq];rcases (show f_ x y=-1∨f_ x y=0∨f_ x y=1 from Qr _ _)with h|h|h<;>simp[h]
theorem YF:∀(n:Nat) (a b:ah),a.bulk≤n→a.bulk<4611686018427387904→b.bulk<4611686018427387904→iK (n+1) a b=some (vo a b)∧∀m,2*n+2≤m→nA m a b=some (vo a b)
 | 0,a,_,h,_,_=>by have:=a.lg;omega
 | n+1,a,b,h,hA,hB=>by
  have hla:=uq a;have hka:=yK a;have hlb:=uq b;have hkb:=yK b
  have ih:∀x∈a.aN,∀y∈b.aN,iK (n+1) x y=some (vo x y)∧∀m,2*n+2≤m→nA m x y=some (vo x y):=
   fun x hx y hy=>YF n x y (by have:=ig hx;omega) (by have:=ig hx;omega) (by have:=ig hy;omega)
  have ks:∀x∈a.keys,x.length<4611686018427387904:=fun x hx=>by have:=Ig hx;omega
  have ks':∀x∈b.keys,x.length<4611686018427387904:=fun x hx=>by have:=Ig hx;omega
  constructor
  ·rw[iK,vW,aai,qM,aj]
   have hL:bD a.aN b.aN (iK (n+1))=some (Aa vo a.aN b.aN):=by
    unfold bD
    rw[fu (F:=fun k (_:Unit) i=>bU a.aN b.aN (iK (n+1)) k i) (l:=a.aN)
     (body:=fun(i:Nat) e1 (_:Unit) r=>if decide ((b.aN.length:Int)≤(i:Int))then some 1 else av (idx b.aN (i:Int)) fun e2=>av (iK (n+1) e1 e2) fun c1=>if c1 !=0 then some c1 else r ())
     (fin:=fun _=>if decide ((a.aN.length:Int)<(b.aN.length:Int))then some (-1)else some 0) (by omega) (fun k s i=>rfl) ()]
    exact MZ (fun x hx y hy=>(ih x hx y hy).1) _ _ 0 rfl rfl (by omega) (by omega)
   have hK:cB a.keys b.keys iC=some (Aa f_ a.keys b.keys):=by
    unfold cB
    rw[fu (F:=fun k (_:Unit) i=>dJ a.keys b.keys iC k i) (l:=a.keys)
     (body:=fun(i:Nat) e1 (_:Unit) r=>if decide ((b.keys.length:Int)≤(i:Int))then some 1 else av (idx b.keys (i:Int)) fun e2=>av (iC e1 e2) fun c1=>if c1 !=0 then some c1 else r ())
     (fin:=fun _=>if decide ((a.keys.length:Int)<(b.keys.length:Int))then some (-1)else some 0) (by omega) (fun k s i=>rfl) ()]
    exact MZ (fun x hx y hy=>Mx (ks x hx) (ks' y hy)) _ _ 0 rfl rfl (by omega) (by omega)
   rw[hL,hK,qM,QU,aj]
   have hb:(av (sM a.dR) fun x1=>av (sM b.dR) fun x2=>cmp_Compare_int x1 x2)=some (w_ (!a.dR&&b.dR) (a.dR&&!b.dR)):=by
    unfold sM;cases a.dR<;>cases b.dR<;>simp[qM,sI]
   rw[hb]
   repeat' split
   all_goals rfl
  ·intro m hm;obtain⟨m,rfl⟩:∃q,m=q+2:=⟨m-2,by omega⟩;rw[nA,Je,aai,Gp,NH]
   have hL:A_ (nA m) a.aN b.aN BIG 0=some (Aa vo a.aN b.aN):=
    QW (g:=some) (fun x hx y hy=>rfl) (fun x hx y hy=>(ih x hx y hy).2 m (by omega)) (by omega) (F:=A_ (nA m) a.aN b.aN) (fun k i=>rfl) _ _ BIG 0 rfl rfl (by omega) (by omega) (by have:=dX;omega)
   have hK:Mk a.keys b.keys=some (Aa f_ a.keys b.keys):=by
    unfold Mk;refine QW (g:=fun c=>if c !=0 then nR (decide (c<0))else some 0) (fun x hx y hy=>Xk x y) (fun x hx y hy=>Qd (ks x hx) (ks' y hy)) (by omega) (F:=A9 a.keys b.keys) (fun k i=>?_) _ _ BIG 0 rfl rfl (by omega) (by omega) (by have:=dX;omega);rw[A9];congr 1;congr 1;funext e1;congr 1;funext e2;congr 1;funext c;by_cases hc:(c !=0)=true
    ·rw[anN hc,anN hc,anN hc]
    ·rw[anG hc,anG hc]
   rw[hL,hK,aj];by_cases hk:a.kind=b.kind
   ·have e1:(a.kind !=b.kind)=false:=by simpa using hk
    have e2:(sI a.kind b.kind !=0)=false:=by simpa using Em.2 hk
    rw[e1,e2];simp only[anL,anW,X0]
    have hb:(if (!(a.dR==b.dR))=true then nR b.dR else some 0)=some (w_ (!a.dR&&b.dR) (a.dR&&!b.dR)):=by
     rw[sign_eq];cases a.dR<;>cases b.dR<;>rfl
    have hs:(if (!(a.bR==b.bR))=true then nR (Go.Op.bytesLess a.bR b.bR)else some 0)=some (I4 a.bR b.bR):=by
     rw[sign_eq];unfold I4 w_;by_cases h:a.bR=b.bR
     ·rw[h];simp[zn]
     ·cases h1:Go.Op.bytesLess a.bR b.bR<;>simp[h]
    rw[hb,hs]
    repeat' split
    all_goals rfl
   ·have e1:(a.kind !=b.kind)=true:=by simpa using hk
    have e2:(sI a.kind b.kind !=0)=true:=by simpa using fun h=>hk (Em.1 h)
    have:=X0 a.kind b.kind;rw[anN e1]at this;rw[anN e1,anN e2,this]
theorem Ki{a b:ah}(hA:a.bulk<4611686018427387904)(hB:b.bulk<4611686018427387904):vH a b=some (vo a b)∧Gu a b=some (vo a b):=by
 obtain⟨n,hn,hn2⟩:=pJ;unfold vH Gu;constructor
 ·rw[hn];exact(YF n a b (by omega) hA hB).1
 ·exact(YF a.bulk a b (aod _) hA hB).2 BIG (by have:=dX;omega)
theorem RA{a b:ah}(hA:a.bulk<4611686018427387904)(hB:b.bulk<4611686018427387904):lY a b=some (vo a b==0)∧D6 a b=some (vo a b==0):=by
 unfold lY D6;rw[(Ki hA hB).1,(Ki hA hB).2];exact⟨rfl,rfl⟩
end Go.Ft
namespace Go.Ft
open Go
attribute [local congr] fD
mutual
def yI:ah→Nat
 | ⟨k,_,_,_,l,_⟩=>if (k==4)||(k==5)then CU l 2 else 1
def CU:List ah→Nat→Nat
 | [],n=>n
 | x::r,n=>CU r (max n (1+yI x))
end
theorem wF(v:ah):yI v=if (v.kind==4)||(v.kind==5)then CU v.aN 2 else 1:=by cases v;rw[yI]
theorem Bj:∀(l:List ah) (n m:Nat),CU l n≤m↔n≤m∧∀x∈l,1+yI x≤m
 | [],n,m=>by simp[CU]
 | x::r,n,m=>by
  rw[CU,Bj r];simp only[aoJ,forall_eq_or_imp,Nat.max_le];exact⟨fun h=>⟨h.1.1,h.1.2,h.2⟩,fun h=>⟨⟨h.1,h.2.1⟩,h.2.2⟩⟩
theorem aaM(l:List ah)(n:Nat):n≤CU l n:=((Bj l n _).1 (aod _)).1
theorem Xu{l:List ah}{n:Nat}{x:ah}(h:x∈l):1+yI x≤CU l n:=((Bj l n _).1 (aod _)).2 x h
theorem Vg(v:ah):1≤yI v:=by
 rw[wF];split
 ·have:=aaM v.aN 2;omega
 ·omega
theorem Xt:∀(n:Nat) (v:ah),v.bulk≤n→yI v≤v.bulk
 | 0,v,h=>by have:=v.lg;omega
 | n+1,v,h=>by
  rw[wF];split
  ·rw[Bj];refine⟨?_,fun x hx=>?_⟩
   ·rw[ah.kW];omega
   ·have:=ig hx;have:=Xt n x (by omega);omega
  ·exact v.lg
theorem Tx{go:ah→Option Int}:∀(l:List ah) (i s:Nat),(∀x∈l,go x=some (yI x:Int))→(∀x∈l,yI x<4611686018427387904)→
  eX (fun _ e1 (n1:Int) r=>av (go e1) fun x1=>r (if n1<(bq (1+x1))then (bq (1+x1))else n1)) (fun n1=>some n1) i l (s:Int)=some (CU l s:Int)
 | [],i,s,_,_=>rfl
 | x::r,i,s,h,hb=>by
  have hx:=hb x (by simp);rw[eX,h x (by simp),aj,CU];have e:bq (1+(yI x:Int))=((1+yI x:Nat):Int):=by rw[qN (by omega)];omega
  rw[e]
  have e2:(if (s:Int)<((1+yI x:Nat):Int)then ((1+yI x:Nat):Int)else (s:Int))=((max s (1+yI x):Nat):Int):=by
   split<;>congr 1<;>omega
  rw[e2];exact Tx r (i+1) _ (fun y hy=>h y (by simp[hy])) (fun y hy=>hb y (by simp[hy]))
theorem ad7:∀(n:Nat) (v:ah),v.bulk≤n→v.bulk<4611686018427387904→uK (n+1) v=some (yI v:Int)
 | 0,v,h,_=>by have:=v.lg;omega
 | n+1,v,h,hb=>by
  have hl:=uq v;rw[uK,KQ,wF];by_cases hk:((v.kind==4)||(v.kind==5))=true
  ·rw[anN hk,anG (by simp at hk⊢;omega)];rw[fu (F:=fun k s i=>DC (uK (n+1)) v k s i) (l:=v.aN) (body:=fun _ e1 (n1:Int) r=>av (uK (n+1) e1) fun x1=>r (if n1<(bq (1+x1))then (bq (1+x1))else n1)) (fin:=fun n1=>some n1) (by omega) (fun k s i=>rfl)];exact Tx v.aN 0 2 (fun x hx=>ad7 n x (by have:=ig hx;omega) (by have:=ig hx;omega)) (fun x hx=>by have:=ig hx;have:=Xt _ x (aod _);omega)
  ·rw[anG hk,anN (by simp at hk⊢;omega)];rfl
theorem Y5{v:ah}(h:v.bulk<4611686018427387904):JI v=some (yI v:Int):=by
 obtain⟨n,hn,hn2⟩:=pJ;unfold JI;rw[hn];exact ad7 n v (by omega) h
mutual
def Wd:ah→Bool
 | ⟨a,b,c,d,l,f⟩=>(lV ⟨a,b,c,d,l,f⟩ 1==0)&&adu l
def adu:List ah→Bool
 | []=>true
 | x::r=>Wd x&&adu r
end
theorem V_:∀l:List ah,adu l=true↔∀x∈l,Wd x=true
 | []=>by simp[adu]
 | x::r=>by simp[adu,V_ r]
theorem xu(v:ah):Wd v=true↔lV v 1=0∧∀x∈v.aN,Wd x=true:=by
 cases v;rw[Wd,an_,V_];simp
theorem SK(v:ah)(level:Nat):lV v level=if 16<level then 13 else if lV v 1≠0 then lV v 1 else if ((((v.kind==4)||(v.kind==5))&&((v.aN.length:Int)==0))&&level==16)=true then 13 else 0:=by
 unfold lV;have e1:((1:Nat)==16)=false:=rfl;rw[e1];generalize ((decide (v.kind<0))||(decide (5<v.kind))||!pK v)=c1;generalize ((decide (v.dS<(-9007199254740992)))||(decide (9007199254740992<v.dS)))=c2;generalize (((decide (4096<(v.bR.length:Int)))||(decide (1024<(v.aN.length:Int))))||(decide (1024<(v.keys.length:Int))))=c3;generalize (v.kind==5&&!(((v.keys.length:Int)==(v.aN.length:Int))&&H7 none v.keys))=c4;generalize ((((v.kind==4)||(v.kind==5))&&((v.aN.length:Int)==0))&&level==16)=c5;by_cases h:16<level
 ·rw[anN h,anN h]
 ·rw[anG h,anG h];cases c1<;>cases c2<;>cases c3<;>cases c4<;>simp
theorem LV{v:ah}(h:lV v 1=0):pK v=true:=by
 unfold lV at h;cases hp:pK v with
 | true=>rfl
 | false=>simp[hp]at h
theorem O9{v:ah}(h:Wd v=true)(hk:((v.kind==4)||(v.kind==5))=false):v.aN=[]:=by
 have hp:=LV ((xu v).1 h).1;unfold pK at hp;simp only[an_,hk,ao2,aoi]at hp;exact aoL (by omega)
theorem SQ:∀(l:List ah) (level:Nat),(∀x∈l,uw x level=if level+yI x≤17 then 0 else 13)→Au l level=if ∀x∈l,level+yI x≤17 then 0 else 13
 | [],level,_=>by simp[Au]
 | x::r,level,h=>by
  rw[Au,h x (by simp),SQ r level fun y hy=>h y (by simp[hy])];by_cases h1:level+yI x≤17
  ·simp[h1]
  ·simp[h1]
theorem Kt:∀(n:Nat) (v:ah) (level:Nat),v.bulk≤n→Wd v=true→1≤level→uw v level=if level+yI v≤17 then 0 else 13
 | 0,v,_,h,_,_=>by have:=v.lg;omega
 | n+1,v,level,h,hv,hl=>by
  obtain⟨h1,h2⟩:=(xu v).1 hv;have hp:=Vg v
  have hn:lV v level=if 16<level then 13 else if ((((v.kind==4)||(v.kind==5))&&((v.aN.length:Int)==0))&&level==16)=true then 13 else 0:=by
   rw[SK,h1];simp
  rw[Ku];by_cases h16:16<level
  ·rw[anN h16]at hn;rw[hn,anN (by simp),anG (by omega)]
  ·rw[anG h16]at hn;rw[SQ v.aN (level+1) fun x hx=>Kt n x (level+1) (by have:=ig hx;omega) (h2 x hx) (by omega)];cases hk:((v.kind==4)||(v.kind==5))with
   | false=>
    have he:=O9 hv hk;rw[hk]at hn;have hl1:yI v=1:=by rw[wF,hk];rfl
    simp only[aoY,anL,anW]at hn;rw[hn,hl1,he,anG (by simp),anN (by simp),anN (by omega)]
   | true=>
    have hl1:yI v=CU v.aN 2:=by rw[wF,hk];rfl
    rw[hk]at hn;simp only[aoU]at hn
    have key:level+CU v.aN 2≤17↔level≤15∧∀x∈v.aN,level+1+yI x≤17:=by
     have:=Bj v.aN 2 (17-level);constructor
     ·intro h;obtain⟨a,b⟩:=this.1 (by omega);exact⟨by omega,fun x hx=>by have:=b x hx;omega⟩
     ·rintro⟨a,b⟩;have:=this.2 ⟨by omega,fun x hx=>by have:=b x hx;omega⟩;omega
    rw[hl1];by_cases he:v.aN=[]
    ·rw[anN (c:=∀x∈v.aN,level+1+yI x≤17) (by simp[he])];by_cases h15:level=16
     ·rw[anN (by simp[he,h15])]at hn;rw[hn,anN (by simp),anG (fun h=>by have:=key.1 h;omega)]
     ·rw[anG (by simp[h15])]at hn;rw[hn,anG (by simp),anN (key.2 ⟨by omega,by simp[he]⟩)]
    ·have hpos:0<v.aN.length:=aoH.2 he;rw[anG (by simp[he])]at hn;rw[hn,anG (by simp)];obtain⟨x,hx⟩:=List.exists_mem_of_ne_nil _ he;have hpx:=Vg x;refine fD (propext (Iff.trans ?_ key.symm));exact⟨fun h=>⟨by have:=h x hx;omega,h⟩,fun h=>h.2⟩
theorem adt:∀(n:Nat) (v:ah) (level:Nat),v.bulk≤n→uw v level=0→Wd v=true
 | 0,v,_,h,_=>by have:=v.lg;omega
 | n+1,v,level,h,hc=>by
  obtain⟨h1,h2⟩:=aby hc;refine(xu v).2 ⟨?_,fun x hx=>adt n x (level+1) (by have:=ig hx;omega) (h2 x hx)⟩;rw[SK]at h1;split at h1
  ·omega
  ·split at h1
   ·exact h1
   ·rename_i hq;exact apO.1 hq
def VV(v:ah):Prop:=Wd v=true∧yI v≤16
theorem Rz(v:ah):uw v 1=0↔VV v:=by
 constructor
 ·intro h;have ho:=adt _ v 1 (aod _) h;refine⟨ho,?_⟩;rw[Kt _ v 1 (aod _) ho (by omega)]at h;split at h
  ·omega
  ·cases h
 ·rintro⟨h1,h2⟩;rw[Kt _ v 1 (aod _) h1 (by omega),anN (by omega)]
theorem VV.mem{v x:ah}(h:VV v)(hx:x∈v.aN):VV x:=by
 refine⟨((xu v).1 h.1).2 x hx,?_⟩;have h2:=h.2;rw[wF]at h2;split at h2
 ·have:=Xu (n:=2) hx;omega
 ·rename_i hk;have:=O9 h.1 (by simpa using hk);rw[this]at hx;cases hx
theorem amX:VV ZV:=(Rz _).1 (akA 1 (by omega))
theorem SI{go:Int→ah→Int→Option (Bool × Int)}{level:Nat}:∀(l:List ah) (i s:Nat),(∀x∈l,∀s:Nat,go (s:Int) x ((level+1:Nat):Int)=some (true,((max s (level+yI x):Nat):Int)))→
  eX (fun _ x1 (s1:Int) r=>eD (go s1 x1 ((level+1:Nat):Int)) fun b1 s2=>if !b1 then some (false,s2)else r s2) (fun s1=>some (true,s1)) i l (s:Int)=some (true,((l.foldl (fun s x=>max s (level+yI x)) s:Nat):Int))
 | [],i,s,_=>rfl
 | x::r,i,s,h=>by
  rw[eX,h x (by simp),aB,anG (by simp)];exact SI r (i+1) _ fun y hy=>h y (by simp[hy])
theorem XH:∀(l:List ah) (level s n:Nat),l.foldl (fun s x=>max s (level+yI x)) (max s (level+n))=max s (level+(CU l (n+1)-1))
 | [],level,s,n=>by simp[CU]
 | x::r,level,s,n=>by
  rw[apv,CU];have e:max (max s (level+n)) (level+yI x)=max s (level+max n (yI x)):=by omega
  rw[e,XH r level s];congr 3;rw[show max n (yI x)+1=max (n+1) (1+yI x)from by omega]
theorem adp:∀(n:Nat) (v:ah) (level s:Nat),v.bulk≤n→v.bulk<4611686018427387904→Wd v=true→1≤level→level+n<4611686018427387904→fQ gL (n+1) (s:Int) v (level:Int)=some (true,((max s (level-1+yI v):Nat):Int))
 | 0,v,_,_,h,_,_,_,_=>by have:=v.lg;omega
 | n+1,v,level,s,h,hB,hv,hl,hn=>by
  have hll:=uq v;obtain⟨h1,h2⟩:=(xu v).1 hv;rw[fQ,uy,gL,aB,anG (by simp)];have hw:bq ((level:Int)+1)=((level+1:Nat):Int):=iG (by omega)
  have ih:∀x∈v.aN,∀s:Nat,fQ gL (n+1) (s:Int) x ((level+1:Nat):Int)=some (true,((max s (level+yI x):Nat):Int)):=fun x hx s=>
   adp n x (level+1) s (by have:=ig hx;omega) (by have:=ig hx;omega) (h2 x hx) (by omega) (by omega)
  have sc:∀s:Nat,kg (fQ gL (n+1)) v (level:Int) BIG (s:Int) 0=some (true,((v.aN.foldl (fun s x=>max s (level+yI x)) s:Nat):Int)):=by
   intro s;rw[fu (F:=fun k s i=>kg (fQ gL (n+1)) v (level:Int) k s i) (l:=v.aN) (body:=fun _ x1 (s1:Int) r=>eD (fQ gL (n+1) s1 x1 ((level+1:Nat):Int)) fun b1 s2=>if !b1 then some (false,s2)else r s2) (fin:=fun s1=>some (true,s1)) (by omega) (fun k s i=>by rw[←hw];rfl)];exact SI v.aN 0 s ih
  unfold qO;rw[hw,wF];cases hk:((v.kind==4)||(v.kind==5))with
  | false=>
   have hnil:=O9 hv hk;simp only[aoY,anL,anW];have e:(if (s:Int)<(level:Int)then (level:Int)else (s:Int))=((max s level:Nat):Int):=by split<;>omega
   rw[e,sc,hnil];simp only[List.foldl_nil];rw[show level-1+1=level from by omega]
  | true=>
   simp only[aoU,anX];by_cases he:v.aN=[]
   ·have q:((v.aN.length:Int)==0)=true:=by simp[he]
    simp only[q,anX];have e:(if (s:Int)<((level+1:Nat):Int)then ((level+1:Nat):Int)else (s:Int))=((max s (level+1):Nat):Int):=by split<;>omega
    rw[e,sc,he];simp only[List.foldl_nil,CU];rw[show level-1+2=level+1 from by omega]
   ·have q:((v.aN.length:Int)==0)=false:=by simp[he]
    simp only[q,anL,anW];have e:(if (s:Int)<(level:Int)then (level:Int)else (s:Int))=((max s (level+0):Nat):Int):=by split<;>omega
    rw[e,sc,XH]
    have hne:∃x r,v.aN=x::r:=by
     cases hc:v.aN with
     | nil=>exact absurd hc he
     | cons x r=>exact⟨x,r,rfl⟩
    obtain⟨x,r,hc⟩:=hne;have hx:=Vg x
    have e2:CU v.aN (0+1)=CU v.aN 2:=by
     rw[hc,CU,CU];congr 1;omega
    rw[e2];have:=aaM v.aN 2;congr 3;omega
theorem YI{v:ah}(h:v.bulk<2305843009213693952)(hv:Wd v=true):xA v=some (yI v:Int):=by
 obtain⟨n,hn,hn2⟩:=pJ;unfold xA BX;have key:=adp v.bulk v 1 0 (aod _) (by omega) hv (by omega) (by omega)
 have mono:∀(k:Nat) (s:Int) (x:ah) (lv:Int) (r:Bool × Int),fQ gL k s x lv=some r→∀m,k≤m→fQ gL m s x lv=some r:=by
  intro k
  induction k with
  | zero=>intro s x lv r h;cases h
  | succ k ih=>
   intro s x lv r h m hm;obtain⟨m,rfl⟩:∃q,m=q+1:=⟨m-1,by omega⟩
   have lp:∀(v:ah) (level:Int) (f:Nat) (s i:Int) (r:Bool × Int),kg (fQ gL k) v level f s i=some r→kg (fQ gL m) v level f s i=some r:=by
    intro v level f
    induction f with
    | zero=>intro s i r h;cases h
    | succ f ihf=>
     intro s i r h;rw[kg]at h⊢;split at h
     ·rename_i hc;rw[anN hc];obtain⟨x,hx,h⟩:=jE h;obtain⟨b,s2,hb,h⟩:=lI h;rw[hx,aj,ih _ _ _ _ hb m (by omega),aB];split at h
      ·rename_i hc2;rw[anN hc2];exact h
      ·rename_i hc2;rw[anG hc2];exact ihf _ _ _ h
     ·rename_i hc;rw[anG hc];exact h
   rw[fQ,uy]at h⊢;obtain⟨b,s2,hb,h⟩:=lI h;rw[hb,aB];split at h
   ·rename_i hc;rw[anN hc];exact h
   ·rename_i hc;rw[anG hc];exact lp _ _ _ _ _ _ h
 have:=mono _ _ _ _ _ key BIG (by have:=dX;omega);rw[show ((0:Nat):Int)=0 from rfl,show ((1:Nat):Int)=1 from rfl]at this;rw[this,aB];simp
theorem kr{v:ah}(h:Wd v=true):v.bR.length≤4096∧v.aN.length≤1024∧v.keys.length≤1024∧-9007199254740992≤v.dS∧v.dS≤9007199254740992:=by
 have h1:=((xu v).1 h).1;unfold lV at h1;rw[anG (by omega)]at h1;split at h1
 ·cases h1
 ·split at h1
  ·cases h1
  ·rename_i h2;split at h1
   ·cases h1
   ·rename_i h3;simp only[aov,anZ,not_or,Int.not_lt]at h2 h3;omega
theorem LW{v:ah}(h:Wd v=true)(hb:v.bulk<4611686018427387904):lX v=some v∧wJ v=some v:=
 Wi (S:=fun v=>Wd v=true) (fun v h=>by
  have:=kr h;have hL:w9=4294967296:=rfl
  exact⟨by omega,by omega,((xu v).1 h).2⟩) h hb
theorem aam{v:ah}(h:Wd v=true)(hb:v.bulk<4611686018427387904)(q:Str):yM v q=some (ab3 (Sj v q)):=
 ajs hb (fun x hx=>(LW (((xu v).1 h).2 x hx) (by have:=ig hx;omega)).1) q
end Go.Ft
namespace Go.Ft
open Go
attribute [local congr] fD
def Zf(b:Bool):ah:=ah.mk 1 b 0 ([]:Str) [] []
def mkI(n:Int):ah:=ah.mk 2 false n ([]:Str) [] []
def mkS(s:Str):ah:=ah.mk 3 false 0 s [] []
def JW(l:List ah):ah:=ah.mk 4 false 0 ([]:Str) l []
def R9(lo hi:UInt8)(DR:Int)(c:UInt8):UInt8:=if (decide ((lo.toNat:Int)≤(c.toNat:Int)))&&(decide ((c.toNat:Int)≤(hi.toNat:Int)))then Ft.byteOf (bq ((c.toNat:Int)+DR))else c
theorem u7{α:Type}{l m:List α}(h:l.length+m.length≤w9):app l m=some (l++m):=aT h
theorem TP{s:Str}(hs:s.length≤w9)(lo hi:UInt8)(DR:Int):wZ s lo hi DR=some (s.map (R9 lo hi DR))∧TH s lo hi DR=some (s.map (R9 lo hi DR)):=by
 have hL:w9=4294967296:=rfl;constructor
 ·unfold wZ
  rw[fu (F:=fun k s1 i=>qp s lo hi DR k i s1) (l:=s) (body:=fun(i:Nat) c (b:Str) r=>
   av (if decide ((lo.toNat:Int)≤(c.toNat:Int))then av (idx s (i:Int)) fun x2=>some (decide ((x2.toNat:Int)≤(hi.toNat:Int)))else some false) fun b2=>
   if b2 then av (idx s (i:Int)) fun x3=>av (app b [(Ft.byteOf (bq ((x3.toNat:Int)+DR)))]) fun b3=>r b3 else av (idx s (i:Int)) fun x4=>av (app b [x4]) fun b4=>r b4) (fin:=fun b=>some b) (by omega) (fun k s i=>rfl)]
  have key:∀(t:Str) (i:Nat) (b:Str),t=s.drop i→b.length+t.length≤w9→eX (fun(i:Nat) c (b:Str) r=>
   av (if decide ((lo.toNat:Int)≤(c.toNat:Int))then av (idx s (i:Int)) fun x2=>some (decide ((x2.toNat:Int)≤(hi.toNat:Int)))else some false) fun b2=>
   if b2 then av (idx s (i:Int)) fun x3=>av (app b [(Ft.byteOf (bq ((x3.toNat:Int)+DR)))]) fun b3=>r b3 else av (idx s (i:Int)) fun x4=>av (app b [x4]) fun b4=>r b4) (fun b=>some b) i t b=some (b++t.map (R9 lo hi DR)):=by
   intro t
   induction t with
   | nil=>intro i b _ _;simp[eX]
   | cons c t ih=>
    intro i b ht hb;obtain⟨hi',e1,e2⟩:=wh ht;simp only[an5]at hb;rw[eX,gK hi',←e1];simp only[aj]
    have hone:(if decide ((lo.toNat:Int)≤(c.toNat:Int))=true then some (decide ((c.toNat:Int)≤(hi.toNat:Int)))else some false)=some ((decide ((lo.toNat:Int)≤(c.toNat:Int)))&&(decide ((c.toNat:Int)≤(hi.toNat:Int)))):=by
     cases decide ((lo.toNat:Int)≤(c.toNat:Int))<;>rfl
    rw[hone,aj,u7 (by simp;omega),u7 (by simp;omega)];simp only[aj,aor];cases hc:((decide ((lo.toNat:Int)≤(c.toNat:Int)))&&(decide ((c.toNat:Int)≤(hi.toNat:Int))))with
    | true=>
     simp only[anX];rw[ih (i+1) _ e2 (by simp;omega),R9,hc];simp
    | false=>
     simp only[anL,anW];rw[ih (i+1) _ e2 (by simp;omega),R9,hc];simp
  have:=key s 0 [] rfl (by simp;omega);simpa using this
 ·unfold TH
  rw[fu (F:=fun k b i=>AV s lo hi DR k b i) (l:=s) (body:=fun(i:Nat) c (b:Str) r=>
   if (decide ((lo.toNat:Int)≤(c.toNat:Int)))&&(decide ((c.toNat:Int)≤(hi.toNat:Int)))then av (app b ([(Ft.byteOf (bq ((c.toNat:Int)+DR)))]:List UInt8)) fun b2=>r b2 else av (app b ([c]:List UInt8)) fun b3=>r b3) (fin:=fun b=>some b) (by omega) (fun k s i=>rfl)]
  have key:∀(t:Str) (i:Nat) (b:Str),b.length+t.length≤w9→eX (fun(i:Nat) c (b:Str) r=>
   if (decide ((lo.toNat:Int)≤(c.toNat:Int)))&&(decide ((c.toNat:Int)≤(hi.toNat:Int)))then av (app b ([(Ft.byteOf (bq ((c.toNat:Int)+DR)))]:List UInt8)) fun b2=>r b2 else av (app b ([c]:List UInt8)) fun b3=>r b3) (fun b=>some b) i t b=some (b++t.map (R9 lo hi DR)):=by
   intro t
   induction t with
   | nil=>intro i b _;simp[eX]
   | cons c t ih=>
    intro i b hb;simp only[an5]at hb;rw[eX,u7 (by simp;omega),u7 (by simp;omega)];simp only[aj,aor];cases hc:((decide ((lo.toNat:Int)≤(c.toNat:Int)))&&(decide ((c.toNat:Int)≤(hi.toNat:Int))))with
    | true=>
     simp only[anX];rw[ih (i+1) _ (by simp;omega),R9,hc];simp
    | false=>
     simp only[anL,anW];rw[ih (i+1) _ (by simp;omega),R9,hc];simp
  have:=key s 0 [] (by simp;omega);simpa using this
theorem Ld:∀(s t:Str),s.length<t.length→kP s t=none
 | [],t,h=>by
  unfold kP;cases t with
  | nil=>simp at h
  | cons c t=>rfl
 | b::l,t,h=>by
  unfold kP;simp only[an5]at h
  have hp:t.isPrefixOf (b::l)=false:=by
   cases hq:t.isPrefixOf (b::l)with
   | false=>rfl
   | true=>
    have:=(aps.1 hq).length_le;simp only[an5]at this;omega
  rw[hp,Ld l t (by omega)];rfl
theorem JY:∀ {s t:Str} {i:Nat},kP s t=some i→i+t.length≤s.length
 | [],t,i,h=>by
  unfold kP at h;split at h
  ·rename_i ht;simp only[aoq]at h;have:t=[]:=by simpa using ht
   subst this;simp;omega
  ·cases h
 | b::l,t,i,h=>by
  unfold kP at h;split at h
  ·rename_i ht;simp only[aoq]at h;have:=(aps.1 ht).length_le;omega
  ·obtain⟨j,hj,rfl⟩:=Option.map_eq_some_iff.1 h;have:=JY hj;simp only[an5];omega
def G7(s t:Str)(k:Nat):Int:=match kP (s.drop k) t with|none=>-1|some i=>((k+i:Nat):Int)
theorem Sb(t s:Str):t.isPrefixOf s=(s.take t.length==t):=by
 rw[ao9,aps,List.prefix_iff_eq_take];simp only[aoi];exact⟨fun h=>h.symm,fun h=>h.symm⟩
theorem XK{s t:Str}(hs:s.length<1152921504606846976)(ht:t.length<1152921504606846976):∀(k i:Nat),s.length<k+i→i≤s.length→C8 s t k (i:Int)=some (G7 s t i)
 | 0,i,h,h'=>by omega
 | k+1,i,h,h'=>by
  rw[C8,qN (by omega)];by_cases hi:i+t.length≤s.length
  ·rw[anN (by simp;omega),bG (by omega) (by omega) (by omega),aj]
   have e:(s.take ((i:Int)+(t.length:Int)).toNat).drop (i:Int).toNat=(s.drop i).take t.length:=by
    rw[apj];congr 1<;>omega
   rw[e,←Sb];by_cases he:i<s.length
   ·have hc:=an0 he;unfold G7;rw[hc,kP];cases hp:t.isPrefixOf (s[i]::s.drop (i+1))with
    | true=>simp
    | false=>
     simp only[anL,anW];rw[iG (by omega),XK hs ht k (i+1) (by omega) (by omega)];unfold G7;cases kP (s.drop (i+1)) t with
     | none=>rfl
     | some j=>simp only[Option.map_some,aoq];omega
   ·have hd:s.drop i=[]:=aob (by omega);have ht0:t=[]:=aoL (by omega);unfold G7;rw[hd,ht0];simp[kP]
  ·rw[anG (by simp;omega)];unfold G7;rw[Ld _ _ (by simp;omega)]
theorem find_eq{s t:Str}(hs:s.length<1152921504606846976)(ht:t.length<1152921504606846976){i:Nat}(hi:i≤s.length):Gi s t (i:Int)=some (G7 s t i):=
 XK hs ht BIG i (by have:=dX;omega) hi
theorem aiT{s t:Str}(hs:s.length<1152921504606846976)(ht:t.length<1152921504606846976):Gi s t 0=some (G7 s t 0):=find_eq hs ht (i:=0) (by omega)
theorem ae7(s t:Str)(k:Nat):decide (0≤G7 s t k)=(kP (s.drop k) t).isSome:=by
 unfold G7;cases kP (s.drop k) t with
 | none=>rfl
 | some i=>simp;omega
theorem Pm(t:Str)(ht:t≠[]):∀(k:Nat) (s:Str),(mR t k s).length≤s.length+1
 | 0,s=>by simp[mR]
 | k+1,s=>by
  rw[mR];cases h:kP s t with
  | none=>simp
  | some i=>
   have:=JY h;have hl:0<t.length:=aoH.2 ht;have ih:=Pm t ht k (s.drop (i+t.length));simp only[an5];simp only[ao5]at ih;omega
theorem Tf{s t:Str}(hs:s.length<1152921504606846976)(ht:t.length<1152921504606846976)(h0:t≠[])(hL:s.length+2≤w9):∀(n k q:Nat) (l:List ah) (i:Nat),s.length-i<n→n≤k→s.length-i<q→i≤s.length→l.length+(s.length-i)+2≤w9→
  AU s t k l (i:Int) (G7 s t i)=yP (JW (l++(mR t q (s.drop i)).map mkS))
 | 0,_,_,_,_,h,_,_,_,_=>by omega
 | n+1,0,_,_,_,h,h',_,_,_=>by omega
 | n+1,k+1,0,_,_,_,_,h,_,_=>by omega
 | n+1,k+1,q+1,l,i,hn,hk,hq,hi,hl=>by
  have hp:0<t.length:=aoH.2 h0;rw[AU,mR];unfold G7;cases hx:kP (s.drop i) t with
  | none=>
   rw[anG (by simp),kS hi];simp only[aj,Im];rw[u7 (by simp;omega),aj];rfl
  | some j=>
   have hf:=JY hx;simp only[ao5]at hf
   have e0:(s.take ((i+j:Nat):Int).toNat).drop (i:Int).toNat=(s.drop i).take j:=by
    rw[apj];congr 1;omega
   have e1:bq (((i+j:Nat):Int)+(t.length:Int))=((i+(j+t.length):Nat):Int):=by rw[qN (by omega)];omega
   simp only;rw[anN (by simp;omega),bG (by omega) (by omega) (by omega),aj,e0,Im,aj,u7 (by simp;omega),aj,e1,find_eq hs ht (by omega),aj];rw[Tf hs ht h0 hL n k q _ (i+(j+t.length)) (by omega) (by omega) (by omega) (by omega) (by simp;omega)];simp[mkS]
theorem ad1{s t:Str}(hL:s.length+2≤w9)(ht:t.length<1152921504606846976)(h0:t≠[]):Il s t=yP (JW ((mR t (s.length+1) s).map mkS)):=by
 have hLL:w9=4294967296:=rfl;unfold Il;rw[anG (by simpa using h0),aiT (by omega) ht,aj];have:=Tf (s:=s) (t:=t) (by omega) ht h0 hL (s.length+1) BIG (s.length+1) [] 0 (by omega) (by have:=dX;omega) (by omega) (by omega) (by simp;omega);simpa using this
theorem Td:∀(l:List Str) (i:Nat) (out:ah),out.aN.length+l.length≤w9→
  eX (fun _ s1 (out:ah) r=>av (lF s1) fun x2=>av (app out.aN [x2]) fun x3=>r (ah.mk out.kind out.dR out.dS out.bR x3 out.keys)) (fun out=>some out) i l out=some (ah.mk out.kind out.dR out.dS out.bR (out.aN++l.map mkS) out.keys)
 | [],i,out,_=>by cases out;simp[eX]
 | s::l,i,out,h=>by
  simp only[an5]at h;rw[eX,lF,aj,u7 (by simp;omega),aj];refine(Td l (i+1) _ (by simp;omega)).trans ?_;simp[mkS]
theorem aat{l:List Str}(h:l.length≤w9):ze l=some (JW (l.map mkS)):=by
 have hLL:w9=4294967296:=rfl;unfold ze;rw[fu (F:=fun k s i=>yc l k i s) (l:=l) (body:=fun _ s1 (out:ah) r=>av (lF s1) fun x2=>av (app out.aN [x2]) fun x3=>r (ah.mk out.kind out.dR out.dS out.bR x3 out.keys)) (fin:=fun out=>some out) (by omega) (fun k s i=>rfl),Td l 0 _ (by simp;omega)];rfl
def preS(s t:Str):Bool:=(decide (t.length≤s.length))&&(s.take t.length==t)
def ag3(s t:Str):Bool:=(decide (t.length≤s.length))&&(s.drop (s.length-t.length)==t)
theorem ag9(s t:Str):(if decide ((t.length:Int)≤(s.length:Int))then av (sl s 0 (t.length:Int)) fun x7=>some (x7==t)else some false)=some (preS s t):=by
 unfold preS;by_cases h:t.length≤s.length
 ·rw[anN (by simp;omega),Pn h,aj];simp[h]
 ·rw[anG (by simp;omega)];simp[h]
theorem ag8{s t:Str}(hs:s.length<1152921504606846976)(ht:t.length<1152921504606846976):(if decide ((t.length:Int)≤(s.length:Int))then av (sl s (bq ((s.length:Int)-(t.length:Int))) (s.length:Int)) fun x9=>some (x9==t)else some false)=some (ag3 s t):=by
 unfold ag3;by_cases h:t.length≤s.length
 ·rw[anN (by simp;omega),qN (by omega),show (s.length:Int)-(t.length:Int)=((s.length-t.length:Nat):Int)from by omega,kS (by omega),aj];simp[h]
 ·rw[anG (by simp;omega)];simp[h]
theorem ahk(s t:Str):strings_HasPrefix s t=some (preS s t):=ag9 s t
theorem ahi{s t:Str}(hs:s.length<1152921504606846976)(ht:t.length<1152921504606846976):strings_HasSuffix s t=some (ag3 s t):=ag8 hs ht
end Go.Ft
namespace Go.Ft
open Go
attribute [local congr] fD
def dg(u:Nat):UInt8:=UInt8.ofNat (48+u)
theorem MV{u:Nat}(h:u<10):(dg u).toNat=48+u:=by
 unfold dg;rw[UInt8.toNat_ofNat',apq (by omega)]
theorem aff{u:Nat}(h:u<10):dh (dg u)=true:=by
 unfold dh;rw[MV h];simp;omega
theorem MU:∀(k m u:Nat),u<10 ^ k→u<10 ^ m→0<k→0<m→rz k u=rz m u
 | 0,_,_,_,_,h,_=>by omega
 | _,0,_,_,_,_,h=>by omega
 | k+1,m+1,u,h,h',_,_=>by
  rw[rz,rz];by_cases hu:u<10
  ·rw[anN hu,anN hu]
  ·rw[anG hu,anG hu]
   have hk:0<k:=by
    rcases apz k with h0|h0
    ·subst h0;omega
    ·exact h0
   have hm:0<m:=by
    rcases apz m with h0|h0
    ·subst h0;omega
    ·exact h0
   rw[MU k m (u/10) (by rw[ape]at h;omega) (by rw[ape]at h';omega) hk hm]
theorem Hu:∀(k u:Nat),u<10 ^ k→0<k→(rz k u).length≤k
 | 0,_,_,h=>by omega
 | k+1,u,h,_=>by
  rw[rz];split
  ·simp
  ·rename_i hu
   have hk:0<k:=by
    rcases apz k with h0|h0
    ·subst h0;omega
    ·exact h0
   have:=Hu k (u/10) (by rw[ape]at h;omega) hk;simp only[apx,apo];omega
theorem E_{u:Nat}(h:u<10):rz 20 u=[dg u]:=by rw[rz,anN h];rfl
theorem Ls{u:Nat}(h:¬u<10)(hb:u<100000000000000000000):rz 20 u=rz 20 (u/10)++[dg (u%10)]:=by
 have e:rz 20 u=rz 19 (u/10)++[dg (u%10)]:=by rw[rz,anG h];rfl
 rw[e,MU 19 20 (u/10) (by have:(10:Nat) ^ 19=10000000000000000000:=(by decide);omega) (by have:(10:Nat) ^ 20=100000000000000000000:=(by decide);omega) (by omega) (by omega)]
attribute [local irreducible] rz
def Wn:Str→Nat→Nat
 | [],acc=>acc
 | c::r,acc=>Wn r (acc*10+(c.toNat-48))
def wo(acc:Nat)(s:Str):Nat:=Wn s acc
theorem zO(acc:Nat):wo acc []=acc:=rfl
theorem nJ(acc:Nat)(c:UInt8)(s:Str):wo acc (c::s)=wo (acc*10+(c.toNat-48)) s:=by simp only[wo,Wn]
theorem Np:∀(s t:Str) (acc:Nat),Wn (s++t) acc=Wn t (Wn s acc)
 | [],t,acc=>rfl
 | c::s,t,acc=>by rw[apc,Wn,Wn,Np s t]
theorem Nq(s t:Str)(acc:Nat):wo acc (s++t)=wo (wo acc s) t:=Np s t acc
theorem aal:∀(s:Str) (acc:Nat),acc≤wo acc s
 | [],acc=>aod _
 | c::s,acc=>by rw[nJ];have:=aal s (acc*10+(c.toNat-48));omega
def acP(s:Str):Prop:=s≠[]∧(∀c∈s,dh c=true)∧(1<s.length→(s.head?.map UInt8.toNat)≠some 48)
theorem vR:∀(n u:Nat),u≤n→u<100000000000000000000→acP (rz 20 u)∧wo 0 (rz 20 u)=u∧(0<u→((rz 20 u).head?.map UInt8.toNat)≠some 48)
 | n,u,h,hb=>by
  by_cases hu:u<10
  ·rw[E_ hu];refine⟨⟨by simp,fun c hc=>?_,fun h=>by simp at h⟩,?_,fun hp=>?_⟩
   ·rw[aoX.1 hc];exact aff hu
   ·simp[nJ,zO,MV hu]
   ·simp[MV hu];omega
  ·match n,h with
   | 0,h=>omega
   | n+1,h=>
    obtain⟨⟨h1,h2,h3⟩,h4,h5⟩:=vR n (u/10) (by omega) (by omega);rw[Ls hu hb]
    have hh:((rz 20 (u/10)++[dg (u%10)]).head?.map UInt8.toNat)=((rz 20 (u/10)).head?.map UInt8.toNat):=by
     cases hd:rz 20 (u/10)with
     | nil=>exact absurd hd h1
     | cons a l=>rfl
    refine⟨⟨by simp,fun c hc=>?_,fun _=>?_⟩,?_,fun _=>?_⟩
    ·rcases aoZ.1 hc with hc|hc
     ·exact h2 c hc
     ·rw[aoX.1 hc];exact aff (by omega)
    ·rw[hh];exact h5 (by omega)
    ·rw[Nq,h4];simp only[nJ,zO,MV (show u%10<10 from by omega)];omega
    ·rw[hh];exact h5 (by omega)
theorem qj{c:UInt8}(h:dh c=true):48≤c.toNat∧c.toNat≤57:=by
 unfold dh at h;simp only[an_,anZ]at h;omega
theorem ai1{c:UInt8}(h:dh c=true):c=dg (c.toNat-48):=by
 have:=qj h;apply aoB.1;rw[MV (by omega)];omega
theorem aak:∀(s:Str) (acc:Nat),(∀c∈s,dh c=true)→wo acc s<(acc+1)*10 ^ s.length
 | [],acc,_=>by simp[zO]
 | c::s,acc,h=>by
  have hc:=qj (h c (by simp));have:=aak s (acc*10+(c.toNat-48)) fun x hx=>h x (by simp[hx]);rw[nJ,an5,ape]
  have e:(acc*10+(c.toNat-48)+1)*10 ^ s.length≤(acc+1)*(10 ^ s.length*10):=by
   rw[apF (10 ^ s.length) 10,←apN];exact aoA _ (by omega)
  omega
theorem Q0:∀(n:Nat) (s:Str),s.length≤n→acP s→s.length≤19→rz 20 (wo 0 s)=s∧(1<s.length→10≤wo 0 s)∧(s.length=1→wo 0 s<10)
 | 0,s,h,hc,_=>by
  have:=aoH.2 hc.1;omega
 | n+1,s,h,⟨h1,h2,h3⟩,h19=>by
  by_cases hl:s.length=1
  ·obtain⟨c,rfl⟩:=len1 hl;have hd:=h2 c (by simp);have hn:=qj hd;have e:wo 0 [c]=c.toNat-48:=by simp[nJ,zO]
   rw[e,E_ (by omega),←ai1 hd];exact⟨rfl,fun h=>by simp at h,fun _=>by omega⟩
  ·have hpos:=aoH.2 h1;have hs:s=s.dropLast++[s.getLast h1]:=(List.dropLast_concat_getLast h1).symm;have hdl:s.dropLast.length=s.length-1:=List.length_dropLast;have hd:=h2 (s.getLast h1) (List.getLast_mem h1);have hn:=qj hd;have hne:s.dropLast≠[]:=fun h=>by rw[h]at hdl;simp at hdl;omega
   have hhd:s.dropLast.head?=s.head?:=by
    cases s with
    | nil=>exact absurd rfl h1
    | cons a l=>cases l with
     | nil=>simp at hl
     | cons b r=>rfl
   have hz:=h3 (by omega);have hcd:acP s.dropLast:=⟨hne,fun c hc=>h2 c ((List.dropLast_sublist s).subset hc),fun _=>by rw[hhd];exact hz⟩;obtain⟨i1,i2,i3⟩:=Q0 n s.dropLast (by omega) hcd (by omega)
   have hv:wo 0 s=wo 0 s.dropLast*10+((s.getLast h1).toNat-48):=by
    conv=>lhs;rw[hs]
    rw[Nq];rfl
   have hp:1≤wo 0 s.dropLast:=by
    by_cases h10:s.dropLast.length=1
    ·obtain⟨a,ha⟩:=len1 h10;have ha1:dh a=true:=h2 a ((List.dropLast_sublist s).subset (by rw[ha];simp));have ha2:=qj ha1;rw[←hhd,ha]at hz;simp only[List.head?_cons,Option.map_some,apl,aoq]at hz;rw[ha];simp only[nJ,zO];omega
    ·have:=i2 (by omega);omega
   have hlt:=aak s 0 h2
   have h20:wo 0 s<100000000000000000000:=by
    have:(10:Nat) ^ s.length≤10 ^ 19:=aph (by omega) h19;have e19:(10:Nat) ^ 19=10000000000000000000:=by decide
    omega
   refine⟨?_,fun _=>by omega,fun h=>absurd h hl⟩;rw[Ls (by omega) h20];have e1:wo 0 s/10=wo 0 s.dropLast:=by omega
   have e2:wo 0 s%10=(s.getLast h1).toNat-48:=by omega
   rw[e1,e2,i1,←ai1 hd];exact hs.symm
theorem Vf:∀(s:Str) (acc:Nat),(∀c∈s,dh c=true)→wo acc s<18446744073709551616→GN acc s=(0,wo acc s)
 | [],acc,_,_=>rfl
 | c::s,acc,h,hb=>by
  have hc:=qj (h c (by simp));have hg:=aal s (acc*10+(c.toNat-48));rw[nJ]at hb⊢;rw[GN,anN hc,anG (by omega),anG (by omega)];exact Vf s _ (fun x hx=>h x (by simp[hx])) hb
theorem Rc{u:Nat}(h:u<9223372036854775808):uj (rz 20 u)=(0,(u:Int)):=by
 obtain⟨⟨h1,h2,h3⟩,h4,h5⟩:=vR u u (aod _) (by omega);cases hd:rz 20 u with
 | nil=>exact absurd hd h1
 | cons c r=>
  rw[hd]at h2 h4;have hc:=qj (h2 c (by simp));unfold uj;have e1:¬(c.toNat=43∨c.toNat=45):=by omega
  have hm:=Vf (c::r) 0 h2 (by omega);rw[h4]at hm;have e45:¬c.toNat=45:=by omega
  have e43:¬c.toNat=43:=by omega
  simp only[e43,e45,or_self,anW,hm,reduceCtorEq];simp;omega
theorem afz{u:Nat}(h:u<9223372036854775808):uj (45::rz 20 u)=(0,-(u:Int)):=by
 obtain⟨⟨h1,h2,h3⟩,h4,h5⟩:=vR u u (aod _) (by omega);unfold uj;have e45:(45:UInt8).toNat=45:=rfl;have hm:=Vf (rz 20 u) 0 h2 (by omega);rw[h4]at hm;simp only[e45,or_true,anX];rw[anG h1,hm];simp;omega
theorem ab1{s:Str}(hs:s.length≤281474976710656):∃n ok,tY s=some (n,ok)∧(ok=true→s=tK n∧-9007199254740992≤n∧n≤9007199254740992)∧(∀m:Int,s=tK m→-9007199254740992≤m→m≤9007199254740992→ok=true∧n=m):=by
 have hat:∀m:Int,-9007199254740992≤m→m≤9007199254740992→uj (tK m)=(0,m):=by
  intro m h1 h2;unfold tK;split
  ·rw[afz (by omega)];congr 1;omega
  ·rw[Rc (by omega)];congr 1;omega
 unfold tY strconv_Atoi strconv_Itoa;rw[anN hs,aB];by_cases hz:(uj s).1=0
 ·rw[anN hz];simp only[Option.isSome_none,anL,anW]
  have hr:-9223372036854775808≤(uj s).2∧(uj s).2≤9223372036854775807:=by
   have mg:∀(l:Str) (acc:Nat),acc<18446744073709551616→(GN acc l).2<18446744073709551616:=by
    intro l
    induction l with
    | nil=>intro acc h;exact h
    | cons c l ih=>
     intro acc h;rw[GN];split
     ·split
      ·simp
      ·split
       ·simp
       ·exact ih _ (by omega)
     ·simp
   unfold uj;cases s with
   | nil=>simp
   | cons c r=>
    simp only
    repeat' split
    all_goals simp_all
    all_goals omega
  rw[anN hr,aj,aj];by_cases hi:tK (uj s).2=s
  ·by_cases hb:-9007199254740992≤(uj s).2∧(uj s).2≤9007199254740992
   ·rw[anG (by simp[hi];omega)];exact⟨_,_,rfl,fun _=>⟨hi.symm,hb⟩,fun m h1 h2 h3=>⟨rfl,by rw[h1,hat m h2 h3]⟩⟩
   ·rw[anN (by simp[hi];omega)];exact⟨_,_,rfl,(fun h=>by cases h),fun m h1 h2 h3=>absurd (by rw[h1,hat m h2 h3];exact⟨h2,h3⟩) hb⟩
  ·rw[anN (by simp[hi])];exact⟨_,_,rfl,(fun h=>by cases h),fun m h1 h2 h3=>absurd (by rw[h1,hat m h2 h3]) hi⟩
 ·rw[anG hz];simp only[Option.isSome_some,anX,aj,Bool.true_or];exact⟨_,_,rfl,(fun h=>by cases h),fun m h1 h2 h3=>absurd (by rw[h1,hat m h2 h3]) hz⟩
theorem abS{s:Str}(hs:s.length≤16):∀(t:Str) (i acc:Nat),t=s.drop i→acc<10 ^ i→
  ∃n ok,eX (fun(i:Nat) c (n1:Int) r=>av (rD c) fun x3=>if !x3 then some ((0:Int),false)else av (idx s (i:Int)) fun x4=>r (bq ((bq ((bq (10*n1))+(x4.toNat:Int)))-48))) (fun n1=>some (n1,(decide (n1≤9007199254740992)))) i t (acc:Int)=some (n,ok)∧
   (ok=true↔(∀c∈t,dh c=true)∧wo acc t≤9007199254740992)∧(ok=true→n=wo acc t):=by
 intro t
 induction t with
 | nil=>
  intro i acc ht ha;refine⟨_,_,rfl,?_,fun _=>rfl⟩;simp[zO];omega
 | cons c t ih=>
  intro i acc ht ha;obtain⟨hi,e1,e2⟩:=wh ht;rw[eX,ahe,aj,gK hi,←e1];simp only[aj];cases hd:dh c with
  | false=>
   refine⟨0,false,rfl,?_,fun h=>by cases h⟩;simp[hd]
  | true=>
   have hc:=qj hd;have h16:(10:Nat) ^ i≤10 ^ 15:=aph (by omega) (by omega);have e15:(10:Nat) ^ 15=1000000000000000:=by decide
   simp only[aot,anL,anW]
   have ew:bq ((bq ((bq (10*(acc:Int)))+(c.toNat:Int)))-48)=((acc*10+(c.toNat-48):Nat):Int):=by
    rw[qN (n:=10*(acc:Int)) (by omega),qN (n:=10*(acc:Int)+(c.toNat:Int)) (by omega),qN (by omega)];omega
   rw[ew];obtain⟨n,ok,q1,q2,q3⟩:=ih (i+1) (acc*10+(c.toNat-48)) e2 (by rw[ape];omega);refine⟨n,ok,q1,?_,q3⟩;rw[q2,nJ];simp[hd]
theorem OC(s:Str):∃n ok,zD s=some (n,ok)∧(ok=true→∃u:Nat,n=u∧s=rz 20 u∧u≤9007199254740992)∧∀u:Nat,s=rz 20 u→u≤9007199254740992→ok=true∧n=u:=by
 unfold zD;by_cases h0:s=[]∨16<s.length
 ·have e:((s==([]:Str))||(decide (16<(s.length:Int))))=true:=by
   rcases h0 with h|h
   ·simp[h]
   ·simp;right;omega
  rw[anN e];simp only[aj,anX];refine⟨0,false,rfl,(fun h=>by cases h),fun u h1 h2=>?_⟩;obtain⟨⟨q1,_,_⟩,_,_⟩:=vR u u (aod _) (by omega);have hl:=Hu 16 u (by have:(10:Nat) ^ 16=10000000000000000:=(by decide);omega) (by omega);rw[MU 16 20 u (by have:(10:Nat) ^ 16=10000000000000000:=(by decide);omega) (by have:(10:Nat) ^ 20=100000000000000000000:=(by decide);omega) (by omega) (by omega),←h1]at hl;rcases h0 with h|h
  ·rw[h1]at h;exact absurd h q1
  ·omega
 ·have hne:s≠[]:=fun h=>h0 (.inl h);have hlen:s.length≤16:=by omega
  have hpos:=aoH.2 hne;have e:((s==([]:Str))||(decide (16<(s.length:Int))))=false:=by simp[hne];omega
  rw[anG (by rw[e];simp)];obtain⟨n,ok,q1,q2,q3⟩:=abS hlen s 0 0 rfl (by simp)
  have hF:yR s BIG 0 0=some (n,ok):=by
   rw[fu (F:=fun k n1 i=>yR s k n1 i) (l:=s) (body:=fun(i:Nat) c (n1:Int) r=>av (rD c) fun x3=>if !x3 then some ((0:Int),false)else av (idx s (i:Int)) fun x4=>r (bq ((bq ((bq (10*n1))+(x4.toNat:Int)))-48))) (fin:=fun n1=>some (n1,(decide (n1≤9007199254740992)))) (by omega) (fun k s i=>rfl) 0];exact q1
  have zero:∀(c:UInt8) (r:Str),s=c::r→idx s 0=some c:=fun c r h=>by rw[h];rfl
  obtain⟨c,r,hcr⟩:∃c r,s=c::r:=by
   cases s with
   | nil=>exact absurd rfl hne
   | cons c r=>exact⟨c,r,rfl⟩
  have hb1:(if decide (1<(s.length:Int))=true then av (idx s 0) fun x1=>some ((x1.toNat:Int)==48)else some false)=some ((decide (1<s.length))&&((c.toNat:Int)==48)):=by
   rw[zero c r hcr];by_cases h1:1<s.length
   ·rw[anN (by simp;omega),aj];simp[h1]
   ·rw[anG (by simp;omega)];simp[h1]
  rw[hb1,aj];by_cases hz:1<s.length∧c.toNat=48
  ·rw[anN (by simp[hz.1];omega)];refine⟨0,false,rfl,(fun h=>by cases h),fun u h1 h2=>?_⟩;obtain⟨⟨_,_,q⟩,_,_⟩:=vR u u (aod _) (by omega);rw[←h1]at q;have:=q hz.1;rw[hcr]at this;simp[hz.2]at this
  ·rw[anG (by simp;intro h;omega),hF];refine⟨n,ok,rfl,fun h=>?_,fun u h1 h2=>?_⟩
   ·obtain⟨d1,d2⟩:=q2.1 h;have hcan:acP s:=⟨hne,d1,fun h1=>by rw[hcr];simp;omega⟩;exact⟨wo 0 s,q3 h,(Q0 _ s (aod _) hcan (by omega)).1.symm,d2⟩
   ·obtain⟨⟨_,q5,_⟩,q4,_⟩:=vR u u (aod _) (by omega);rw[←h1]at q5 q4;have hok:ok=true:=q2.2 ⟨q5,by omega⟩;exact⟨hok,by rw[q3 hok,q4]⟩
theorem number_eq{s:Str}(hs:s.length≤281474976710656):∃n ok n',tY s=some (n,ok)∧EH s=some (n',ok)∧(ok=true→n=n'∧-9007199254740992≤n∧n≤9007199254740992):=by
 obtain⟨n,ok,p1,p2,p3⟩:=ab1 hs;unfold EH
 have fin:∀(n':Int) (ok':Bool),(ok'=true→s=tK n'∧-9007199254740992≤n'∧n'≤9007199254740992)→(∀m:Int,s=tK m→-9007199254740992≤m→m≤9007199254740992→ok'=true)→ok'=ok∧(ok=true→n=n'∧-9007199254740992≤n∧n≤9007199254740992):=by
  intro n' ok' a1 a2
  have e:ok'=ok:=by
   cases ok with
   | true=>obtain⟨b1,b2,b3⟩:=p2 rfl;exact a2 n b1 b2 b3
   | false=>
    cases ok' with
    | false=>rfl
    | true=>obtain⟨b1,b2,b3⟩:=a1 rfl;have:=(p3 n' b1 b2 b3).1;cases this
  refine⟨e,fun h=>?_⟩;subst e;obtain⟨b1,b2,b3⟩:=a1 h;have:=(p3 n' b1 b2 b3).2;exact⟨this,by omega,by omega⟩
 cases hc:s with
 | nil=>
  simp only[ao0,aot,anL,anW,aj];obtain⟨n',ok',r1,r2,r3⟩:=OC [];rw[hc]at p1
  obtain⟨f1,f2⟩:=fin n' ok' (fun h=>by
   obtain⟨u,u1,u2,u3⟩:=r2 h;rw[hc,u1];refine⟨?_,by omega,by omega⟩
   unfold tK;rw[anG (by omega)];simpa using u2) (fun m h1 h2 h3=>by
   rw[hc]at h1;unfold tK at h1;split at h1
   ·cases h1
   ·exact(r3 _ h1 (by omega)).1)
  exact⟨n,ok,n',p1,by rw[r1,f1],f2⟩
 | cons c r=>
  rw[hc]at p1;have e0:(!((c::r:Str)==([]:Str)))=true:=rfl;have i0:idx (c::r) 0=some c:=rfl;simp only[e0,anX,i0,aj]
  have dn:∀u:Nat,u<100000000000000000000→∀(x:UInt8) (l:Str),rz 20 u=x::l→x.toNat≠45:=by
   intro u hu x l h;obtain⟨⟨_,q,_⟩,_,_⟩:=vR u u (aod _) hu;rw[h]at q;have:=qj (q x (by simp));omega
  by_cases h45:(c.toNat:Int)=45
  ·rw[anN (by simpa using h45)]
   have hsl:sl (c::r) 1 (((c::r:Str).length:Nat):Int)=some r:=by
    have:=kS (s:=c::r) (i:=1) (by simp);simpa using this
   rw[hsl,aj];obtain⟨n',ok',r1,r2,r3⟩:=OC r;rw[r1,aB];have an2:c=45:=aoB.1 (by have:(45:UInt8).toNat=45:=rfl;omega)
   obtain⟨f1,f2⟩:=fin (bq (0-n')) (ok'&&(n' !=0)) (fun h=>by
    simp only[an_,aoF]at h;obtain⟨u,u1,u2,u3⟩:=r2 h.1;rw[qN (by omega),u1];refine⟨?_,by omega,by omega⟩;unfold tK;rw[anN (by omega),hc,an2];congr 1
    rw[u2];congr 1;omega) (fun m h1 h2 h3=>by
    rw[hc]at h1;unfold tK at h1;split at h1
    ·rename_i hm;simp only[aoW]at h1;obtain⟨o1,o2⟩:=r3 _ h1.2 (by omega);rw[o1,o2];simp;omega
    ·exact absurd (by omega) (dn _ (by omega) c r h1.symm))
   exact⟨n,ok,_,p1,by rw[f1],f2⟩
  ·rw[anG (by simpa using h45)];obtain⟨n',ok',r1,r2,r3⟩:=OC (c::r)
   obtain⟨f1,f2⟩:=fin n' ok' (fun h=>by
    obtain⟨u,u1,u2,u3⟩:=r2 h;rw[hc,u1];refine⟨?_,by omega,by omega⟩
    unfold tK;rw[anG (by omega)];simpa using u2) (fun m h1 h2 h3=>by
    rw[hc]at h1;unfold tK at h1;split at h1
    ·simp only[aoW]at h1;exact absurd (by rw[h1.1];rfl) h45
    ·exact(r3 _ h1 (by omega)).1)
   exact⟨n,ok,n',p1,by rw[r1,f1],f2⟩
end Go.Ft
namespace Go.Ft
open Go
attribute [local congr] fD
def N8(l:List aD):ah:=ah.mk 5 false 0 ([]:Str) (l.map (·.value)) (l.map (·.name))
def akw(l:List aD):Prop:=l.Pairwise fun x y=>f_ x.name y.name<0
def jR(l:List aD):List aD:=l.mergeSort fun x y=>!decide (f_ y.name x.name<0)
theorem xw(l:List aD):(jR l).Perm l:=List.mergeSort_perm _ _
theorem Wj{l:List aD}(h:(l.map (·.name)).Nodup):akw (jR l):=by
 have hs:(jR l).Pairwise fun x y=>¬f_ y.name x.name<0:=by
  have:=List.pairwise_mergeSort (le:=fun x y:aD=>!decide (f_ y.name x.name<0)) (fun a b c h1 h2=>by
   simp only[aoR,aoz]at *
   exact Jh h2 h1) (fun a b=>by
   simp only[aov,aoR,aoz]
   rw[yU];omega) l
  refine this.imp fun {a b} h=>?_;simpa using h
 have hn:((jR l).map (·.name)).Nodup:=((xw l).map _).nodup_iff.2 h;rw[List.Nodup,List.pairwise_map]at hn;refine(hs.and hn).imp fun {a b} h=>?_;have h0:f_ a.name b.name≠0:=fun e=>h.2 (Df e);have:=h.1;rw[yU]at this;omega
structure Ent(vars:List aD):Prop where
 len:vars.length≤1024
 key:∀x∈vars,tJ x.name=true
 val:∀x∈vars,VV x.value∧x.value.bulk<1152921504606846976
 nodup:(vars.map (·.name)).Nodup
theorem Eb{s:Str}(h:tJ s=true):1≤s.length∧s.length≤64:=by
 unfold tJ at h;simpa using h
def ab_(vars:List aD):ah × Int:=if ∃x∈vars,yI x.value=16 then (ZV,13)else (N8 (jR vars),0)
theorem acH{l:List aD}{q:aD}(hl:l.length<4611686018427387904)(h:∀y∈l,y.name≠q.name):dB l (fun z0=>ko z0 q)=some false:=by
 unfold dB gu;rw[fu (F:=fun k (_:Unit) i=>dU l (fun z0=>ko z0 q) k i) (l:=l) (body:=fun(i:Nat) e1 (_:Unit) r=>av (ko e1 q) fun x1=>if x1 then some (i:Int)else r ()) (fin:=fun _=>some (-1)) hl (fun k s i=>rfl) ()]
 have key:∀(t:List aD) (i:Nat),(∀y∈t,y.name≠q.name)→eX (fun(i:Nat) e1 (_:Unit) r=>av (ko e1 q) fun x1=>if x1 then some (i:Int)else r ()) (fun _=>some (-1)) i t ()=some (-1):=by
  intro t
  induction t with
  | nil=>intro i _;rfl
  | cons d t ih=>
   intro i ht;rw[eX,ko,aj,anG (by simpa using ht d (by simp))];exact ih (i+1) fun y hy=>ht y (by simp[hy])
 rw[key l 0 h];rfl
theorem entry_eq{vars:List aD}(H:Ent vars){i:Nat}(hi:i<vars.length):zN vars (i:Int)=some (if yI vars[i].value=16 then 13 else 0):=by
 have hlen:=H.len;have hm:vars[i]∈vars:=aol hi;have hkl:=Eb (H.key _ hm);obtain⟨hv,hb⟩:=H.val _ hm;unfold zN;rw[gK hi,aj,anG (by simp;omega),DT (by omega),(Rz _).2 hv,aj,anG (by simp),YI (by omega) hv.1,aj];have:=hv.2;by_cases h16:yI vars[i].value=16
 ·rw[anN (by simp[h16]),anN h16]
 ·have hsl:sl vars 0 (i:Int)=some (vars.take i):=by rw[bG (by omega) (by omega) (by omega)];simp
  rw[anG (by simp;omega),anG h16,hsl,aj,acH (by simp;omega),aj]
  ·rfl
  ·intro y hy he;obtain⟨j,hj,e⟩:=List.mem_iff_getElem.1 hy;simp only[List.length_take]at hj;have hn:=H.nodup;rw[List.Nodup,List.pairwise_iff_getElem]at hn;have:=hn j i (by simp;omega) (by simpa using hi) (by omega);apply this;simp only[List.getElem_map];rw[←he,←e];simp
theorem Qh:∀(l:List aD) (i:Nat) (o:List aD),(∀x∈l,lX x.value=some x.value)→o.length+l.length≤w9→
  eX (fun _ e2 (bM:ah) r=>av (app bM.keys ([e2.name]:List Str)) fun x2=>av (lX e2.value) fun x3=>av (app bM.aN [x3]) fun x4=>r (ah.mk bM.kind bM.dR bM.dS bM.bR x4 x2)) (fun bM=>some (bM,(0:Int))) i l (N8 o)=some (N8 (o++l),0)
 | [],i,o,_,_=>by simp[eX]
 | x::l,i,o,hb,hl=>by
  simp only[an5]at hl;have ok1:(N8 o).keys=o.map (·.name):=rfl;have ol1:(N8 o).aN=o.map (·.value):=rfl;rw[eX,ok1,ol1,u7 (by simp;omega),aj,hb x (by simp),aj,u7 (by simp;omega),aj];have e1:(ah.mk (N8 o).kind (N8 o).dR (N8 o).dS (N8 o).bR (o.map (·.value)++[x.value]) (o.map (·.name)++[x.name]))=N8 (o++[x]):=by simp[N8]
  rw[e1];refine(Qh l (i+1) (o++[x]) (fun y hy=>hb y (by simp[hy])) (by simp;omega)).trans ?_;simp
theorem agM{vars:List aD}(H:Ent vars):BK vars=some (ab_ vars):=by
 have hL:w9=4294967296:=rfl;have hlen:=H.len;unfold BK ab_;rw[anG (by simp;omega)]
 have fin:(av (cO vars) fun Oy=>av (Tj (fun x=>x.name) Oy) fun rW=>uD rW BIG 0 (ah.mk 5 false 0 ([]:Str) [] []))=some (N8 (jR vars),0):=by
  have hs:Tj (fun x:aD=>x.name) vars=some (jR vars):=by
   unfold Tj;rw[anN ⟨by omega,fun x hx=>by have:=Eb (H.key x hx);show x.name.length<_;omega,H.nodup⟩];rfl
  rw[cO,u7 (by simp;omega),apa,aj,hs,aj];have hsl:(jR vars).length=vars.length:=(xw vars).length_eq;rw[fu (F:=fun k s i=>uD (jR vars) k i s) (l:=jR vars) (body:=fun _ e2 (bM:ah) r=>av (app bM.keys ([e2.name]:List Str)) fun x2=>av (lX e2.value) fun x3=>av (app bM.aN [x3]) fun x4=>r (ah.mk bM.kind bM.dR bM.dS bM.bR x4 x2)) (fin:=fun bM=>some (bM,(0:Int))) (by omega) (fun k s i=>rfl)];exact Qh (jR vars) 0 [] (fun x hx=>by obtain⟨q1,q2⟩:=H.val x ((xw vars).mem_iff.1 hx);exact(LW q1.1 (by omega)).1) (by simp;omega)
 have key:∀(k i:Nat),vars.length<k+i→i≤vars.length→uE vars k (i:Int)=some (if ∃x∈vars.drop i,yI x.value=16 then (ZV,13)else (N8 (jR vars),0)):=by
  intro k
  induction k with
  | zero=>intro i h h';omega
  | succ k ih=>
   intro i h h';rw[uE];by_cases hi:i<vars.length
   ·rw[anN (by simp;omega),entry_eq H hi,aj,an0 hi];by_cases h16:yI vars[i].value=16
    ·rw[anN h16,anN (by simp),anN ⟨vars[i],List.mem_cons_self,h16⟩];rfl
    ·rw[anG h16,anG (by simp),iG (by omega),ih (i+1) (by omega) (by omega)];congr 1;refine fD (propext ⟨fun⟨x,hx,hq⟩=>⟨x,List.mem_cons_of_mem _ hx,hq⟩,fun⟨x,hx,hq⟩=>?_⟩);rcases aoJ.1 hx with rfl|hx
     ·exact absurd hq h16
     ·exact⟨x,hx,hq⟩
   ·have hie:i=vars.length:=by omega
    rw[anG (by simp;omega),fin,anG (by rw[hie];simp)]
 exact key BIG 0 (by have:=dX;omega) (by omega)
theorem abj:∀(l:List aD) (p:Option Str),(∀x∈l,tJ x.name=true)→akw l→(∀q,p=some q→q.length<4611686018427387904∧∀x∈l,f_ q x.name<0)→H7 p (l.map (·.name))=true
 | [],p,_,_,_=>by simp[H7]
 | x::l,p,hk,ha,hp=>by
  unfold akw at ha;rw[List.pairwise_cons]at ha;have hx:=Eb (hk x (by simp));rw[aor,H7.eq_def];simp only;rw[hk x (by simp),abj l (some x.name) (fun y hy=>hk y (by simp[hy])) ha.2 (fun q hq=>by cases hq;exact⟨by omega,ha.1⟩)];cases p with
  | none=>rfl
  | some q=>
   obtain⟨h1,h2⟩:=hp q rfl;have hn:R8 q x.name=f_ q x.name:=by unfold R8;rw[Qd h1 (by omega)];rfl
   simp[hn,h2 x (by simp)]
theorem ahD{vars:List aD}(H:Ent vars)(h:¬ ∃x∈vars,yI x.value=16):VV (N8 (jR vars)):=by
 have hp:=xw vars;have hlen:=H.len;have hl:=hp.length_eq;have hkeys:H7 none ((jR vars).map (·.name))=true:=abj _ none (fun x hx=>H.key x (hp.mem_iff.1 hx)) (Wj H.nodup) (fun q hq=>by cases hq);constructor
 ·refine(xu _).2 ⟨?_,fun x hx=>?_⟩
  ·unfold lV;rw[anG (by omega)];have e1:(N8 (jR vars)).kind=5:=rfl;have e2:(N8 (jR vars)).keys=(jR vars).map (·.name):=rfl;have e3:(N8 (jR vars)).aN=(jR vars).map (·.value):=rfl;have e4:(N8 (jR vars)).dS=0:=rfl;have e5:(N8 (jR vars)).bR=[]:=rfl;have e6:pK (N8 (jR vars))=true:=by simp[pK,N8]
   rw[e1,e2,e3,e4,e5,e6,hkeys];simp[hl];omega
  ·obtain⟨y,hy,rfl⟩:=apk.1 hx;exact(H.val y (hp.mem_iff.1 hy)).1.1
 ·rw[wF,anN (by rfl),Bj];refine⟨by omega,fun x hx=>?_⟩;obtain⟨y,hy,rfl⟩:=apk.1 hx;have hy':=hp.mem_iff.1 hy;have:=(H.val y hy').1.2;have:yI y.value≠16:=fun e=>h ⟨y,hy',e⟩;omega
end Go.Ft
namespace Go.Ft
open Go
attribute [local congr] fD
def zx{α:Type}(p:α × Int):fq aF α:=if p.2=0 then .ok p.1 else .bad ⟨p.2⟩
def okV(v:ah):ah × Int:=(v,0)
def Ai(c:Int):ah × Int:=(ZV,c)
@[simp] theorem ank(v:ah):zx (okV v)=.ok v:=rfl
theorem pY{c:Int}(h:c≠0):zx (Ai c)=.bad ⟨c⟩:=anG h
theorem jq(b:Bool)(c:Int):dN b c=some (if b then .ok ()else .bad ⟨c⟩):=by
 unfold dN zi;cases b<;>rfl
theorem Mv(c:Int):dN true c=some (.ok ()):=jq true c
theorem Mw(c:Int):dN false c=some (.bad ⟨c⟩):=jq false c
def GV(p:ah × Int)(N:Nat):Prop:=(p.2=0→VV p.1∧p.1.bulk≤N)∧(p.2≠0→p.1=ZV)
theorem GV.er{c:Int}{N:Nat}(h:c≠0):GV (Ai c) N:=⟨fun h'=>absurd h' h,fun _=>rfl⟩
theorem GV.ok{v:ah}{N:Nat}(h:VV v)(hb:v.bulk≤N):GV (okV v) N:=⟨fun _=>⟨h,hb⟩,fun h=>absurd rfl h⟩
theorem GV.mono{p:ah × Int}{N M:Nat}(h:GV p N)(hm:N≤M):GV p M:=⟨fun h0=>⟨(h.1 h0).1,by have:=(h.1 h0).2;omega⟩,h.2⟩
theorem Zi{v:ah}(h:lV v 1=0)(hl:v.aN=[])(hk:((v.kind==4)||(v.kind==5))=false):VV v:=by
 refine⟨(xu v).2 ⟨h,by simp[hl]⟩,?_⟩;rw[wF,hk];simp
theorem EU(b:Bool):VV (Zf b):=Zi (by unfold lV Zf pK;simp) rfl rfl
theorem Qf{n:Int}(h:-9007199254740992≤n∧n≤9007199254740992):VV (mkI n):=Zi (by unfold lV mkI pK;simp;omega) rfl rfl
theorem ME{s:Str}(h:s.length≤4096):VV (mkS s):=Zi (by unfold lV mkS pK;simp;omega) rfl rfl
theorem uh(v:ah):v.bulk=1+1+1+(v.bR.length+1)+(ah.mq v.aN+1)+((v.keys.map fun z:Str=>z.length+1).sum+1)+1:=by
 rw[ah.kW]
theorem xQ(b:Bool):(Zf b).bulk=7:=by rw[uh];simp[Zf,ah.mq]
theorem GL(n:Int):(mkI n).bulk=7:=by rw[uh];simp[mkI,ah.mq]
theorem zZ(s:Str):(mkS s).bulk=s.length+7:=by rw[uh];simp[mkS,ah.mq];omega
theorem GK(l:List ah):(JW l).bulk=(l.map ah.bulk).sum+7:=by rw[uh];simp[JW,ah.pF];omega
theorem Ve{l:List ah}(h:l.length≤1024)(hv:∀x∈l,VV x):Wd (JW l)=true∧(VV (JW l)↔∀x∈l,yI x<16):=by
 have h0:Wd (JW l)=true:=(xu _).2 ⟨by unfold lV JW pK;simp;omega,fun x hx=>(hv x hx).1⟩;refine⟨h0,?_⟩;have e:yI (JW l)=CU l 2:=by rw[wF];rfl
 constructor
 ·intro h x hx;have:=h.2;rw[e,Bj]at this;have:=this.2 x hx;omega
 ·intro h;refine⟨h0,?_⟩;rw[e,Bj];exact⟨by omega,fun x hx=>by have:=h x hx;omega⟩
theorem Tc{α:Type}{f:α→Nat}{l:List α}{c:Nat}(h:∀x∈l,f x≤c):(l.map f).sum≤l.length*c:=by
 induction l with
 | nil=>simp
 | cons x l ih=>
  have:=h x (by simp);have:=ih fun y hy=>h y (by simp[hy]);rw[aor,aoK,an5,apK];omega
theorem WH{l:List Str}(h:l.length≤1024)(hs:∀s∈l,s.length≤4096):VV (JW (l.map mkS))∧(JW (l.map mkS)).bulk≤1024*4103+7:=by
 constructor
 ·refine(Ve (by simpa using h) fun x hx=>?_).2.2 fun x hx=>?_
  ·obtain⟨s,hm,rfl⟩:=apk.1 hx;exact ME (hs s hm)
  ·obtain⟨s,hm,rfl⟩:=apk.1 hx;rw[wF];simp[mkS]
 ·rw[GK,ao_]
  have:=Tc (f:=ah.bulk ∘ mkS) (l:=l) (c:=4103) fun s hm=>by
   have:=hs s hm;simp only[apH,zZ];omega
  have:l.length*4103≤1024*4103:=aoA _ h;omega
def okO(x:Option ah)(c:Int):ah × Int:=match x with|some v=>okV v|none=>Ai c
def Sg(a b:ah):ah × Int:=
 if a.kind=4∧b.kind=2 then (if 0≤b.dS∧b.dS<a.aN.length then okO a.aN[b.dS.toNat]? 8 else Ai 8)
 else if a.kind=5∧b.kind=3 then okO (Sj a b.bR) 8 else Ai 9
theorem QL{a b:ah}(ha:VV a)(hb:a.bulk<4611686018427387904)(h:¬(a.kind=4∧b.kind=2)):wI a b=some (zx (Sg a b)):=by
 unfold wI iD Sg;rw[anG h];simp only[aj];rw[OL,aj];by_cases h5:a.kind=5∧b.kind=3
 ·rw[anN h5];have e:((a.kind==5)&&(b.kind==3))=true:=by simp[h5.1,h5.2]
  rw[e,Mv,iW,aam ha.1 hb,eD];cases Sj a b.bR with
  | none=>simp only[ab3];rw[Mw];rfl
  | some v=>simp only[ab3];rw[Mv];rfl
 ·rw[anG h5]
  have e:((a.kind==5)&&(b.kind==3))=false:=by
   rw[ao7,an7,an7];omega
  rw[e,Mw];rfl
theorem Vx{a b:ah}(ha:VV a)(hb:a.bulk<4611686018427387904):uW a b=some (zx (Sg a b)):=by
 by_cases h:a.kind=4∧b.kind=2
 ·unfold uW iD Sg;rw[anN h];simp only[aj];rw[OL,aj];have e:((a.kind==4)&&(b.kind==2))=true:=by simp[h.1,h.2]
  rw[anN e];by_cases hi:0≤b.dS∧b.dS<a.aN.length
  ·have e2:((decide (0≤b.dS))&&(decide (b.dS<(a.aN.length:Int))))=true:=by simp[hi.1,hi.2]
   rw[e2,Mv,iW,anN hi,Cn hi.1 hi.2,aj,an6 (by omega)];rfl
  ·have e2:((decide (0≤b.dS))&&(decide (b.dS<(a.aN.length:Int))))=false:=by
    rw[ao7,aoz,aoz];omega
   rw[e2,Mw,anG hi];rfl
 ·have he:=QL ha hb h;unfold uW iD;simp only[aj];rw[OL,aj,anG (by simp only[an_,aoi];exact h),he];generalize Sg a b=p;unfold zx;split<;>rfl
theorem aaF{a:ah}(ha:VV a){x:Option ah}(h:∀v,x=some v→v∈a.aN){c:Int}(hc:c≠0):GV (okO x c) a.bulk:=by
 cases x with
 | none=>exact GV.er hc
 | some v=>
  have hm:=h v rfl;exact GV.ok (ha.mem hm) (by have:=ig hm;omega)
theorem aaP{a b:ah}(ha:VV a):GV (Sg a b) a.bulk:=by
 unfold Sg;by_cases h1:a.kind=4∧b.kind=2
 ·rw[anN h1];by_cases h2:0≤b.dS∧b.dS<a.aN.length
  ·rw[anN h2];exact aaF (c:=8) ha (fun v h=>List.mem_of_getElem? h) (by decide)
  ·rw[anG h2];exact GV.er (by decide)
 ·rw[anG h1];by_cases h2:a.kind=5∧b.kind=3
  ·rw[anN h2];refine aaF (c:=8) ha (fun v h=>?_) (by decide);unfold Sj at h;rw[anN h2.1]at h;exact XF h
  ·rw[anG h2];exact GV.er (by decide)
def unS(op:Str)(a:ah):ah × Int:=
 if op=[33]then (if a.kind=1 then okV (Zf (!a.dR))else Ai 9)else if a.kind=2 then okV (mkI (0-a.dS))else Ai 9
theorem Pg(v:ah):tX v=some (if v.kind=1 then .ok v.dR else .bad ⟨9⟩):=by
 unfold tX iD;rw[aj,jq];by_cases h:v.kind=1
 ·simp[h]
 ·simp[h]
theorem YM{op:Str}{a:ah}(ha:VV a):Cu op a=some (zx (unS op a)):=by
 have hl:=kr ha.1;unfold Cu unS;by_cases h:op=[33]
 ·rw[anN h,anN (by simp[h]),Pg];by_cases hk:a.kind=1
  ·rw[anN hk,anN hk];rfl
  ·rw[anG hk,anG hk];rfl
 ·rw[anG h,anG (by simpa using h),iD,aj,jq];by_cases hk:a.kind=2
  ·rw[anN hk,anN (by simp[hk]),iW,qN (by omega)];rfl
  ·rw[anG hk,anG (by simp[hk])];rfl
theorem aju{op:Str}{a:ah}(ha:VV a):GV (unS op a) 7:=by
 have hl:=kr ha.1;unfold unS;split
 ·split
  ·exact GV.ok (EU _) (by rw[xQ];omega)
  ·exact GV.er (by decide)
 ·split
  ·exact GV.ok (Qf (by omega)) (by rw[GL];omega)
  ·exact GV.er (by decide)
def abU(v:ah):ah × Int:=
 if v.dS < -9007199254740992∨9007199254740992<v.dS then Ai 11 else if 4096<v.bR.length∨1024<v.aN.length then Ai 3 else if 16<yI v then Ai 13 else okV v
theorem Tz{v:ah}(hb:v.bulk<4611686018427387904):yP v=some (abU v):=by
 unfold yP abU;by_cases h1:v.dS < -9007199254740992∨9007199254740992<v.dS
 ·rw[anN h1,anN (by simpa using h1)];rfl
 ·rw[anG h1,anG (by simpa using h1)];by_cases h2:4096<v.bR.length∨1024<v.aN.length
  ·rw[anN h2,anN (by simp;omega)];rfl
  ·rw[anG h2,anG (by simp;omega),Y5 hb,aj];by_cases h3:16<yI v
   ·rw[anN h3,anN (by simp;omega)];rfl
   ·rw[anG h3,anG (by simp;omega)];rfl
def Oi(n:Int):ah × Int:=if -9007199254740992≤n∧n≤9007199254740992 then okV (mkI n)else Ai 11
theorem Ie(n:Int):qF n=some (zx (Oi n)):=by
 unfold qF Oi;rw[jq];by_cases h:-9007199254740992≤n∧n≤9007199254740992
 ·rw[anN h,anN (by simp[h.1,h.2])];rfl
 ·rw[anG h,anG (by simp only[an_,anZ];exact h)];rfl
theorem OM(n:Int):GV (Oi n) 7:=by
 unfold Oi;split
 ·rename_i h;exact GV.ok (Qf h) (by rw[GL];omega)
 ·exact GV.er (by decide)
def alq(n:Int):Int:=if n < -9223372036854775808 then -9223372036854775808 else if 9223372036854775807<n then 9223372036854775807 else n
def aeC(a b:Int):Int:=alq (a*b)
theorem words(p00 R6 p01 p11:Nat):(p11+(R6+p00/4294967296)/4294967296+(p01+(R6+p00/4294967296)%4294967296)/4294967296)*18446744073709551616 +
  ((p01+(R6+p00/4294967296)%4294967296)%4294967296*4294967296+p00%4294967296)=p11*18446744073709551616+(R6+p01)*4294967296+p00:=by omega
theorem split_mul(x y:Nat):x*y=(x/4294967296)*(y/4294967296)*18446744073709551616+((x/4294967296)*(y%4294967296)+(x%4294967296)*(y/4294967296))*4294967296+(x%4294967296)*(y%4294967296):=by
 conv=>lhs;rw[←Nat.div_add_mod x 4294967296,←Nat.div_add_mod y 4294967296]
 generalize x/4294967296=xh;generalize x%4294967296=xl;generalize y/4294967296=yh;generalize y%4294967296=yl;simp only[apK,Nat.mul_add]
 have e1:4294967296*xh*(4294967296*yh)=xh*yh*18446744073709551616:=by
  rw[Nat.mul_mul_mul_comm,apF (4294967296*4294967296)]
 have e2:4294967296*xh*yl=xh*yl*4294967296:=by rw[apN,apF]
 have e3:xl*(4294967296*yh)=xl*yh*4294967296:=by rw[Nat.mul_left_comm,apF]
 rw[e1,e2,e3];omega
end Go.Ft
namespace Go.Ft
open Go
attribute [local congr] fD
theorem Ze{a b:Int}(ha:-9007199254740992≤a∧a≤9007199254740992)(hb:-9007199254740992≤b∧b≤9007199254740992){hi lo:Nat}(hlo:lo<18446744073709551616)(h:hi*18446744073709551616+lo=a.natAbs*b.natAbs){neg:Bool}(hn:neg=(!((decide (a<0))==(decide (b<0)))&&!(decide (hi=0∧lo=0)))):
  aeC a b=if hi≠0 then (if neg then -9223372036854775808 else 9223372036854775807)else if neg then (if lo≤9223372036854775808 then -(lo:Int)else -9223372036854775808)else if lo≤9223372036854775807 then (lo:Int)else 9223372036854775807:=by
 have hm:a*b=if neg then -((a.natAbs*b.natAbs:Nat):Int)else ((a.natAbs*b.natAbs:Nat):Int):=by
  rw[←h];have e:((a.natAbs*b.natAbs:Nat):Int)=((hi*18446744073709551616+lo:Nat):Int):=by rw[h]
  rw[Int.natCast_mul]at e;by_cases h1:a<0<;>by_cases h2:b<0
  ·have:a*b=(a.natAbs:Int)*b.natAbs:=by
    rw[show (a.natAbs:Int)=-a from by omega,show (b.natAbs:Int)=-b from by omega,Int.neg_mul_neg]
   rw[this,e,hn];simp[h1,h2]
  ·have:a*b=-((a.natAbs:Int)*b.natAbs):=by
    rw[show (a.natAbs:Int)=-a from by omega,show (b.natAbs:Int)=b from by omega,Int.neg_mul,Int.neg_neg]
   rw[this,e,hn];by_cases h0:hi=0∧lo=0
   ·simp[h0]
   ·rw[anN (by simp[h1,h2,h0])]
  ·have:a*b=-((a.natAbs:Int)*b.natAbs):=by
    rw[show (a.natAbs:Int)=a from by omega,show (b.natAbs:Int)=-b from by omega,Int.mul_neg,Int.neg_neg]
   rw[this,e,hn];by_cases h0:hi=0∧lo=0
   ·simp[h0]
   ·rw[anN (by simp[h1,h2,h0])]
  ·have:a*b=(a.natAbs:Int)*b.natAbs:=by
    rw[show (a.natAbs:Int)=a from by omega,show (b.natAbs:Int)=b from by omega]
   rw[this,e,hn];simp[h1,h2]
 unfold aeC alq;rw[hm,←h];cases neg with
 | true=>simp only[anX];(repeat' split)<;>omega
 | false=>simp only[anL,anW];(repeat' split)<;>omega
theorem aft{a:Int}(h:-9007199254740992≤a∧a≤9007199254740992):(if decide (a<0)=true then some (-(BitVec.ofInt 64 a))else some (BitVec.ofInt 64 a))=some (BitVec.ofNat 64 a.natAbs):=by
 by_cases hn:a<0
 ·rw[anN (by simpa using hn)];congr 1;apply BitVec.eq_of_toInt_eq;rw[BitVec.toInt_neg,BitVec.toInt_ofInt,BitVec.toInt_ofNat'];simp only[Int.bmod];omega
 ·rw[anG (by simpa using hn)];congr 1;apply BitVec.eq_of_toInt_eq;rw[BitVec.toInt_ofInt,BitVec.toInt_ofNat'];simp only[Int.bmod];omega
theorem msk(x:BitVec 64):(x &&& (4294967295:BitVec 64)).toNat=x.toNat%4294967296:=by
 rw[BitVec.toNat_and];exact Nat.and_two_pow_sub_one_eq_mod x.toNat 32
theorem shr(x:BitVec 64):(x >>> 32).toNat=x.toNat/4294967296:=by
 rw[BitVec.toNat_ushiftRight,Nat.shiftRight_eq_div_pow]
theorem ahl{x y:BitVec 64}(hx:x.toNat<4294967296)(hy:y.toNat<4294967296):(x*y).toNat=x.toNat*y.toNat∧x.toNat*y.toNat≤18446744065119617025:=by
 have h:x.toNat*y.toNat≤4294967295*4294967295:=Nat.mul_le_mul (by omega) (by omega);rw[BitVec.toNat_mul,apq (by omega)];exact⟨rfl,by omega⟩
theorem ahm{x y:BitVec 64}(h:x.toNat+y.toNat<18446744073709551616):(x+y).toNat=x.toNat+y.toNat:=by
 rw[BitVec.toNat_add,apq (by omega)]
theorem por{x y:BitVec 64}(hy:y.toNat<4294967296):((x <<< 32) ||| y).toNat=x.toNat%4294967296*4294967296+y.toNat:=by
 rw[BitVec.toNat_or,BitVec.toNat_shiftLeft,Nat.shiftLeft_eq]
 have e:x.toNat*2 ^ 32%2 ^ 64=(x.toNat%4294967296) <<< 32:=by
  rw[Nat.shiftLeft_eq,show (2:Nat) ^ 64=2 ^ 32*2 ^ 32 from rfl,Nat.mul_mod_mul_right]
 rw[e,←Nat.shiftLeft_add_eq_or_of_lt (by simpa using hy),Nat.shiftLeft_eq]
structure Words(x y hi lo:BitVec 64):Prop where
 eq:hi.toNat*18446744073709551616+lo.toNat=x.toNat*y.toNat
theorem YD(x y:BitVec 64):Words x y (((x >>> 32)*(y >>> 32)+(((x >>> 32)*(y &&& (4294967295:BitVec 64))+(((x &&& (4294967295:BitVec 64))*(y &&& (4294967295:BitVec 64))) >>> 32)) >>> 32))+(((x &&& (4294967295:BitVec 64))*(y >>> 32)+(((x >>> 32)*(y &&& (4294967295:BitVec 64))+(((x &&& (4294967295:BitVec 64))*(y &&& (4294967295:BitVec 64))) >>> 32)) &&& (4294967295:BitVec 64))) >>> 32))
  ((((x &&& (4294967295:BitVec 64))*(y >>> 32)+(((x >>> 32)*(y &&& (4294967295:BitVec 64))+(((x &&& (4294967295:BitVec 64))*(y &&& (4294967295:BitVec 64))) >>> 32)) &&& (4294967295:BitVec 64))) <<< 32) ||| (((x &&& (4294967295:BitVec 64))*(y &&& (4294967295:BitVec 64))) &&& (4294967295:BitVec 64))):=by
 have mx:=msk x;have my:=msk y;have sx:=shr x;have sy:=shr y;have bx:=x.isLt;have DR:=y.isLt;have lx:(x &&& (4294967295:BitVec 64)).toNat<4294967296:=by rw[mx];omega
 have ly:(y &&& (4294967295:BitVec 64)).toNat<4294967296:=by rw[my];omega
 have hx:(x >>> 32).toNat<4294967296:=by rw[sx];omega
 have hy:(y >>> 32).toNat<4294967296:=by rw[sy];omega
 obtain⟨p00,q00⟩:=ahl lx ly;obtain⟨R6,q10⟩:=ahl hx ly;obtain⟨p01,q01⟩:=ahl lx hy;obtain⟨p11,q11⟩:=ahl hx hy;have key:=words ((x &&& (4294967295:BitVec 64)).toNat*(y &&& (4294967295:BitVec 64)).toNat) ((x >>> 32).toNat*(y &&& (4294967295:BitVec 64)).toNat) ((x &&& (4294967295:BitVec 64)).toNat*(y >>> 32).toNat) ((x >>> 32).toNat*(y >>> 32).toNat);have tot:=split_mul x.toNat y.toNat;rw[←mx,←my,←sx,←sy]at tot;rw[←tot,←p00,←R6,←p01,←p11]at key;rw[←p00]at q00;rw[←R6]at q10;rw[←p01]at q01;rw[←p11]at q11;generalize (x &&& (4294967295:BitVec 64))*(y &&& (4294967295:BitVec 64))=a00 at *;generalize (x >>> 32)*(y &&& (4294967295:BitVec 64))=a10 at *;generalize (x &&& (4294967295:BitVec 64))*(y >>> 32)=a01 at *;generalize (x >>> 32)*(y >>> 32)=a11 at *;have s0:=shr a00;have d1:(a10+a00 >>> 32).toNat=a10.toNat+a00.toNat/4294967296:=by rw[ahm (by rw[s0];omega),s0]
 have d2:=shr (a10+a00 >>> 32);have d3:=msk (a10+a00 >>> 32);have d4:(a01+(a10+a00 >>> 32 &&& (4294967295:BitVec 64))).toNat=a01.toNat+(a10.toNat+a00.toNat/4294967296)%4294967296:=by rw[ahm (by rw[d3];omega),d3,d1]
 have d5:=shr (a01+(a10+a00 >>> 32 &&& (4294967295:BitVec 64)));have d6:=msk a00;have xy:x.toNat*y.toNat<18446744073709551616*18446744073709551616:=Nat.mul_lt_mul'' bx DR;constructor;rw[por (by rw[d6];omega),d4,d6]
 have e1:(a11+(a10+a00 >>> 32) >>> 32).toNat=a11.toNat+(a10.toNat+a00.toNat/4294967296)/4294967296:=by
  rw[ahm (by rw[d2,d1];omega),d2,d1]
 rw[ahm (by rw[e1,d5,d4];omega),e1,d5,d4];exact key
theorem Zc{a b:Int}(ha:-9007199254740992≤a∧a≤9007199254740992)(hb:-9007199254740992≤b∧b≤9007199254740992):KX a b=some (aeC a b):=by
 unfold KX Bg Gz;rw[aft ha,aft hb];simp only[aj];have W:=YD (BitVec.ofNat 64 a.natAbs) (BitVec.ofNat 64 b.natAbs);generalize ((((BitVec.ofNat 64 a.natAbs) >>> 32)*((BitVec.ofNat 64 b.natAbs) >>> 32)+((((BitVec.ofNat 64 a.natAbs) >>> 32)*((BitVec.ofNat 64 b.natAbs) &&& (4294967295:BitVec 64))+((((BitVec.ofNat 64 a.natAbs) &&& (4294967295:BitVec 64))*((BitVec.ofNat 64 b.natAbs) &&& (4294967295:BitVec 64))) >>> 32)) >>> 32))+((((BitVec.ofNat 64 a.natAbs) &&& (4294967295:BitVec 64))*((BitVec.ofNat 64 b.natAbs) >>> 32)+((((BitVec.ofNat 64 a.natAbs) >>> 32)*((BitVec.ofNat 64 b.natAbs) &&& (4294967295:BitVec 64))+((((BitVec.ofNat 64 a.natAbs) &&& (4294967295:BitVec 64))*((BitVec.ofNat 64 b.natAbs) &&& (4294967295:BitVec 64))) >>> 32)) &&& (4294967295:BitVec 64))) >>> 32))=hi at *;generalize (((((BitVec.ofNat 64 a.natAbs) &&& (4294967295:BitVec 64))*((BitVec.ofNat 64 b.natAbs) >>> 32)+((((BitVec.ofNat 64 a.natAbs) >>> 32)*((BitVec.ofNat 64 b.natAbs) &&& (4294967295:BitVec 64))+((((BitVec.ofNat 64 a.natAbs) &&& (4294967295:BitVec 64))*((BitVec.ofNat 64 b.natAbs) &&& (4294967295:BitVec 64))) >>> 32)) &&& (4294967295:BitVec 64))) <<< 32) ||| ((((BitVec.ofNat 64 a.natAbs) &&& (4294967295:BitVec 64))*((BitVec.ofNat 64 b.natAbs) &&& (4294967295:BitVec 64))) &&& (4294967295:BitVec 64)))=lo at *;have hw:=W.eq;rw[BitVec.toNat_ofNat,BitVec.toNat_ofNat,apq (by omega),apq (by omega)]at hw;have hlo:=lo.isLt
 have hz:decide (([(hi.toNat:Int),(lo.toNat:Int)]:List Int)=([0,0]:List Int))=decide (hi.toNat=0∧lo.toNat=0):=by
  congr 1;simp only[aoW,and_true,Int.natCast_eq_zero]
 have key:=Ze ha hb (hi:=hi.toNat) (lo:=lo.toNat) hlo hw rfl;rw[key];unfold qK;simp only[List.getD_cons_zero,apJ];rw[hz];generalize (!((decide (a<0))==(decide (b<0)))&&!decide (hi.toNat=0∧lo.toNat=0))=neg;by_cases h1:hi.toNat=0
 ·rw[anG (c:=((hi.toNat:Int) !=0)=true) (by simp[h1]),anG (c:=hi.toNat≠0) (by simp[h1])];cases neg with
  | true=>
   simp only[aoU,aot,aoY,anL,anW,anX];by_cases h2:lo.toNat≤9223372036854775808
   ·rw[anN (by simp;omega),anN h2,aB,anN rfl];congr 1;rw[BitVec.toNat_neg];unfold bq IntKind.wrap;simp[IntKind.bits,IntKind.signed];omega
   ·rw[anG (by simp;omega),anG h2,aB,anG (by simp)];rfl
  | false=>
   simp only[aoY,aoC,aoU,anL,anW];by_cases h2:lo.toNat≤9223372036854775807
   ·rw[anN (by simp;omega),anN h2,aB,anN rfl,qN (by omega)]
   ·rw[anG (by simp;omega),anG h2,aB,anG (by simp)];rfl
 ·rw[anN (by simp;omega),anN h1,aB,anG (by simp)];cases neg<;>rfl
end Go.Ft
namespace Go.Ft
open Go
attribute [local congr] fD
def WX(a b:ah)(r:Bool):ah × Int:=if (a.kind=2∧b.kind=2)∨(a.kind=3∧b.kind=3)then okV (Zf r)else Ai 9
def adZ(a b:ah):ah × Int:=
 if a.kind=2∧b.kind=2 then Oi (a.dS+b.dS)else if a.kind=3∧b.kind=3 then (if a.bR.length+b.bR.length≤4096 then okV (mkS (a.bR++b.bR))else Ai 3)
 else if a.kind=4∧b.kind=4 then (if a.aN.length+b.aN.length≤1024 then okV (JW (a.aN++b.aN))else Ai 3)else Ai 9
def afC(op:Str)(a b:ah):ah × Int:=
 if a.kind=2∧b.kind=2 then (if op=[45]then Oi (a.dS-b.dS)else if op=[42]then Oi (aeC a.dS b.dS)else if b.dS=0 then Ai 12 else if op=[47]then Oi (a.dS.tdiv b.dS)else okV (mkI (a.dS.tmod b.dS)))else Ai 9
def afx(op:Str)(a b:ah):ah × Int:=
 if op=[61,61]then okV (Zf (vo a b==0))else if op=[33,61]then okV (Zf (!(vo a b==0)))
 else if op=[60]then WX a b (decide (vo a b<0))else if op=[60,61]then WX a b (decide (vo a b≤0))else if op=[62]then WX a b (decide (0<vo a b))else if op=[62,61]then WX a b (decide (0≤vo a b))
 else if op=[43]then adZ a b else afC op a b
theorem Dq(a b:ah)(k:Int):oI a b k=some (decide (a.kind=k∧b.kind=k)):=by
 unfold oI;congr 1;rw[ao9];simp
theorem Y8{a b:ah}(ha:a.bulk<4611686018427387904)(hb:b.bulk<4611686018427387904):mK a b=some (if (a.kind=2∧b.kind=2)∨(a.kind=3∧b.kind=3)then .ok (vo a b)else .bad ⟨9⟩):=by
 unfold mK;rw[Dq,Dq,aj,aeT,aj,jq];by_cases h:(a.kind=2∧b.kind=2)∨(a.kind=3∧b.kind=3)
 ·rw[anN h,anN (by simpa using h),iW,(Ki ha hb).1];rfl
 ·rw[anG h,anG (by simpa using h)];rfl
theorem tdiv_le{a b:Int}{N:Nat}(h:a.natAbs≤N):(a.tdiv b).natAbs≤N:=by
 rw[Int.natAbs_tdiv];exact apA (Nat.div_le_self _ _) h
theorem agV{a b:Int}{N:Nat}(h:a.natAbs≤N):(a.tmod b).natAbs≤N:=by
 rw[Int.natAbs_tmod];exact apA (Nat.mod_le _ _) h
theorem adW{a b:ah}(ha:VV a)(hb:VV b):Eh a b=some (zx (adZ a b)):=by
 have la:=kr ha.1;have lb:=kr hb.1;have hL:w9=4294967296:=rfl;unfold Eh adZ;rw[Dq,Dq,Dq];simp only[aj,anZ];by_cases h2:a.kind=2∧b.kind=2
 ·rw[anN h2,anN h2,qN (by omega),Ie];generalize Oi (a.dS+b.dS)=p;unfold zx;split<;>rfl
 ·rw[anG h2,anG h2];by_cases h3:a.kind=3∧b.kind=3
  ·rw[anN h3,anN h3,qN (by omega),jq];by_cases hc:a.bR.length+b.bR.length≤4096
   ·rw[anN hc,anN (by simp;omega),iW,u7 (by omega),aj];rfl
   ·rw[anG hc,anG (by simp;omega)];rfl
  ·rw[anG h3,anG h3,jq];by_cases h4:a.kind=4∧b.kind=4
   ·rw[anN h4,anN (by simpa using h4),iW,qN (by omega),jq];by_cases hc:a.aN.length+b.aN.length≤1024
    ·rw[anN hc,anN (by simp;omega),iW,u7 (by simp;omega),aj,u7 (by simp;omega),aj];rfl
    ·rw[anG hc,anG (by simp;omega)];rfl
   ·rw[anG h4,anG (by simpa using h4)];rfl
theorem akq{b:Int}(h:b≠0):OV (!(b==0))=some ():=bf (by simpa using h)
theorem afB{op:Str}{a b:ah}(ha:VV a)(hb:VV b):oJ op a b=some (zx (afC op a b)):=by
 have la:=kr ha.1;have lb:=kr hb.1;unfold oJ afC;rw[Dq,aj,jq];by_cases h2:a.kind=2∧b.kind=2
 ·rw[anN (by simpa using h2),anN h2,iW];by_cases o1:op=[45]
  ·rw[anN (by simpa using o1),anN o1,qN (by omega),Ie];generalize Oi (a.dS-b.dS)=p;unfold zx;split<;>rfl
  ·rw[anG (by simpa using o1),anG o1];by_cases o2:op=[42]
   ·rw[anN (by simpa using o2),anN o2,Zc ⟨la.2.2.2.1,la.2.2.2.2⟩ ⟨lb.2.2.2.1,lb.2.2.2.2⟩,aj,Ie];generalize Oi (aeC a.dS b.dS)=p;unfold zx;split<;>rfl
   ·rw[anG (by simpa using o2),anG o2,jq];by_cases hz:b.dS=0
    ·rw[anG (by simp[hz]),anN hz];rfl
    ·rw[anN (by simpa using hz),anG hz,iW,akq hz,aj,aj];have hd:=tdiv_le (a:=a.dS) (b:=b.dS) (N:=9007199254740992) (by omega);by_cases o3:op=[47]
     ·rw[anN (by simpa using o3),anN o3,qN (by omega),Ie];generalize Oi (a.dS.tdiv b.dS)=p;unfold zx;split<;>rfl
     ·rw[anG (by simpa using o3),anG o3];rfl
 ·rw[anG (by simpa using h2),anG h2];rfl
theorem Yb{op:Str}{a b:ah}(ha:VV a)(hb:VV b)(ba:a.bulk<4611686018427387904)(bb:b.bulk<4611686018427387904):
  (if op==([61,61]:Str)then av (lY a b) fun x7=>av (eY x7) fun x8=>some (.ok x8)
  else if op==([33,61]:Str)then av (lY a b) fun x9=>av (eY (!x9)) fun Kn=>some (.ok Kn)
  else if op==([60]:Str)then dM (mK a b) (fun e10=>some (.bad e10)) fun RP=>av (eY (decide (RP<0))) fun x12=>some (.ok x12)
  else if op==([60,61]:Str)then dM (mK a b) (fun e11=>some (.bad e11)) fun V7=>av (eY (decide (V7≤0))) fun x14=>some (.ok x14)
  else if op==([62]:Str)then dM (mK a b) (fun e12=>some (.bad e12)) fun x15=>av (eY (decide (0<x15))) fun x16=>some (.ok x16)
  else if op==([62,61]:Str)then dM (mK a b) (fun e13=>some (.bad e13)) fun x17=>av (eY (decide (0≤x17))) fun x18=>some (.ok x18)
  else if op==([43]:Str)then dM (Eh a b) (fun e14=>some (.bad e14)) fun x19=>some (.ok x19)
  else dM (oJ op a b) (fun e15=>some (.bad e15)) fun x20=>some (.ok x20))=some (zx (afx op a b)):=by
 unfold afx;rw[(RA ba bb).1,Y8 ba bb,adW ha hb,afB ha hb]
 have rel:∀r:Int→Bool,(dM (some (if (a.kind=2∧b.kind=2)∨(a.kind=3∧b.kind=3)then (.ok (vo a b):fq aF Int)else .bad ⟨9⟩)) (fun e10=>some (.bad e10)) fun RP=>av (eY (r RP)) fun x12=>some (.ok x12))=some (zx (WX a b (r (vo a b)))):=by
  intro r;unfold WX;by_cases h:(a.kind=2∧b.kind=2)∨(a.kind=3∧b.kind=3)
  ·rw[anN h,anN h];rfl
  ·rw[anG h,anG h];rfl
 rw[rel fun x=>decide (x<0),rel fun x=>decide (x≤0),rel fun x=>decide (0<x),rel fun x=>decide (0≤x)]
 have ret:∀p:ah × Int,(dM (some (zx p)) (fun e=>some (.bad e)) fun x=>some (.ok x))=some (zx p):=by
  intro p;unfold zx;split<;>rfl
 rw[ret,ret];simp only[aoi,aj,eY]
 repeat' split
 all_goals rfl
theorem aeJ{a:ah}(ha:VV a)(h4:a.kind=4):∀x∈a.aN,yI x<16:=by
 intro x hx;have h2:=ha.2;rw[wF,anN (by simp[h4])]at h2;have:=Xu (n:=2) hx;omega
theorem ad9(s:Str):abU (mkS s)=if s.length≤4096 then okV (mkS s)else Ai 3:=by
 unfold abU;have e1:(mkS s).dS=0:=rfl;have e2:(mkS s).bR=s:=rfl;have e3:(mkS s).aN.length=0:=rfl;have e4:yI (mkS s)=1:=by rw[wF];rfl
 rw[e1,e2,e3,e4,anG (by omega)];by_cases h:s.length≤4096
 ·rw[anN h,anG (by omega),anG (by omega)]
 ·rw[anG h,anN (by omega)]
theorem abT{l:List ah}(hl:yI (JW l)≤16):abU (JW l)=if l.length≤1024 then okV (JW l)else Ai 3:=by
 unfold abU;have e1:(JW l).dS=0:=rfl;have e2:(JW l).bR.length=0:=rfl;have e3:(JW l).aN=l:=rfl;rw[e1,e2,e3,anG (by omega)];by_cases h:l.length≤1024
 ·rw[anN h,anG (by omega),anG (by omega)]
 ·rw[anG h,anN (by omega)]
theorem ag1{a b:ah}(ha:VV a)(hb:VV b):GV (adZ a b) (a.bulk+b.bulk+8000):=by
 have la:=kr ha.1;have lb:=kr hb.1;unfold adZ;split
 ·exact(OM _).mono (by omega)
 ·split
  ·split
   ·exact GV.ok (ME (by simp;omega)) (by rw[zZ];simp;omega)
   ·exact GV.er (by decide)
  ·split
   ·rename_i h4;split
    ·rename_i hc;refine GV.ok ((Ve (by simpa using hc) fun x hx=>?_).2.2 fun x hx=>?_) ?_
     ·rcases aoZ.1 hx with h|h
      ·exact ha.mem h
      ·exact hb.mem h
     ·rcases aoZ.1 hx with h|h
      ·exact aeJ ha h4.1 x h
      ·exact aeJ hb h4.2 x h
     ·rw[GK,apE,List.sum_append];have e1:=uh a;have e2:=uh b;rw[ah.pF]at e1 e2;omega
    ·exact GV.er (by decide)
   ·exact GV.er (by decide)
theorem ah_{op:Str}{a b:ah}(ha:VV a)(hb:VV b):GV (afC op a b) 7:=by
 have la:=kr ha.1;unfold afC;split
 ·split
  ·exact OM _
  ·split
   ·exact OM _
   ·split
    ·exact GV.er (by decide)
    ·split
     ·exact OM _
     ·have hd:=agV (a:=a.dS) (b:=b.dS) (N:=9007199254740992) (by omega);exact GV.ok (Qf (by omega)) (by rw[GL];omega)
 ·exact GV.er (by decide)
theorem OB(a b:ah)(r:Bool):GV (WX a b r) 7:=by
 unfold WX;split
 ·exact GV.ok (EU _) (by rw[xQ];omega)
 ·exact GV.er (by decide)
theorem ah7{op:Str}{a b:ah}(ha:VV a)(hb:VV b):GV (afx op a b) (a.bulk+b.bulk+8000):=by
 unfold afx;split
 ·exact GV.ok (EU _) (by rw[xQ];omega)
 ·split
  ·exact GV.ok (EU _) (by rw[xQ];omega)
  ·split
   ·exact(OB _ _ _).mono (by omega)
   ·split
    ·exact(OB _ _ _).mono (by omega)
    ·split
     ·exact(OB _ _ _).mono (by omega)
     ·split
      ·exact(OB _ _ _).mono (by omega)
      ·split
       ·exact ag1 ha hb
       ·exact(ah_ ha hb).mono (by omega)
end Go.Ft
namespace Go.Ft
open Go
attribute [local congr] fD
def RU(a:ah):Str:=if a.kind=0 then []else if a.kind=3 then a.bR else if a.kind=1 then (if a.dR then [116,114,117,101]else [102,97,108,115,101])else tK a.dS
def aev(s:Str):ah × Int:=match EH s with|some (n,true)=>okV (mkI n)|_=>Ai 1
def aer(name:Str)(a:ah):ah × Int:=
 if name=[108,101,110]then (if a.kind=3∨a.kind=4∨a.kind=5 then okV (mkI ((a.bR.length:Int)+a.aN.length))else Ai 9)
 else if name=[107,101,121,115]then (if a.kind=5 then okV (JW (a.keys.map mkS))else Ai 9)
 else if name=[115,116,114,105,110,103]then (if a.kind=4∨a.kind=5 then Ai 9 else okV (mkS (RU a)))
 else if a.kind≠3 then Ai 9
 else if name=[108,111,119,101,114]then okV (mkS (a.bR.map (R9 65 90 32)))else if name=[117,112,112,101,114]then okV (mkS (a.bR.map (R9 97 122 (-32))))else aev a.bR
theorem Xy{n:Int}(h:-9007199254740992≤n∧n≤9007199254740992):(tK n).length≤21:=by
 unfold tK;split
 ·have:=Hu 20 n.natAbs (by have:(10:Nat) ^ 20=100000000000000000000:=(by decide);omega) (by omega);simp only[an5];omega
 ·have:=Hu 20 n.toNat (by have:(10:Nat) ^ 20=100000000000000000000:=(by decide);omega) (by omega);omega
theorem OW{u:Nat}(h:u<10):Ft.byteOf ((48+u:Nat):Int)=dg u:=by
 apply aoB.1;have:((byteOf ((48+u:Nat):Int)).toNat:Int)=((48+u:Nat):Int):=M5 (by omega) (by omega);rw[MV h];omega
theorem afh:∀(k u:Nat),u<10 ^ k→u<100000000000000000000→0<k→u≤9223372036854775807→lM k (u:Int)=some (rz 20 u)∧(0<u→lM k (-(u:Int))=some (45::rz 20 u))
 | 0,_,_,_,h,_=>by omega
 | k+1,u,h,h20,_,hm=>by
  have hL:w9=4294967296:=rfl;rw[lM,lM,zF,zF];by_cases hu:u<10
  ·constructor
   ·rw[anG (by simp),anN (by simp;omega),qN (by omega),E_ hu,show (48:Int)+(u:Int)=((48+u:Nat):Int)from by omega,OW hu]
   ·intro hp;rw[anN (by simp;omega),anN (by simp;omega),qN (by omega),E_ hu,show (48:Int) - -(u:Int)=((48+u:Nat):Int)from by omega,OW hu,u7 (by simp;omega)];rfl
  ·have hk:0<k:=by
    rcases apz k with h0|h0
    ·subst h0;omega
    ·exact h0
   obtain⟨i1,i2⟩:=afh k (u/10) (by rw[ape]at h;omega) (by omega) hk (by omega);have hlen:=Hu 20 (u/10) (by have:(10:Nat) ^ 20=100000000000000000000:=(by decide);omega) (by omega);constructor
   ·rw[anG (by simp),anG (by simp;omega),show ((u:Int).tdiv 10)=((u/10:Nat):Int)from rfl,show ((u:Int).tmod 10)=((u%10:Nat):Int)from rfl,qN (by omega),i1,aj,qN (by omega),
     show (48:Int)+((u%10:Nat):Int)=((48+u%10:Nat):Int)from by omega,OW (by omega),u7 (by simp;omega),Ls hu h20]
   ·intro hp
    rw[anN (by simp;omega),anG (by simp;omega),Int.neg_tdiv,Int.neg_tmod,show ((u:Int).tdiv 10)=((u/10:Nat):Int)from rfl,show ((u:Int).tmod 10)=((u%10:Nat):Int)from rfl,qN (n:=-((u/10:Nat):Int)) (by omega),i2 (by omega),aj,qN (by omega),
     show (48:Int) - -((u%10:Nat):Int)=((48+u%10:Nat):Int)from by omega,OW (by omega),u7 (by simp;omega),Ls hu h20,apc]
theorem Lu:∀(k m:Nat) (n:Int) (r:Str),k≤m→lM k n=some r→lM m n=some r
 | 0,_,_,_,_,h=>by cases h
 | k+1,0,_,_,h,_=>by omega
 | k+1,m+1,n,r,hk,h=>by
  rw[lM,zF]at h⊢;split at h
  ·rename_i h1;rw[anN h1];split at h
   ·rename_i h2;rw[anN h2];exact h
   ·rename_i h2;rw[anG h2];obtain⟨x,hx,h⟩:=jE h;rw[Lu k m _ _ (by omega) hx,aj];exact h
  ·rename_i h1;rw[anG h1];split at h
   ·rename_i h2;rw[anN h2];exact h
   ·rename_i h2;rw[anG h2];obtain⟨x,hx,h⟩:=jE h;rw[Lu k m _ _ (by omega) hx,aj];exact h
theorem ZA{n:Int}(h:-9007199254740992≤n∧n≤9007199254740992):Gt n=some (tK n):=by
 have e20:(10:Nat) ^ 20=100000000000000000000:=by decide
 unfold Gt tK;by_cases hn:n<0
 ·rw[anN hn];have:=(afh 20 n.natAbs (by omega) (by omega) (by omega) (by omega)).2 (by omega);rw[show -((n.natAbs:Nat):Int)=n from by omega]at this;exact Lu 20 BIG n _ (by have:=dX;omega) this
 ·rw[anG hn];have:=(afh 20 n.toNat (by omega) (by omega) (by omega) (by omega)).1;rw[show ((n.toNat:Nat):Int)=n from by omega]at this;exact Lu 20 BIG n _ (by have:=dX;omega) this
theorem aci{n:Int}(h:-9007199254740992≤n∧n≤9007199254740992):strconv_Itoa n=some (tK n):=by
 unfold strconv_Itoa;rw[anN (by omega)]
theorem kinds{a:ah}(ha:VV a):0≤a.kind∧a.kind≤5:=by
 have h1:=((xu a).1 ha.1).1;have:=YE h1;omega
theorem air:∃n,BIG=n+1:=⟨BIG-1,by decide⟩
theorem S9{a:ah}(ha:VV a)(hb:a.bulk<4611686018427387904):yL a=some (if a.kind=4∨a.kind=5 then ([],9)else (RU a,0))∧W_ a=some (if a.kind=4∨a.kind=5 then ([],9)else (RU a,0)):=by
 have la:=kr ha.1;have hk:=kinds ha;unfold yL W_;by_cases h45:a.kind=4∨a.kind=5
 ·rw[anN h45,anN (by simpa using h45),anN (by simpa using h45)];exact⟨rfl,rfl⟩
 ·have b45:((a.kind==4)||(a.kind==5))=false:=by rw[aoE,an7,an7];omega
  have bz:((0:Int) !=0)=false:=rfl;rw[anG h45,DT hb,YH hb,(Rz _).2 ha];simp only[b45,aj,bz,anL,anW];unfold RU;by_cases h0:a.kind=0
  ·simp only[h0,ao0,anX,and_self]
  ·have b0:(a.kind==0)=false:=by simpa using h0
   simp only[b0,h0,anL,anW];by_cases h3:a.kind=3
   ·simp only[h3,ao0,anX,and_self]
   ·have b3:(a.kind==3)=false:=by simpa using h3
    simp only[b3,h3,anL,anW];obtain⟨n,hn⟩:=air;unfold Dx NG;rw[hn,vU,vV,Dy,Jd];by_cases h1:a.kind=1
    ·simp only[h1,ao0,anX,strconv_FormatBool,o7];have e10:((1:Int)==0)=false:=rfl;rw[e10];cases a.dR<;>exact⟨rfl,rfl⟩
    ·have h2:a.kind=2:=by omega
     rw[h2,ZA ⟨la.2.2.2.1,la.2.2.2.2⟩,aci ⟨la.2.2.2.1,la.2.2.2.2⟩];exact⟨rfl,rfl⟩
theorem Xi{s:Str}(hs:s.length≤281474976710656):(eD (tY s) fun n1 ok1=>dM (dN ok1 1) (fun e6=>some (.bad e6)) fun _=>av (o_ n1) fun V7=>some (.ok V7))=some (zx (aev s))∧
  (eD (EH s) fun n1 ok1=>if !ok1 then some ((ah.mk 0 false 0 ([]:Str) [] []),1)else some ((ah.mk 2 false n1 ([]:Str) [] []),0))=some (aev s)∧GV (aev s) 7:=by
 obtain⟨n,ok,n',h1,h2,h3⟩:=number_eq hs;unfold aev;rw[h1,h2,aB,aB,jq];cases ok with
 | true=>
  obtain⟨e,h4⟩:=h3 rfl;subst e;exact⟨rfl,rfl,GV.ok (Qf h4) (by rw[GL];omega)⟩
 | false=>exact⟨rfl,rfl,GV.er (by decide)⟩
theorem aep{name:Str}{a:ah}(ha:VV a)(hb:a.bulk<4611686018427387904):Hf name a=some (zx (aer name a)):=by
 have la:=kr ha.1;have hL:w9=4294967296:=rfl;unfold Hf aer iD;by_cases n1:name=[108,101,110]
 ·have m1:(name==([108,101,110]:Str))=true:=by simpa using n1
  rw[anN m1,anN n1];simp only[aj,aeT,jq];by_cases hk:a.kind=3∨a.kind=4∨a.kind=5
  ·rw[anN (by simp;omega),anN hk,iW,qN (by omega)];rfl
  ·rw[anG (by simp;omega),anG hk];rfl
 ·have m1:(name==([108,101,110]:Str))=false:=by simpa using n1
  rw[m1,anG (by simp),anG n1];by_cases n2:name=[107,101,121,115]
  ·have m2:(name==([107,101,121,115]:Str))=true:=by simpa using n2
   rw[anN m2,anN n2,aj,jq];by_cases hk:a.kind=5
   ·rw[anN (by simpa using hk),anN hk,iW,aat (by omega)];rfl
   ·rw[anG (by simpa using hk),anG hk];rfl
  ·have m2:(name==([107,101,121,115]:Str))=false:=by simpa using n2
   rw[m2,anG (by simp),anG n2];by_cases n3:name=[115,116,114,105,110,103]
   ·have m3:(name==([115,116,114,105,110,103]:Str))=true:=by simpa using n3
    rw[anN m3,anN n3,(S9 ha hb).1];by_cases hk:a.kind=4∨a.kind=5
    ·rw[anN hk,anN hk,aB,jq];rfl
    ·rw[anG hk,anG hk,aB,jq];rfl
   ·have m3:(name==([115,116,114,105,110,103]:Str))=false:=by simpa using n3
    rw[m3,anG (by simp),anG n3,aj,jq];by_cases hk:a.kind=3
    ·have k3:(a.kind==3)=true:=by simpa using hk
     rw[k3,anN (by rfl),anG (c:=a.kind≠3) (by simpa using hk),iW];by_cases n4:name=[108,111,119,101,114]
     ·rw[anN (c:=name=[108,111,119,101,114]) n4,anN (by simpa using n4),(TP (by omega) _ _ _).1];rfl
     ·have m4:(name==([108,111,119,101,114]:Str))=false:=by simpa using n4
      rw[m4,anG (c:=false=true) (by simp),anG (c:=name=[108,111,119,101,114]) n4];by_cases n5:name=[117,112,112,101,114]
      ·rw[anN (c:=name=[117,112,112,101,114]) n5,anN (by simpa using n5),(TP (by omega) _ _ _).1];rfl
      ·have m5:(name==([117,112,112,101,114]:Str))=false:=by simpa using n5
       rw[m5,anG (c:=false=true) (by simp),anG (c:=name=[117,112,112,101,114]) n5];exact(Xi (by omega)).1
    ·have k3:(a.kind==3)=false:=by simpa using hk
     rw[k3,anG (c:=false=true) (by simp),anN (c:=a.kind≠3) hk];rfl
theorem ahx{name:Str}{a:ah}(ha:VV a):GV (aer name a) 5000000:=by
 have la:=kr ha.1
 have txt:(RU a).length≤4096:=by
  unfold RU;have:=Xy ⟨la.2.2.2.1,la.2.2.2.2⟩;split
  ·simp
  ·split
   ·omega
   ·split
    ·split<;>simp
    ·omega
 have anF:∀s∈a.keys,s.length≤4096:=by
  have h1:=((xu a).1 ha.1).1;intro s hs
  have key:∀(l:List Str) (p:Option Str),H7 p l=true→∀s∈l,s.length≤64:=by
   intro l
   induction l with
   | nil=>intro p _ s hs;cases hs
   | cons x l ih=>
    intro p h s hs;rw[H7.eq_def]at h;simp only[an_]at h;rcases aoJ.1 hs with rfl|hs
    ·exact(Eb h.1.1).2
    ·exact ih _ h.2 s hs
  by_cases h5:a.kind=5
  ·unfold lV at h1;rw[anG (by omega)]at h1;split at h1
   ·cases h1
   ·split at h1
    ·cases h1
    ·split at h1
     ·cases h1
     ·split at h1
      ·cases h1
      ·rename_i hq;simp only[h5,ao0,aoU,aoR,Bool.not_eq_false,an_]at hq;have:=key _ _ hq.2 s hs;omega
  ·have hp:=LV h1;unfold pK at hp;simp only[an_,aov,aoi]at hp;have:=hp.2;have hz:a.keys.length=0:=by omega
   have:=aoL hz;rw[this]at hs;cases hs
 unfold aer;split
 ·split
  ·exact GV.ok (Qf (by omega)) (by rw[GL];omega)
  ·exact GV.er (by decide)
 ·split
  ·split
   ·obtain⟨h1,h2⟩:=WH la.2.2.1 anF;exact GV.ok h1 (by omega)
   ·exact GV.er (by decide)
  ·split
   ·split
    ·exact GV.er (by decide)
    ·exact GV.ok (ME txt) (by rw[zZ];omega)
   ·split
    ·exact GV.er (by decide)
    ·split
     ·exact GV.ok (ME (by simp;omega)) (by rw[zZ];simp;omega)
     ·split
      ·exact GV.ok (ME (by simp;omega)) (by rw[zZ];simp;omega)
      ·exact(Xi (by omega)).2.2.mono (by omega)
end Go.Ft
namespace Go.Ft
open Go
attribute [local congr] fD
def Uh(a b:ah):ah × Int:=
 if a.kind=4 then okV (Zf (a.aN.any fun x=>vo x b==0))else if a.kind=3∧b.kind=3 then okV (Zf (kP a.bR b.bR).isSome)else if a.kind=5∧b.kind=3 then okV (Zf (Sj a b.bR).isSome)else Ai 9
def TV(a b:ah):ah × Int:=
 if a.kind=4∧b.kind=3 then (if a.aN.all fun x=>x.kind==3 then (if (lZ (a.aN.map (·.bR)) b.bR).length≤4096 then okV (mkS (lZ (a.aN.map (·.bR)) b.bR))else Ai 3)else Ai 9)else Ai 9
def ad4(s t:Str):ah × Int:=if t=[]then Ai 1 else if (mR t (s.length+1) s).length≤1024 then okV (JW ((mR t (s.length+1) s).map mkS))else Ai 3
def adK(name:Str)(a b:ah):ah × Int:=
 if name=[100,101,102,97,117,108,116]then (if a.kind=0 then okV b else okV a)else if name=[99,111,110,116,97,105,110,115]then Uh a b else if name=[106,111,105,110]then TV a b
 else if ¬(a.kind=3∧b.kind=3)then Ai 9
 else if name=[115,116,97,114,116,115,119,105,116,104]then okV (Zf (preS a.bR b.bR))else if name=[101,110,100,115,119,105,116,104]then okV (Zf (ag3 a.bR b.bR))else ad4 a.bR b.bR
theorem zy(p:ah × Int):(dM (some (zx p)) (fun e=>some (.bad e)) fun x=>some (.ok x))=some (zx p):=by
 unfold zx;split<;>rfl
theorem ai2{a b:ah}(ha:a.bulk<4611686018427387904)(hb:b.bulk<4611686018427387904):nN a b BIG 0=some (.ok (a.aN.any fun x=>vo x b==0))∧vX a b BIG 0=some (okV (Zf (a.aN.any fun x=>vo x b==0))):=by
 have hl:=uq a;constructor
 ·rw[fu (F:=fun k (_:Unit) i=>nN a b k i) (l:=a.aN) (body:=fun _ e1 (_:Unit) r=>av (lY e1 b) fun x3=>if x3 then some (.ok true)else r ()) (fin:=fun _=>some (.ok false)) (by omega) (fun k s i=>rfl) ()]
  have key:∀(t:List ah) (i:Nat),(∀x∈t,x.bulk<4611686018427387904)→eX (R:=fq aF Bool) (fun _ e1 (_:Unit) r=>av (lY e1 b) fun x3=>if x3 then some (.ok true)else r ()) (fun _=>some (.ok false)) i t ()=some (.ok (t.any fun x=>vo x b==0)):=by
   intro t
   induction t with
   | nil=>intro i _;rfl
   | cons d t ih=>
    intro i h;rw[eX,(RA (h d (by simp)) hb).1,aj,apM];cases (vo d b==0)with
    | true=>rfl
    | false=>simp only[anL,anW,ao2];exact ih (i+1) fun x hx=>h x (by simp[hx])
  exact key _ 0 fun x hx=>by have:=ig hx;omega
 ·rw[fu (F:=fun k (_:Unit) i=>vX a b k i) (l:=a.aN) (body:=fun _ e1 (_:Unit) r=>av (D6 e1 b) fun x1=>if x1 then av (zU true) fun x2=>some (x2,0)else r ()) (fin:=fun _=>av (zU false) fun x3=>some (x3,0)) (by omega) (fun k s i=>rfl) ()]
  have key:∀(t:List ah) (i:Nat),(∀x∈t,x.bulk<4611686018427387904)→eX (fun _ e1 (_:Unit) r=>av (D6 e1 b) fun x1=>if x1 then av (zU true) fun x2=>some (x2,(0:Int))else r ()) (fun _=>av (zU false) fun x3=>some (x3,0)) i t ()=some (okV (Zf (t.any fun x=>vo x b==0))):=by
   intro t
   induction t with
   | nil=>intro i _;rfl
   | cons d t ih=>
    intro i h;rw[eX,(RA (h d (by simp)) hb).2,aj,apM];cases (vo d b==0)with
    | true=>rfl
    | false=>simp only[anL,anW,ao2];exact ih (i+1) fun x hx=>h x (by simp[hx])
  exact key _ 0 fun x hx=>by have:=ig hx;omega
theorem acG{a b:ah}(ha:VV a)(hb:VV b)(ba:a.bulk<4611686018427387904)(bb:b.bulk<4611686018427387904):(dM (vP a b) (fun e1=>some (.bad e1)) fun x2=>av (eY x2) fun x3=>some (.ok x3))=some (zx (Uh a b))∧KM a b=some (Uh a b):=by
 have la:=kr ha.1;have lb:=kr hb.1;have hk:=yK a;unfold vP KM Uh iD;rw[(ai2 ba bb).1,(ai2 ba bb).2,Dq];by_cases h4:a.kind=4
 ·have b4:(a.kind==4)=true:=by simpa using h4
  simp only[h4,anX,aj];exact⟨rfl,rfl⟩
 ·have b4:(a.kind==4)=false:=by simpa using h4
  simp only[b4,h4,anW,aj,anL,anZ];by_cases h33:a.kind=3∧b.kind=3
  ·have e1:((b.kind !=3)||((a.kind !=3)&&(a.kind !=5)))=false:=by simp[h33.1,h33.2]
   have e5:(a.kind==5)=false:=by simp[h33.1]
   simp only[h33,and_self,anX,strings_Contains];rw[anN (by omega),aiT (by omega) (by omega)];simp only[aj,iW,ae7,aoV];exact⟨rfl,rfl⟩
  ·rw[anG h33,anG h33];by_cases h53:a.kind=5∧b.kind=3
   ·have e1:((b.kind !=3)||((a.kind !=3)&&(a.kind !=5)))=false:=by simp[h53.1,h53.2]
    have e5:(a.kind==5)=true:=by simp[h53.1]
    have e3:(b.kind==3)=true:=by simp[h53.2]
    rw[anN h53,e1,e5,e3];simp only[anX,aj,Mv,iW,anL,anW];rw[aam ha.1 ba,ahg (by omega)];cases Sj a b.bR with
    | none=>exact⟨rfl,rfl⟩
    | some v=>exact⟨rfl,rfl⟩
   ·have e1:((b.kind !=3)||((a.kind !=3)&&(a.kind !=5)))=true:=by
     rw[aov,an_,aoF,aoF,aoF];omega
    have e2:(if (a.kind==5)=true then some (b.kind==3)else some false)=some false:=by
     by_cases h5:a.kind=5
     ·rw[anN (by simpa using h5)];have:(b.kind==3)=false:=by rw[an7];omega
      rw[this]
     ·rw[anG (by simpa using h5)]
    rw[anG h53,e1,e2,aj,Mw];exact⟨rfl,rfl⟩
theorem afj(a b:ah):GV (Uh a b) 7:=by
 unfold Uh;split
 ·exact GV.ok (EU _) (by rw[xQ];omega)
 ·split
  ·exact GV.ok (EU _) (by rw[xQ];omega)
  ·split
   ·exact GV.ok (EU _) (by rw[xQ];omega)
   ·exact GV.er (by decide)
theorem TW:∀(l:List Str) (t:Str),(lZ l t).length=(l.map List.length).sum+t.length*(l.length-1)
 | [],t=>by simp[lZ]
 | [x],t=>by simp[lZ]
 | x::y::r,t=>by
  rw[lZ,apx,apx,TW (y::r) t];simp only[aor,aoK,an5,Nat.add_sub_cancel];rw[Nat.mul_add t.length r.length 1];omega
theorem Qw:∀(l:List Str) (x t:Str),lZ (l++[x]) t=if l=[]then x else lZ l t++(t++x)
 | [],x,t=>by simp[lZ]
 | [a],x,t=>by simp[lZ]
 | a::b::r,x,t=>by
  have ih:=Qw (b::r) x t;rw[apc,apc,lZ,←apc,ih,anG (by simp),anG (by simp),lZ];simp
theorem aiP{a b:ah}(la:∀x∈a.aN,x.bR.length≤4096)(lb:b.bR.length≤4096)(ll:a.aN.length≤1024):∀(t:List ah) (i n:Nat) (l:List Str),t=a.aN.drop i→i≤a.aN.length→l.length=i→n=(l.map List.length).sum→n≤i*4096→
  eX (R:=fq aF ah) (fun _ e2 (s:Int × List Str) r=>av (iD e2 3) fun x4=>dM (dN x4 9) (fun e3=>some (.bad e3)) fun _=>av (app s.2 ([e2.bR]:List Str)) fun l2=>r (bq (s.1+(e2.bR.length:Int)),l2))
   (fun s=>dM (dN (decide ((bq (s.1+(bq ((b.bR.length:Int)*(if 0<(bq ((s.2.length:Int)-1))then (bq ((s.2.length:Int)-1))else 0)))))≤4096)) 3) (fun e4=>some (.bad e4)) fun _=>av (strings_Join s.2 b.bR) fun x5=>av (lF x5) fun x6=>some (.ok x6)) i t ((n:Int),l)
   =some (zx (if t.all fun x=>x.kind==3 then (if (lZ (l++t.map (·.bR)) b.bR).length≤4096 then okV (mkS (lZ (l++t.map (·.bR)) b.bR))else Ai 3)else Ai 9))
 | [],i,n,l,ht,hi,hl,hn,hb=>by
  have hj:=TW l b.bR;have hL:b.bR.length*(l.length-1)≤4096*1024:=Nat.mul_le_mul lb (by omega);rw[eX];simp only[List.all_nil,anX,apd,List.append_nil]
  have e:(if 0<(bq ((l.length:Int)-1))then (bq ((l.length:Int)-1))else 0)=((l.length-1:Nat):Int):=by
   rw[qN (by omega)];split<;>omega
  rw[e,←Int.natCast_mul,qN (n:=((b.bR.length*(l.length-1):Nat):Int)) (by omega),qN (by omega),jq];by_cases hc:(lZ l b.bR).length≤4096
  ·rw[anN hc,anN (by simp;omega),iW,strings_Join,anN ⟨by omega,by omega⟩];rfl
  ·rw[anG hc,anG (by simp;omega)];rfl
 | x::t,i,n,l,ht,hi,hl,hn,hb=>by
  obtain⟨h1,e1,e2⟩:=wh ht;have hm:x∈a.aN:=by rw[e1];exact aol h1
  have hx:=la x hm;have ahJ:w9=4294967296:=rfl;rw[eX,iD,aj,jq,List.all_cons];by_cases h3:x.kind=3
  ·have b3:(x.kind==3)=true:=by simpa using h3
   rw[b3,anN rfl,iW,aoU];simp only;rw[u7 (by simp;omega),aj,qN (by omega),show (n:Int)+(x.bR.length:Int)=((n+x.bR.length:Nat):Int)from by omega];rw[aiP la lb ll t (i+1) (n+x.bR.length) (l++[x.bR]) e2 (by omega) (by simp;omega) (by simp[hn]) (by omega)];simp
  ·have b3:(x.kind==3)=false:=by simpa using h3
   rw[b3,anG (by simp),aoY,anG (by simp)];rfl
theorem aeS{a b:ah}(la:∀x∈a.aN,x.bR.length≤4096)(lb:b.bR.length≤4096)(ll:a.aN.length≤1024):∀(t:List ah) (i:Nat) (l:List Str) (k:Nat),t=a.aN.drop i→i≤a.aN.length→l.length=i→(lZ l b.bR).length≤i*8192→a.aN.length<k+i→
  wR a b k (lZ l b.bR) (i:Int)=some (if t.all fun x=>x.kind==3 then (if (lZ (l++t.map (·.bR)) b.bR).length≤4096 then okV (mkS (lZ (l++t.map (·.bR)) b.bR))else Ai 3)else Ai 9)
 | _,i,l,0,_,_,_,_,h=>by omega
 | [],i,l,k+1,ht,hi,hl,hb,hk=>by
  have h1:=Bv ht;rw[wR,anG (by simp;omega),Im,aj];refine(Tz (v:=mkS (lZ l b.bR)) (by rw[zZ];omega)).trans ?_;rw[ad9];simp
 | x::t,i,l,k+1,ht,hi,hl,hb,hk=>by
  obtain⟨h1,e1,e2⟩:=wh ht;have hm:x∈a.aN:=by rw[e1];exact aol h1
  have hx:=la x hm;have ahJ:w9=4294967296:=rfl;rw[wR,anN (by simp;omega),gK h1,aj,←e1,List.all_cons];by_cases h3:x.kind=3
  ·have b3:(x.kind==3)=true:=by simpa using h3
   have c3:(x.kind !=3)=false:=by simp[h3]
   rw[c3,anG (by simp),b3,aoU];simp only[aj];have hs:=Qw l x.bR b.bR;by_cases h0:l=[]
   ·subst h0;have hi0:i=0:=by rw[←hl];rfl
    rw[anN rfl]at hs;rw[anG (by simp;omega),u7 (by simp[lZ];omega),aj,iG (by omega)];have hj:lZ ([]:List Str) b.bR++x.bR=lZ ([]++[x.bR]) b.bR:=by rw[hs];rfl
    rw[hj,aeS la lb ll t (i+1) ([]++[x.bR]) k e2 (by omega) (by simp;omega) (by rw[hs];omega) (by omega)];simp
   ·have hi0:0<i:=by rw[←hl];exact aoH.2 h0
    rw[anN (by simp;omega),u7 (by omega),aj,u7 (by simp;omega),aj,iG (by omega)];rw[anG h0]at hs;rw[apC,←hs,aeS la lb ll t (i+1) (l++[x.bR]) k e2 (by omega) (by simp;omega) (by rw[hs];simp;omega) (by omega)];simp
  ·have b3:(x.kind==3)=false:=by simpa using h3
   have c3:(x.kind !=3)=true:=by simp[h3]
   rw[c3,anN rfl,b3,aoY,anG (by simp)];rfl
theorem ach{a b:ah}(ha:VV a)(hb:VV b):Ab a b=some (zx (TV a b))∧WZ a b=some (TV a b):=by
 have la:=kr ha.1;have lb:=kr hb.1;have lx:∀x∈a.aN,x.bR.length≤4096:=fun x hx=>(kr (ha.mem hx).1).1;unfold Ab WZ TV iD;simp only[aj,OL];by_cases h:a.kind=4∧b.kind=3
 ·have e1:((a.kind==4)&&(b.kind==3))=true:=by simp[h.1,h.2]
  have e2:((a.kind !=4)||(b.kind !=3))=false:=by simp[h.1,h.2]
  rw[e1,e2,Mv,iW,anN h,anG (c:=false=true) (by simp)];constructor
  ·rw[fu (F:=fun k (s:Int × List Str) i=>tZ a b k s.1 s.2 i) (l:=a.aN)
    (body:=fun _ e2 (s:Int × List Str) r=>av (iD e2 3) fun x4=>dM (dN x4 9) (fun e3=>some (.bad e3)) fun _=>av (app s.2 ([e2.bR]:List Str)) fun l2=>r (bq (s.1+(e2.bR.length:Int)),l2))
    (fin:=fun s=>dM (dN (decide ((bq (s.1+(bq ((b.bR.length:Int)*(if 0<(bq ((s.2.length:Int)-1))then (bq ((s.2.length:Int)-1))else 0)))))≤4096)) 3) (fun e4=>some (.bad e4)) fun _=>av (strings_Join s.2 b.bR) fun x5=>av (lF x5) fun x6=>some (.ok x6)) (by omega) (fun k s i=>rfl) (0,[])]
   have:=aiP lx lb.1 la.2.1 a.aN 0 0 [] rfl (by omega) rfl rfl (by omega);simpa using this
  ·have:=aeS lx lb.1 la.2.1 a.aN 0 [] BIG rfl (by omega) rfl (by simp[lZ]) (by have:=dX;omega);simpa[lZ]using this
 ·have e1:((a.kind==4)&&(b.kind==3))=false:=by rw[ao7,an7,an7];omega
  have e2:((a.kind !=4)||(b.kind !=3))=true:=by rw[aov,aoF,aoF];omega
  rw[e1,e2,Mw,anG h,anN rfl];exact⟨rfl,rfl⟩
theorem aeR(a b:ah):GV (TV a b) 5000:=by
 unfold TV;split
 ·split
  ·split
   ·rename_i h;exact GV.ok (ME h) (by rw[zZ];omega)
   ·exact GV.er (by decide)
  ·exact GV.er (by decide)
 ·exact GV.er (by decide)
theorem ED(t:Str):∀(k:Nat) (s:Str),∀x∈mR t k s,x.length≤s.length
 | 0,s,x,h=>by simp only[mR,aoX]at h;subst h;omega
 | k+1,s,x,h=>by
  rw[mR]at h;cases hi:kP s t with
  | none=>rw[hi]at h;simp only[aoX]at h;subst h;omega
  | some i=>
   rw[hi]at h;simp only[aoJ]at h;rcases h with rfl|h
   ·simp;omega
   ·have:=ED t k _ x h;simp only[ao5]at this;omega
theorem aeI(l:List Str):yI (JW (l.map mkS))≤16:=by
 have e:yI (JW (l.map mkS))=CU (l.map mkS) 2:=by rw[wF];rfl
 rw[e,Bj];refine⟨by omega,fun x hx=>?_⟩;obtain⟨s,_,rfl⟩:=apk.1 hx;have e2:yI (mkS s)=1:=by rw[wF];rfl
 omega
theorem WL{s t:Str}(hs:s.length≤4096)(ht:t.length≤4096):(dM (dN (!(t==([]:Str))) 1) (fun e4=>some (.bad e4)) fun _=>av (strings_Split s t) fun l1=>dM (dN (decide ((l1.length:Int)≤1024)) 3) (fun e5=>some (.bad e5)) fun _=>av (ze l1) fun Kn=>some (.ok Kn))=some (zx (ad4 s t))∧
  Il s t=some (ad4 s t)∧GV (ad4 s t) 5000000:=by
 have ahJ:w9=4294967296:=rfl;unfold ad4;by_cases h0:t=[]
 ·have e:(!(t==([]:Str)))=false:=by simp[h0]
  rw[e,Mw,anN h0,Il,anN (by simpa using h0)];exact⟨rfl,rfl,GV.er (by decide)⟩
 ·have e:(!(t==([]:Str)))=true:=by simp[h0]
  have hl:=Pm t h0 (s.length+1) s;rw[e,Mv,iW,anG h0,strings_Split,anN ⟨by omega,h0⟩,aj,jq,ad1 (by omega) (by omega) h0]
  have hb:(JW ((mR t (s.length+1) s).map mkS)).bulk<4611686018427387904:=by
   rw[GK,ao_]
   have:=Tc (f:=ah.bulk ∘ mkS) (l:=mR t (s.length+1) s) (c:=4103) fun x hx=>by
    have:=ED t _ s x hx;simp only[apH,zZ];omega
   have:(mR t (s.length+1) s).length*4103≤4097*4103:=aoA _ (by omega);omega
  rw[Tz hb,abT (aeI _),List.length_map];by_cases hc:(mR t (s.length+1) s).length≤1024
  ·rw[anN hc,anN (by simp;omega),iW,aat (by omega)];obtain⟨g1,g2⟩:=WH hc fun x hx=>by have:=ED t _ s x hx;omega
   exact⟨rfl,rfl,GV.ok g1 (by omega)⟩
  ·rw[anG hc,anG (by simp;omega)];exact⟨rfl,rfl,GV.er (by decide)⟩
theorem adJ{name:Str}{a b:ah}(ha:VV a)(hb:VV b)(ba:a.bulk<4611686018427387904)(bb:b.bulk<4611686018427387904):He name a b=some (zx (adK name a b)):=by
 have la:=kr ha.1;have lb:=kr hb.1;unfold He adK iD;rw[(acG ha hb ba bb).1,(ach ha hb).1,Dq];simp only[aoi,aj,jq,anZ];by_cases n1:name=[100,101,102,97,117,108,116]
 ·rw[anN n1,anN n1];by_cases hk:a.kind=0
  ·rw[anN hk,anN hk];rfl
  ·rw[anG hk,anG hk];rfl
 ·rw[anG n1,anG n1];by_cases n2:name=[99,111,110,116,97,105,110,115]
  ·rw[anN n2,anN n2]
  ·rw[anG n2,anG n2];by_cases n3:name=[106,111,105,110]
   ·rw[anN n3,anN n3,zy]
   ·rw[anG n3,anG n3];by_cases hk:a.kind=3∧b.kind=3
    ·rw[anN hk,anG (c:=¬(a.kind=3∧b.kind=3)) (by simpa using hk),iW];by_cases n4:name=[115,116,97,114,116,115,119,105,116,104]
     ·rw[anN n4,anN n4,ahk];rfl
     ·rw[anG n4,anG n4];by_cases n5:name=[101,110,100,115,119,105,116,104]
      ·rw[anN n5,anN n5,ahi (by omega) (by omega)];rfl
      ·rw[anG n5,anG n5];have:=(WL (s:=a.bR) (t:=b.bR) la.1 lb.1).1;simp only[jq,anZ]at this;exact this
    ·rw[anG hk,anN (c:=¬(a.kind=3∧b.kind=3)) hk];rfl
theorem agR{name:Str}{a b:ah}(ha:VV a)(hb:VV b):GV (adK name a b) (a.bulk+b.bulk+5000000):=by
 have la:=kr ha.1;have lb:=kr hb.1;unfold adK;split
 ·split
  ·exact GV.ok hb (by omega)
  ·exact GV.ok ha (by omega)
 ·split
  ·exact(afj _ _).mono (by omega)
  ·split
   ·exact(aeR _ _).mono (by omega)
   ·split
    ·exact GV.er (by decide)
    ·split
     ·exact GV.ok (EU _) (by rw[xQ];omega)
     ·split
      ·exact GV.ok (EU _) (by rw[xQ];omega)
      ·exact(WL la.1 lb.1).2.2.mono (by omega)
end Go.Ft
namespace Go.Ft
open Go
attribute [local congr] fD
def VD(s:Str):Int:=(zk s).getD 0
def alf:List Str:=[[99,111,110,116,97,105,110,115],[106,111,105,110],[115,112,108,105,116],[115,116,97,114,116,115,119,105,116,104],[101,110,100,115,119,105,116,104],[100,101,102,97,117,108,116]]
theorem akp(s:Str):zk s=some (VD s)∧W9 s=some (if VD s=0 then -1 else VD s)∧(VD s=0∨VD s=1∨(VD s=2∧s∈alf)):=by
 unfold VD zk W9 alf;by_cases h1:s=[108,101,110]
 ·simp[h1]
 by_cases h2:s=[108,111,119,101,114]
 ·simp[h2]
 by_cases h3:s=[117,112,112,101,114]
 ·simp[h3]
 by_cases h4:s=[115,116,114,105,110,103]
 ·simp[h4]
 by_cases h5:s=[105,110,116]
 ·simp[h5]
 by_cases h6:s=[107,101,121,115]
 ·simp[h6]
 by_cases h7:s=[99,111,110,116,97,105,110,115]
 ·simp[h7]
 by_cases h8:s=[106,111,105,110]
 ·simp[h8]
 by_cases h9:s=[115,112,108,105,116]
 ·simp[h9]
 by_cases h10:s=[115,116,97,114,116,115,119,105,116,104]
 ·simp[h10]
 by_cases h11:s=[101,110,100,115,119,105,116,104]
 ·simp[h11]
 by_cases h12:s=[100,101,102,97,117,108,116]
 ·simp[h12]
 simp[h1,h2,h3,h4,h5,h6,h7,h8,h9,h10,h11,h12]
def Lh:List aD→Str→ah × Int
 | [],_=>Ai 10
 | x::r,n=>if x.name=n then okV x.value else Lh r n
def qA:List (ah × Int)→List ah × Int
 | []=>([],0)
 | p::r=>if p.2≠0 then ([],p.2)else if (qA r).2≠0 then ([],(qA r).2)else (p.1::(qA r).1,0)
def GA(k:Int)(n:Str)(keys:List Str)(vs:List ah):ah × Int:=
 if k=9 then (if yI (JW vs)≤16 then okV (JW vs)else Ai 13)
 else if k=10 then ab_ (List.zipWith aD.mk keys vs)
 else match vs with
  | [a]=>if k=3 then Sg a (mkS n)else if k=6 then unS n a else aer n a
  | [a,b]=>if k=4 then Sg a b else if k=7 then afx n a b else adK n a b
  | _=>Ai 99
def abe(b:ah × Int):ah × Int:=if b.2≠0 then Ai b.2 else if b.1.kind≠1 then Ai 9 else b
def afl(a b c:ah × Int):ah × Int:=if a.2≠0 then Ai a.2 else if a.1.kind≠1 then Ai 9 else if a.1.dR then b else c
def Po(n:Str)(a b:ah × Int):ah × Int:=if a.2≠0 then Ai a.2 else if a.1.kind≠1 then Ai 9 else if a.1.dR=decide (n=[124,124])then a else abe b
def Hy(k:Int)(n:Str)(keys:List Str)(rs:List (ah × Int)):ah × Int:=
 if k=8 then (match rs with|[a,b,c]=>afl a b c|_=>Ai 99)
 else if k=7∧(n=[38,38]∨n=[124,124])then (match rs with|[a,b]=>Po n a b|_=>Ai 99)
 else if k=5∧VD n=0 then Ai 10
 else if k=5∧VD n≠rs.length then Ai 1
 else if (qA rs).2≠0 then Ai (qA rs).2 else GA k n keys (qA rs).1
mutual
def ru(env:List aD):au→ah × Int
 | ⟨k,n,v,args,keys⟩=>if k=1 then okV v else if k=2 then Lh env n else Hy k n keys (evL env args)
def evL(env:List aD):List au→List (ah × Int)
 | []=>[]
 | x::r=>ru env x::evL env r
end
theorem aa1(env:List aD):∀l:List au,evL env l=l.map (ru env)
 | []=>rfl
 | x::r=>by rw[evL,aa1 env r,aor]
theorem Zx(env:List aD)(e:au):ru env e=if e.kind=1 then okV e.value else if e.kind=2 then Lh env e.name else Hy e.kind e.name e.keys (e.args.map (ru env)):=by
 cases e;rw[ru,aa1]
theorem Uf:∀(l seen:List Str),Lp seen l=false→l.Nodup∧∀x∈l,x∉seen
 | [],_,_=>⟨List.nodup_nil,fun x hx=>by cases hx⟩
 | s::r,seen,h=>by
  rw[Lp,aoE]at h;obtain⟨i1,i2⟩:=Uf r _ h.2
  have h1:s∉seen:=by
   intro hm;have:=h.1;rw[List.contains_iff_mem.2 hm]at this;cases this
  refine⟨List.nodup_cons.2 ⟨fun hm=>?_,i1⟩,fun x hx=>?_⟩
  ·exact i2 s hm (by simp)
  ·rcases aoJ.1 hx with rfl|hx
   ·exact h1
   ·exact fun hm=>i2 x hx (by simp[hm])
structure Fm(e:au):Prop where
 len:e.args.length≤1024
 kind:1≤e.kind∧e.kind≤10
 lit:e.kind=1→VV e.value
 k3:e.kind=3→∃a,e.args=[a]
 aow:e.kind=3→e.name.length≤64
 k4:e.kind=4→∃a b,e.args=[a,b]
 k6:e.kind=6→(∃a,e.args=[a])∧(e.name=[33]∨e.name=[45])
 k7:e.kind=7→(∃a b,e.args=[a,b])∧e.name∈opsL
 k8:e.kind=8→∃a b c,e.args=[a,b,c]
 k10:e.kind=10→e.keys.length=e.args.length∧(∀k∈e.keys,tJ k=true)∧e.keys.Nodup
theorem ajl{e:au}{level:Nat}(h:FM e level=0):Fm e∧∀x∈e.args,FM x (level+1)=0:=by
 obtain⟨x1,x2⟩:=abu h;obtain⟨f1,f2,f3⟩:=Yz x1;obtain⟨p1,p2,p3⟩:=Vu f1
 have p4:Ht e=true:=by
  unfold vZ at f1;simp only[an_]at f1;exact f1.2
 have hd:Lp [] e.keys=false:=by
  unfold zK at x1;split at x1
  ·omega
  ·split at x1
   ·omega
   ·split at x1
    ·rename_i hq;simp only[an_,aoF]at hq;exact absurd x1 hq.2
    ·split at x1
     ·omega
     ·split at x1
      ·omega
      ·rename_i hq;simpa using hq
 unfold Cj at p1;simp only[aoR,aoE,aoz]at p1;refine⟨⟨f3,by omega,fun hk=>(Rz _).1 (f2 hk),fun hk=>?_,fun hk=>?_,fun hk=>?_,fun hk=>?_,fun hk=>?_,fun hk=>?_,fun hk=>?_⟩,x2⟩
 ·exact len1 (by unfold vw at p3;simp[hk]at p3;omega)
 ·unfold Cy at p2;simp[hk]at p2;unfold jv at p2;simp only[an_]at p2;have:=p2.1;unfold isName at this;simp only[an_,anZ]at this;exact this.1.1.2
 ·exact len2 (by unfold vw at p3;simp[hk]at p3;omega)
 ·refine⟨len1 (by unfold vw at p3;simp[hk]at p3;omega),?_⟩;unfold Cy at p2;simp[hk]at p2;exact p2
 ·refine⟨len2 (by unfold vw at p3;simp[hk]at p3;omega),?_⟩;unfold Cy at p2;simp[hk]at p2;exact YU p2
 ·exact anE (by unfold vw at p3;simp[hk]at p3;omega)
 ·unfold Ht at p4;simp[hk]at p4;refine⟨by omega,fun k hkm=>?_,(Uf _ _ hd).1⟩;have:=p4.2 k hkm;simpa using this
theorem OX:∀ {rs:List (ah × Int)} {N:Nat},(qA rs).2=0→(∀p∈rs,p.2=0)∧(qA rs).1=rs.map (·.1)
 | [],_,_=>⟨(fun p hp=>by cases hp),rfl⟩
 | p::r,N,h=>by
  rw[qA]at h⊢;split at h
  ·rename_i hp;exact absurd h hp
  ·rename_i hp;split at h
   ·rename_i hr;exact absurd h hr
   ·rename_i hr;simp only[apl,apO]at hp hr;obtain⟨i1,i2⟩:=OX (N:=N) hr;refine⟨fun q hq=>?_,?_⟩
    ·rcases aoJ.1 hq with rfl|hq
     ·exact hp
     ·exact i1 q hq
    ·rw[anG (by simpa using hp),anG (by simpa using hr),i2,aor]
theorem ae6{env:List aD}{N:Nat}(h:∀x∈env,VV x.value∧x.value.bulk≤N)(n:Str):GV (Lh env n) N:=by
 induction env with
 | nil=>exact GV.er (by decide)
 | cons x r ih=>
  rw[Lh];split
  ·exact GV.ok (h x (by simp)).1 (h x (by simp)).2
  ·exact ih fun y hy=>h y (by simp[hy])
theorem afw{b:ah × Int}{N:Nat}(h:GV b N):GV (abe b) N:=by
 unfold abe;split
 ·rename_i h0;exact GV.er h0
 ·split
  ·exact GV.er (by decide)
  ·exact h
theorem Z_{keys:List Str}{vs:List ah}(hl:keys.length=vs.length)(hn:vs.length≤1024)(hk:∀k∈keys,tJ k=true)(hd:keys.Nodup)(hv:∀v∈vs,VV v∧v.bulk<1152921504606846976):Ent (List.zipWith aD.mk keys vs):=by
 have hm:(List.zipWith aD.mk keys vs).map (·.name)=keys:=by
  clear hk hd hv hn
  induction keys generalizing vs with
  | nil=>simp
  | cons k ks ih=>
   cases vs with
   | nil=>simp at hl
   | cons v vs=>simp only[apm,aor,ih (by simpa using hl)]
 have hmv:∀x∈List.zipWith aD.mk keys vs,x.name∈keys∧x.value∈vs:=by
  clear hk hd hv hn hm
  induction keys generalizing vs with
  | nil=>intro x hx;simp at hx
  | cons k ks ih=>
   cases vs with
   | nil=>intro x hx;simp at hx
   | cons v vs=>
    intro x hx;simp only[apm,aoJ]at hx;rcases hx with rfl|hx
    ·simp
    ·have:=ih (by simpa using hl) x hx;exact⟨by simp[this.1],by simp[this.2]⟩
 exact⟨by simp;omega,fun x hx=>hk _ (hmv x hx).1,fun x hx=>hv _ (hmv x hx).2,by rw[hm];exact hd⟩
theorem V3:∀(keys:List Str) (vs:List ah),(∀k∈keys,k.length≤64)→((List.zipWith aD.mk keys vs).map fun x=>x.value.bulk).sum≤(vs.map ah.bulk).sum∧((List.zipWith aD.mk keys vs).map fun x=>x.name.length+1).sum≤keys.length*65
 | [],_,_=>by simp
 | k::ks,[],_=>by simp
 | k::ks,v::vs,h=>by
  obtain⟨h1,h2⟩:=V3 ks vs fun x hx=>h x (by simp[hx]);have:=h k (by simp);simp only[apm,aor,aoK,an5,apK];omega
theorem ahE{vars:List aD}(H:Ent vars):GV (ab_ vars) ((vars.map fun x=>x.value.bulk).sum+(vars.map fun x=>x.name.length+1).sum+7):=by
 unfold ab_;split
 ·exact GV.er (by decide)
 ·rename_i h;refine GV.ok (ahD H h) ?_;have hp:=xw vars;rw[uh,ah.pF]
  have e1:((N8 (jR vars)).aN.map ah.bulk).sum=(vars.map fun x=>x.value.bulk).sum:=by
   simp only[N8,ao_];exact(hp.map _).sum_nat
  have e2:((N8 (jR vars)).keys.map fun z:Str=>z.length+1).sum=(vars.map fun x=>x.name.length+1).sum:=by
   simp only[N8,ao_];exact(hp.map _).sum_nat
  have e3:(N8 (jR vars)).bR=[]:=rfl;rw[e1,e2,e3];simp;omega
def WB:Nat:=2199023255552
theorem aew{e:au}(F:Fm e){vs:List ah}(hl:vs.length=e.args.length)(hv:∀v∈vs,VV v∧v.bulk<1152921504606846976):GV (GA e.kind e.name e.keys vs) ((vs.map ah.bulk).sum+6000000):=by
 unfold GA;by_cases h9:e.kind=9
 ·rw[anN h9];split
  ·rename_i hle;refine GV.ok ⟨(Ve (by have:=F.len;omega) fun x hx=>(hv x hx).1).1,hle⟩ (by rw[GK];omega)
  ·exact GV.er (by decide)
 ·rw[anG h9];by_cases h10:e.kind=10
  ·rw[anN h10];obtain⟨k1,k2,k3⟩:=F.k10 h10;have hlen:=F.len;have anT:∀k∈e.keys,k.length≤64:=fun k hk=>(Eb (k2 k hk)).2;obtain⟨z1,z2⟩:=V3 e.keys vs anT;have:e.keys.length*65≤1024*65:=aoA _ (by omega);exact(ahE (Z_ (by omega) (by omega) k2 k3 hv)).mono (by omega)
  ·rw[anG h10]
   match vs,hv with
   | [],_=>exact GV.er (by decide)
   | [a],hv=>
    obtain⟨a1,a2⟩:=hv a (by simp);simp only[aor,apd,aoK,List.sum_nil];split
    ·exact(aaP a1).mono (by omega)
    ·split
     ·exact(aju a1).mono (by omega)
     ·exact(ahx a1).mono (by omega)
   | [a,b],hv=>
    obtain⟨a1,a2⟩:=hv a (by simp);obtain⟨b1,b2⟩:=hv b (by simp);simp only[aor,apd,aoK,List.sum_nil];split
    ·exact(aaP a1).mono (by omega)
    ·split
     ·exact(ah7 a1 b1).mono (by omega)
     ·exact(agR a1 b1).mono (by omega)
   | a::b::c::r,_=>exact GV.er (by decide)
theorem Ej:∀l:List au,El l=(l.map ecnt).sum
 | []=>rfl
 | x::r=>by rw[El,Ej r,aor,aoK]
theorem Jy{α:Type}{f g:α→Nat}:∀ {l:List α},(∀x∈l,f x≤g x)→(l.map f).sum≤(l.map g).sum
 | [],_=>by simp
 | x::l,h=>by
  have:=h x (by simp);have:=Jy (l:=l) fun y hy=>h y (by simp[hy]);simp only[aor,aoK];omega
theorem UG{α:Type}{f:α→Nat}{c:Nat}:∀ {l:List α},(l.map fun x=>f x*c).sum=(l.map f).sum*c
 | []=>by simp
 | x::l=>by simp only[aor,aoK,UG (l:=l),apK]
def SE(e:au):Prop:=e.bulk≤1099511627776∧ecnt e≤4096
theorem SE.arg{e x:au}(h:SE e)(hx:x∈e.args):SE x:=by
 obtain⟨h1,h2⟩:=h;have h3:=lG hx;have h4:=Dp e;have h5:=Iy (f:=ecnt) hx;rw[Ej]at h4;exact⟨by omega,by omega⟩
theorem aa2{W:Nat}(hW:16777216≤W∧W≤2199023255552){env:List aD}(hE:∀x∈env,VV x.value∧x.value.bulk≤W):∀(b:Nat) (e:au) (level:Nat),e.bulk≤b→e.bulk≤W→SE e→FM e level=0→GV (ru env e) (ecnt e*W)
 | 0,e,_,h,_,_,_=>by have:=e.lg;omega
 | b+1,e,level,h,hbW,hS,hx=>by
  obtain⟨hB,hC⟩:=(id hS:SE e);obtain⟨F,x2⟩:=ajl hx;have hec:=Dp e;have hcl:=Lm _ e (aod _);have ih:∀x∈e.args,GV (ru env x) (ecnt x*W):=fun x hx=>aa2 hW hE b x (level+1) (by have:=lG hx;omega) (by have:=lG hx;omega) (hS.arg hx) (x2 x hx)
  have one:W≤ecnt e*W:=by
   have:1*W≤ecnt e*W:=aoA _ (by omega);omega
  have mem:∀x∈e.args,ecnt x*W≤ecnt e*W:=fun x hx=>aoA _ (by
   have:=Iy (f:=ecnt) hx
   rw[Ej]at hec;omega)
  rw[Zx];by_cases h1:e.kind=1
  ·rw[anN h1];exact GV.ok (F.lit h1) (by have:=G_ e;omega)
  ·rw[anG h1];by_cases h2:e.kind=2
   ·rw[anN h2];exact(ae6 hE e.name).mono (by omega)
   ·rw[anG h2];unfold Hy;by_cases h8:e.kind=8
    ·rw[anN h8];obtain⟨x,y,z,ha⟩:=F.k8 h8;rw[ha]at ih mem⊢;simp only[aor,apd];unfold afl;split
     ·rename_i h0;exact GV.er h0
     ·split
      ·exact GV.er (by decide)
      ·split
       ·exact(ih y (by simp)).mono (mem y (by simp))
       ·exact(ih z (by simp)).mono (mem z (by simp))
    ·rw[anG h8];split
     ·rename_i h7;obtain⟨⟨x,y,ha⟩,_⟩:=F.k7 h7.1;rw[ha]at ih mem⊢;simp only[aor,apd];unfold Po;split
      ·rename_i h0;exact GV.er h0
      ·split
       ·exact GV.er (by decide)
       ·split
        ·exact(ih x (by simp)).mono (mem x (by simp))
        ·exact(afw (ih y (by simp))).mono (mem y (by simp))
     ·split
      ·exact GV.er (by decide)
      ·split
       ·exact GV.er (by decide)
       ·split
        ·rename_i h0;exact GV.er h0
        ·rename_i h0;simp only[apl,apO]at h0;obtain⟨o1,o2⟩:=OX (N:=0) h0
         have hv:∀v∈(qA (e.args.map (ru env))).1,VV v∧v.bulk<1152921504606846976:=by
          intro v hv;rw[o2,ao_]at hv;obtain⟨x,hx,rfl⟩:=apk.1 hv;have hz:=o1 _ (apt hx);obtain⟨g1,g2⟩:=(ih x hx).1 hz;have:=mem x hx;have:ecnt e*W≤4096*W:=aoA _ hC;exact⟨g1,by simp only[apH];omega⟩
         refine(aew F (by rw[o2];simp) hv).mono ?_;rw[o2,ao_,ao_];have s1:=Jy (l:=e.args) (f:=(ah.bulk ∘ fun x=>x.1) ∘ ru env) (g:=fun x=>ecnt x*W) fun x hx=>((ih x hx).1 (o1 _ (apt hx))).2;rw[UG]at s1;rw[hec,Ej,apK];omega
theorem Zy{env:List aD}(hE:∀x∈env,VV x.value∧x.value.bulk≤1048576)(b:Nat)(e:au)(level:Nat)(h:e.bulk≤b)(hS:SE e)(hx:FM e level=0):GV (ru env e) (ecnt e*WB):=
 aa2 (W:=WB) ⟨by decide,by decide⟩ (fun x hx=>⟨(hE x hx).1,by have:=(hE x hx).2;have hW:WB=2199023255552:=rfl;omega⟩) b e level h (by have:=hS.1;have hW:WB=2199023255552:=rfl;omega) hS hx
end Go.Ft
namespace Go.Ft
open Go
attribute [local congr] fD
theorem find_spec{env:List aD}(hl:env.length<4611686018427387904)(n:Str):qZ env n=some (zx (Lh env n)):=by
 unfold qZ;rw[fu (F:=fun k (_:Unit) i=>nZ env n k i) (l:=env) (body:=fun _ e1 (_:Unit) r=>if e1.name==n then some (.ok e1.value)else r ()) (fin:=fun _=>dM (zi 10) (fun e2=>some (.bad e2)) fun _=>some (.ok (ah.mk 0 false 0 ([]:Str) [] []))) hl (fun k s i=>rfl) ()]
 have key:∀(t:List aD) (i:Nat),eX (R:=fq aF ah) (fun _ e1 (_:Unit) r=>if e1.name==n then some (.ok e1.value)else r ()) (fun _=>dM (zi 10) (fun e2=>some (.bad e2)) fun _=>some (.ok (ah.mk 0 false 0 ([]:Str) [] []))) i t ()=some (zx (Lh t n)):=by
  intro t
  induction t with
  | nil=>intro i;rfl
  | cons x r ih=>
   intro i;rw[eX,Lh];by_cases hx:x.name=n
   ·rw[anN (by simpa using hx),anN hx];rfl
   ·rw[anG (by simpa using hx),anG hx];exact ih (i+1)
 exact key env 0
theorem amU{go:au→Option (fq aF ah)}{f:au→ah × Int}:∀(l:List au) (i:Nat) (out:List ah),(∀x∈l,go x=some (zx (f x)))→out.length+l.length≤w9→
  eX (R:=fq aF (List ah)) (fun _ e1 (bM:List ah) r=>dM (go e1) (fun e2=>some (.bad e2)) fun x2=>av (app bM [x2]) fun xM=>r xM) (fun bM=>some (.ok bM)) i l out=some (zx ((out++(qA (l.map f)).1,(qA (l.map f)).2):List ah × Int))
 | [],i,out,_,_=>by simp[eX,qA,zx]
 | x::r,i,out,h,hl=>by
  simp only[an5]at hl;rw[eX,h x (by simp),aor,qA];by_cases h0:(f x).2=0
  ·have e:zx (f x)=.ok (f x).1:=anN h0;rw[e,iW,u7 (by simp;omega),aj,anG (by simpa using h0)];refine(amU r (i+1) (out++[(f x).1]) (fun y hy=>h y (by simp[hy])) (by simp;omega)).trans ?_;by_cases h1:(qA (r.map f)).2=0
   ·rw[anG (by simpa using h1),h1];simp[zx]
   ·rw[anN h1];simp[zx,h1]
  ·have e:zx (f x)=.bad ⟨(f x).2⟩:=anG h0;rw[e,Un,anN h0];simp[zx,h0]
theorem iA{α β:Type}(p:α × Int)(F:α→Option (fq aF β)):dM (some (zx p)) (fun e=>some (.bad e)) F=if p.2=0 then F p.1 else some (.bad ⟨p.2⟩):=by
 unfold zx;split<;>rfl
theorem afD(p:ah × Int):qA [p]=if p.2≠0 then ([],p.2)else ([p.1],0):=by
 rw[qA,qA];simp
theorem ai8(p q:ah × Int):qA [p,q]=if p.2≠0 then ([],p.2)else if q.2≠0 then ([],q.2)else ([p.1,q.1],0):=by
 rw[qA,afD];by_cases hp:p.2=0
 ·by_cases hq:q.2=0<;>simp[hp,hq]
 ·simp[hp]
theorem acA(p:ah × Int):(if p.2=0 then some (.ok p.1)else some (.bad ⟨p.2⟩):Option (fq aF ah))=some (zx p):=by unfold zx;split<;>rfl
theorem acz(p:ah × Int):dM (if p.2=0 then some (.ok p.1)else some (.bad ⟨p.2⟩):Option (fq aF ah)) (fun e=>some (.bad e)) (fun x=>some (.ok x))=some (zx p):=by unfold zx;split<;>rfl
theorem XR{e:au}{vs:List ah}{K:List aD→Option (fq aF ah)}(hk:e.keys.length=vs.length)(hl:vs.length≤1024):∀(t:List ah) (i:Nat) (o:List aD),t=vs.drop i→o.length=i→
  eX (fun(i:Nat) e3 (o:List aD) r=>av (idx e.keys (i:Int)) fun e4=>av (app o [(aD.mk e4 e3)]) fun O_=>r O_) K i t o=K (o++List.zipWith aD.mk (e.keys.drop i) t)
 | [],i,o,_,_=>by simp[eX]
 | v::t,i,o,ht,ho=>by
  have ahJ:w9=4294967296:=rfl;obtain⟨h1,e1,e2⟩:=wh ht;have hi:i<e.keys.length:=by omega
  rw[eX,gK hi,aj,u7 (by simp;omega),aj];refine(XR hk hl t (i+1) _ e2 (by simp;omega)).trans ?_;rw[an0 hi,apm,apC,List.singleton_append]
end Go.Ft
