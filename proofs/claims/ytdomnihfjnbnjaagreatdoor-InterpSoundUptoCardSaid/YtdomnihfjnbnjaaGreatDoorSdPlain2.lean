/- Proved here: plain facts on the functional texts. -/
import Derived.Test.YtdomnihfjnbnjaaGreatDoorSdPlain1
set_option linter.unusedVariables false
set_option linter.unusedSimpArgs false
set_option linter.defProp false
set_option linter.unusedSectionVars false
set_option maxHeartbeats 2000000
namespace Go.Ft
open Go
attribute [local congr] eO
def Mx(a b:ah)(r:Bool):ah × Int:=if (a.kind=2∧b.kind=2)∨(a.kind=3∧b.kind=3)then okV (Zf r)else ze 9
def Vw(a b:ah):ah × Int:=
 if a.kind=2∧b.kind=2 then Oq (a.eB+b.eB)else if a.kind=3∧b.kind=3 then (if a.bV.length+b.bV.length≤4096 then okV (mkS (a.bV++b.bV))else ze 3)
 else if a.kind=4∧b.kind=4 then (if a.aO.length+b.aO.length≤1024 then okV (Jo (a.aO++b.aO))else ze 3)else ze 9
def RD(op:Str)(a b:ah):ah × Int:=
 if a.kind=2∧b.kind=2 then (if op=[45]then Oq (a.eB-b.eB)else if op=[42]then Oq (ais a.eB b.eB)else if b.eB=0 then ze 12 else if op=[47]then Oq (a.eB.tdiv b.eB)else okV (mkI (a.eB.tmod b.eB)))else ze 9
def CG(op:Str)(a b:ah):ah × Int:=
 if op=[61,61]then okV (Zf (uz a b==0))else if op=[33,61]then okV (Zf (!(uz a b==0)))
 else if op=[60]then Mx a b (decide (uz a b<0))else if op=[60,61]then Mx a b (decide (uz a b≤0))else if op=[62]then Mx a b (decide (0<uz a b))else if op=[62,61]then Mx a b (decide (0≤uz a b))
 else if op=[43]then Vw a b else RD op a b
theorem F4(a b:ah)(k:Int):qy a b k=some (decide (a.kind=k∧b.kind=k)):=by
 unfold qy;congr 1;rw[asZ];simp
theorem acf{a b:ah}(ha:a.bulk<4611686018427387904)(hb:b.bulk<4611686018427387904):nV a b=some (if (a.kind=2∧b.kind=2)∨(a.kind=3∧b.kind=3)then .ok (uz a b)else .bad ⟨9⟩):=by
 unfold nV;rw[F4,F4,aj,YB,aj,jZ];by_cases h:(a.kind=2∧b.kind=2)∨(a.kind=3∧b.kind=3)
 ·rw[arK h,arK (by simpa using h),jJ,(Nl ha hb).1];rfl
 ·rw[arF h,arF (by simpa using h)];rfl
theorem tdiv_le{a b:Int}{N:Nat}(h:a.natAbs≤N):(a.tdiv b).natAbs≤N:=by
 rw[Int.natAbs_tdiv];exact at1 (Nat.div_le_self _ _) h
theorem akK{a b:Int}{N:Nat}(h:a.natAbs≤N):(a.tmod b).natAbs≤N:=by
 rw[Int.natAbs_tmod];exact at1 (Nat.mod_le _ _) h
theorem ahv{a b:ah}(ha:VV a)(hb:VV b):G7 a b=some (Br (Vw a b)):=by
 have la:=mJ ha.1;have lb:=mJ hb.1;have hL:wX=4294967296:=rfl;unfold G7 Vw;rw[F4,F4,F4];simp only[aj,arP];by_cases h2:a.kind=2∧b.kind=2
 ·rw[arK h2,arK h2,zq (by omega),KW];generalize Oq (a.eB+b.eB)=p;unfold Br;split<;>rfl
 ·rw[arF h2,arF h2];by_cases h3:a.kind=3∧b.kind=3
  ·rw[arK h3,arK h3,zq (by omega),jZ];by_cases hc:a.bV.length+b.bV.length≤4096
   ·rw[arK hc,arK (by simp;omega),jJ,wO (by omega),aj];rfl
   ·rw[arF hc,arF (by simp;omega)];rfl
  ·rw[arF h3,arF h3,jZ];by_cases h4:a.kind=4∧b.kind=4
   ·rw[arK h4,arK (by simpa using h4),jJ,zq (by omega),jZ];by_cases hc:a.aO.length+b.aO.length≤1024
    ·rw[arK hc,arK (by simp;omega),jJ,wO (by simp;omega),aj,wO (by simp;omega),aj];rfl
    ·rw[arF hc,arF (by simp;omega)];rfl
   ·rw[arF h4,arF (by simpa using h4)];rfl
theorem aoF{b:Int}(h:b≠0):Zg (!(b==0))=some ():=bg (by simpa using h)
theorem ajz{op:Str}{a b:ah}(ha:VV a)(hb:VV b):qz op a b=some (Br (RD op a b)):=by
 have la:=mJ ha.1;have lb:=mJ hb.1;unfold qz RD;rw[F4,aj,jZ];by_cases h2:a.kind=2∧b.kind=2
 ·rw[arK (by simpa using h2),arK h2,jJ];by_cases o1:op=[45]
  ·rw[arK (by simpa using o1),arK o1,zq (by omega),KW];generalize Oq (a.eB-b.eB)=p;unfold Br;split<;>rfl
  ·rw[arF (by simpa using o1),arF o1];by_cases o2:op=[42]
   ·rw[arK (by simpa using o2),arK o2,aco ⟨la.2.2.2.1,la.2.2.2.2⟩ ⟨lb.2.2.2.1,lb.2.2.2.2⟩,aj,KW];generalize Oq (ais a.eB b.eB)=p;unfold Br;split<;>rfl
   ·rw[arF (by simpa using o2),arF o2,jZ];by_cases hz:b.eB=0
    ·rw[arF (by simp[hz]),arK hz];rfl
    ·rw[arK (by simpa using hz),arF hz,jJ,aoF hz,aj,aj];have hd:=tdiv_le (a:=a.eB) (b:=b.eB) (N:=9007199254740992) (by omega);by_cases o3:op=[47]
     ·rw[arK (by simpa using o3),arK o3,zq (by omega),KW];generalize Oq (a.eB.tdiv b.eB)=p;unfold Br;split<;>rfl
     ·rw[arF (by simpa using o3),arF o3];rfl
 ·rw[arF (by simpa using h2),arF h2];rfl
theorem abk{op:Str}{a b:ah}(ha:VV a)(hb:VV b)(ba:a.bulk<4611686018427387904)(bb:b.bulk<4611686018427387904):
  (if op==([61,61]:Str)then au (nu a b) fun x7=>au (fE x7) fun x8=>some (.ok x8)
  else if op==([33,61]:Str)then au (nu a b) fun x9=>au (fE (!x9)) fun Fh=>some (.ok Fh)
  else if op==([60]:Str)then dU (nV a b) (fun e10=>some (.bad e10)) fun Jj=>au (fE (decide (Jj<0))) fun LA=>some (.ok LA)
  else if op==([60,61]:Str)then dU (nV a b) (fun e11=>some (.bad e11)) fun Ml=>au (fE (decide (Ml≤0))) fun Vu=>some (.ok Vu)
  else if op==([62]:Str)then dU (nV a b) (fun e12=>some (.bad e12)) fun Ro=>au (fE (decide (0<Ro))) fun Lx=>some (.ok Lx)
  else if op==([62,61]:Str)then dU (nV a b) (fun e13=>some (.bad e13)) fun Wo=>au (fE (decide (0≤Wo))) fun x18=>some (.ok x18)
  else if op==([43]:Str)then dU (G7 a b) (fun e14=>some (.bad e14)) fun x19=>some (.ok x19)
  else dU (qz op a b) (fun e15=>some (.bad e15)) fun x20=>some (.ok x20))=some (Br (CG op a b)):=by
 unfold CG;rw[(Vl ba bb).1,acf ba bb,ahv ha hb,ajz ha hb]
 have rel:∀r:Int→Bool,(dU (some (if (a.kind=2∧b.kind=2)∨(a.kind=3∧b.kind=3)then (.ok (uz a b):fG aG Int)else .bad ⟨9⟩)) (fun e10=>some (.bad e10)) fun Jj=>au (fE (r Jj)) fun LA=>some (.ok LA))=some (Br (Mx a b (r (uz a b)))):=by
  intro r;unfold Mx;by_cases h:(a.kind=2∧b.kind=2)∨(a.kind=3∧b.kind=3)
  ·rw[arK h,arK h];rfl
  ·rw[arF h,arF h];rfl
 rw[rel fun x=>decide (x<0),rel fun x=>decide (x≤0),rel fun x=>decide (0<x),rel fun x=>decide (0≤x)]
 have ret:∀p:ah × Int,(dU (some (Br p)) (fun e=>some (.bad e)) fun x=>some (.ok x))=some (Br p):=by
  intro p;unfold Br;split<;>rfl
 rw[ret,ret];simp only[ar4,aj,fE]
 repeat' split
 all_goals rfl
theorem aix{a:ah}(ha:VV a)(h4:a.kind=4):∀x∈a.aO,Al x<16:=by
 intro x hx;have h2:=ha.2;rw[yC,arK (by simp[h4])]at h2;have:=aay (n:=2) hx;omega
theorem ahQ(s:Str):afm (mkS s)=if s.length≤4096 then okV (mkS s)else ze 3:=by
 unfold afm;have e1:(mkS s).eB=0:=rfl;have e2:(mkS s).bV=s:=rfl;have e3:(mkS s).aO.length=0:=rfl;have e4:Al (mkS s)=1:=by rw[yC];rfl
 rw[e1,e2,e3,e4,arF (by omega)];by_cases h:s.length≤4096
 ·rw[arK h,arF (by omega),arF (by omega)]
 ·rw[arF h,arK (by omega)]
theorem afl{l:List ah}(hl:Al (Jo l)≤16):afm (Jo l)=if l.length≤1024 then okV (Jo l)else ze 3:=by
 unfold afm;have e1:(Jo l).eB=0:=rfl;have e2:(Jo l).bV.length=0:=rfl;have e3:(Jo l).aO=l:=rfl;rw[e1,e2,e3,arF (by omega)];by_cases h:l.length≤1024
 ·rw[arK h,arF (by omega),arF (by omega)]
 ·rw[arF h,arK (by omega)]
theorem akS{a b:ah}(ha:VV a)(hb:VV b):GV (Vw a b) (a.bulk+b.bulk+8000):=by
 have la:=mJ ha.1;have lb:=mJ hb.1;unfold Vw;split
 ·exact(R7 _).mono (by omega)
 ·split
  ·split
   ·exact GV.ok (PX (by simp;omega)) (by rw[Ci];simp;omega)
   ·exact GV.er (by decide)
  ·split
   ·rename_i h4;split
    ·rename_i hc;refine GV.ok ((Yx (by simpa using hc) fun x hx=>?_).2.2 fun x hx=>?_) ?_
     ·rcases atG.1 hx with h|h
      ·exact ha.mem h
      ·exact hb.mem h
     ·rcases atG.1 hx with h|h
      ·exact aix ha h4.1 x h
      ·exact aix hb h4.2 x h
     ·rw[Kc,atF,List.sum_append];have e1:=vP a;have e2:=vP b;rw[ah.pX]at e1 e2;omega
    ·exact GV.er (by decide)
   ·exact GV.er (by decide)
theorem amb{op:Str}{a b:ah}(ha:VV a)(hb:VV b):GV (RD op a b) 7:=by
 have la:=mJ ha.1;unfold RD;split
 ·split
  ·exact R7 _
  ·split
   ·exact R7 _
   ·split
    ·exact GV.er (by decide)
    ·split
     ·exact R7 _
     ·have hd:=akK (a:=a.eB) (b:=b.eB) (N:=9007199254740992) (by omega);exact GV.ok (TS (by omega)) (by rw[Ke];omega)
 ·exact GV.er (by decide)
theorem RY(a b:ah)(r:Bool):GV (Mx a b r) 7:=by
 unfold Mx;split
 ·exact GV.ok (Iq _) (by rw[zN];omega)
 ·exact GV.er (by decide)
theorem al9{op:Str}{a b:ah}(ha:VV a)(hb:VV b):GV (CG op a b) (a.bulk+b.bulk+8000):=by
 unfold CG;split
 ·exact GV.ok (Iq _) (by rw[zN];omega)
 ·split
  ·exact GV.ok (Iq _) (by rw[zN];omega)
  ·split
   ·exact(RY _ _ _).mono (by omega)
   ·split
    ·exact(RY _ _ _).mono (by omega)
    ·split
     ·exact(RY _ _ _).mono (by omega)
     ·split
      ·exact(RY _ _ _).mono (by omega)
      ·split
       ·exact akS ha hb
       ·exact(amb ha hb).mono (by omega)
end Go.Ft
namespace Go.Ft
open Go
attribute [local congr] eO
def ae3(a:ah):Str:=if a.kind=0 then []else if a.kind=3 then a.bV else if a.kind=1 then (if a.dZ then [116,114,117,101]else [102,97,108,115,101])else vF a.eB
def afA(s:Str):ah × Int:=match H_ s with|some (n,true)=>okV (mkI n)|_=>ze 1
def LG(name:Str)(a:ah):ah × Int:=
 if name=[108,101,110]then (if a.kind=3∨a.kind=4∨a.kind=5 then okV (mkI ((a.bV.length:Int)+a.aO.length))else ze 9)
 else if name=[107,101,121,115]then (if a.kind=5 then okV (Jo (a.keys.map mkS))else ze 9)
 else if name=[115,116,114,105,110,103]then (if a.kind=4∨a.kind=5 then ze 9 else okV (mkS (ae3 a)))
 else if a.kind≠3 then ze 9
 else if name=[108,111,119,101,114]then okV (mkS (a.bV.map (VE 65 90 32)))else if name=[117,112,112,101,114]then okV (mkS (a.bV.map (VE 97 122 (-32))))else afA a.bV
theorem aiG{n:Int}(h:-9007199254740992≤n∧n≤9007199254740992):(vF n).length≤21:=by
 unfold vF;split
 ·have:=KC 20 n.natAbs (by have:(10:Nat) ^ 20=100000000000000000000:=(by decide);omega) (by omega);simp only[ase];omega
 ·have:=KC 20 n.toNat (by have:(10:Nat) ^ 20=100000000000000000000:=(by decide);omega) (by omega);omega
theorem Sc{u:Nat}(h:u<10):Ft.byteOf ((48+u:Nat):Int)=dg u:=by
 apply as0.1;have:((byteOf ((48+u:Nat):Int)).toNat:Int)=((48+u:Nat):Int):=Qk (by omega) (by omega);rw[Qd h];omega
theorem aja:∀(k u:Nat),u<10 ^ k→u<100000000000000000000→0<k→u≤9223372036854775807→mZ k (u:Int)=some (uo 20 u)∧(0<u→mZ k (-(u:Int))=some (45::uo 20 u))
 | 0,_,_,_,h,_=>by omega
 | k+1,u,h,h20,_,hm=>by
  have hL:wX=4294967296:=rfl;rw[mZ,mZ,BA,BA];by_cases hu:u<10
  ·constructor
   ·rw[arF (by simp),arK (by simp;omega),zq (by omega),IJ hu,show (48:Int)+(u:Int)=((48+u:Nat):Int)from by omega,Sc hu]
   ·intro hp;rw[arK (by simp;omega),arK (by simp;omega),zq (by omega),IJ hu,show (48:Int) - -(u:Int)=((48+u:Nat):Int)from by omega,Sc hu,wO (by simp;omega)];rfl
  ·have hk:0<k:=by
    rcases atT k with h0|h0
    ·subst h0;omega
    ·exact h0
   obtain⟨i1,i2⟩:=aja k (u/10) (by rw[atx]at h;omega) (by omega) hk (by omega);have hlen:=KC 20 (u/10) (by have:(10:Nat) ^ 20=100000000000000000000:=(by decide);omega) (by omega);constructor
   ·rw[arF (by simp),arF (by simp;omega),show ((u:Int).tdiv 10)=((u/10:Nat):Int)from rfl,show ((u:Int).tmod 10)=((u%10:Nat):Int)from rfl,zq (by omega),i1,aj,zq (by omega),
     show (48:Int)+((u%10:Nat):Int)=((48+u%10:Nat):Int)from by omega,Sc (by omega),wO (by simp;omega),OP hu h20]
   ·intro hp
    rw[arK (by simp;omega),arF (by simp;omega),Int.neg_tdiv,Int.neg_tmod,show ((u:Int).tdiv 10)=((u/10:Nat):Int)from rfl,show ((u:Int).tmod 10)=((u%10:Nat):Int)from rfl,zq (n:=-((u/10:Nat):Int)) (by omega),i2 (by omega),aj,zq (by omega),
     show (48:Int) - -((u%10:Nat):Int)=((48+u%10:Nat):Int)from by omega,Sc (by omega),wO (by simp;omega),OP hu h20,atu]
theorem OT:∀(k m:Nat) (n:Int) (r:Str),k≤m→mZ k n=some r→mZ m n=some r
 | 0,_,_,_,_,h=>by cases h
 | k+1,0,_,_,h,_=>by omega
 | k+1,m+1,n,r,hk,h=>by
  rw[mZ,BA]at h⊢;split at h
  ·rename_i h1;rw[arK h1];split at h
   ·rename_i h2;rw[arK h2];exact h
   ·rename_i h2;rw[arF h2];obtain⟨x,hx,h⟩:=lq h;rw[OT k m _ _ (by omega) hx,aj];exact h
  ·rename_i h1;rw[arF h1];split at h
   ·rename_i h2;rw[arK h2];exact h
   ·rename_i h2;rw[arF h2];obtain⟨x,hx,h⟩:=lq h;rw[OT k m _ _ (by omega) hx,aj];exact h
theorem acQ{n:Int}(h:-9007199254740992≤n∧n≤9007199254740992):JW n=some (vF n):=by
 have e20:(10:Nat) ^ 20=100000000000000000000:=by decide
 unfold JW vF;by_cases hn:n<0
 ·rw[arK hn];have:=(aja 20 n.natAbs (by omega) (by omega) (by omega) (by omega)).2 (by omega);rw[show -((n.natAbs:Nat):Int)=n from by omega]at this;exact OT 20 BIG n _ (by have:=gX;omega) this
 ·rw[arF hn];have:=(aja 20 n.toNat (by omega) (by omega) (by omega) (by omega)).1;rw[show ((n.toNat:Nat):Int)=n from by omega]at this;exact OT 20 BIG n _ (by have:=gX;omega) this
theorem afL{n:Int}(h:-9007199254740992≤n∧n≤9007199254740992):strconv_Itoa n=some (vF n):=by
 unfold strconv_Itoa;rw[arK (by omega)]
theorem kinds{a:ah}(ha:VV a):0≤a.kind∧a.kind≤5:=by
 have h1:=((wS a).1 ha.1).1;have:=Ep h1;omega
theorem amr:∃n,BIG=n+1:=⟨BIG-1,by decide⟩
theorem Wz{a:ah}(ha:VV a)(hb:a.bulk<4611686018427387904):Av a=some (if a.kind=4∨a.kind=5 then ([],9)else (ae3 a,0))∧aah a=some (if a.kind=4∨a.kind=5 then ([],9)else (ae3 a,0)):=by
 have la:=mJ ha.1;have hk:=kinds ha;unfold Av aah;by_cases h45:a.kind=4∨a.kind=5
 ·rw[arK h45,arK (by simpa using h45),arK (by simpa using h45)];exact⟨rfl,rfl⟩
 ·have b45:((a.kind==4)||(a.kind==5))=false:=by rw[asN,asr,asr];omega
  have bz:((0:Int) !=0)=false:=rfl;rw[arF h45,D9 hb,XZ hb,(KU _).2 ha];simp only[b45,aj,bz,arG,arN];unfold ae3;by_cases h0:a.kind=0
  ·simp only[h0,atd,arO,atU]
  ·have b0:(a.kind==0)=false:=by simpa using h0
   simp only[b0,h0,arG,arN];by_cases h3:a.kind=3
   ·simp only[h3,atd,arO,atU]
   ·have b3:(a.kind==3)=false:=by simpa using h3
    simp only[b3,h3,arG,arN];obtain⟨n,hn⟩:=amr;unfold Bj QY;rw[hn,xI,xJ,Gf,LW];by_cases h1:a.kind=1
    ·simp only[h1,atd,arO,strconv_FormatBool,qL];have e10:((1:Int)==0)=false:=rfl;rw[e10];cases a.dZ<;>exact⟨rfl,rfl⟩
    ·have h2:a.kind=2:=by omega
     rw[h2,acQ ⟨la.2.2.2.1,la.2.2.2.2⟩,afL ⟨la.2.2.2.1,la.2.2.2.2⟩];exact⟨rfl,rfl⟩
theorem aao{s:Str}(hs:s.length≤281474976710656):(fD (vL s) fun n1 ok1=>dU (dV ok1 1) (fun e6=>some (.bad e6)) fun _=>au (qO n1) fun Ml=>some (.ok Ml))=some (Br (afA s))∧
  (fD (H_ s) fun n1 ok1=>if !ok1 then some ((ah.mk 0 false 0 ([]:Str) [] []),1)else some ((ah.mk 2 false n1 ([]:Str) [] []),0))=some (afA s)∧GV (afA s) 7:=by
 obtain⟨n,ok,n',h1,h2,h3⟩:=number_eq hs;unfold afA;rw[h1,h2,aC,aC,jZ];cases ok with
 | true=>
  obtain⟨e,h4⟩:=h3 rfl;subst e;exact⟨rfl,rfl,GV.ok (TS h4) (by rw[Ke];omega)⟩
 | false=>exact⟨rfl,rfl,GV.er (by decide)⟩
theorem aie{name:Str}{a:ah}(ha:VV a)(hb:a.bulk<4611686018427387904):Kt name a=some (Br (LG name a)):=by
 have la:=mJ ha.1;have hL:wX=4294967296:=rfl;unfold Kt LG iU;by_cases n1:name=[108,101,110]
 ·have m1:(name==([108,101,110]:Str))=true:=by simpa using n1
  rw[arK m1,arK n1];simp only[aj,YB,jZ];by_cases hk:a.kind=3∨a.kind=4∨a.kind=5
  ·rw[arK (by simp;omega),arK hk,jJ,zq (by omega)];rfl
  ·rw[arF (by simp;omega),arF hk];rfl
 ·have m1:(name==([108,101,110]:Str))=false:=by simpa using n1
  rw[m1,arF (by simp),arF n1];by_cases n2:name=[107,101,121,115]
  ·have m2:(name==([107,101,121,115]:Str))=true:=by simpa using n2
   rw[arK m2,arK n2,aj,jZ];by_cases hk:a.kind=5
   ·rw[arK (by simpa using hk),arK hk,jJ,adK (by omega)];rfl
   ·rw[arF (by simpa using hk),arF hk];rfl
  ·have m2:(name==([107,101,121,115]:Str))=false:=by simpa using n2
   rw[m2,arF (by simp),arF n2];by_cases n3:name=[115,116,114,105,110,103]
   ·have m3:(name==([115,116,114,105,110,103]:Str))=true:=by simpa using n3
    rw[arK m3,arK n3,(Wz ha hb).1];by_cases hk:a.kind=4∨a.kind=5
    ·rw[arK hk,arK hk,aC,jZ];rfl
    ·rw[arF hk,arF hk,aC,jZ];rfl
   ·have m3:(name==([115,116,114,105,110,103]:Str))=false:=by simpa using n3
    rw[m3,arF (by simp),arF n3,aj,jZ];by_cases hk:a.kind=3
    ·have k3:(a.kind==3)=true:=by simpa using hk
     rw[k3,arK (by rfl),arF (c:=a.kind≠3) (by simpa using hk),jJ];by_cases n4:name=[108,111,119,101,114]
     ·rw[arK (c:=name=[108,111,119,101,114]) n4,arK (by simpa using n4),(Xe (by omega) _ _ _).1];rfl
     ·have m4:(name==([108,111,119,101,114]:Str))=false:=by simpa using n4
      rw[m4,arF (c:=false=true) (by simp),arF (c:=name=[108,111,119,101,114]) n4];by_cases n5:name=[117,112,112,101,114]
      ·rw[arK (c:=name=[117,112,112,101,114]) n5,arK (by simpa using n5),(Xe (by omega) _ _ _).1];rfl
      ·have m5:(name==([117,112,112,101,114]:Str))=false:=by simpa using n5
       rw[m5,arF (c:=false=true) (by simp),arF (c:=name=[117,112,112,101,114]) n5];exact(aao (by omega)).1
    ·have k3:(a.kind==3)=false:=by simpa using hk
     rw[k3,arF (c:=false=true) (by simp),arK (c:=a.kind≠3) hk];rfl
theorem alu{name:Str}{a:ah}(ha:VV a):GV (LG name a) 5000000:=by
 have la:=mJ ha.1
 have txt:(ae3 a).length≤4096:=by
  unfold ae3;have:=aiG ⟨la.2.2.2.1,la.2.2.2.2⟩;split
  ·simp
  ·split
   ·omega
   ·split
    ·split<;>simp
    ·omega
 have ar3:∀s∈a.keys,s.length≤4096:=by
  have h1:=((wS a).1 ha.1).1;intro s hs
  have key:∀(l:List Str) (p:Option Str),KJ p l=true→∀s∈l,s.length≤64:=by
   intro l
   induction l with
   | nil=>intro p _ s hs;cases hs
   | cons x l ih=>
    intro p h s hs;rw[KJ.eq_def]at h;simp only[arV]at h;rcases asG.1 hs with rfl|hs
    ·exact(GN h.1.1).2
    ·exact ih _ h.2 s hs
  by_cases h5:a.kind=5
  ·unfold nG at h1;rw[arF (by omega)]at h1;split at h1
   ·cases h1
   ·split at h1
    ·cases h1
    ·split at h1
     ·cases h1
     ·split at h1
      ·cases h1
      ·rename_i hq;simp only[h5,atd,as6,as3,Bool.not_eq_false,arV]at hq;have:=key _ _ hq.2 s hs;omega
  ·have hp:=Pb h1;unfold rJ at hp;simp only[arV,asq,ar4]at hp;have:=hp.2;have hz:a.keys.length=0:=by omega
   have:=as5 hz;rw[this]at hs;cases hs
 unfold LG;split
 ·split
  ·exact GV.ok (TS (by omega)) (by rw[Ke];omega)
  ·exact GV.er (by decide)
 ·split
  ·split
   ·obtain⟨h1,h2⟩:=ZM la.2.2.1 ar3;exact GV.ok h1 (by omega)
   ·exact GV.er (by decide)
  ·split
   ·split
    ·exact GV.er (by decide)
    ·exact GV.ok (PX txt) (by rw[Ci];omega)
   ·split
    ·exact GV.er (by decide)
    ·split
     ·exact GV.ok (PX (by simp;omega)) (by rw[Ci];simp;omega)
     ·split
      ·exact GV.ok (PX (by simp;omega)) (by rw[Ci];simp;omega)
      ·exact(aao (by omega)).2.2.mono (by omega)
end Go.Ft
namespace Go.Ft
open Go
attribute [local congr] eO
def OU(a b:ah):ah × Int:=
 if a.kind=4 then okV (Zf (a.aO.any fun x=>uz x b==0))else if a.kind=3∧b.kind=3 then okV (Zf (mE a.bV b.bV).isSome)else if a.kind=5∧b.kind=3 then okV (Zf (Uo a b.bV).isSome)else ze 9
def Oo(a b:ah):ah × Int:=
 if a.kind=4∧b.kind=3 then (if a.aO.all fun x=>x.kind==3 then (if (nA (a.aO.map (·.bV)) b.bV).length≤4096 then okV (mkS (nA (a.aO.map (·.bV)) b.bV))else ze 3)else ze 9)else ze 9
def X_(s t:Str):ah × Int:=if t=[]then ze 1 else if (ou t (s.length+1) s).length≤1024 then okV (Jo ((ou t (s.length+1) s).map mkS))else ze 3
def Jk(name:Str)(a b:ah):ah × Int:=
 if name=[100,101,102,97,117,108,116]then (if a.kind=0 then okV b else okV a)else if name=[99,111,110,116,97,105,110,115]then OU a b else if name=[106,111,105,110]then Oo a b
 else if ¬(a.kind=3∧b.kind=3)then ze 9
 else if name=[115,116,97,114,116,115,119,105,116,104]then okV (Zf (preS a.bV b.bV))else if name=[101,110,100,115,119,105,116,104]then okV (Zf (ahx a.bV b.bV))else X_ a.bV b.bV
theorem Bt(p:ah × Int):(dU (some (Br p)) (fun e=>some (.bad e)) fun x=>some (.ok x))=some (Br p):=by
 unfold Br;split<;>rfl
theorem am7{a b:ah}(ha:a.bulk<4611686018427387904)(hb:b.bulk<4611686018427387904):o_ a b BIG 0=some (.ok (a.aO.any fun x=>uz x b==0))∧xL a b BIG 0=some (okV (Zf (a.aO.any fun x=>uz x b==0))):=by
 have hl:=vV a;constructor
 ·rw[dI (F:=fun k (_:Unit) i=>o_ a b k i) (l:=a.aO) (body:=fun _ e1 (_:Unit) r=>au (nu e1 b) fun x3=>if x3 then some (.ok true)else r ()) (fin:=fun _=>some (.ok false)) (by omega) (fun k s i=>rfl) ()]
  have key:∀(t:List ah) (i:Nat),(∀x∈t,x.bulk<4611686018427387904)→dD (R:=fG aG Bool) (fun _ e1 (_:Unit) r=>au (nu e1 b) fun x3=>if x3 then some (.ok true)else r ()) (fun _=>some (.ok false)) i t ()=some (.ok (t.any fun x=>uz x b==0)):=by
   intro t
   induction t with
   | nil=>intro i _;rfl
   | cons d t ih=>
    intro i h;rw[dD,(Vl (h d (by simp)) hb).1,aj,atE];cases (uz d b==0)with
    | true=>rfl
    | false=>simp only[arG,arN,asT];exact ih (i+1) fun x hx=>h x (by simp[hx])
  exact key _ 0 fun x hx=>by have:=h_ hx;omega
 ·rw[dI (F:=fun k (_:Unit) i=>xL a b k i) (l:=a.aO) (body:=fun _ e1 (_:Unit) r=>au (GD e1 b) fun x1=>if x1 then au (B_ true) fun x2=>some (x2,0)else r ()) (fin:=fun _=>au (B_ false) fun x3=>some (x3,0)) (by omega) (fun k s i=>rfl) ()]
  have key:∀(t:List ah) (i:Nat),(∀x∈t,x.bulk<4611686018427387904)→dD (fun _ e1 (_:Unit) r=>au (GD e1 b) fun x1=>if x1 then au (B_ true) fun x2=>some (x2,(0:Int))else r ()) (fun _=>au (B_ false) fun x3=>some (x3,0)) i t ()=some (okV (Zf (t.any fun x=>uz x b==0))):=by
   intro t
   induction t with
   | nil=>intro i _;rfl
   | cons d t ih=>
    intro i h;rw[dD,(Vl (h d (by simp)) hb).2,aj,atE];cases (uz d b==0)with
    | true=>rfl
    | false=>simp only[arG,arN,asT];exact ih (i+1) fun x hx=>h x (by simp[hx])
  exact key _ 0 fun x hx=>by have:=h_ hx;omega
theorem af_{a b:ah}(ha:VV a)(hb:VV b)(ba:a.bulk<4611686018427387904)(bb:b.bulk<4611686018427387904):(dU (xE a b) (fun e1=>some (.bad e1)) fun x2=>au (fE x2) fun x3=>some (.ok x3))=some (Br (OU a b))∧NR a b=some (OU a b):=by
 have la:=mJ ha.1;have lb:=mJ hb.1;have hk:=Au a;unfold xE NR OU iU;rw[(am7 ba bb).1,(am7 ba bb).2,F4];by_cases h4:a.kind=4
 ·have b4:(a.kind==4)=true:=by simpa using h4
  simp only[h4,arO,aj];exact⟨rfl,rfl⟩
 ·have b4:(a.kind==4)=false:=by simpa using h4
  simp only[b4,h4,arN,aj,arG,arP];by_cases Xm:a.kind=3∧b.kind=3
  ·have e1:((b.kind !=3)||((a.kind !=3)&&(a.kind !=5)))=false:=by simp[Xm.1,Xm.2]
   have e5:(a.kind==5)=false:=by simp[Xm.1]
   simp only[Xm,atU,arO,strings_Contains];rw[arK (by omega),am1 (by omega) (by omega)];simp only[aj,jJ,aiX,atl];exact⟨rfl,rfl⟩
  ·rw[arF Xm,arF Xm];by_cases h53:a.kind=5∧b.kind=3
   ·have e1:((b.kind !=3)||((a.kind !=3)&&(a.kind !=5)))=false:=by simp[h53.1,h53.2]
    have e5:(a.kind==5)=true:=by simp[h53.1]
    have e3:(b.kind==3)=true:=by simp[h53.2]
    rw[arK h53,e1,e5,e3];simp only[arO,aj,PS,jJ,arG,arN];rw[adD ha.1 ba,alh (by omega)];cases Uo a b.bV with
    | none=>exact⟨rfl,rfl⟩
    | some v=>exact⟨rfl,rfl⟩
   ·have e1:((b.kind !=3)||((a.kind !=3)&&(a.kind !=5)))=true:=by
     rw[asq,arV,asL,asL,asL];omega
    have e2:(if (a.kind==5)=true then some (b.kind==3)else some false)=some false:=by
     by_cases h5:a.kind=5
     ·rw[arK (by simpa using h5)];have:(b.kind==3)=false:=by rw[asr];omega
      rw[this]
     ·rw[arF (by simpa using h5)]
    rw[arF h53,e1,e2,aj,PU];exact⟨rfl,rfl⟩
theorem ajd(a b:ah):GV (OU a b) 7:=by
 unfold OU;split
 ·exact GV.ok (Iq _) (by rw[zN];omega)
 ·split
  ·exact GV.ok (Iq _) (by rw[zN];omega)
  ·split
   ·exact GV.ok (Iq _) (by rw[zN];omega)
   ·exact GV.er (by decide)
theorem Xl:∀(l:List Str) (t:Str),(nA l t).length=(l.map List.length).sum+t.length*(l.length-1)
 | [],t=>by simp[nA]
 | [x],t=>by simp[nA]
 | x::y::r,t=>by
  rw[nA,aui,aui,Xl (y::r) t];simp only[asy,as9,ase,Nat.add_sub_cancel];rw[Nat.mul_add t.length r.length 1];omega
theorem Uh:∀(l:List Str) (x t:Str),nA (l++[x]) t=if l=[]then x else nA l t++(t++x)
 | [],x,t=>by simp[nA]
 | [a],x,t=>by simp[nA]
 | a::b::r,x,t=>by
  have ih:=Uh (b::r) x t;rw[atu,atu,nA,←atu,ih,arF (by simp),arF (by simp),nA];simp
theorem amU{a b:ah}(la:∀x∈a.aO,x.bV.length≤4096)(lb:b.bV.length≤4096)(ll:a.aO.length≤1024):∀(t:List ah) (i n:Nat) (l:List Str),t=a.aO.drop i→i≤a.aO.length→l.length=i→n=(l.map List.length).sum→n≤i*4096→
  dD (R:=fG aG ah) (fun _ e2 (s:Int × List Str) r=>au (iU e2 3) fun x4=>dU (dV x4 9) (fun e3=>some (.bad e3)) fun _=>au (app s.2 ([e2.bV]:List Str)) fun l2=>r (bF (s.1+(e2.bV.length:Int)),l2))
   (fun s=>dU (dV (decide ((bF (s.1+(bF ((b.bV.length:Int)*(if 0<(bF ((s.2.length:Int)-1))then (bF ((s.2.length:Int)-1))else 0)))))≤4096)) 3) (fun e4=>some (.bad e4)) fun _=>au (strings_Join s.2 b.bV) fun x5=>au (mW x5) fun x6=>some (.ok x6)) i t ((n:Int),l)
   =some (Br (if t.all fun x=>x.kind==3 then (if (nA (l++t.map (·.bV)) b.bV).length≤4096 then okV (mkS (nA (l++t.map (·.bV)) b.bV))else ze 3)else ze 9))
 | [],i,n,l,ht,hi,hl,hn,hb=>by
  have hj:=Xl l b.bV;have hL:b.bV.length*(l.length-1)≤4096*1024:=Nat.mul_le_mul lb (by omega);rw[dD];simp only[List.all_nil,arO,atf,List.append_nil]
  have e:(if 0<(bF ((l.length:Int)-1))then (bF ((l.length:Int)-1))else 0)=((l.length-1:Nat):Int):=by
   rw[zq (by omega)];split<;>omega
  rw[e,←Int.natCast_mul,zq (n:=((b.bV.length*(l.length-1):Nat):Int)) (by omega),zq (by omega),jZ];by_cases hc:(nA l b.bV).length≤4096
  ·rw[arK hc,arK (by simp;omega),jJ,strings_Join,arK ⟨by omega,by omega⟩];rfl
  ·rw[arF hc,arF (by simp;omega)];rfl
 | x::t,i,n,l,ht,hi,hl,hn,hb=>by
  obtain⟨h1,e1,e2⟩:=xU ht;have hm:x∈a.aO:=by rw[e1];exact asv h1
  have hx:=la x hm;have YE:wX=4294967296:=rfl;rw[dD,iU,aj,jZ,atZ];by_cases h3:x.kind=3
  ·have b3:(x.kind==3)=true:=by simpa using h3
   rw[b3,arK rfl,jJ,as6];simp only;rw[wO (by simp;omega),aj,zq (by omega),show (n:Int)+(x.bV.length:Int)=((n+x.bV.length:Nat):Int)from by omega];rw[amU la lb ll t (i+1) (n+x.bV.length) (l++[x.bV]) e2 (by omega) (by simp;omega) (by simp[hn]) (by omega)];simp
  ·have b3:(x.kind==3)=false:=by simpa using h3
   rw[b3,arF (by simp),ati,arF (by simp)];rfl
theorem aiF{a b:ah}(la:∀x∈a.aO,x.bV.length≤4096)(lb:b.bV.length≤4096)(ll:a.aO.length≤1024):∀(t:List ah) (i:Nat) (l:List Str) (k:Nat),t=a.aO.drop i→i≤a.aO.length→l.length=i→(nA l b.bV).length≤i*8192→a.aO.length<k+i→
  yQ a b k (nA l b.bV) (i:Int)=some (if t.all fun x=>x.kind==3 then (if (nA (l++t.map (·.bV)) b.bV).length≤4096 then okV (mkS (nA (l++t.map (·.bV)) b.bV))else ze 3)else ze 9)
 | _,i,l,0,_,_,_,_,h=>by omega
 | [],i,l,k+1,ht,hi,hl,hb,hk=>by
  have h1:=DN ht;rw[yQ,arF (by simp;omega),K5,aj];refine(WX (v:=mkS (nA l b.bV)) (by rw[Ci];omega)).trans ?_;rw[ahQ];simp
 | x::t,i,l,k+1,ht,hi,hl,hb,hk=>by
  obtain⟨h1,e1,e2⟩:=xU ht;have hm:x∈a.aO:=by rw[e1];exact asv h1
  have hx:=la x hm;have YE:wX=4294967296:=rfl;rw[yQ,arK (by simp;omega),mF h1,aj,←e1,atZ];by_cases h3:x.kind=3
  ·have b3:(x.kind==3)=true:=by simpa using h3
   have c3:(x.kind !=3)=false:=by simp[h3]
   rw[c3,arF (by simp),b3,as6];simp only[aj];have hs:=Uh l x.bV b.bV;by_cases h0:l=[]
   ·subst h0;have hi0:i=0:=by rw[←hl];rfl
    rw[arK rfl]at hs;rw[arF (by simp;omega),wO (by simp[nA];omega),aj,mD (by omega)];have hj:nA ([]:List Str) b.bV++x.bV=nA ([]++[x.bV]) b.bV:=by rw[hs];rfl
    rw[hj,aiF la lb ll t (i+1) ([]++[x.bV]) k e2 (by omega) (by simp;omega) (by rw[hs];omega) (by omega)];simp
   ·have hi0:0<i:=by rw[←hl];exact as_.2 h0
    rw[arK (by simp;omega),wO (by omega),aj,wO (by simp;omega),aj,mD (by omega)];rw[arF h0]at hs;rw[atI,←hs,aiF la lb ll t (i+1) (l++[x.bV]) k e2 (by omega) (by simp;omega) (by rw[hs];simp;omega) (by omega)];simp
  ·have b3:(x.kind==3)=false:=by simpa using h3
   have c3:(x.kind !=3)=true:=by simp[h3]
   rw[c3,arK rfl,b3,ati,arF (by simp)];rfl
theorem afK{a b:ah}(ha:VV a)(hb:VV b):Co a b=some (Br (Oo a b))∧aae a b=some (Oo a b):=by
 have la:=mJ ha.1;have lb:=mJ hb.1;have lx:∀x∈a.aO,x.bV.length≤4096:=fun x hx=>(mJ (ha.mem hx).1).1;unfold Co aae Oo iU;simp only[aj,xP];by_cases h:a.kind=4∧b.kind=3
 ·have e1:((a.kind==4)&&(b.kind==3))=true:=by simp[h.1,h.2]
  have e2:((a.kind !=4)||(b.kind !=3))=false:=by simp[h.1,h.2]
  rw[e1,e2,PS,jJ,arK h,arF (c:=false=true) (by simp)];constructor
  ·rw[dI (F:=fun k (s:Int × List Str) i=>vM a b k s.1 s.2 i) (l:=a.aO)
    (body:=fun _ e2 (s:Int × List Str) r=>au (iU e2 3) fun x4=>dU (dV x4 9) (fun e3=>some (.bad e3)) fun _=>au (app s.2 ([e2.bV]:List Str)) fun l2=>r (bF (s.1+(e2.bV.length:Int)),l2))
    (fin:=fun s=>dU (dV (decide ((bF (s.1+(bF ((b.bV.length:Int)*(if 0<(bF ((s.2.length:Int)-1))then (bF ((s.2.length:Int)-1))else 0)))))≤4096)) 3) (fun e4=>some (.bad e4)) fun _=>au (strings_Join s.2 b.bV) fun x5=>au (mW x5) fun x6=>some (.ok x6)) (by omega) (fun k s i=>rfl) (0,[])]
   have:=amU lx lb.1 la.2.1 a.aO 0 0 [] rfl (by omega) rfl rfl (by omega);simpa using this
  ·have:=aiF lx lb.1 la.2.1 a.aO 0 [] BIG rfl (by omega) rfl (by simp[nA]) (by have:=gX;omega);simpa[nA]using this
 ·have e1:((a.kind==4)&&(b.kind==3))=false:=by rw[atm,asr,asr];omega
  have e2:((a.kind !=4)||(b.kind !=3))=true:=by rw[asq,asL,asL];omega
  rw[e1,e2,PU,arF h,arK rfl];exact⟨rfl,rfl⟩
theorem aiE(a b:ah):GV (Oo a b) 5000:=by
 unfold Oo;split
 ·split
  ·split
   ·rename_i h;exact GV.ok (PX h) (by rw[Ci];omega)
   ·exact GV.er (by decide)
  ·exact GV.er (by decide)
 ·exact GV.er (by decide)
theorem H6(t:Str):∀(k:Nat) (s:Str),∀x∈ou t k s,x.length≤s.length
 | 0,s,x,h=>by simp only[ou,atw]at h;subst h;omega
 | k+1,s,x,h=>by
  rw[ou]at h;cases hi:mE s t with
  | none=>rw[hi]at h;simp only[atw]at h;subst h;omega
  | some i=>
   rw[hi]at h;simp only[asG]at h;rcases h with rfl|h
   ·simp;omega
   ·have:=H6 t k _ x h;simp only[atB]at this;omega
theorem aiw(l:List Str):Al (Jo (l.map mkS))≤16:=by
 have e:Al (Jo (l.map mkS))=Fq (l.map mkS) 2:=by rw[yC];rfl
 rw[e,Dx];refine⟨by omega,fun x hx=>?_⟩;obtain⟨s,_,rfl⟩:=atn.1 hx;have e2:Al (mkS s)=1:=by rw[yC];rfl
 omega
theorem ZU{s t:Str}(hs:s.length≤4096)(ht:t.length≤4096):(dU (dV (!(t==([]:Str))) 1) (fun e4=>some (.bad e4)) fun _=>au (strings_Split s t) fun l1=>dU (dV (decide ((l1.length:Int)≤1024)) 3) (fun e5=>some (.bad e5)) fun _=>au (A_ l1) fun Fh=>some (.ok Fh))=some (Br (X_ s t))∧
  K4 s t=some (X_ s t)∧GV (X_ s t) 5000000:=by
 have YE:wX=4294967296:=rfl;unfold X_;by_cases h0:t=[]
 ·have e:(!(t==([]:Str)))=false:=by simp[h0]
  rw[e,PU,arK h0,K4,arK (by simpa using h0)];exact⟨rfl,rfl,GV.er (by decide)⟩
 ·have e:(!(t==([]:Str)))=true:=by simp[h0]
  have hl:=SQ t h0 (s.length+1) s;rw[e,PS,jJ,arF h0,strings_Split,arK ⟨by omega,h0⟩,aj,jZ,ahz (by omega) (by omega) h0]
  have hb:(Jo ((ou t (s.length+1) s).map mkS)).bulk<4611686018427387904:=by
   rw[Kc,atg]
   have:=WC (f:=ah.bulk ∘ mkS) (l:=ou t (s.length+1) s) (c:=4103) fun x hx=>by
    have:=H6 t _ s x hx;simp only[aua,Ci];omega
   have:(ou t (s.length+1) s).length*4103≤4097*4103:=asV _ (by omega);omega
  rw[WX hb,afl (aiw _),List.length_map];by_cases hc:(ou t (s.length+1) s).length≤1024
  ·rw[arK hc,arK (by simp;omega),jJ,adK (by omega)];obtain⟨g1,g2⟩:=ZM hc fun x hx=>by have:=H6 t _ s x hx;omega
   exact⟨rfl,rfl,GV.ok g1 (by omega)⟩
  ·rw[arF hc,arF (by simp;omega)];exact⟨rfl,rfl,GV.er (by decide)⟩
theorem ahl{name:Str}{a b:ah}(ha:VV a)(hb:VV b)(ba:a.bulk<4611686018427387904)(bb:b.bulk<4611686018427387904):Kr name a b=some (Br (Jk name a b)):=by
 have la:=mJ ha.1;have lb:=mJ hb.1;unfold Kr Jk iU;rw[(af_ ha hb ba bb).1,(afK ha hb).1,F4];simp only[ar4,aj,jZ,arP];by_cases n1:name=[100,101,102,97,117,108,116]
 ·rw[arK n1,arK n1];by_cases hk:a.kind=0
  ·rw[arK hk,arK hk];rfl
  ·rw[arF hk,arF hk];rfl
 ·rw[arF n1,arF n1];by_cases n2:name=[99,111,110,116,97,105,110,115]
  ·rw[arK n2,arK n2]
  ·rw[arF n2,arF n2];by_cases n3:name=[106,111,105,110]
   ·rw[arK n3,arK n3,Bt]
   ·rw[arF n3,arF n3];by_cases hk:a.kind=3∧b.kind=3
    ·rw[arK hk,arF (c:=¬(a.kind=3∧b.kind=3)) (by simpa using hk),jJ];by_cases n4:name=[115,116,97,114,116,115,119,105,116,104]
     ·rw[arK n4,arK n4,alj];rfl
     ·rw[arF n4,arF n4];by_cases n5:name=[101,110,100,115,119,105,116,104]
      ·rw[arK n5,arK n5,ali (by omega) (by omega)];rfl
      ·rw[arF n5,arF n5];have:=(ZU (s:=a.bV) (t:=b.bV) la.1 lb.1).1;simp only[jZ,arP]at this;exact this
    ·rw[arF hk,arK (c:=¬(a.kind=3∧b.kind=3)) hk];rfl
theorem akH{name:Str}{a b:ah}(ha:VV a)(hb:VV b):GV (Jk name a b) (a.bulk+b.bulk+5000000):=by
 have la:=mJ ha.1;have lb:=mJ hb.1;unfold Jk;split
 ·split
  ·exact GV.ok hb (by omega)
  ·exact GV.ok ha (by omega)
 ·split
  ·exact(ajd _ _).mono (by omega)
  ·split
   ·exact(aiE _ _).mono (by omega)
   ·split
    ·exact GV.er (by decide)
    ·split
     ·exact GV.ok (Iq _) (by rw[zN];omega)
     ·split
      ·exact GV.ok (Iq _) (by rw[zN];omega)
      ·exact(ZU la.1 lb.1).2.2.mono (by omega)
end Go.Ft
namespace Go.Ft
open Go
attribute [local congr] eO
def Bc(s:Str):Int:=(yG s).getD 0
def akI:List Str:=[[99,111,110,116,97,105,110,115],[106,111,105,110],[115,112,108,105,116],[115,116,97,114,116,115,119,105,116,104],[101,110,100,115,119,105,116,104],[100,101,102,97,117,108,116]]
theorem acV(s:Str):yG s=some (Bc s)∧uZ s=some (if Bc s=0 then -1 else Bc s)∧(Bc s=0∨Bc s=1∨(Bc s=2∧s∈akI)):=by
 unfold Bc yG uZ akI;by_cases h1:s=[108,101,110]
 ·simp[h1]
 by_cases h2:s=[108,111,119,101,114]
 ·simp[h2]
 by_cases h3:s=[117,112,112,101,114]
 ·simp[h3]
 by_cases h4:s=[115,116,114,105,110,103]
 ·simp[h4]
 by_cases h5:s=[105,110,116]
 ·simp[h5]
 by_cases h6:s=[107,101,121,115]
 ·simp[h6]
 by_cases h7:s=[99,111,110,116,97,105,110,115]
 ·simp[h7]
 by_cases h8:s=[106,111,105,110]
 ·simp[h8]
 by_cases h9:s=[115,112,108,105,116]
 ·simp[h9]
 by_cases h10:s=[115,116,97,114,116,115,119,105,116,104]
 ·simp[h10]
 by_cases h11:s=[101,110,100,115,119,105,116,104]
 ·simp[h11]
 by_cases h12:s=[100,101,102,97,117,108,116]
 ·simp[h12]
 simp[h1,h2,h3,h4,h5,h6,h7,h8,h9,h10,h11,h12]
def Kn:List aF→Str→ah × Int
 | [],_=>ze 10
 | x::r,n=>if x.name=n then okV x.value else Kn r n
def pY:List (ah × Int)→List ah × Int
 | []=>([],0)
 | p::r=>if p.2≠0 then ([],p.2)else if (pY r).2≠0 then ([],(pY r).2)else (p.1::(pY r).1,0)
def GI(k:Int)(n:Str)(keys:List Str)(vs:List ah):ah × Int:=
 if k=9 then (if Al (Jo vs)≤16 then okV (Jo vs)else ze 13)
 else if k=10 then aat (List.zipWith aF.mk keys vs)
 else match vs with
  | [a]=>if k=3 then Ry a (mkS n)else if k=6 then unS n a else LG n a
  | [a,b]=>if k=4 then Ry a b else if k=7 then CG n a b else Jk n a b
  | _=>ze 99
def XH(b:ah × Int):ah × Int:=if b.2≠0 then ze b.2 else if b.1.kind≠1 then ze 9 else b
def aa4(a b c:ah × Int):ah × Int:=if a.2≠0 then ze a.2 else if a.1.kind≠1 then ze 9 else if a.1.dZ then b else c
def rR(n:Str)(a b:ah × Int):ah × Int:=if a.2≠0 then ze a.2 else if a.1.kind≠1 then ze 9 else if a.1.dZ=decide (n=[124,124])then a else XH b
def Jd(k:Int)(n:Str)(keys:List Str)(rs:List (ah × Int)):ah × Int:=
 if k=8 then (match rs with|[a,b,c]=>aa4 a b c|_=>ze 99)
 else if k=7∧(n=[38,38]∨n=[124,124])then (match rs with|[a,b]=>rR n a b|_=>ze 99)
 else if k=5∧Bc n=0 then ze 10
 else if k=5∧Bc n≠rs.length then ze 1
 else if (pY rs).2≠0 then ze (pY rs).2 else GI k n keys (pY rs).1
mutual
def sD(env:List aF):ak→ah × Int
 | ⟨k,n,v,args,keys⟩=>if k=1 then okV v else if k=2 then Kn env n else Jd k n keys (evL env args)
def evL(env:List aF):List ak→List (ah × Int)
 | []=>[]
 | x::r=>sD env x::evL env r
end
theorem aep(env:List aF):∀l:List ak,evL env l=l.map (sD env)
 | []=>rfl
 | x::r=>by rw[evL,aep env r,asy]
theorem acN(env:List aF)(e:ak):sD env e=if e.kind=1 then okV e.value else if e.kind=2 then Kn env e.name else Jd e.kind e.name e.keys (e.args.map (sD env)):=by
 cases e;rw[sD,aep]
theorem XA:∀(l seen:List Str),OO seen l=false→l.Nodup∧∀x∈l,x∉seen
 | [],_,_=>⟨List.nodup_nil,fun x hx=>by cases hx⟩
 | s::r,seen,h=>by
  rw[OO,asN]at h;obtain⟨i1,i2⟩:=XA r _ h.2
  have h1:s∉seen:=by
   intro hm;have:=h.1;rw[List.contains_iff_mem.2 hm]at this;cases this
  refine⟨List.nodup_cons.2 ⟨fun hm=>?_,i1⟩,fun x hx=>?_⟩
  ·exact i2 s hm (by simp)
  ·rcases asG.1 hx with rfl|hx
   ·exact h1
   ·exact fun hm=>i2 x hx (by simp[hm])
structure Fm(e:ak):Prop where
 len:e.args.length≤1024
 kind:1≤e.kind∧e.kind≤10
 lit:e.kind=1→VV e.value
 k3:e.kind=3→∃a,e.args=[a]
 as7:e.kind=3→e.name.length≤64
 k4:e.kind=4→∃a b,e.args=[a,b]
 k6:e.kind=6→(∃a,e.args=[a])∧(e.name=[33]∨e.name=[45])
 k7:e.kind=7→(∃a b,e.args=[a,b])∧e.name∈opsL
 k8:e.kind=8→∃a b c,e.args=[a,b,c]
 k10:e.kind=10→e.keys.length=e.args.length∧(∀k∈e.keys,vE k=true)∧e.keys.Nodup
theorem aeU{e:ak}{level:Nat}(h:Fp e level=0):Fm e∧∀x∈e.args,Fp x (level+1)=0:=by
 obtain⟨x1,x2⟩:=Wm h;obtain⟨f1,f2,f3⟩:=Sk x1;obtain⟨p1,p2,p3⟩:=OB f1
 have p4:KA e=true:=by
  unfold xS at f1;simp only[arV]at f1;exact f1.2
 have hd:OO [] e.keys=false:=by
  unfold BJ at x1;split at x1
  ·omega
  ·split at x1
   ·omega
   ·split at x1
    ·rename_i hq;simp only[arV,asL]at hq;exact absurd x1 hq.2
    ·split at x1
     ·omega
     ·split at x1
      ·omega
      ·rename_i hq;simpa using hq
 unfold CS at p1;simp only[as3,asN,asI]at p1;refine⟨⟨f3,by omega,fun hk=>(KU _).1 (f2 hk),fun hk=>?_,fun hk=>?_,fun hk=>?_,fun hk=>?_,fun hk=>?_,fun hk=>?_,fun hk=>?_⟩,x2⟩
 ·exact len1 (by unfold pW at p3;simp[hk]at p3;omega)
 ·unfold CW at p2;simp[hk]at p2;unfold jm at p2;simp only[arV]at p2;have:=p2.1;unfold isName at this;simp only[arV,arP]at this;exact this.1.1.2
 ·exact len2 (by unfold pW at p3;simp[hk]at p3;omega)
 ·refine⟨len1 (by unfold pW at p3;simp[hk]at p3;omega),?_⟩;unfold CW at p2;simp[hk]at p2;exact p2
 ·refine⟨len2 (by unfold pW at p3;simp[hk]at p3;omega),?_⟩;unfold CW at p2;simp[hk]at p2;exact SN p2
 ·exact aol (by unfold pW at p3;simp[hk]at p3;omega)
 ·unfold KA at p4;simp[hk]at p4;refine⟨by omega,fun k hkm=>?_,(XA _ _ hd).1⟩;have:=p4.2 k hkm;simpa using this
theorem OX:∀ {rs:List (ah × Int)} {N:Nat},(pY rs).2=0→(∀p∈rs,p.2=0)∧(pY rs).1=rs.map (·.1)
 | [],_,_=>⟨(fun p hp=>by cases hp),rfl⟩
 | p::r,N,h=>by
  rw[pY]at h⊢;split at h
  ·rename_i hp;exact absurd h hp
  ·rename_i hp;split at h
   ·rename_i hr;exact absurd h hr
   ·rename_i hr;simp only[atD,aum]at hp hr;obtain⟨i1,i2⟩:=OX (N:=N) hr;refine⟨fun q hq=>?_,?_⟩
    ·rcases asG.1 hq with rfl|hq
     ·exact hp
     ·exact i1 q hq
    ·rw[arF (by simpa using hp),arF (by simpa using hr),i2,asy]
theorem aiW{env:List aF}{N:Nat}(h:∀x∈env,VV x.value∧x.value.bulk≤N)(n:Str):GV (Kn env n) N:=by
 induction env with
 | nil=>exact GV.er (by decide)
 | cons x r ih=>
  rw[Kn];split
  ·exact GV.ok (h x (by simp)).1 (h x (by simp)).2
  ·exact ih fun y hy=>h y (by simp[hy])
theorem aju{b:ah × Int}{N:Nat}(h:GV b N):GV (XH b) N:=by
 unfold XH;split
 ·rename_i h0;exact GV.er h0
 ·split
  ·exact GV.er (by decide)
  ·exact h
theorem adp{keys:List Str}{vs:List ah}(hl:keys.length=vs.length)(hn:vs.length≤1024)(hk:∀k∈keys,vE k=true)(hd:keys.Nodup)(hv:∀v∈vs,VV v∧v.bulk<1152921504606846976):Ent (List.zipWith aF.mk keys vs):=by
 have hm:(List.zipWith aF.mk keys vs).map (·.name)=keys:=by
  clear hk hd hv hn
  induction keys generalizing vs with
  | nil=>simp
  | cons k ks ih=>
   cases vs with
   | nil=>simp at hl
   | cons v vs=>simp only[atv,asy,ih (by simpa using hl)]
 have hmv:∀x∈List.zipWith aF.mk keys vs,x.name∈keys∧x.value∈vs:=by
  clear hk hd hv hn hm
  induction keys generalizing vs with
  | nil=>intro x hx;simp at hx
  | cons k ks ih=>
   cases vs with
   | nil=>intro x hx;simp at hx
   | cons v vs=>
    intro x hx;simp only[atv,asG]at hx;rcases hx with rfl|hx
    ·simp
    ·have:=ih (by simpa using hl) x hx;exact⟨by simp[this.1],by simp[this.2]⟩
 exact⟨by simp;omega,fun x hx=>hk _ (hmv x hx).1,fun x hx=>hv _ (hmv x hx).2,by rw[hm];exact hd⟩
theorem Zl:∀(keys:List Str) (vs:List ah),(∀k∈keys,k.length≤64)→((List.zipWith aF.mk keys vs).map fun x=>x.value.bulk).sum≤(vs.map ah.bulk).sum∧((List.zipWith aF.mk keys vs).map fun x=>x.name.length+1).sum≤keys.length*65
 | [],_,_=>by simp
 | k::ks,[],_=>by simp
 | k::ks,v::vs,h=>by
  obtain⟨h1,h2⟩:=Zl ks vs fun x hx=>h x (by simp[hx]);have:=h k (by simp);simp only[atv,asy,as9,ase,auf];omega
theorem alE{vars:List aF}(H:Ent vars):GV (aat vars) ((vars.map fun x=>x.value.bulk).sum+(vars.map fun x=>x.name.length+1).sum+7):=by
 unfold aat;split
 ·exact GV.er (by decide)
 ·rename_i h;refine GV.ok (alD H h) ?_;have hp:=vX vars;rw[vP,ah.pX]
  have e1:((Qo (kC vars)).aO.map ah.bulk).sum=(vars.map fun x=>x.value.bulk).sum:=by
   simp only[Qo,atg];exact(hp.map _).sum_nat
  have e2:((Qo (kC vars)).keys.map fun z:Str=>z.length+1).sum=(vars.map fun x=>x.name.length+1).sum:=by
   simp only[Qo,atg];exact(hp.map _).sum_nat
  have e3:(Qo (kC vars)).bV=[]:=rfl;rw[e1,e2,e3];simp;omega
def WB:Nat:=2199023255552
theorem aij{e:ak}(F:Fm e){vs:List ah}(hl:vs.length=e.args.length)(hv:∀v∈vs,VV v∧v.bulk<1152921504606846976):GV (GI e.kind e.name e.keys vs) ((vs.map ah.bulk).sum+6000000):=by
 unfold GI;by_cases h9:e.kind=9
 ·rw[arK h9];split
  ·rename_i hle;refine GV.ok ⟨(Yx (by have:=F.len;omega) fun x hx=>(hv x hx).1).1,hle⟩ (by rw[Kc];omega)
  ·exact GV.er (by decide)
 ·rw[arF h9];by_cases h10:e.kind=10
  ·rw[arK h10];obtain⟨k1,k2,k3⟩:=F.k10 h10;have hlen:=F.len;have asl:∀k∈e.keys,k.length≤64:=fun k hk=>(GN (k2 k hk)).2;obtain⟨z1,z2⟩:=Zl e.keys vs asl;have:e.keys.length*65≤1024*65:=asV _ (by omega);exact(alE (adp (by omega) (by omega) k2 k3 hv)).mono (by omega)
  ·rw[arF h10]
   match vs,hv with
   | [],_=>exact GV.er (by decide)
   | [a],hv=>
    obtain⟨a1,a2⟩:=hv a (by simp);simp only[asy,atf,as9,List.sum_nil];split
    ·exact(aeb a1).mono (by omega)
    ·split
     ·exact(anO a1).mono (by omega)
     ·exact(alu a1).mono (by omega)
   | [a,b],hv=>
    obtain⟨a1,a2⟩:=hv a (by simp);obtain⟨b1,b2⟩:=hv b (by simp);simp only[asy,atf,as9,List.sum_nil];split
    ·exact(aeb a1).mono (by omega)
    ·split
     ·exact(al9 a1 b1).mono (by omega)
     ·exact(akH a1 b1).mono (by omega)
   | a::b::c::r,_=>exact GV.er (by decide)
theorem G_:∀l:List ak,He l=(l.map ecnt).sum
 | []=>rfl
 | x::r=>by rw[He,G_ r,asy,as9]
theorem Mv{α:Type}{f g:α→Nat}:∀ {l:List α},(∀x∈l,f x≤g x)→(l.map f).sum≤(l.map g).sum
 | [],_=>by simp
 | x::l,h=>by
  have:=h x (by simp);have:=Mv (l:=l) fun y hy=>h y (by simp[hy]);simp only[asy,as9];omega
theorem X7{α:Type}{f:α→Nat}{c:Nat}:∀ {l:List α},(l.map fun x=>f x*c).sum=(l.map f).sum*c
 | []=>by simp
 | x::l=>by simp only[asy,as9,X7 (l:=l),auf]
def SE(e:ak):Prop:=e.bulk≤1099511627776∧ecnt e≤4096
theorem SE.arg{e x:ak}(h:SE e)(hx:x∈e.args):SE x:=by
 obtain⟨h1,h2⟩:=h;have h3:=jq hx;have h4:=FY e;have h5:=Lc (f:=ecnt) hx;rw[G_]at h4;exact⟨by omega,by omega⟩
theorem aer{W:Nat}(hW:16777216≤W∧W≤2199023255552){env:List aF}(hE:∀x∈env,VV x.value∧x.value.bulk≤W):∀(b:Nat) (e:ak) (level:Nat),e.bulk≤b→e.bulk≤W→SE e→Fp e level=0→GV (sD env e) (ecnt e*W)
 | 0,e,_,h,_,_,_=>by have:=e.jV;omega
 | b+1,e,level,h,hbW,hS,hx=>by
  obtain⟨hB,hC⟩:=(id hS:SE e);obtain⟨F,x2⟩:=aeU hx;have hec:=FY e;have hcl:=OM _ e (asx _);have ih:∀x∈e.args,GV (sD env x) (ecnt x*W):=fun x hx=>aer hW hE b x (level+1) (by have:=jq hx;omega) (by have:=jq hx;omega) (hS.arg hx) (x2 x hx)
  have one:W≤ecnt e*W:=by
   have:1*W≤ecnt e*W:=asV _ (by omega);omega
  have mem:∀x∈e.args,ecnt x*W≤ecnt e*W:=fun x hx=>asV _ (by
   have:=Lc (f:=ecnt) hx
   rw[G_]at hec;omega)
  rw[acN];by_cases h1:e.kind=1
  ·rw[arK h1];exact GV.ok (F.lit h1) (by have:=Cn e;omega)
  ·rw[arF h1];by_cases h2:e.kind=2
   ·rw[arK h2];exact(aiW hE e.name).mono (by omega)
   ·rw[arF h2];unfold Jd;by_cases h8:e.kind=8
    ·rw[arK h8];obtain⟨x,y,z,ha⟩:=F.k8 h8;rw[ha]at ih mem⊢;simp only[asy,atf];unfold aa4;split
     ·rename_i h0;exact GV.er h0
     ·split
      ·exact GV.er (by decide)
      ·split
       ·exact(ih y (by simp)).mono (mem y (by simp))
       ·exact(ih z (by simp)).mono (mem z (by simp))
    ·rw[arF h8];split
     ·rename_i h7;obtain⟨⟨x,y,ha⟩,_⟩:=F.k7 h7.1;rw[ha]at ih mem⊢;simp only[asy,atf];unfold rR;split
      ·rename_i h0;exact GV.er h0
      ·split
       ·exact GV.er (by decide)
       ·split
        ·exact(ih x (by simp)).mono (mem x (by simp))
        ·exact(aju (ih y (by simp))).mono (mem y (by simp))
     ·split
      ·exact GV.er (by decide)
      ·split
       ·exact GV.er (by decide)
       ·split
        ·rename_i h0;exact GV.er h0
        ·rename_i h0;simp only[atD,aum]at h0;obtain⟨o1,o2⟩:=OX (N:=0) h0
         have hv:∀v∈(pY (e.args.map (sD env))).1,VV v∧v.bulk<1152921504606846976:=by
          intro v hv;rw[o2,atg]at hv;obtain⟨x,hx,rfl⟩:=atn.1 hv;have hz:=o1 _ (att hx);obtain⟨g1,g2⟩:=(ih x hx).1 hz;have:=mem x hx;have:ecnt e*W≤4096*W:=asV _ hC;exact⟨g1,by simp only[aua];omega⟩
         refine(aij F (by rw[o2];simp) hv).mono ?_;rw[o2,atg,atg];have s1:=Mv (l:=e.args) (f:=(ah.bulk ∘ fun x=>x.1) ∘ sD env) (g:=fun x=>ecnt x*W) fun x hx=>((ih x hx).1 (o1 _ (att hx))).2;rw[X7]at s1;rw[hec,G_,auf];omega
theorem YP{env:List aF}(hE:∀x∈env,VV x.value∧x.value.bulk≤1048576)(b:Nat)(e:ak)(level:Nat)(h:e.bulk≤b)(hS:SE e)(hx:Fp e level=0):GV (sD env e) (ecnt e*WB):=
 aer (W:=WB) ⟨by decide,by decide⟩ (fun x hx=>⟨(hE x hx).1,by have:=(hE x hx).2;have hW:WB=2199023255552:=rfl;omega⟩) b e level h (by have:=hS.1;have hW:WB=2199023255552:=rfl;omega) hS hx
end Go.Ft
namespace Go.Ft
open Go
attribute [local congr] eO
theorem find_spec{env:List aF}(hl:env.length<4611686018427387904)(n:Str):um env n=some (Br (Kn env n)):=by
 unfold um;rw[dI (F:=fun k (_:Unit) i=>pV env n k i) (l:=env) (body:=fun _ e1 (_:Unit) r=>if e1.name==n then some (.ok e1.value)else r ()) (fin:=fun _=>dU (Bb 10) (fun e2=>some (.bad e2)) fun _=>some (.ok (ah.mk 0 false 0 ([]:Str) [] []))) hl (fun k s i=>rfl) ()]
 have key:∀(t:List aF) (i:Nat),dD (R:=fG aG ah) (fun _ e1 (_:Unit) r=>if e1.name==n then some (.ok e1.value)else r ()) (fun _=>dU (Bb 10) (fun e2=>some (.bad e2)) fun _=>some (.ok (ah.mk 0 false 0 ([]:Str) [] []))) i t ()=some (Br (Kn t n)):=by
  intro t
  induction t with
  | nil=>intro i;rfl
  | cons x r ih=>
   intro i;rw[dD,Kn];by_cases hx:x.name=n
   ·rw[arK (by simpa using hx),arK hx];rfl
   ·rw[arF (by simpa using hx),arF hx];exact ih (i+1)
 exact key env 0
theorem aq7{go:ak→Option (fG aG ah)}{f:ak→ah × Int}:∀(l:List ak) (i:Nat) (out:List ah),(∀x∈l,go x=some (Br (f x)))→out.length+l.length≤wX→
  dD (R:=fG aG (List ah)) (fun _ e1 (bP:List ah) r=>dU (go e1) (fun e2=>some (.bad e2)) fun x2=>au (app bP [x2]) fun xk=>r xk) (fun bP=>some (.ok bP)) i l out=some (Br ((out++(pY (l.map f)).1,(pY (l.map f)).2):List ah × Int))
 | [],i,out,_,_=>by simp[dD,pY,Br]
 | x::r,i,out,h,hl=>by
  simp only[ase]at hl;rw[dD,h x (by simp),asy,pY];by_cases h0:(f x).2=0
  ·have e:Br (f x)=.ok (f x).1:=arK h0;rw[e,jJ,wO (by simp;omega),aj,arF (by simpa using h0)];refine(aq7 r (i+1) (out++[(f x).1]) (fun y hy=>h y (by simp[hy])) (by simp;omega)).trans ?_;by_cases h1:(pY (r.map f)).2=0
   ·rw[arF (by simpa using h1),h1];simp[Br]
   ·rw[arK h1];simp[Br,h1]
  ·have e:Br (f x)=.bad ⟨(f x).2⟩:=arF h0;rw[e,XI,arK h0];simp[Br,h0]
theorem iN{α β:Type}(p:α × Int)(F:α→Option (fG aG β)):dU (some (Br p)) (fun e=>some (.bad e)) F=if p.2=0 then F p.1 else some (.bad ⟨p.2⟩):=by
 unfold Br;split<;>rfl
theorem ajB(p:ah × Int):pY [p]=if p.2≠0 then ([],p.2)else ([p.1],0):=by
 rw[pY,pY];simp
theorem ang(p q:ah × Int):pY [p,q]=if p.2≠0 then ([],p.2)else if q.2≠0 then ([],q.2)else ([p.1,q.1],0):=by
 rw[pY,ajB];by_cases hp:p.2=0
 ·by_cases hq:q.2=0<;>simp[hp,hq]
 ·simp[hp]
theorem af3(p:ah × Int):(if p.2=0 then some (.ok p.1)else some (.bad ⟨p.2⟩):Option (fG aG ah))=some (Br p):=by unfold Br;split<;>rfl
theorem af2(p:ah × Int):dU (if p.2=0 then some (.ok p.1)else some (.bad ⟨p.2⟩):Option (fG aG ah)) (fun e=>some (.bad e)) (fun x=>some (.ok x))=some (Br p):=by unfold Br;split<;>rfl
theorem aaY{e:ak}{vs:List ah}{K:List aF→Option (fG aG ah)}(hk:e.keys.length=vs.length)(hl:vs.length≤1024):∀(t:List ah) (i:Nat) (o:List aF),t=vs.drop i→o.length=i→
  dD (fun(i:Nat) e3 (o:List aF) r=>au (idx e.keys (i:Int)) fun e4=>au (app o [(aF.mk e4 e3)]) fun Sz=>r Sz) K i t o=K (o++List.zipWith aF.mk (e.keys.drop i) t)
 | [],i,o,_,_=>by simp[dD]
 | v::t,i,o,ht,ho=>by
  have YE:wX=4294967296:=rfl;obtain⟨h1,e1,e2⟩:=xU ht;have hi:i<e.keys.length:=by omega
  rw[dD,mF hi,aj,wO (by simp;omega),aj];refine(aaY hk hl t (i+1) _ e2 (by simp;omega)).trans ?_;rw[ar0 hi,atv,atI,List.singleton_append]
theorem aeo{env:List aF}(hl:env.length<4611686018427387904)(hE:∀x∈env,VV x.value∧x.value.bulk≤1048576):∀(b:Nat) (e:ak) (level k:Nat),e.bulk≤b→SE e→Fp e level=0→3*b+3≤k→
  cZ k env e=some (Br (sD env e))
 | 0,e,_,_,h,_,_,_=>by have:=e.jV;omega
 | b+1,e,level,k,h,hS,hx,hk=>by
  obtain⟨hB,hC⟩:=(id hS:SE e);obtain⟨F,x2⟩:=aeU hx;have hW:WB=2199023255552:=rfl;have YE:wX=4294967296:=rfl;have hlen:=F.len;obtain⟨k1,rfl⟩:∃k1,k=k1+3:=⟨k-3,by omega⟩;have ih:∀k2,3*b+3≤k2→∀x∈e.args,cZ k2 env x=some (Br (sD env x)):=fun k2 hk2 x hx=>aeo hl hE b x (level+1) k2 (by have:=jq hx;omega) (hS.arg hx) (x2 x hx) hk2
  have gv:∀x∈e.args,(sD env x).2=0→VV (sD env x).1∧(sD env x).1.bulk<1152921504606846976:=by
   intro x hx hz;have hxb:=jq hx;obtain⟨g1,g2⟩:=(YP hE b x (level+1) (by omega) (hS.arg hx) (x2 x hx)).1 hz;have hcl:=OM _ x (asx _);have:ecnt x*WB≤4096*WB:=asV _ (hS.arg hx).2;exact⟨g1,by omega⟩
  have all:∀k2,3*b+3≤k2→nK (cZ k2) env e.args BIG [] 0=some (Br (pY (e.args.map (sD env)))):=by
   intro k2 hk2;rw[dI (F:=fun k s i=>nK (cZ k2) env e.args k s i) (l:=e.args) (body:=fun _ e1 (bP:List ah) r=>dU (cZ k2 env e1) (fun e2=>some (.bad e2)) fun x2=>au (app bP [x2]) fun xk=>r xk) (fin:=fun bP=>some (.ok bP)) (by omega) (fun k s i=>rfl)];have:=aq7 (go:=cZ k2 env) (f:=sD env) e.args 0 [] (ih k2 hk2) (by simp;omega);simpa using this
  have Qq:∀j,3*b+3≤j→fq (j+1) env e.args=some (Br (pY (e.args.map (sD env)))):=fun j hj=>all j hj
  have amd:(pY (e.args.map (sD env))).2=0→(pY (e.args.map (sD env))).1.length=e.args.length∧∀v∈(pY (e.args.map (sD env))).1,VV v∧v.bulk<1152921504606846976:=by
   intro h0;obtain⟨o1,o2⟩:=OX (N:=0) h0;refine⟨by rw[o2];simp,fun v hv=>?_⟩;rw[o2,atg]at hv;obtain⟨x,hx,rfl⟩:=atn.1 hv;exact gv x hx (o1 _ (att hx))
  rw[cZ,uL,acN];have hkind:=F.kind;have hkc:e.kind=1∨e.kind=2∨e.kind=3∨e.kind=4∨e.kind=5∨e.kind=6∨e.kind=7∨e.kind=8∨e.kind=9∨e.kind=10:=by omega
  have i0:∀(x:ak) (r:List ak),idx (x::r) 0=some x:=fun x r=>rfl;have i1:∀(x y:ak) (r:List ak),idx (x::y::r) 1=some y:=fun x y r=>rfl;have i2:∀(x y z:ak) (r:List ak),idx (x::y::z::r) 2=some z:=fun x y z r=>rfl;have v0:∀(x:ah) (r:List ah),idx (x::r) 0=some x:=fun x r=>rfl;have v1:∀(x y:ah) (r:List ah),idx (x::y::r) 1=some y:=fun x y r=>rfl;rcases hkc with hk'|hk'|hk'|hk'|hk'|hk'|hk'|hk'|hk'|hk'
  ·rw[arK (by simpa using hk'),arK hk'];rfl
  ·rw[arF (by simp[hk']),arK (by simpa using hk'),arF (by omega),arK hk',find_spec hl,Bt]
  ·obtain⟨x,ha⟩:=F.k3 hk';have e3:=ih (k1+2) (by omega) x (by rw[ha];simp);have g3:=gv x (by rw[ha];simp);rw[ha,i0];simp only[hk',aj,e3];unfold Jd GI;rw[show (([x]:List ak).map (sD env))=[sD env x]from rfl,ajB];simp only[mW,aj];by_cases h0:(sD env x).2=0
   ·obtain⟨g1,g2⟩:=g3 h0;have he:=Uv (b:=mkS e.name) g1 (by omega) (fun h=>by cases h.2);have he':yF (sD env x).1 (ah.mk 3 false 0 e.name [] [])=some (Br (Ry (sD env x).1 (mkS e.name))):=he;simp[h0,iN,he']
    first|exact af3 _|exact af2 _|exact Bt _
   ·simp[h0,iN,rQ h0]
  ·obtain⟨x,y,ha⟩:=F.k4 hk';have e3:=ih (k1+2) (by omega) x (by rw[ha];simp);have e4:=ih (k1+2) (by omega) y (by rw[ha];simp);have g3:=gv x (by rw[ha];simp);rw[ha,i0,i1];simp only[hk',aj,e3,e4];unfold Jd GI;rw[show (([x,y]:List ak).map (sD env))=[sD env x,sD env y]from rfl,ang];by_cases h0:(sD env x).2=0
   ·obtain⟨g1,g2⟩:=g3 h0;have he:=YT (b:=(sD env y).1) g1 (by omega);by_cases h1:(sD env y).2=0
    ·simp[h0,h1,iN,he]
     first|exact af3 _|exact af2 _|exact Bt _
    ·simp[h0,h1,iN,rQ h1]
   ·simp[h0,iN,rQ h0]
  ·
   have hc5:eG (k1+2) env e=qN (cZ (k1+1)) (eG (k1+1)) (fq (k1+1)) (dS (k1+1)) (dG (k1+1)) env e:=rfl;obtain⟨c1,c2,c3⟩:=acV e.name;have ha:=Qq k1 (by omega);simp only[hk'];rw[hc5,qN,c1,aj,jZ,jZ,ha];unfold Jd;have hlm:(e.args.map (sD env)).length=e.args.length:=by simp
   rw[hlm];rcases c3 with c3|c3|⟨c3,c4⟩
   ·rw[c3];simp[rQ]
   ·rw[c3];by_cases hlen:e.args.length=1
    ·by_cases h0:(pY (e.args.map (sD env))).2=0
     ·obtain⟨l1,l2⟩:=amd h0;obtain⟨a,hva⟩:=len1 (l1.trans hlen);rw[hva]at l2;obtain⟨g1,g2⟩:=l2 a (by simp);have ho:=aie (name:=e.name) g1 (by omega);simp[hlen,h0,iN,hva,v0,ho,GI]
      first|exact af3 _|exact af2 _|exact Bt _
     ·simp[hlen,h0,iN,rQ h0]
    ·have:¬((e.args.length:Int)=1):=by omega
     have t2:¬((1:Int)=(e.args.length:Int)):=by omega
     simp[this,t2,rQ]
   ·rw[c3];by_cases hlen:e.args.length=2
    ·by_cases h0:(pY (e.args.map (sD env))).2=0
     ·obtain⟨l1,l2⟩:=amd h0;obtain⟨a,b',hva⟩:=len2 (l1.trans hlen);rw[hva]at l2;obtain⟨g1,g2⟩:=l2 a (by simp);obtain⟨g3,g4⟩:=l2 b' (by simp);have ho:=ahl (name:=e.name) g1 g3 (by omega) (by omega);simp[hlen,h0,iN,hva,v0,v1,ho,GI]
      first|exact af3 _|exact af2 _|exact Bt _
     ·simp[hlen,h0,iN,rQ h0]
    ·have:¬((e.args.length:Int)=2):=by omega
     have t2:¬((2:Int)=(e.args.length:Int)):=by omega
     simp[this,t2,rQ]
  ·obtain⟨⟨x,ha⟩,_⟩:=F.k6 hk';have e3:=ih (k1+2) (by omega) x (by rw[ha];simp);have g3:=gv x (by rw[ha];simp);rw[ha,i0];simp only[hk',aj,e3];unfold Jd GI;rw[show (([x]:List ak).map (sD env))=[sD env x]from rfl,ajB];by_cases h0:(sD env x).2=0
   ·obtain⟨g1,g2⟩:=g3 h0;have he:=abR (op:=e.name) g1;simp[h0,iN,he]
    first|exact af3 _|exact af2 _|exact Bt _
   ·simp[h0,iN,rQ h0]
  ·
   obtain⟨⟨x,y,ha⟩,hop⟩:=F.k7 hk';have hb5:dS (k1+2) env e=om (cZ (k1+1)) (eG (k1+1)) (fq (k1+1)) (dS (k1+1)) (dG (k1+1)) env e:=rfl;have e3:=ih (k1+1) (by omega) x (by rw[ha];simp);have e4:=ih (k1+1) (by omega) y (by rw[ha];simp);have g3:=gv x (by rw[ha];simp);have g4:=gv y (by rw[ha];simp);simp only[hk'];rw[hb5,om,ha,i0,i1];simp only[aj,e3,e4];unfold Jd GI;rw[show (([x,y]:List ak).map (sD env))=[sD env x,sD env y]from rfl,ang];by_cases hsc:e.name=[38,38]∨e.name=[124,124]
   ·have aot:((e.name==([38,38]:Str))||(e.name==([124,124]:Str)))=true:=by simpa using hsc
    simp only[aot,arO,hsc,aue,rR];by_cases h0:(sD env x).2=0
    ·simp only[h0,iN,SF];by_cases hb1:(sD env x).1.kind=1
     ·have ed:((sD env x).1.dZ==(e.name==([124,124]:Str)))=decide ((sD env x).1.dZ=decide (e.name=[124,124])):=by
       have eb:(e.name==([124,124]:Str))=decide (e.name=[124,124]):=by rw[asZ];simp
       rw[eb];rfl
      simp only[hb1,arO,jJ,ed,arP];by_cases hs:(sD env x).1.dZ=decide (e.name=[124,124])
      ·have:Br (sD env x)=.ok (sD env x).1:=arK h0;simp[hs,this]
      ·unfold XH;by_cases h1:(sD env y).2=0
       ·obtain⟨gy1,gy2⟩:=g4 h1;by_cases hb2:(sD env y).1.kind=1
        ·have hy:ah.mk 1 (sD env y).1.dZ 0 ([]:Str) [] []=(sD env y).1:=by
          have hp:=Pb ((wS _).1 gy1.1).1;unfold rJ at hp;simp only[arV,asq,ar4,hb2]at hp;obtain⟨⟨⟨⟨_,q2⟩,q3⟩,q4⟩,q5⟩:=hp;generalize (sD env y).1=w at *;cases w with
          | mk k bb n s l ks=>
           simp only at hb2 q2 q3 q4 q5;have z1:n=0:=by omega
           have z2:s=[]:=q3.elim (fun q=>by omega) fun q=>q;have z3:l=[]:=q4.elim (fun q=>by omega) fun q=>as5 (by omega);have z4:ks=[]:=q5.elim (fun q=>by omega) fun q=>as5 (by omega);subst z1 z2 z3 z4 hb2;rfl
         have:Br (sD env y)=.ok (sD env y).1:=arK h1;simp[hs,h1,hb2,fE,hy,this]
        ·simp[hs,h1,hb2,rQ]
       ·simp[hs,h1,rQ h1]
     ·simp[hb1,rQ]
    ·simp[h0,iN,rQ h0]
   ·have aot:((e.name==([38,38]:Str))||(e.name==([124,124]:Str)))=false:=by
     rw[asN,asr,asr];exact⟨fun h=>hsc (.inl h),fun h=>hsc (.inr h)⟩
    simp only[aot,arG,arN,hsc,and_false];by_cases h0:(sD env x).2=0
    ·by_cases h1:(sD env y).2=0
     ·obtain⟨gx1,gx2⟩:=g3 h0;obtain⟨gy1,gy2⟩:=g4 h1;have hb:=abk (op:=e.name) gx1 gy1 (by omega) (by omega);simp only[iN,h0,h1,arO];rw[hb];simp
      first|exact af3 _|exact af2 _|exact Bt _
     ·simp[h0,h1,iN,rQ h1]
    ·simp[h0,iN,rQ h0]
  ·obtain⟨x,y,z,ha⟩:=F.k8 hk';have e3:=ih (k1+2) (by omega) x (by rw[ha];simp);have e4:=ih (k1+2) (by omega) y (by rw[ha];simp);have e5:=ih (k1+2) (by omega) z (by rw[ha];simp);rw[ha,i0,i1,i2];simp only[hk',aj,e3,e4,e5,Bt,SF];unfold Jd aa4;by_cases h0:(sD env x).2=0
   ·by_cases hb1:(sD env x).1.kind=1
    ·cases hbb:(sD env x).1.dZ<;>simp[h0,hb1,hbb,iN]
    ·simp[h0,hb1,iN,rQ]
   ·simp[h0,iN,rQ h0]
  ·have ha:=Qq (k1+1) (by omega);simp only[hk'];rw[ha];unfold Jd GI;by_cases h0:(pY (e.args.map (sD env))).2=0
   ·obtain⟨l1,l2⟩:=amd h0
    have hv:vW (Jo (pY (e.args.map (sD env))).1) 1=if Al (Jo (pY (e.args.map (sD env))).1)≤16 then 0 else 13:=by
     rw[Nv _ _ 1 (asx _) (Yx (by omega) fun x hx=>(l2 x hx).1).1 (by omega)];refine eO (propext (by omega))
    have hbk:(Jo (pY (e.args.map (sD env))).1).bulk<4611686018427387904:=by
     rw[Kc];obtain⟨o1,o2⟩:=OX (N:=0) h0;rw[o2,atg,atg];have s1:=Mv (l:=e.args) (f:=(ah.bulk ∘ fun x=>x.1) ∘ sD env) (g:=fun x=>ecnt x*WB) fun x hx=>((YP hE b x (level+1) (by have:=jq hx;omega) (hS.arg hx) (x2 x hx)).1 (o1 _ (att hx))).2;rw[X7,←G_]at s1;have hec:=FY e;have hcl:=OM _ e (asx _);have:He e.args*WB≤4096*WB:=asV _ (by omega);omega
    have hvv:=D9 hbk;rw[hv]at hvv;have hm:EY (pY (e.args.map (sD env))).1=some (Jo (pY (e.args.map (sD env))).1):=rfl;simp only[iN,h0,arO,hm,aj,hvv,jZ];by_cases hle:Al (Jo (pY (e.args.map (sD env))).1)≤16
    ·simp[hle]
    ·simp[hle,rQ]
   ·simp[h0,iN,rQ h0]
  ·have he5:dG (k1+2) env e=nC (cZ (k1+1)) (eG (k1+1)) (fq (k1+1)) (dS (k1+1)) (dG (k1+1)) env e:=rfl;have ha:=Qq k1 (by omega);have n1:(e.kind==1)=false:=by simp[hk']
   have n2:(e.kind==2)=false:=by simp[hk']
   have n3:(e.kind==3)=false:=by simp[hk']
   have n4:(e.kind==4)=false:=by simp[hk']
   have n5:(e.kind==5)=false:=by simp[hk']
   have n6:(e.kind==6)=false:=by simp[hk']
   have n7:(e.kind==7)=false:=by simp[hk']
   have n8:(e.kind==8)=false:=by simp[hk']
   have n9:(e.kind==9)=false:=by simp[hk']
   simp only[n1,n2,n3,n4,n5,n6,n7,n8,n9,arG,arN];rw[he5,nC,ha];unfold Jd GI;by_cases h0:(pY (e.args.map (sD env))).2=0
   ·obtain⟨l1,l2⟩:=amd h0;obtain⟨q1,q2,q3⟩:=F.k10 hk';simp only[iN,h0,arO]
    rw[dI (F:=fun k s i=>mO e (pY (e.args.map (sD env))).1 k s i) (l:=(pY (e.args.map (sD env))).1) (body:=fun(i:Nat) e3 (o:List aF) r=>au (idx e.keys (i:Int)) fun e4=>au (app o [(aF.mk e4 e3)]) fun Sz=>r Sz)
     (fin:=fun gZ=>fD (D_ gZ) fun x2 nL=>dU (dV (nL==0) nL) (fun e5=>some (.bad e5)) fun _=>some (.ok x2)) (by omega) (fun k s i=>rfl),aaY (e:=e) (vs:=(pY (e.args.map (sD env))).1) (by omega) (by omega) (pY (e.args.map (sD env))).1 0 [] rfl rfl]
    have H:=adp (keys:=e.keys) (vs:=(pY (e.args.map (sD env))).1) (by omega) (by omega) q2 q3 l2;rw[List.nil_append,atl,akD H];unfold aat;split
    ·rw[aC,jZ];simp[hk',Br,ZV]
    ·rw[aC,jZ];simp[hk',Br]
   ·simp[hk',h0,iN,rQ h0]
end Go.Ft
namespace Go.Ft
open Go
attribute [local congr] eO
def OL:List Str→List aF→Int
 | _,[]=>0
 | seen,d::r=>if !jm d.name then 1 else if vW d.value 1 !=0 then vW d.value 1 else if seen.contains d.name then 7 else OL (seen++[d.name]) r
theorem am3:∀(r:List aF) (i:Nat) (y:List (Str × Int)) (seen:List Str),(∀d∈r,d.name.length<4611686018427387000∧d.value.bulk<4611686018427387904)→(∀s,nX y s=if s∈seen then 1 else 0)→
  dD (fun _ e1 (y1:List (Str × Int)) r=>au (je (ak.mk 2 e1.name (ah.mk 0 false 0 ([]:Str) [] []) [] [])) fun x2=>if x2 !=0 then some 1 else au (kD e1.value) fun e2=>if e2 !=0 then some e2 else
   if decide (1<(nX (sJ y1 e1.name (bF ((nX y1 e1.name)+1))) e1.name))then some 7 else r (sJ y1 e1.name (bF ((nX y1 e1.name)+1)))) (fun _=>some 0) i r y=some (OL seen r)
 | [],_,_,_,_,_=>rfl
 | d::r,i,y,seen,hd,hy=>by
  rw[dD,OL,adW (hd d (by simp)).1,D9 (hd d (by simp)).2,Ed,arK rfl,hy d.name];cases h1:jm d.name with
  | false=>simp
  | true=>
   simp only[arO,aj,asC,arG,arN,as2];by_cases h2:vW d.value 1=0
   ·simp only[h2,as2,arG,arN];by_cases hc:d.name∈seen
    ·have:bF 2=2:=by decide
     simp[hc,this]
    ·have:bF ((0:Int)+1)=1:=by decide
     simp only[hc,arN,this];have e:seen.contains d.name=false:=by simpa using hc
     rw[e];simp only[auj,ath,arG,arN];refine am3 r (i+1) _ (seen++[d.name]) (fun z hz=>hd z (by simp[hz])) fun s=>?_;rw[Ed,hy s];by_cases h1:s=d.name
     ·subst h1;simp
     ·simp[h1]
   ·simp[h2]
theorem aes(l:List aF)(i:Nat)(hi:i<l.length)(hl:l.length<4611686018427387904)(go:Int→Option Int):∀(k j:Nat),i<k+j→j≤i→
  AJ l (i:Int) go k (j:Int)=if (((l.take i).drop j).map (·.name)).contains l[i].name then some 7 else go ((i+1:Nat):Int)
 | 0,j,h,h'=>by omega
 | k+1,j,h,h'=>by
  rw[AJ];by_cases hj:j<i
  ·have hlt:j<(l.take i).length:=by simp;omega
   rw[arK (by simpa using hj),mF hi,mF (by omega),ar0 hlt];simp only[aj,asy,auh,aun];by_cases h1:l[j].name=l[i].name
   ·simp[h1]
   ·have e1:(l[j].name==l[i].name)=false:=by simpa using h1
    have e2:(l[i].name==l[j].name)=false:=by simpa using fun hh=>h1 hh.symm
    simp only[e1,e2,arG,arN,asT];rw[mD (by omega)];exact aes l i hi hl go k (j+1) (by omega) (by omega)
  ·have:j=i:=by omega
   subst this;rw[arF (by simp),mD (by omega)];have:(List.take j l).drop j=[]:=asw (by simp;omega);rw[this];simp
theorem am2(l:List aF)(hl:l.length<4611686018427387904)(hd:∀d∈l,d.name.length<4611686018427387000∧d.value.bulk<4611686018427387904):∀(k i:Nat),l.length<k+i→i≤l.length→yu l k (i:Int)=some (OL ((l.take i).map (·.name)) (l.drop i))
 | 0,i,h,h'=>by omega
 | k+1,i,h,h'=>by
  rw[yu];by_cases hi:i<l.length
  ·have hn:=hd l[i] (asv hi);rw[arK (by simpa using hi),ar0 hi,OL,mF hi];have:=aes l i hi hl (yu l k) BIG 0 (by have:=gX;omega) (by omega);rw[show (0:Int)=((0:Nat):Int)from rfl,this,atl,am2 l hl hd k (i+1) (by omega) (by omega)];simp only[aj,(Cc l[i].name (by omega)).2,XZ hn.2];have e:List.take (i+1) l=List.take i l++[l[i]]:=by rw[auo,asb hi];rfl
   rw[e,atF];cases jm l[i].name with
   | false=>simp
   | true=>
    simp only[asC,arG,arN];by_cases h2:vW l[i].value 1=0
    ·simp only[h2,Int.natCast_zero,as2,arG,arN];split<;>rfl
    ·simp[h2]
  ·have:i=l.length:=by omega
   subst this;simp[OL]
def Ct(env:List aF):Int:=if 1024<env.length then 3 else OL [] env
theorem YR{env:List aF}(hl:env.length<4611686018427387904)(hd:∀d∈env,d.name.length<4611686018427387000∧d.value.bulk<4611686018427387904):G9 env=some (Ct env)∧NS env=some (Ct env):=by
 unfold G9 NS Ct;have e:decide ((1024:Int)<(env.length:Int))=decide (1024<env.length):=by congr 1;simp;omega
 rw[e];by_cases h:1024<env.length
 ·simp[h]
 ·simp only[h,ath,arG,arN]
  have s1:=dI (F:=fun k s i=>Cq env k i s) (l:=env) (body:=fun _ e1 (y1:List (Str × Int)) r=>au (je (ak.mk 2 e1.name (ah.mk 0 false 0 ([]:Str) [] []) [] [])) fun x2=>if x2 !=0 then some 1 else au (kD e1.value) fun e2=>if e2 !=0 then some e2 else
   if decide (1<(nX (sJ y1 e1.name (bF ((nX y1 e1.name)+1))) e1.name))then some 7 else r (sJ y1 e1.name (bF ((nX y1 e1.name)+1)))) (fin:=fun _=>some 0) hl (fun k s i=>rfl) []
  have s2:=am2 env hl hd BIG 0 (by have:=gX;omega) (by omega);refine⟨?_,by simpa using s2⟩;rw[s1];exact am3 env 0 [] [] hd (fun s=>by simp[nX])
theorem aaX:∀(r:List aF) (seen:List Str),OL seen r=0→(∀x∈r,VV x.value∧jm x.name=true∧x.name∉seen)∧(r.map (·.name)).Nodup
 | [],_,_=>⟨(fun x hx=>by cases hx),List.nodup_nil⟩
 | d::r,seen,h=>by
  rw[OL]at h;split at h
  ·cases h
  ·rename_i h1;split at h
   ·rename_i h2;rw[h]at h2;simp at h2
   ·rename_i h2;split at h
    ·cases h
    ·rename_i h3;obtain⟨i1,i2⟩:=aaX r _ h;have hs:d.name∉seen:=fun hm=>h3 (List.contains_iff_mem.2 hm);refine⟨fun x hx=>?_,?_⟩
     ·rcases asG.1 hx with rfl|hx
      ·exact⟨(KU _).1 (by simpa using h2),by simpa using h1,hs⟩
      ·obtain⟨a1,a2,a3⟩:=i1 x hx;exact⟨a1,a2,fun hm=>a3 (by simp[hm])⟩
     ·rw[asy,List.nodup_cons];refine⟨fun hm=>?_,i2⟩;obtain⟨x,hx,he⟩:=atn.1 hm;exact(i1 x hx).2.2 (by simp[he])
theorem Es{env:List aF}{N:Nat}(h:(env.map aF.bulk).sum≤N):env.length≤N∧∀d∈env,d.name.length≤N∧d.value.bulk≤N:=by
 constructor
 ·have:=Oj (l:=env) (f:=aF.bulk) (fun x=>by unfold aF.bulk;omega);omega
 ·intro d hd;have:=Lc (f:=aF.bulk) hd;have h2:d.name.length<d.bulk:=by unfold aF.bulk;omega
  have h3:d.value.bulk<d.bulk:=by unfold aF.bulk;omega
  omega
def Xv(e:ak)(env:List aF):ah × Int:=if Ct env≠0 then ze (Ct env)else if xval e≠0 then ze (xval e)else sD env e
theorem OJ{env:List aF}(h:Ct env=0):(∀x∈env,VV x.value∧jm x.name=true)∧(env.map (·.name)).Nodup∧env.length≤1024:=by
 unfold Ct at h;split at h
 ·cases h
 ·rename_i h1;obtain⟨a,b⟩:=aaX env [] h;exact⟨fun x hx=>⟨(a x hx).1,(a x hx).2.1⟩,b,by omega⟩
theorem adq{e:ak}(h:e.bulk≤1099511627776)(hx:xval e=0):SE e:=by
 refine⟨h,?_⟩;unfold xval at hx;split at hx
 ·cases hx
 ·omega
theorem adl{e:ak}{env:List aF}(h:e.bulk≤1099511627776)(hl:env.length<4611686018427387904)(hd:∀d∈env,d.name.length<4611686018427387000∧d.value.bulk≤1048576):G8 e env=some (Xv e env)∧GV (Xv e env) 9007199254740992:=by
 obtain⟨v1,v2⟩:=YR (env:=env) hl (fun d hd'=>by have:=hd d hd';omega);obtain⟨x1,x2⟩:=RN (e:=e) (by omega);unfold G8 FV Xv;rw[v1,x1];simp only[aj];by_cases hv:Ct env=0
 ·obtain⟨w1,w2,w3⟩:=OJ hv;have hEv:∀x∈env,VV x.value∧x.value.bulk≤1048576:=fun x hx=>⟨(w1 x hx).1,(hd x hx).2⟩;have bv:(Ct env !=0)=false:=by simpa using hv
  rw[arF (c:=Ct env≠0) (by simpa using hv)];simp only[bv,arG,arN];by_cases hx:xval e=0
  ·have hc:=O8 hx;have hS:=adq h hx;have hW:WB=2199023255552:=rfl;have hw:ecnt e*WB≤4096*WB:=asV _ hS.2;have hg:=(YP hEv e.bulk e 1 (asx _) hS hc).mono (M:=9007199254740992) (by omega);have bx:(xval e !=0)=false:=by simpa using hx
   rw[arF (c:=xval e≠0) (by simpa using hx)];simp only[bx,arG,arN,aC,as2];have p:=aeo (by omega) hEv e.bulk e 1 BIG (asx _) hS hc (by have:=gX;omega);refine⟨?_,hg⟩;unfold zZ CU;rw[p];unfold Br;by_cases h0:(sD env e).2=0
   ·rw[arK h0,jJ,aC];obtain⟨g1,g2⟩:=hg.1 h0;rw[(Pd g1.1 (by omega)).2,aj,←h0]
   ·rw[arF h0,XI,aC];have hz:=hg.2 h0;have hc2:yH (ah.mk 0 false 0 ([]:Str) [] [])=some ZV:=(aeY (v:=ZV) (by rw[aeS];decide)).2;rw[hc2,aj];generalize sD env e=p at hz⊢;obtain⟨v,c⟩:=p;simp only at hz;rw[hz]
  ·have bx:(xval e !=0)=true:=by simpa using hx
   rw[arK (c:=xval e≠0) hx];simp only[bx,arO,aC];exact⟨rfl,GV.er hx⟩
 ·have bv:(Ct env !=0)=true:=by simpa using hv
  rw[arK (c:=Ct env≠0) hv];simp only[bv,arO,aC];exact⟨rfl,GV.er hv⟩
theorem adz{env:List aF}(hE:(env.map aF.bulk).sum≤1048576):env.length<4611686018427387904∧∀d∈env,d.name.length<4611686018427387000∧d.value.bulk≤1048576:=by
 obtain⟨s1,s2⟩:=Es hE;exact⟨by omega,fun d hd=>by have:=s2 d hd;omega⟩
theorem ai0{p:ah × Int}{N:Nat}(h:GV p N):VV p.1∧p.1.bulk≤N+7:=by
 by_cases h0:p.2=0
 ·obtain⟨a,b⟩:=h.1 h0;exact⟨a,by omega⟩
 ·rw[h.2 h0];exact⟨ara,by rw[aeS];omega⟩
theorem agt{α β ρ:Type}(p:α × β)(f:α→β→Option ρ):fD (some p) f=f p.1 p.2:=rfl
end Go.Ft
namespace Go.Ft
open Go
attribute [local congr] eO
theorem aqu{α:Type}(a:α)(l:List α):idx (a::l) 0=some a:=rfl
end Go.Ft
namespace Go.Ft
open Go
theorem Ls:yY=some true:=by decide +kernel
end Go.Ft
namespace Go.Ft
open Go
attribute [local congr] eO
theorem aa1:∀(t:Str) (i:Nat) (s:Str),dD (fun(i:Nat) c (_:Unit) r=>au (oC c) fun x3=>if !x3 then some false else r ()) (fun _=>fD (strconv_Atoi s) fun n1 Uu=>some ((Uu.isNone)&&(decide (n1≤9007199254740992)))) i t ()=
  if t.all dF then fD (strconv_Atoi s) fun n1 Uu=>some ((Uu.isNone)&&(decide (n1≤9007199254740992)))else some false
 | [],i,s=>by simp[dD]
 | c::t,i,s=>by
  have ih:=aa1 t (i+1) s;rw[dD];by_cases hd:dF c=true
  ·have e:oC c=some true:=by rw[adY,hd]
   rw[e,aj,arF (by simp)];refine ih.trans ?_;simp[hd]
  ·have hd':dF c=false:=by simpa using hd
   have e:oC c=some false:=by rw[adY,hd']
   rw[e,aj,arK (by simp)];simp[hd']
theorem Zz:∀(s:Str) (acc:Nat),acc*10 ^ s.length≤xZ acc s
 | [],acc=>by simp[BO]
 | c::s,acc=>by
  have ih:=Zz s (acc*10+(c.toNat-48));rw[oV,ase,atx];have:acc*(10 ^ s.length*10)=acc*10*10 ^ s.length:=by rw[at7 (10 ^ s.length) 10,←auk]
  rw[this];exact at1 (asV _ (Nat.le_add_right _ _)) ih
theorem aau:∀(s:Str) (acc v:Nat),Kg acc s=(0,v)→v=xZ acc s
 | [],acc,v,h=>by simp[Kg]at h;rw[BO,h]
 | c::s,acc,v,h=>by
  rw[Kg]at h;rw[oV];split at h
  ·split at h
   ·cases h
   ·split at h
    ·cases h
    ·exact aau s _ v h
  ·cases h
theorem ajy{s:Str}(h:agl s)(h0:(vR s).1=0):(vR s).2=(xZ 0 s:Int)∧xZ 0 s<9223372036854775808:=by
 obtain⟨h1,h2,_⟩:=h;obtain⟨c,r,rfl⟩:∃c r,s=c::r:=by cases s with|nil=>exact absurd rfl h1|cons c r=>exact⟨c,r,rfl⟩
 have hc:=r_ (h2 c (by simp));have e1:¬c.toNat=43:=by omega
 have e2:¬c.toNat=45:=by omega
 unfold vR at h0⊢;simp only[e1,e2,or_self,arN,atD,atJ,true_and,false_and,reduceCtorEq]at h0⊢;cases hm:Kg 0 (c::r)with
 | mk a v=>
  rw[hm]at h0;simp only at h0⊢;by_cases a1:a=1
  ·simp[a1]at h0
  ·by_cases a2:a=2
   ·simp[a2]at h0
   ·rw[arF a1,arF a2]at h0⊢;by_cases hv:9223372036854775808≤v
    ·rw[arK hv]at h0;cases h0
    ·rw[arF hv]
     have ha:a=0:=by
      have:∀(s:Str) (acc:Nat),(Kg acc s).1=0∨(Kg acc s).1=1∨(Kg acc s).1=2:=by
       intro s
       induction s with
       | nil=>intro acc;simp[Kg]
       | cons c s ih=>
        intro acc;rw[Kg];split
        ·split
         ·simp
         ·split
          ·simp
          ·exact ih _
        ·simp
      have:=this (c::r) 0;rw[hm]at this;simp only at this;omega
     subst ha;have:=aau _ _ _ hm;exact⟨by rw[this],by omega⟩
theorem ajb{s:Str}(hs:s.length≤281474976710656):∃b,vv s=some b∧(b=true→∃u:Nat,s=uo 20 u∧u≤9007199254740992)∧∀u:Nat,s=uo 20 u→u≤9007199254740992→b=true:=by
 unfold vv;by_cases h0:s=[]
 ·subst h0;refine⟨false,rfl,(fun h=>by cases h),fun u h1 h2=>?_⟩;have:=(xG u u (asx _) (by omega)).1.1;exact absurd h1.symm this
 obtain⟨c,r,rfl⟩:∃c r,s=c::r:=by cases s with|nil=>exact absurd rfl h0|cons c r=>exact⟨c,r,rfl⟩
 have e0:((c::r)==([]:Str))=false:=rfl;simp only[e0,arG,arN];by_cases h1:1<(c::r).length∧c.toNat=48
 ·have e1:decide ((1:Int)<((c::r).length:Int))=true:=asU (by omega);refine⟨false,?_,(fun h=>by cases h),fun u h2 h3=>?_⟩
  ·rw[arK e1];simp[aqu,h1.2]
  ·have:=(xG u u (asx _) (by omega)).1.2.2;rw[←h2]at this;exact absurd (by simp[h1.2]) (this h1.1)
 ·have e1:(au (if decide ((1:Int)<((c::r).length:Int))then au (idx (c::r) 0) fun x1=>some ((x1.toNat:Int)==48)else some false) fun b1=>if b1 then some false else lK (c::r) BIG 0)=lK (c::r) BIG 0:=by
   by_cases h2:1<(c::r).length
   ·rw[arK (asU (by omega))];have:((c.toNat:Int)==48)=false:=by rw[asr];intro h;exact h1 ⟨h2,by omega⟩
    simp[aqu,this]
   ·rw[arF (by simp only[arP];omega)];rfl
  rw[e1];have sc:=dI (F:=fun k (_:Unit) i=>lK (c::r) k i) (l:=c::r) (body:=fun(i:Nat) c (_:Unit) r=>au (oC c) fun x3=>if !x3 then some false else r ()) (fin:=fun _=>fD (strconv_Atoi (c::r)) fun n1 Uu=>some ((Uu.isNone)&&(decide (n1≤9007199254740992)))) (by omega) (fun k s i=>rfl) ();rw[sc,aa1];by_cases hd:∀x∈c::r,dF x=true
  ·have hcan:agl (c::r):=⟨by simp,hd,fun h2=>by simp;intro h;exact h1 ⟨h2,h⟩⟩;rw[arK (by rw[atK];exact hd),strconv_Atoi,arK hs,aC];refine⟨_,rfl,fun hb=>?_,fun u h2 h3=>?_⟩
   ·simp only[arV,arP]at hb
    have h0:(vR (c::r)).1=0:=by
     by_cases hz:(vR (c::r)).1=0
     ·exact hz
     ·rw[arF hz]at hb;simp at hb
    obtain⟨a1,a2⟩:=ajy hcan h0
    have hlen:(c::r).length≤19:=by
     rcases asQ 19 (c::r).length with h|h
     ·exfalso;have hc:=r_ (hd c (by simp));have hlow:=Zz r (0*10+(c.toNat-48));have hne:c.toNat≠48:=fun h2=>h1 ⟨by omega,h2⟩;rw[oV]at a2;simp only[ase]at h;have hp:10 ^ 19≤10 ^ r.length:=aty (by omega) (by omega);have h19:(10:Nat) ^ 19=10000000000000000000:=by decide
      have:1*10 ^ r.length≤(0*10+(c.toNat-48))*10 ^ r.length:=asV _ (by omega);omega
     ·exact h
    refine⟨xZ 0 (c::r),(UL _ _ (asx _) hcan hlen).1.symm,?_⟩;rw[a1]at hb;omega
   ·rw[h2,U0 (by omega)];simp;omega
  ·rw[arF (by rw[atK];exact hd)];refine⟨false,rfl,(fun h=>by cases h),fun u h2 h3=>?_⟩;have:=(xG u u (asx _) (by omega)).1.2.1;rw[←h2]at this;exact absurd this hd
end Go.Ft
namespace Go.Ft
open Go
attribute [local congr] eO
def Jp(t:aA):Bool:=(jP t).getD false
theorem alb{t:aA}(h:t.text.length≤281474976710656):jP t=some (Jp t):=by
 have:(jP t).isSome=true:=by
  unfold jP;rw[TD _ (by omega)];obtain⟨b,hb,_⟩:=ajb h;rw[hb]
  repeat' split
  all_goals rfl
 unfold Jp;cases hp:jP t with
 | none=>rw[hp]at this;cases this
 | some b=>rfl
theorem aci{t:aA}(h:t.kind=4):Jp t=true:=by simp[Jp,jP,h]
theorem aif{t:aA}(h:Jp t=true):t.kind=1∨t.kind=2∨t.kind=3∨t.kind=4:=by
 unfold Jp jP at h;by_cases h1:t.kind=1
 ·exact .inl h1
 by_cases h2:t.kind=2
 ·exact .inr (.inl h2)
 by_cases h3:t.kind=3
 ·exact .inr (.inr (.inl h3))
 by_cases h4:t.kind=4
 ·exact .inr (.inr (.inr h4))
 simp[h1,h2,h3,h4]at h
def DY(ts:List aA):Prop:=ts.length≤65536∧∀t∈ts,t.text.length≤1048576
def BQ(ts:List aA)(i:Nat):aA:=match ts[i]? with
 | some t=>if Jp t then t else aA.mk 0 [] 0
 | none=>aA.mk 0 [] 0
def uO(ts:List aA)(i:Nat)(op:Str):Bool:=((BQ ts i).kind==4)&&((BQ ts i).text==op)
def miss(ts:List aA)(i:Nat):Int:=if ts.length≤i then 4 else 5
theorem Yq{ts:List aA}(h:DY ts)(i:Nat):jQ (av.mk ts (i:Int))=some (BQ ts i,av.mk ts (i:Int)):=by
 unfold jQ BQ;by_cases hi:i<ts.length
 ·have ht:=h.2 ts[i] (asv hi);have e:decide (((i:Nat):Int)<(ts.length:Int))=true:=asU (by omega);simp only[e,arO,mF hi,aj,alb (t:=ts[i]) (by omega),asb hi];cases Jp ts[i]<;>simp
 ·have e:decide (((i:Nat):Int)<(ts.length:Int))=false:=atc (by omega);simp only[e,arG,arN,aj,ata (Nat.le_of_not_lt hi)]
theorem nP{ts:List aA}(h:DY ts){i:Nat}(hi:i≤ts.length)(op:Str):dx (av.mk ts (i:Int)) op=some (uO ts i op,av.mk ts ((if uO ts i op then i+1 else i:Nat):Int)):=by
 have:=h.1;unfold dx wB;rw[Yq h,aC,aC];show (if (!(uO ts i op))=true then _ else _)=_;cases uO ts i op with
 | true=>rw[arF (by simp),mD (by omega)];rfl
 | false=>rw[arK (by simp)];rfl
theorem qh{ts:List aA}{i:Nat}{op:Str}(h:uO ts i op=true):∃hi:i<ts.length,ts[i].kind=4∧ts[i].text=op∧Jp ts[i]=true:=by
 unfold uO BQ at h;cases hx:ts[i]? with
 | none=>rw[hx]at h;simp at h
 | some t=>
  rw[hx]at h;obtain⟨hi,ht⟩:=ate.1 hx;cases ho:Jp t with
  | false=>simp[ho]at h
  | true=>
   simp[ho]at h;exact⟨hi,by rw[ht];exact h.1,by rw[ht];exact h.2,by rw[ht];exact ho⟩
theorem CO{ts:List aA}(h:DY ts)(i:Nat)(op:Str):uD ts (i:Int) op=some (uO ts i op):=by
 unfold uD;by_cases hi:i<ts.length
 ·have e:decide (((i:Nat):Int)<(ts.length:Int))=true:=asU (by omega);simp only[e,arO,mF hi,aj];unfold uO BQ;rw[asb hi];simp only;by_cases h4:ts[i].kind=4
  ·rw[arK (by simpa using h4),aci h4,arK rfl];simp[h4]
  ·rw[arF (by simpa using h4)];cases Jp ts[i]<;>simp[h4]
 ·have e:decide (((i:Nat):Int)<(ts.length:Int))=false:=atc (by omega);simp only[e,arG,arN,aj];cases hc:uO ts i op with
  | false=>rfl
  | true=>obtain⟨h1,_⟩:=qh hc;omega
theorem BZ(ts:List aA)(i:Nat):oN ts (i:Int)=some (miss ts i):=by
 unfold oN miss;by_cases hi:ts.length≤i
 ·rw[arK (asU (by omega)),arK hi]
 ·rw[arF (by simp;omega),arF hi]
theorem Oc{ts:List aA}(h:DY ts)(i:Nat):jR (av.mk ts (i:Int))=some (if (BQ ts i).kind=0 then (.bad (aB.mk (i:Int) (miss ts i)),av.mk ts (i:Int))else (.ok (BQ ts i),av.mk ts (i:Int))):=by
 unfold jR gU;by_cases hi:ts.length≤i
 ·have ht:(BQ ts i).kind=0:=by unfold BQ;rw[ata hi]
  rw[arK (asU (show (ts.length:Int)≤(i:Int) by omega)),arK ht];simp[fZ,miss,hi]
 ·rw[arF (by simp;omega),Yq h,aC];by_cases hk:(BQ ts i).kind=0
  ·rw[arK (by simpa using hk),arK hk];simp[fZ,miss,hi]
  ·rw[arF (by simpa using hk),arF hk]
theorem Eh{ts:List aA}(h:DY ts){i:Nat}(hi:i≤ts.length)(op:Str):fH (av.mk ts (i:Int)) op=some (if uO ts i op then (.ok (),av.mk ts ((i+1:Nat):Int))else (.bad (aB.mk (i:Int) (miss ts i)),av.mk ts (i:Int))):=by
 unfold fH;rw[Oc h];by_cases hk:(BQ ts i).kind=0
 ·have ho:uO ts i op=false:=by unfold uO;rw[hk];rfl
  rw[arK hk,ho,arF (by simp)];rfl
 ·rw[arF hk];show fD _ _=_;rw[nP h hi,aC];cases ho:uO ts i op with
  | true=>rfl
  | false=>
   have hlt:¬ts.length≤i:=fun hl=>hk (by unfold BQ;rw[ata hl]);simp[fZ,gU,miss,hlt]
end Go.Ft
namespace Go.Ft
open Go
attribute [local congr] eO
def RE(ts:List aA)(i0:Nat)(P:Option (fG aB ak × av))(R:Option (ak × Int × Int)):Prop:=
 (∃(e:ak) (j:Nat),i0<j∧j≤ts.length∧e.bulk≤2097152*(j-i0)∧P=some (.ok e,av.mk ts (j:Int))∧R=some (e,(j:Int),0))∨
 (∃(j:Nat) (c:Int) (x:ak),i0≤j∧j≤ts.length∧c≠0∧P=some (.bad (aB.mk (j:Int) c),av.mk ts (j:Int))∧R=some (x,(j:Int),c))
theorem Od:((0:Int) !=0)=false:=rfl
theorem Dw(ts:List aA)(i:Nat):miss ts i≠0:=by unfold miss;split<;>decide
theorem TN{c:Int}(h:c≠0):(c !=0)=true:=by simpa using h
theorem aq2(k:Int)(n:Str)(a b c:ak):(ak.mk k n (ah.mk 0 false 0 ([]:Str) [] []) [a,b,c] []).bulk=12+n.length+a.bulk+b.bulk+c.bulk:=by
 simp[ak.bulk,ak.kZ,ah.bulk,ah.kZ];omega
theorem ana(k:Int)(n:Str)(a b:ak):(ak.mk k n (ah.mk 0 false 0 ([]:Str) [] []) [a,b] []).bulk=12+n.length+a.bulk+b.bulk:=by
 simp[ak.bulk,ak.kZ,ah.bulk,ah.kZ];omega
theorem anb(k:Int)(n:Str)(a:ak):(ak.mk k n (ah.mk 0 false 0 ([]:Str) [] []) [a] []).bulk=12+n.length+a.bulk:=by
 simp[ak.bulk,ak.kZ,ah.bulk,ah.kZ];omega
theorem agb{ts:List aA}(h:DY ts){k k' i:Nat}(ho:RE ts i (bB k (av.mk ts (i:Int)) 2) (eH k' ts (i:Int) 2))
  (hc:∀j,i<j→j≤ts.length→RE ts j (aZ k (av.mk ts (j:Int))) (dM k' ts (j:Int))):
  RE ts i (aZ (k+1) (av.mk ts (i:Int))) (dM (k'+1) ts (i:Int)):=by
 have hN:=h.1;rw[aZ,mK,dM,I8];rcases ho with⟨e,j,h1,h2,hb,hP,hR⟩|⟨j,c,x,h1,h2,hc0,hP,hR⟩
 ·rw[hP,hR,gW,aD,nP h h2,aC];simp only[Od,arG,arN,CO h,aj];cases hq:uO ts j [63]with
  | false=>
   simp only[as1,arO,arG,arN];exact .inl ⟨e,j,h1,h2,hb,rfl,rfl⟩
  | true=>
   obtain⟨hj,_⟩:=qh hq;simp only[asC,arO,arG,arN];rw[mD (by omega)];rcases hc (j+1) (by omega) (by omega)with⟨e2,j2,g1,g2,gb,gP,gR⟩|⟨j2,c2,x2,g1,g2,gc,gP,gR⟩
   ·rw[gP,gR,gW,aD,Eh h g2];simp only[Od,arG,arN,CO h,aj];cases hq2:uO ts j2 [58]with
    | false=>
     simp only[as1,arO,arG,arN,fO,BZ,aj];exact .inr ⟨j2,_,_,by omega,g2,Dw ts j2,rfl,rfl⟩
    | true=>
     obtain⟨hj2,_⟩:=qh hq2;simp only[asC,arO,arG,arN,gW];rw[mD (by omega)];rcases hc (j2+1) (by omega) (by omega)with⟨e3,j3,f1,f2,fb,fP,fR⟩|⟨j3,c3,x3,f1,f2,fc,fP,fR⟩
     ·rw[fP,fR,gW,aD];exact .inl ⟨_,j3,by omega,f2,by rw[aq2];simp only[atq];omega,rfl,rfl⟩
     ·rw[fP,fR,fO,aD];exact .inr ⟨j3,c3,_,by omega,f2,fc,rfl,rfl⟩
   ·rw[gP,gR,fO,aD,arK (TN gc)];exact .inr ⟨j2,c2,_,by omega,g2,gc,rfl,rfl⟩
 ·rw[hP,hR,fO,aD];simp only[TN hc0,arO,aj];exact .inr ⟨j,c,x,h1,h2,hc0,rfl,rfl⟩
def opAt(ts:List aA)(i:Nat)(n:Int):Bool:=((BQ ts i).kind==4)&&(HZ (BQ ts i).text==n)
theorem ad2{ts:List aA}{i:Nat}{n:Int}(h:opAt ts i n=true):∃hi:i<ts.length,BQ ts i=ts[i]∧ts[i].kind=4∧HZ ts[i].text=n:=by
 unfold opAt BQ at h;unfold BQ;cases hx:ts[i]? with
 | none=>rw[hx]at h;simp at h
 | some t=>
  rw[hx]at h;obtain⟨hi,ht⟩:=ate.1 hx;cases ho:Jp t with
  | false=>simp[ho]at h
  | true=>
   simp[ho]at h;exact⟨hi,by simp[ho,ht],by rw[ht];exact h.1,by rw[ht];exact h.2⟩
theorem aac{ts:List aA}(i:Nat)(n:Int):(au (if decide ((i:Int)<(ts.length:Int))then au (idx ts (i:Int)) fun e3=>some (e3.kind==4)else some false) fun b1=>
  if b1 then au (idx ts (i:Int)) fun e4=>au (Dm e4.text) fun x5=>some (x5==n)else some false)=some (opAt ts i n):=by
 by_cases hi:i<ts.length
 ·rw[arK (asU (by omega))];simp only[mF hi,aj,QI,Ph];unfold opAt BQ;rw[asb hi];simp only;by_cases h4:ts[i].kind=4
  ·rw[arK (by simpa using h4),aci h4,arK rfl];simp[h4]
  ·rw[arF (by simpa using h4)];cases Jp ts[i]<;>simp[h4]
 ·rw[arF (by simp;omega)];cases hc:opAt ts i n with
  | false=>rfl
  | true=>obtain⟨h1,_⟩:=ad2 hc;omega
theorem afq{ts:List aA}(i:Nat)(n:Int):(if (BQ ts i).kind !=4 then some true else au (gT (BQ ts i).text) fun x4=>some (x4 !=n))=some (!opAt ts i n):=by
 unfold opAt;rw[Ph];by_cases h4:(BQ ts i).kind=4
 ·rw[arF (by simp[h4])];simp[h4,bne]
 ·rw[arK (by simpa using h4)];simp[h4]
theorem Qn{α β γ:Type}(x:Option α)(f:α→Option β)(g:β→Option γ):au x (fun a=>au (f a) g)=au (au x f) g:=by cases x<;>rfl
theorem NP{ts:List aA}{go:List aA→Int→Int→Option (ak × Int × Int)}{n:Int}{m j:Nat}{c c1:Int}{e:ak}(hs:c1≠0∨opAt ts j n=false∨(n=4∧c≠0)):mQ go ts n (m+1) (j:Int) c1 c e=some (e,(j:Int),c1):=by
 rw[mQ];by_cases h0:c1=0
 ·subst h0;have e0:((0:Int)==0)=true:=rfl;simp only[e0,as6];rw[Qn,aac,aj];rcases hs with hs|hs|⟨hs,hc⟩
  ·exact absurd rfl hs
  ·rw[hs];rfl
  ·subst hs;have:(c==0)=false:=by simpa using hc
   rw[arF (by rw[this];simp)]
 ·have e0:(c1==0)=false:=by simpa using h0
  simp only[e0,ati,arG,arN,aj]
theorem ad1{ts:List aA}(h:DY ts){k k' i0:Nat}{n:Int}(hn:2≤n∧n≤6)(hop:∀j,i0<j→j≤ts.length→RE ts j (bB k (av.mk ts (j:Int)) (bF (n+1))) (eH k' ts (j:Int) (bF (n+1)))):
  ∀(m m' i:Nat) (c:Int) (e:ak),ts.length<m+i→ts.length<m'+i→i0<i→i≤ts.length→e.bulk≤2097152*(i-i0)→(n=4→c=0)→
  RE ts i0 (iL (bB k) n m e (av.mk ts (i:Int))) (mQ (eH k') ts n m' (i:Int) 0 c e)
 | 0,m',i,c,e,h1,_,_,h2,_,_=>by omega
 | m+1,0,i,c,e,_,h1,_,h2,_,_=>by omega
 | m+1,m'+1,i,c,e,hm,hm',h1,h2,hb,hc4=>by
  have hN:=h.1;rw[iL,mQ,Yq h,aC,afq,aj];cases hq:opAt ts i n with
  | false=>
   simp only[as1,arO];have:=NP (go:=eH k') (m:=m') (c:=c) (c1:=0) (e:=e) (.inr (.inl hq));rw[mQ]at this;rw[this];exact .inl ⟨e,i,h1,h2,hb,rfl,rfl⟩
  | true=>
   obtain⟨hi,htk,hk4,hs⟩:=ad2 hq;have htx:=h.2 ts[i] (asv hi);have e0:((0:Int)==0)=true:=rfl;simp only[e0,as6];rw[Qn,aac,aj,hq]
   have hcond:(true&&((c==0)||(n !=4)))=true:=by
    by_cases h4:n=4
    ·simp[hc4 h4]
    ·simp[h4]
   rw[arF (by simp),arK hcond,htk];show RE ts i0 (fZ (bB k (av.mk ts (bF ((i:Int)+1))) (bF (n+1))) _ _) _;rw[mD (by omega)];rcases hop (i+1) (by omega) (by omega)with⟨e2,j,g1,g2,gb,gP,gR⟩|⟨j,c2,x2,g1,g2,gc,gP,gR⟩
   ·rw[gP,gR,gW,aD,mF hi,aj];have hb2:(ak.mk 7 ts[i].text (ah.mk 0 false 0 ([]:Str) [] []) [e,e2] []).bulk≤2097152*(j-i0):=by rw[ana];omega
    by_cases h4:n=4
    ·subst h4;rw[arK (by rfl),hc4 rfl];obtain⟨m2,rfl⟩:∃m2,m'=m2+1:=⟨m'-1,by omega⟩;rw[NP (.inr (.inr ⟨rfl,by decide⟩))];exact .inl ⟨_,j,by omega,g2,hb2,rfl,rfl⟩
    ·rw[arF (by simpa using h4)];exact ad1 h hn hop m m' j _ _ (by omega) (by omega) (by omega) g2 hb2 (fun h=>absurd h h4)
   ·rw[gP,gR,fO,aD,mF hi,aj];obtain⟨m2,rfl⟩:∃m2,m'=m2+1:=⟨m'-1,by omega⟩;rw[NP (.inl gc)];exact .inr ⟨j,c2,_,by omega,g2,gc,rfl,rfl⟩
theorem alr{ts:List aA}(h:DY ts){k k' i:Nat}{n:Int}(hn:2≤n∧n≤6)(h1:RE ts i (bB k (av.mk ts (i:Int)) (bF (n+1))) (eH k' ts (i:Int) (bF (n+1))))
  (hop:∀j,i<j→j≤ts.length→RE ts j (bB k (av.mk ts (j:Int)) (bF (n+1))) (eH k' ts (j:Int) (bF (n+1)))):
  RE ts i (bB (k+1) (av.mk ts (i:Int)) n) (eH (k'+1) ts (i:Int) n):=by
 have hN:=h.1;have h7:(n==7)=false:=by rw[asr];omega
 have hB:=gX;rw[bB,ko,eH,CP,arF (by rw[h7];simp),arF (by rw[h7];simp)];rcases h1 with⟨e,j,g1,g2,gb,gP,gR⟩|⟨j,c,x,g1,g2,gc,gP,gR⟩
 ·rw[gP,gR,gW,aD];exact ad1 h hn hop BIG BIG j 0 e (by omega) (by omega) g1 g2 gb (fun _=>rfl)
 ·rw[gP,gR,fO,aD];obtain⟨b,hb,_⟩:=qY;rw[hb,NP (.inl gc)];exact .inr ⟨j,c,x,g1,g2,gc,rfl,rfl⟩
theorem aic{ts:List aA}{k k' i:Nat}(h1:RE ts i (dH k (av.mk ts (i:Int))) (kE k' ts (i:Int))):
  RE ts i (bB (k+1) (av.mk ts (i:Int)) 7) (eH (k'+1) ts (i:Int) 7):=by
 rw[bB,ko,eH,CP,arK (by decide),arK (by decide)];rcases h1 with⟨e,j,g1,g2,gb,gP,gR⟩|⟨j,c,x,g1,g2,gc,gP,gR⟩
 ·rw[gP,gR];exact .inl ⟨e,j,g1,g2,gb,rfl,rfl⟩
 ·rw[gP,gR];exact .inr ⟨j,c,x,g1,g2,gc,rfl,rfl⟩
theorem asW:∃b,BIG=b+3:=⟨BIG-3,by decide⟩
theorem abQ{ts:List aA}(h:DY ts){k k' i:Nat}(hi:i≤ts.length)(hch:RE ts i (dY k (av.mk ts (i:Int))) (l8 k' ts (i:Int)))
  (hu:∀j,i<j→j≤ts.length→RE ts j (dH k (av.mk ts (j:Int))) (kE k' ts (j:Int))):
  RE ts i (dH (k+1) (av.mk ts (i:Int))) (kE (k'+1) ts (i:Int)):=by
 have hN:=h.1;obtain⟨b,hb⟩:=asW;have w01:bF (0+1)=1:=by decide
 have w11:bF (1+1)=2:=by decide
 have i0:idx ([([33]:Str),([45]:Str)]:List Str) 0=some [33]:=rfl;have i1:idx ([([33]:Str),([45]:Str)]:List Str) 1=some [45]:=rfl;rw[dH,qd,kE,QT,hb,iZ];rw[arK (by decide),i0,aj,nP h hi,aC];simp only[CO h,aj]
 have un:∀op:Str,uO ts i op=true→RE ts i (fZ (dH k (av.mk ts ((i+1:Nat):Int))) (fun e1 y4=>some (.bad e1,y4)) fun x3 y3=>some (.ok (ak.mk 6 op (ah.mk 0 false 0 ([]:Str) [] []) [x3] []),y3))
   (mq (kE k' ts (bF ((i:Int)+1))) fun x6 kV e1=>au (idx ts (i:Int)) fun e2=>some ((ak.mk 6 e2.text (ah.mk 0 false 0 ([]:Str) [] []) [x6] []),kV,e1)):=fun op ho=>by
  obtain⟨hlt,hk,ht,_⟩:=qh ho;have htx:=h.2 ts[i] (asv hlt);rw[ht]at htx;rw[mD (by omega)];rcases hu (i+1) (by omega) (by omega)with⟨e,j,g1,g2,gb,gP,gR⟩|⟨j,c,x,g1,g2,gc,gP,gR⟩
  ·rw[gP,gR,gW,aD,mF hlt,aj,ht];exact .inl ⟨_,j,by omega,g2,by rw[anb];omega,rfl,rfl⟩
  ·rw[gP,gR,fO,aD,mF hlt,aj];exact .inr ⟨j,c,_,by omega,g2,gc,rfl,rfl⟩
 cases h1:uO ts i [33]with
 | true=>
  simp only[arO,asC,arG,arN,aj];exact un _ h1
 | false=>
  simp only[arO,as1,arG,arN,aj];rw[w01,iZ,arK (by decide),i1,aj,nP h hi,aC];cases h2:uO ts i [45]with
  | true=>
   simp only[arO,asC,arG,arN];exact un _ h2
  | false=>
   simp only[arO,as1,arG,arN];rw[w11,iZ,arF (by decide)];rcases hch with⟨e,j,g1,g2,gb,gP,gR⟩|⟨j,c,x,g1,g2,gc,gP,gR⟩
   ·rw[gP,gR];exact .inl ⟨e,j,g1,g2,gb,rfl,rfl⟩
   ·rw[gP,gR];exact .inr ⟨j,c,x,g1,g2,gc,rfl,rfl⟩
end Go.Ft
namespace Go.Ft
open Go
attribute [local congr] eO
def nameAt(ts:List aA)(i:Nat):Bool:=((BQ ts i).kind==1)&&jm (BQ ts i).text
theorem afF{ts:List aA}{i:Nat}(h:nameAt ts i=true):∃hi:i<ts.length,BQ ts i=ts[i]:=by
 unfold nameAt BQ at h;unfold BQ;cases hx:ts[i]? with
 | none=>rw[hx]at h;simp at h
 | some t=>
  rw[hx]at h;obtain⟨hi,ht⟩:=ate.1 hx;cases ho:Jp t with
  | false=>simp[ho]at h
  | true=>exact⟨hi,by simp[ho,ht]⟩
theorem Mr{s:Str}(hs:s.length≤1048576)(hn:isName s=true):qF s=some (!jm s):=by
 obtain⟨p1,_⟩:=Cc s (by omega);unfold oz at p1;rw[TD s (by omega),aj,arK hn]at p1;cases hw:qF s with
 | none=>rw[hw]at p1;cases p1
 | some b=>rw[hw]at p1;simp at p1;rw[←p1]
theorem J4{t:aA}(hk:t.kind=1)(hs:t.text.length≤1048576):Jp t=isName t.text:=by
 unfold Jp jP;rw[arK (by simpa using hk),TD _ (by omega)];rfl
theorem TA{s:Str}(hs:s.length≤1048576)(h:jm s=true):isName s=true:=by
 obtain⟨p1,_⟩:=Cc s (by omega);unfold oz at p1;rw[TD s (by omega),aj,h]at p1;cases hn:isName s with
 | true=>rfl
 | false=>rw[hn]at p1;simp at p1
theorem ahU{ts:List aA}(h:DY ts)(i:Nat):(au (if decide ((ts.length:Int)≤(i:Int))then some true else au (idx ts (i:Int)) fun e2=>some (e2.kind !=1)) fun b3=>
  if b3 then some true else au (idx ts (i:Int)) fun e3=>au (qw e3.text) fun x6=>some (!x6))=some (!nameAt ts i):=by
 unfold nameAt BQ;by_cases hi:i<ts.length
 ·have ht:=h.2 ts[i] (asv hi);rw[arF (by simp;omega)];simp only[mF hi,aj,(Cc ts[i].text (by omega)).2,asb hi];by_cases h1:ts[i].kind=1
  ·rw[arF (by simp[h1]),J4 h1 ht];cases hn:isName ts[i].text with
   | true=>simp[h1]
   | false=>
    cases hp:jm ts[i].text with
    | true=>rw[TA ht hp]at hn;cases hn
    | false=>simp
  ·rw[arK (by simpa using h1)];cases Jp ts[i]<;>simp[h1]
 ·rw[arK (by simp;omega),ata (Nat.le_of_not_lt hi)];rfl
theorem Na{ts:List aA}(h:DY ts){k k' i0:Nat}(hc:∀j,i0<j→j≤ts.length→RE ts j (aZ k (av.mk ts (j:Int))) (dM k' ts (j:Int))):
  ∀(m m' i:Nat) (e:ak),ts.length<m+i→ts.length<m'+i→i0<i→i≤ts.length→e.bulk≤2097152*(i-i0)→
  RE ts i0 (gJ (aZ k) m e (av.mk ts (i:Int))) (tF (dM k') ts 0 m' (i:Int) e)
 | 0,m',i,e,h1,_,_,h2,_=>by omega
 | m+1,0,i,e,_,h1,_,h2,_=>by omega
 | m+1,m'+1,i,e,hm,hm',h1,h2,hb=>by
  have hN:=h.1;rw[gJ,tF,nP h h2,aC];have e0:((0:Int)==0)=true:=rfl;simp only[e0,arO,CO h,aj];cases hd:uO ts i [46]with
  | true=>
   obtain⟨hi,_⟩:=qh hd;simp only[arO,aj];rw[mD (by omega),Oc h];have hr:=ahU h (i+1);rw[Qn,hr,aj];cases hn:nameAt ts (i+1)with
   | true=>
    obtain⟨hlt,htk⟩:=afF hn;unfold nameAt at hn;simp only[arV,ar4]at hn;have htx:=h.2 ts[i+1] (asv hlt);rw[htk]at hn⊢;rw[arF (by omega)];simp only[asC,arG,arN,gW];rw[arF (by simp[hn.1]),Mr htx (TA htx hn.2),hn.2,aj,arF (by simp),mF hlt,aj];show RE ts i0 (gJ (aZ k) m _ (av.mk ts (bF (((i+1:Nat):Int)+1)))) _;rw[mD (by omega)];exact Na h hc m m' (i+1+1) _ (by omega) (by omega) (by omega) (by omega) (by rw[anb];omega)
   | false=>
    simp only[as1,arO,BZ,aj];by_cases hk0:(BQ ts (i+1)).kind=0
    ·rw[arK hk0,fO];exact .inr ⟨i+1,_,_,by omega,by omega,Dw ts (i+1),rfl,rfl⟩
    ·rw[arF hk0,gW]
     have hlt:i+1<ts.length:=by
      rcases asQ (i+1) ts.length with hh|hh
      ·exact hh
      ·exfalso;apply hk0;unfold BQ;rw[ata hh]
     have hms:miss ts (i+1)=5:=by unfold miss;rw[arF (by omega)]
     have htk:BQ ts (i+1)=ts[i+1]∧Jp ts[i+1]=true:=by
      unfold BQ at hk0⊢;rw[asb hlt]at hk0⊢;simp only at hk0⊢;cases ho:Jp ts[i+1]with
      | true=>exact⟨rfl,rfl⟩
      | false=>rw[ho]at hk0;simp at hk0
     have htx:=h.2 ts[i+1] (asv hlt)
     have hb1:(if ((BQ ts (i+1)).kind !=1)=true then some true else qF (BQ ts (i+1)).text)=some true:=by
      by_cases h1k:(BQ ts (i+1)).kind=1
      ·rw[arF (by simp[h1k])];unfold nameAt at hn;rw[h1k]at hn;have hp:jm (BQ ts (i+1)).text=false:=by simpa using hn
       rw[htk.1]at h1k hp⊢;have:=J4 h1k htx;rw[htk.2]at this;rw[Mr htx this.symm,hp];rfl
      ·rw[arK (by simpa using h1k)]
     rw[hb1,aj,arK rfl];show RE ts i0 (fZ (some (.bad (aB.mk ((i+1:Nat):Int) 5),av.mk ts ((i+1:Nat):Int))) _ _) _;rw[fO,hms];exact .inr ⟨i+1,5,_,by omega,by omega,by decide,rfl,rfl⟩
  | false=>
   simp only[arG,arN,aj];rw[nP h h2,aC];cases hbk:uO ts i [91]with
   | true=>
    obtain⟨hi,_⟩:=qh hbk;simp only[arO];rw[mD (by omega)];rcases hc (i+1) (by omega) (by omega)with⟨e2,j,g1,g2,gb,gP,gR⟩|⟨j,c2,x2,g1,g2,gc,gP,gR⟩
    ·rw[gP,gR,gW,aD,Eh h g2];simp only[Od,arG,arN,CO h,aj];cases hq:uO ts j [93]with
     | false=>
      simp only[as1,arO,arG,arN,fO,BZ,aj];exact .inr ⟨j,_,_,by omega,g2,Dw ts j,rfl,rfl⟩
     | true=>
      obtain⟨hj,_⟩:=qh hq;simp only[asC,arO,arG,arN,gW];rw[mD (by omega)];exact Na h hc m m' (j+1) _ (by omega) (by omega) (by omega) (by omega) (by rw[ana];simp only[atq];omega)
    ·rw[gP,gR,fO,aD,arK (TN gc)];exact .inr ⟨j,c2,_,by omega,g2,gc,rfl,rfl⟩
   | false=>
    simp only[arG,arN];exact .inl ⟨e,i,h1,h2,hb,rfl,rfl⟩
end Go.Ft
namespace Go.Ft
open Go
attribute [local congr] eO
theorem acY{ts:List aA}{go:List aA→Int→Option (ak × Int × Int)}{c:Int}(hc:c≠0){m:Nat}{j:Int}{e:ak}:tF go ts c (m+1) j e=some (e,j,c):=by
 rw[tF];have e0:(c==0)=false:=by simpa using hc
 simp only[e0,arG,arN,aj]
theorem acZ{ts:List aA}(h:DY ts){k k' i:Nat}(ha:RE ts i (eF k (av.mk ts (i:Int))) (nU k' ts (i:Int)))
  (hc:∀j,i<j→j≤ts.length→RE ts j (aZ k (av.mk ts (j:Int))) (dM k' ts (j:Int))):
  RE ts i (dY (k+1) (av.mk ts (i:Int))) (l8 (k'+1) ts (i:Int)):=by
 have hN:=h.1;have hB:=gX;rw[dY,qg,l8,QV];rcases ha with⟨e,j,g1,g2,gb,gP,gR⟩|⟨j,c,x,g1,g2,gc,gP,gR⟩
 ·rw[gP,gR,gW,aD];exact Na h hc BIG BIG j e (by omega) (by omega) g1 g2 gb
 ·rw[gP,gR,fO,aD];obtain⟨b,hb,_⟩:=qY;rw[hb,acY gc];exact .inr ⟨j,c,x,g1,g2,gc,rfl,rfl⟩
theorem aaF{ts:List aA}{i:Nat}{a b:Str}(hab:a≠b)(ha:uO ts i a=true):uO ts i b=false:=by
 cases hb:uO ts i b with
 | false=>rfl
 | true=>
  obtain⟨_,_,h1,_⟩:=qh ha;obtain⟨_,_,h2,_⟩:=qh hb;exact absurd (h1.symm.trans h2) hab
def RL(ts:List aA)(i0:Nat)(P:Option (fG aB (List ak) × av))(R:Option (List ak × List Str × Int × Int)):Prop:=
 (∃(l:List ak) (j:Nat),i0<j∧j≤ts.length∧(l.map ak.bulk).sum≤2097152*(j-i0)∧P=some (.ok l,av.mk ts (j:Int))∧R=some (l,[],(j:Int),0))∨
 (∃(j:Nat) (c:Int) (x:List ak) (y:List Str),i0≤j∧j≤ts.length∧c≠0∧P=some (.bad (aB.mk (j:Int) c),av.mk ts (j:Int))∧R=some (x,y,(j:Int),c))
theorem XJ{ts:List aA}(h:DY ts){k k' i0:Nat}{cl:Str}(hcl:cl≠[44])(hc:∀j,i0≤j→j≤ts.length→RE ts j (aZ k (av.mk ts (j:Int))) (dM k' ts (j:Int))):
  ∀(m m' i:Nat) (out:List ak),ts.length<m+i→ts.length<m'+i→i0≤i→i≤ts.length→out.length+i0≤i→(out.map ak.bulk).sum≤2097152*(i-i0)→
  RL ts i0 (kI (aZ k) cl m out (av.mk ts (i:Int))) (u6 (dM k') ts cl false m' (i:Int) out [])
 | 0,m',i,out,h1,_,_,h2,_,_=>by omega
 | m+1,0,i,out,_,h1,_,h2,_,_=>by omega
 | m+1,m'+1,i,out,hm,hm',h1,h2,hl,hb=>by
  have hN:=h.1;have hL:wX=4294967296:=rfl;rw[kI,u6,arF (by simp)];rcases hc i h1 h2 with⟨e,j,g1,g2,gb,gP,gR⟩|⟨j,c,x,g1,g2,gc,gP,gR⟩
  ·rw[gP,gR,gW,aD,aU (by simp;omega),aj,nP h g2,aC];simp only[Od,arG,arN,CO h,aj]
   have hs:((out++[e]).map ak.bulk).sum≤2097152*(j-i0):=by
    rw[atF,List.sum_append];simp;omega
   cases hq:uO ts j [44]with
   | true=>
    obtain⟨hj,_⟩:=qh hq;have hq2:=aaF (Ne.symm hcl) hq;simp only[hq2,arG,arN,asC,arO];rw[mD (by omega)];exact XJ h hcl hc m m' (j+1) (out++[e]) (by omega) (by omega) (by omega) (by omega) (by simp;omega) (by omega)
   | false=>
    simp only[as1,arO,arG,arN];rw[Eh h g2];cases hq2:uO ts j cl with
    | true=>
     obtain⟨hj,_⟩:=qh hq2;simp only[arO,gW];rw[mD (by omega)];exact .inl ⟨_,j+1,by omega,by omega,by omega,rfl,rfl⟩
    | false=>
     simp only[arG,arN,fO,BZ,aj];exact .inr ⟨j,_,_,_,by omega,g2,Dw ts j,rfl,rfl⟩
  ·rw[gP,gR,fO,aD,arK (TN gc)];exact .inr ⟨j,c,_,_,by omega,g2,gc,rfl,rfl⟩
theorem agw{ts:List aA}(h:DY ts){k k' i:Nat}(hi:i≤ts.length){cl:Str}(hcl:cl≠[44])(hc:∀j,i≤j→j≤ts.length→RE ts j (aZ k (av.mk ts (j:Int))) (dM k' ts (j:Int))):
  RL ts i (dR (k+1) (av.mk ts (i:Int)) cl) (jC (k'+1) ts (i:Int) cl false):=by
 have hN:=h.1;have hB:=gX;rw[dR,qI,jC,ME,nP h hi,aC];simp only[CO h,aj];cases hq:uO ts i cl with
 | true=>
  obtain⟨hj,_⟩:=qh hq;simp only[arO];rw[mD (by omega)];exact .inl ⟨[],i+1,by omega,by omega,by simp,rfl,rfl⟩
 | false=>
  simp only[arG,arN];exact XJ h hcl hc BIG BIG i [] (by omega) (by omega) (asx _) hi (by simp) (by simp)
end Go.Ft
namespace Go.Ft
open Go
attribute [local congr] eO
def Rb(ts:List aA)(i:Nat):Bool:=((BQ ts i).kind==1)||((BQ ts i).kind==3)
theorem ahp{ts:List aA}{i:Nat}(h:(BQ ts i).kind≠0):∃hi:i<ts.length,BQ ts i=ts[i]∧Jp ts[i]=true:=by
 unfold BQ at h⊢;cases hx:ts[i]? with
 | none=>rw[hx]at h;exact absurd rfl h
 | some t=>
  rw[hx]at h;obtain⟨hi,ht⟩:=ate.1 hx;cases ho:Jp t with
  | false=>simp[ho]at h
  | true=>exact⟨hi,by simp[ho,ht],by rw[ht];exact ho⟩
theorem aiC{ts:List aA}{i:Nat}(h:Rb ts i=true):∃hi:i<ts.length,BQ ts i=ts[i]∧Jp ts[i]=true:=by
 refine ahp fun h0=>?_;unfold Rb at h;rw[h0]at h;cases h
theorem ala{ts:List aA}(h:DY ts)(i:Nat):(if decide ((ts.length:Int)≤(i:Int))then some true else au (idx ts (i:Int)) fun e1=>au (Yk e1) fun x2=>some (!x2))=some (!Rb ts i):=by
 unfold Rb BQ;by_cases hi:i<ts.length
 ·have ht:=h.2 ts[i] (asv hi);rw[arF (by simp;omega)];simp only[mF hi,aj,asb hi,Yk];by_cases h1:ts[i].kind=1
  ·rw[arK (by simpa using h1),ahV _ (by omega),aj,aj,J4 h1 ht];cases isName ts[i].text<;>simp[h1]
  ·rw[arF (by simpa using h1),aj,aj];by_cases h3:ts[i].kind=3
   ·have:Jp ts[i]=decide ((ts[i].text.length:Int)≤4096):=by unfold Jp jP;simp[h3]
    rw[this];cases decide ((ts[i].text.length:Int)≤4096)<;>simp[h3]
   ·have b1:(ts[i].kind==1)=false:=by simpa using h1
    have b3:(ts[i].kind==3)=false:=by simpa using h3
    cases Jp ts[i]<;>simp[b1,b3]
 ·rw[arK (by simp;omega),ata (Nat.le_of_not_lt hi)];rfl
def RX(ts:List aA)(i0:Nat)(P:Option (fG aB ak × av))(R:Option (List ak × List Str × Int × Int)):Prop:=
 (∃(l:List ak) (ks:List Str) (j:Nat),i0<j∧j≤ts.length∧(l.map ak.bulk).sum+(ks.map fun z:Str=>z.length+1).sum≤2097152*(j-i0)∧P=some (.ok (ak.mk 10 ([]:Str) (ah.mk 0 false 0 ([]:Str) [] []) l ks),av.mk ts (j:Int))∧R=some (l,ks,(j:Int),0))∨
 (∃(j:Nat) (c:Int) (x:List ak) (y:List Str),i0≤j∧j≤ts.length∧c≠0∧P=some (.bad (aB.mk (j:Int) c),av.mk ts (j:Int))∧R=some (x,y,(j:Int),c))
theorem Xz{ts:List aA}(h:DY ts){k k' i0:Nat}(hc:∀j,i0≤j→j≤ts.length→RE ts j (aZ k (av.mk ts (j:Int))) (dM k' ts (j:Int))):
  ∀(m m' i:Nat) (l:List ak) (ks:List Str),ts.length<m+i→ts.length<m'+i→i0≤i→i≤ts.length→l.length+i0≤i→ks.length+i0≤i→(l.map ak.bulk).sum+(ks.map fun z:Str=>z.length+1).sum≤2097152*(i-i0)→
  RX ts i0 (iF (aZ k) m (ak.mk 10 ([]:Str) (ah.mk 0 false 0 ([]:Str) [] []) l ks) (av.mk ts (i:Int))) (u6 (dM k') ts [125] true m' (i:Int) l ks)
 | 0,m',i,l,ks,h1,_,_,h2,_,_,_=>by omega
 | m+1,0,i,l,ks,_,h1,_,h2,_,_,_=>by omega
 | m+1,m'+1,i,l,ks,hm,hm',h1,h2,hl,hk,hb=>by
  have hN:=h.1;have hL:wX=4294967296:=rfl;rw[iF,u6,arK rfl,ala h,aj,Oc h];cases hq:Rb ts i with
  | false=>
   simp only[as1,arO,BZ,aj];by_cases h0:(BQ ts i).kind=0
   ·rw[arK h0,fO];exact .inr ⟨i,_,_,_,h1,h2,Dw ts i,rfl,rfl⟩
   ·obtain⟨hi,htk,_⟩:=ahp h0;have hms:miss ts i=5:=by unfold miss;rw[arF (by omega)]
    rw[arF h0,gW]
    have hcnd:(((BQ ts i).kind !=1)&&((BQ ts i).kind !=3))=true:=by
     unfold Rb at hq;simp only[asN]at hq;simp[bne,hq.1,hq.2]
    rw[arK hcnd];show RX ts i0 (fZ (some (.bad (aB.mk ((i:Nat):Int) 5),av.mk ts (i:Int))) _ _) _;rw[fO,hms];exact .inr ⟨i,5,_,_,h1,h2,by decide,rfl,rfl⟩
  | true=>
   obtain⟨hi,htk,_⟩:=aiC hq;have htx:=h.2 ts[i] (asv hi);have h0:(BQ ts i).kind≠0:=fun h0=>by unfold Rb at hq;rw[h0]at hq;cases hq
   have hcnd:(((BQ ts i).kind !=1)&&((BQ ts i).kind !=3))=false:=by
    unfold Rb at hq;simp only[asq]at hq;rcases hq with hq|hq<;>simp[bne,hq]
   rw[arF h0,gW,arF (by rw[hcnd];simp),htk];simp only[asC,arG,arN,mF hi,aj];rw[aU (by simp;omega),aj,mD (by omega),Eh h (by omega)];simp only[CO h,aj];cases hq1:uO ts (i+1) [58]with
   | false=>
    simp only[as1,arO,arG,arN,fO,BZ,aj];exact .inr ⟨i+1,_,_,_,by omega,by omega,Dw ts (i+1),rfl,rfl⟩
   | true=>
    obtain⟨hi1,_⟩:=qh hq1;simp only[asC,arO,arG,arN,gW];rw[mD (by omega)];rcases hc (i+1+1) (by omega) (by omega)with⟨e,j,g1,g2,gb,gP,gR⟩|⟨j,c,x,g1,g2,gc,gP,gR⟩
    ·rw[gP,gR,gW,aD,aU (by simp;omega),aj,nP h g2,aC];simp only[Od,arG,arN,CO h,aj]
     have hs:((l++[e]).map ak.bulk).sum+((ks++[ts[i].text]).map fun z:Str=>z.length+1).sum≤2097152*(j-i0):=by
      simp only[atF,List.sum_append,asy,atf,as9,List.sum_nil];omega
     cases hq2:uO ts j [44]with
     | true=>
      obtain⟨hj,_⟩:=qh hq2;have hq3:uO ts j [125]=false:=aaF (by decide) hq2;simp only[hq3,arG,arN,asC,arO];rw[mD (by omega)];exact Xz h hc m m' (j+1) (l++[e]) (ks++[ts[i].text]) (by omega) (by omega) (by omega) (by omega) (by simp;omega) (by simp;omega) (by omega)
     | false=>
      simp only[as1,arO,arG,arN];rw[Eh h g2];cases hq3:uO ts j [125]with
      | true=>
       obtain⟨hj,_⟩:=qh hq3;simp only[arO,gW];rw[mD (by omega)];exact .inl ⟨_,_,j+1,by omega,by omega,by omega,rfl,rfl⟩
      | false=>
       simp only[arG,arN,fO,BZ,aj];exact .inr ⟨j,_,_,_,by omega,g2,Dw ts j,rfl,rfl⟩
    ·rw[gP,gR,fO,aD,arK (TN gc)];exact .inr ⟨j,c,_,_,by omega,g2,gc,rfl,rfl⟩
theorem af4{ts:List aA}(h:DY ts){k k' i:Nat}(hi:i≤ts.length)(hc:∀j,i≤j→j≤ts.length→RE ts j (aZ k (av.mk ts (j:Int))) (dM k' ts (j:Int))):
  RX ts i (dL (k+1) (av.mk ts (i:Int))) (jC (k'+1) ts (i:Int) [125] true):=by
 have hN:=h.1;have hB:=gX;rw[dL,nH,jC,ME,nP h hi,aC];simp only[CO h,aj];cases hq:uO ts i [125]with
 | true=>
  obtain⟨hj,_⟩:=qh hq;simp only[arO];rw[mD (by omega)];exact .inl ⟨[],[],i+1,by omega,by omega,by simp,rfl,rfl⟩
 | false=>
  simp only[arG,arN];exact Xz h hc BIG BIG i [] [] (by omega) (by omega) (asx _) hi (by simp) (by simp) (by simp)
end Go.Ft
namespace Go.Ft
open Go
attribute [local congr] eO
theorem Y2(k:Int)(n:Str)(l:List ak)(ks:List Str):(ak.mk k n (ah.mk 0 false 0 ([]:Str) [] []) l ks).bulk=12+n.length+(l.map ak.bulk).sum+(ks.map fun z:Str=>z.length+1).sum:=by
 rw[ak.nN,ak.pX];simp[ah.bulk,ah.kZ];omega
theorem Kh(v:ah):(ak.mk 1 ([]:Str) v [] []).bulk=5+v.bulk:=by
 simp[ak.bulk,ak.kZ];omega
theorem ad7{t:aA}(h:t.kind=2)(hs:t.text.length≤1048576):(Jp t=true∧∃u:Nat,u≤9007199254740992∧strconv_Atoi t.text=some ((u:Int),none)∧Bz t.text=some ((u:Int),true))∨(Jp t=false∧∃n,Bz t.text=some (n,false)):=by
 obtain⟨b,d1,d2,d3⟩:=ajb (s:=t.text) (by omega);obtain⟨n,ok,r1,r2,r3⟩:=RZ t.text;have ho:Jp t=b:=by unfold Jp jP;rw[h];simp[d1]
 cases hb:b with
 | true=>
  left;obtain⟨u,hu,hl⟩:=d2 hb;obtain⟨e1,e2⟩:=r3 u hu hl;refine⟨by rw[ho,hb],u,hl,?_,by rw[r1,e1,e2]⟩;rw[strconv_Atoi,arK (by omega),hu,U0 (by omega)];rfl
 | false=>
  right;refine⟨by rw[ho,hb],n,?_⟩;cases hok:ok with
  | false=>rw[r1,hok]
  | true=>
   obtain⟨u,_,hs2,hl⟩:=r2 hok;rw[d3 u hs2 hl]at hb;cases hb
theorem afE:isName [110,117,108,108]=true:=by decide
theorem afD:isName [116,114,117,101]=true:=by decide
theorem acp:isName [102,97,108,115,101]=true:=by decide
theorem aeX{ts:List aA}(h:DY ts){k k' i:Nat}(hi:i<ts.length)(hk1:ts[i].kind=1)(hok:Jp ts[i]=true)
  (hargs:∀j,i<j→j≤ts.length→RL ts j (dR k (av.mk ts (j:Int)) [41]) (jC k' ts (j:Int) [41] false)):
  RE ts i (eY (k+1) (av.mk ts ((i+1:Nat):Int)) ts[i].text) (pF (k'+1) ts (i:Int)):=by
 have hN:=h.1;have htx:=h.2 ts[i] (asv hi);have hnm:=J4 hk1 htx;rw[hok]at hnm;rw[eY,qG,pF,MC,mF hi,aj];have w1:bF ((i:Int)+1)=((i+1:Nat):Int):=mD (by omega);by_cases h1:ts[i].text=[110,117,108,108]
 ·rw[arK (by simpa using h1),arK (by simpa using h1)];exact .inl ⟨_,i+1,by omega,by omega,by rw[Kh];simp[ah.bulk,ah.kZ],rfl,by rw[w1];rfl⟩
 ·rw[arF (by simpa using h1),arF (by simpa using h1)];by_cases h2:ts[i].text=[116,114,117,101]
  ·rw[arK (by simpa using h2),h2];exact .inl ⟨_,i+1,by omega,by omega,by rw[Kh];simp[ah.bulk,ah.kZ],rfl,by rw[w1];rfl⟩
  ·rw[arF (by simpa using h2)];by_cases h3:ts[i].text=[102,97,108,115,101]
   ·rw[arK (by simpa using h3),h3];exact .inl ⟨_,i+1,by omega,by omega,by rw[Kh];simp[ah.bulk,ah.kZ],rfl,by rw[w1];rfl⟩
   ·rw[arF (by simpa using h3)];have hp:jm ts[i].text=true:=by unfold jm;rw[←hnm];simp[h1,h2,h3]
    rw[(Cc ts[i].text (by omega)).2,hp,aj,Mr htx hnm.symm,hp,aj,arF (by simp),arF (by simp),nP h (by omega),aC,w1,CO h,aj];cases hq:uO ts (i+1) [40]with
    | false=>
     simp only[as1,arO,arG,arN];exact .inl ⟨_,i+1,by omega,by omega,by rw[Y2];simp;omega,rfl,rfl⟩
    | true=>
     obtain⟨hlt,_⟩:=qh hq;simp only[asC,arO,arG,arN];have w2:bF ((i:Int)+2)=((i+1+1:Nat):Int):=by rw[aX (by omega) (by omega)];omega
     rw[w2];rcases hargs (i+1+1) (by omega) (by omega)with⟨l,j,g1,g2,gb,gP,gR⟩|⟨j,c,x,y,g1,g2,gc,gP,gR⟩
     ·rw[gP,gR,gW,aH];exact .inl ⟨_,j,by omega,g2,by rw[Y2];simp;omega,rfl,rfl⟩
     ·rw[gP,gR,fO,aH];exact .inr ⟨j,c,_,by omega,g2,gc,rfl,rfl⟩
theorem agu{ts:List aA}(h:DY ts){k k' i:Nat}(hi0:i≤ts.length)
  (hc:∀j,i<j→j≤ts.length→RE ts j (aZ (k+1) (av.mk ts (j:Int))) (dM k' ts (j:Int)))
  (hargs:∀j,i<j→j≤ts.length→RL ts j (dR k (av.mk ts (j:Int)) [41]) (jC k' ts (j:Int) [41] false))
  (hlist:∀j,i<j→j≤ts.length→RL ts j (dR (k+1) (av.mk ts (j:Int)) [93]) (jC k' ts (j:Int) [93] false))
  (aqC:∀j,i<j→j≤ts.length→RX ts j (dL (k+1) (av.mk ts (j:Int))) (jC k' ts (j:Int) [125] true)):
  RE ts i (eF (k+1+1) (av.mk ts (i:Int))) (nU (k'+1+1) ts (i:Int)):=by
 have hN:=h.1;rw[eF,qH,nU,Tq,Oc h];by_cases hi:ts.length≤i
 ·have ht:(BQ ts i).kind=0:=by unfold BQ;rw[ata hi]
  rw[arK (asU (by omega)),arK ht,fO];have:miss ts i=4:=by unfold miss;rw[arK hi]
  rw[this];exact .inr ⟨i,4,_,asx _,hi0,by decide,rfl,rfl⟩
 have hlt:i<ts.length:=by omega
 have hms:miss ts i=5:=by unfold miss;rw[arF hi]
 have htx:=h.2 ts[i] (asv hlt);have w1:bF ((i:Int)+1)=((i+1:Nat):Int):=mD (by omega);rw[arF (show ¬decide ((ts.length:Int)≤(i:Int))=true by simp;omega),mF hlt,aj,hms];have htk:BQ ts i=if Jp ts[i]then ts[i]else aA.mk 0 [] 0:=by unfold BQ;rw[asb hlt]
 cases hok:Jp ts[i]with
 | false=>
  rw[hok]at htk;rw[htk];show RE ts i (fZ (some (.bad (aB.mk ((i:Nat):Int) 5),av.mk ts (i:Int))) _ _) _;rw[fO];have bad:∀x:ak,RE ts i (some (.bad (aB.mk ((i:Nat):Int) 5),av.mk ts (i:Int))) (some (x,(i:Int),5)):=fun x=>.inr ⟨i,5,x,asx _,hi0,by decide,rfl,rfl⟩;by_cases h2:ts[i].kind=2
  ·rw[arK (by simpa using h2)];rcases ad7 h2 htx with⟨h3,_⟩|⟨_,n,hn⟩
   ·rw[hok]at h3;cases h3
   ·rw[hn,aC,arF (by simp)];exact bad _
  ·rw[arF (by simpa using h2)];by_cases h3:ts[i].kind=3
   ·have:Jp ts[i]=decide ((ts[i].text.length:Int)≤4096):=by unfold Jp jP;simp[h3]
    rw[hok]at this;rw[arK (by simpa using h3),arF (by rw[←this];simp)];exact bad _
   ·rw[arF (by simpa using h3)];by_cases h1:ts[i].kind=1
    ·have hnm:=J4 h1 htx;rw[hok]at hnm;have n1:ts[i].text≠[110,117,108,108]:=fun e=>by rw[e,afE]at hnm;cases hnm
     have n2:ts[i].text≠[116,114,117,101]:=fun e=>by rw[e,afD]at hnm;cases hnm
     have n3:ts[i].text≠[102,97,108,115,101]:=fun e=>by rw[e,acp]at hnm;cases hnm
     have hp:jm ts[i].text=false:=by unfold jm;rw[←hnm];rfl
     rw[arK (by simpa using h1),pF,MC,mF hlt,aj,arF (by simpa using n1),arF (by simpa using n2),arF (by simpa using n3),(Cc ts[i].text (by omega)).2,hp,aj,arK (by simp)];exact bad _
    ·rw[arF (by simpa using h1)];have h4:ts[i].kind≠4:=fun e=>by rw[aci e]at hok;cases hok
     rw[arF (by simpa using h4)];exact bad _
 | true=>
  rw[hok,arK rfl]at htk;have hk:=aif hok;rw[htk,arF (by omega),gW];rcases hk with h1|h2|h3|h4
  ·rw[arF (by simp[h1]),arF (by simp[h1]),arK (by simpa using h1),arF (by simp[h1]),arF (by simp[h1]),arK (by simpa using h1)];show RE ts i (fZ (eY (k+1) (av.mk ts (bF ((i:Int)+1))) ts[i].text) _ _) _;rw[w1];rcases aeX h hlt h1 hok hargs with⟨e,j,g1,g2,gb,gP,gR⟩|⟨j,c,x,g1,g2,gc,gP,gR⟩
   ·rw[gP,gR];exact .inl ⟨e,j,g1,g2,gb,rfl,rfl⟩
   ·rw[gP,gR];exact .inr ⟨j,c,x,g1,g2,gc,rfl,rfl⟩
  ·rw[arK (by simpa using h2),arK (by simpa using h2)];rcases ad7 h2 htx with⟨_,u,hu,ha,hr⟩|⟨h3,_⟩
   ·rw[ha,hr,aC,aC,arK rfl];have hbk:(ak.mk 1 ([]:Str) (ah.mk 2 false (u:Int) ([]:Str) [] []) [] []).bulk≤2097152*(i+1-i):=by rw[Kh];simp[ah.bulk,ah.kZ]
    exact .inl ⟨ak.mk 1 ([]:Str) (ah.mk 2 false (u:Int) ([]:Str) [] []) [] [],i+1,by omega,by omega,hbk,by rw[←w1];rfl,by rw[←w1];rfl⟩
   ·rw[hok]at h3;cases h3
  ·have:Jp ts[i]=decide ((ts[i].text.length:Int)≤4096):=by unfold Jp jP;simp[h3]
   rw[hok]at this;rw[arF (by simp[h3]),arK (by simpa using h3),arF (by simp[h3]),arK (by simpa using h3),arK this.symm];have hbk:(ak.mk 1 ([]:Str) (ah.mk 3 false 0 ts[i].text [] []) [] []).bulk≤2097152*(i+1-i):=by rw[Kh];simp[ah.bulk,ah.kZ];omega
   exact .inl ⟨ak.mk 1 ([]:Str) (ah.mk 3 false 0 ts[i].text [] []) [] [],i+1,by omega,by omega,hbk,by rw[←w1];rfl,by rw[←w1];rfl⟩
  ·have hop:∀op,uO ts i op=(ts[i].text==op):=fun op=>by unfold uO;rw[htk,h4];rfl
   rw[arF (by simp[h4]),arF (by simp[h4]),arF (by simp[h4]),arF (by simp[h4]),arF (by simp[h4]),arF (by simp[h4]),arK (by simpa using h4),lJ,JN,mF hlt,aj,nP h hi0,aC,hop];by_cases h40:ts[i].text=[40]
   ·have e40:(ts[i].text==([40]:Str))=true:=by simpa using h40
    simp only[e40,arO];rw[w1];rcases hc (i+1) (by omega) (by omega)with⟨e,j,g1,g2,gb,gP,gR⟩|⟨j,c,x,g1,g2,gc,gP,gR⟩
    ·rw[gP,gR,gW,aD,Eh h g2];have e0:((0:Int)==0)=true:=rfl;simp only[e0,arO,CO h,aj,Od,arG,arN];cases hq:uO ts j [41]with
     | true=>
      obtain⟨hj,_⟩:=qh hq;simp only[asC,arO,arG,arN,gW];rw[mD (by omega)];exact .inl ⟨e,j+1,by omega,by omega,by omega,rfl,rfl⟩
     | false=>
      simp only[as1,arO,arG,arN,fO,BZ,aj,TN (Dw ts j)];exact .inr ⟨j,_,_,by omega,g2,Dw ts j,rfl,rfl⟩
    ·have e0:(c==0)=false:=by simpa using gc
     rw[gP,gR,fO,aD];simp only[e0,arG,arN,aj,TN gc,arO];exact .inr ⟨j,c,_,by omega,g2,gc,rfl,rfl⟩
   ·have e40:(ts[i].text==([40]:Str))=false:=by simpa using h40
    simp only[e40,arG,arN];rw[nP h hi0,aC,hop];by_cases h91:ts[i].text=[91]
    ·have e91:(ts[i].text==([91]:Str))=true:=by simpa using h91
     simp only[e91,arO];rw[w1];rcases hlist (i+1) (by omega) (by omega)with⟨l,j,g1,g2,gb,gP,gR⟩|⟨j,c,x,y,g1,g2,gc,gP,gR⟩
     ·rw[gP,gR,gW,aH];exact .inl ⟨_,j,by omega,g2,by rw[Y2];simp;omega,rfl,rfl⟩
     ·rw[gP,gR,fO,aH];exact .inr ⟨j,c,_,by omega,g2,gc,rfl,rfl⟩
    ·have e91:(ts[i].text==([91]:Str))=false:=by simpa using h91
     simp only[e91,arG,arN];rw[nP h hi0,aC,hop];by_cases aqJ:ts[i].text=[123]
     ·have aoD:(ts[i].text==([123]:Str))=true:=by simpa using aqJ
      simp only[aoD,arO];rw[w1];rcases aqC (i+1) (by omega) (by omega)with⟨l,ks,j,g1,g2,gb,gP,gR⟩|⟨j,c,x,y,g1,g2,gc,gP,gR⟩
      ·rw[gP,gR,gW,aH];exact .inl ⟨_,j,by omega,g2,by rw[Y2];simp only[atq];omega,rfl,rfl⟩
      ·rw[gP,gR,fO,aH];exact .inr ⟨j,c,_,by omega,g2,gc,rfl,rfl⟩
     ·have aoD:(ts[i].text==([123]:Str))=false:=by simpa using aqJ
      simp only[aoD,arG,arN];exact .inr ⟨i,5,_,asx _,hi0,by decide,rfl,rfl⟩
end Go.Ft
namespace Go.Ft
open Go
attribute [local congr] eO
theorem w7(n:Int)(h:2≤n∧n≤6):bF (n+1)=n+1:=aX (by omega) (by omega)
theorem afv{ts:List aA}(h:DY ts):∀(k:Nat),
  (∀k' i,i≤ts.length→30*(ts.length-i)+20≤k→30*(ts.length-i)+20≤k'→RE ts i (aZ k (av.mk ts (i:Int))) (dM k' ts (i:Int)))∧
  (∀(k' i:Nat) (n:Int),2≤n→n≤7→i≤ts.length→((30*(ts.length-i)+19:Nat):Int)-n≤(k:Int)→((30*(ts.length-i)+19:Nat):Int)-n≤(k':Int)→RE ts i (bB k (av.mk ts (i:Int)) n) (eH k' ts (i:Int) n))∧
  (∀k' i,i≤ts.length→30*(ts.length-i)+10≤k→30*(ts.length-i)+10≤k'→RE ts i (dH k (av.mk ts (i:Int))) (kE k' ts (i:Int)))∧
  (∀k' i,i≤ts.length→30*(ts.length-i)+9≤k→30*(ts.length-i)+9≤k'→RE ts i (dY k (av.mk ts (i:Int))) (l8 k' ts (i:Int)))∧
  (∀k' i,i≤ts.length→30*(ts.length-i)+8≤k→30*(ts.length-i)+8≤k'→RE ts i (eF k (av.mk ts (i:Int))) (nU k' ts (i:Int)))∧
  (∀k' i cl,cl≠[44]→i≤ts.length→30*(ts.length-i)+21≤k→30*(ts.length-i)+21≤k'→RL ts i (dR k (av.mk ts (i:Int)) cl) (jC k' ts (i:Int) cl false))∧
  (∀k' i,i≤ts.length→30*(ts.length-i)+21≤k→30*(ts.length-i)+21≤k'→RX ts i (dL k (av.mk ts (i:Int))) (jC k' ts (i:Int) [125] true)):=by
 intro k
 induction k using Nat.strongRecOn with
 | _ k ih=>
  have hN:=h.1;refine⟨?_,?_,?_,?_,?_,?_,?_⟩
  ·intro k' i hi h1 h2;obtain⟨q,rfl⟩:∃q,k=q+1:=⟨k-1,by omega⟩;obtain⟨q',rfl⟩:∃q',k'=q'+1:=⟨k'-1,by omega⟩;obtain⟨c1,c2,_⟩:=ih q (by omega);exact agb h (c2 q' i 2 (by omega) (by omega) hi (by omega) (by omega)) fun j hj hj2=>c1 q' j hj2 (by omega) (by omega)
  ·intro k' i n n2 n7 hi h1 h2;obtain⟨q,rfl⟩:∃q,k=q+1:=⟨k-1,by omega⟩;obtain⟨q',rfl⟩:∃q',k'=q'+1:=⟨k'-1,by omega⟩;obtain⟨_,c2,c3,_⟩:=ih q (by omega);by_cases e7:n=7
   ·subst e7;exact aic (c3 q' i hi (by omega) (by omega))
   ·have hn:2≤n∧n≤6:=⟨n2,by omega⟩;refine alr h hn ?_ ?_
    ·rw[w7 n hn];exact c2 q' i (n+1) (by omega) (by omega) hi (by omega) (by omega)
    ·intro j hj hj2;rw[w7 n hn];exact c2 q' j (n+1) (by omega) (by omega) hj2 (by omega) (by omega)
  ·intro k' i hi h1 h2;obtain⟨q,rfl⟩:∃q,k=q+1:=⟨k-1,by omega⟩;obtain⟨q',rfl⟩:∃q',k'=q'+1:=⟨k'-1,by omega⟩;obtain⟨_,_,c3,c4,_⟩:=ih q (by omega);exact abQ h hi (c4 q' i hi (by omega) (by omega)) fun j hj hj2=>c3 q' j hj2 (by omega) (by omega)
  ·intro k' i hi h1 h2;obtain⟨q,rfl⟩:∃q,k=q+1:=⟨k-1,by omega⟩;obtain⟨q',rfl⟩:∃q',k'=q'+1:=⟨k'-1,by omega⟩;obtain⟨c1,_,_,_,c5,_⟩:=ih q (by omega);exact acZ h (c5 q' i hi (by omega) (by omega)) fun j hj hj2=>c1 q' j hj2 (by omega) (by omega)
  ·intro k' i hi h1 h2;obtain⟨q,rfl⟩:∃q,k=q+1+1:=⟨k-2,by omega⟩;obtain⟨q',rfl⟩:∃q',k'=q'+1+1:=⟨k'-2,by omega⟩;obtain⟨c1,_,_,_,_,c6,c7⟩:=ih (q+1) (by omega);obtain⟨_,_,_,_,_,d6,_⟩:=ih q (by omega);exact agu h hi (fun j hj hj2=>c1 q' j hj2 (by omega) (by omega)) (fun j hj hj2=>d6 q' j _ (by decide) hj2 (by omega) (by omega)) (fun j hj hj2=>c6 q' j _ (by decide) hj2 (by omega) (by omega)) (fun j hj hj2=>c7 q' j hj2 (by omega) (by omega))
  ·intro k' i cl hcl hi h1 h2;obtain⟨q,rfl⟩:∃q,k=q+1:=⟨k-1,by omega⟩;obtain⟨q',rfl⟩:∃q',k'=q'+1:=⟨k'-1,by omega⟩;obtain⟨c1,_⟩:=ih q (by omega);exact agw h hi hcl fun j hj hj2=>c1 q' j hj2 (by omega) (by omega)
  ·intro k' i hi h1 h2;obtain⟨q,rfl⟩:∃q,k=q+1:=⟨k-1,by omega⟩;obtain⟨q',rfl⟩:∃q',k'=q'+1:=⟨k'-1,by omega⟩;obtain⟨c1,_⟩:=ih q (by omega);exact af4 h hi fun j hj hj2=>c1 q' j hj2 (by omega) (by omega)
theorem ajf{ts:List aA}(h:DY ts):RE ts 0 (rU (av.mk ts 0)) (LV ts 0):=by
 have hN:=h.1;have hB:=gX;exact(afv h BIG).1 BIG 0 (atH _) (by omega) (by omega)
end Go.Ft
namespace Go.Ft
open Go
attribute [local congr] eO
theorem O_{n:Int}(h:-9223372036854775808≤n∧n<9223372036854775808):bF n=n:=XT (by omega) (by omega)
theorem ag9{i j:Nat}(h:i+j<9223372036854775808):bF ((i:Int)+(j:Int))=((i+j:Nat):Int):=by rw[O_ (by omega)];omega
theorem P6{α:Type}{l:List α}{i:Nat}(h:i<l.length):idx l (i:Int)=some (l[i]):=by rw[aea,asb h]
def pQ(c:UInt8):Bool:=(((decide (97≤(c.toNat:Int)))&&(decide ((c.toNat:Int)≤122)))||((decide (65≤(c.toNat:Int)))&&(decide ((c.toNat:Int)≤90))))||((c.toNat:Int)==95)
def isDigit(c:UInt8):Bool:=(decide (48≤(c.toNat:Int)))&&(decide ((c.toNat:Int)≤57))
def isWord(c:UInt8):Bool:=pQ c||isDigit c
theorem qK{c:UInt8}:isDigit c=true↔48≤c.toNat∧c.toNat≤57:=by simp[isDigit];omega
theorem Dy{c:UInt8}:pQ c=true↔(97≤c.toNat∧c.toNat≤122)∨(65≤c.toNat∧c.toNat≤90)∨c.toNat=95:=by simp[pQ];omega
@[simp] theorem letter_eq(c:UInt8):tJ c=some (pQ c):=rfl
@[simp] theorem digit_eq(c:UInt8):sO c=some (isDigit c):=rfl
@[simp] theorem S_(c:UInt8):AL c=some (pQ c):=rfl
@[simp] theorem Gw(c:UInt8):qx c=some (isDigit c):=rfl
@[simp] theorem air(c:UInt8):wD c=some (isWord c):=by
 unfold wD isWord;simp;cases pQ c<;>simp
def span(p:UInt8→Bool)(l:Str):Nat:=(l.takeWhile p).length
@[simp] theorem apD(p:UInt8→Bool):span p []=0:=rfl
theorem lW(p:UInt8→Bool)(c:UInt8)(l:Str):span p (c::l)=if p c then span p l+1 else 0:=by
 unfold span;rw[List.takeWhile_cons];split<;>simp
theorem Dh(p:UInt8→Bool)(l:Str):span p l≤l.length:=by
 induction l with
 | nil=>simp
 | cons c l ih=>rw[lW];split<;>simp<;>omega
theorem Zq{p:UInt8→Bool}{cls:UInt8→Option Bool}(hc:∀c,cls c=some (p c))(s:Str)(hs:s.length<4611686018427387904):
  ∀(k i:Nat),s.length<k+i→i≤s.length→rY s cls k (i:Int)=some ((i+span p (s.drop i):Nat):Int)
 | 0,i,h,h'=>by omega
 | k+1,i,h,h'=>by
  rw[rY];by_cases hi:i<s.length
  ·rw[ar0 hi,lW];have h1:((i:Int)<(s.length:Int)):=by omega
   simp only[h1,aug,arO,P6 hi,aj,hc];cases e:p s[i]with
   | false=>simp
   | true=>
    simp only[arO];rw[show (i:Int)+1=((i:Int)+(1:Nat))from rfl,ag9 (by omega),Zq hc s hs k (i+1) (by omega) (by omega)];simp only[asB,atO];omega
  ·have:i=s.length:=by omega
   subst this;simp
theorem Sv{p:UInt8→Bool}{cls:UInt8→Option Bool}(hc:∀c,cls c=some (p c)){s:Str}(hs:s.length<4611686018427387904){i:Nat}(h:i≤s.length):
  vB s (i:Int) cls=some ((i+span p (s.drop i):Nat):Int):=Zq hc s hs BIG i (by unfold BIG;omega) h
theorem XB(s:Str)(hs:s.length<4611686018427387904)(a:Nat):∀(k n:Nat),s.length<k+(a+n)→a+n≤s.length→
  Bw s (a:Int) k (n:Int)=some ((n+span isDigit (s.drop (a+n)):Nat):Int)
 | 0,n,h,h'=>by omega
 | k+1,n,h,h'=>by
  rw[Bw,ag9 (by omega)];by_cases hi:a+n<s.length
  ·rw[ar0 hi,lW];have h1:(((a+n:Nat):Int)<(s.length:Int)):=by omega
   simp only[h1,aug,arO,P6 hi,aj,Gw];cases e:isDigit s[a+n]with
   | false=>simp
   | true=>
    simp only[arO];rw[show (n:Int)+1=((n:Int)+(1:Nat))from rfl,ag9 (by omega),XB s hs a k (n+1) (by omega) (by omega)];simp only[asB,atO];rw[show a+(n+1)=a+n+1 from rfl];omega
  ·have e:a+n=s.length:=by omega
   rw[e];simp
theorem adu(s:Str)(hs:s.length<4611686018427387904)(a:Nat):∀(k n:Nat),s.length<k+(a+n)→a+n≤s.length→
  FE s (a:Int) k (n:Int)=some ((n+span isWord (s.drop (a+n)):Nat):Int)
 | 0,n,h,h'=>by omega
 | k+1,n,h,h'=>by
  rw[FE,ag9 (by omega)];by_cases hi:a+n<s.length
  ·rw[ar0 hi,lW];have h1:(((a+n:Nat):Int)<(s.length:Int)):=by omega
   simp only[h1,aug,arO,P6 hi,aj,Gw,S_]
   have e:(if pQ s[a+n]=true then some true else some (isDigit s[a+n]))=some (isWord s[a+n]):=by
    unfold isWord;cases pQ s[a+n]<;>simp
   rw[e];simp only[aj];cases e:isWord s[a+n]with
   | false=>simp
   | true=>
    simp only[arO];rw[show (n:Int)+1=((n:Int)+(1:Nat))from rfl,ag9 (by omega),adu s hs a k (n+1) (by omega) (by omega)];simp only[asB,atO];rw[show a+(n+1)=a+n+1 from rfl];omega
  ·have e:a+n=s.length:=by omega
   rw[e];simp
theorem af8{s:Str}(hs:s.length<4611686018427387904){a:Nat}(h:a≤s.length):MH s (a:Int)=some ((span isDigit (s.drop a):Nat):Int):=by
 have:=XB s hs a BIG 0 (by unfold BIG;omega) (by omega);simpa[MH]using this
theorem adt{s:Str}(hs:s.length<4611686018427387904){a:Nat}(h:a≤s.length):NT s (a:Int)=some ((span isWord (s.drop a):Nat):Int):=by
 have:=adu s hs a BIG 0 (by unfold BIG;omega) (by omega);simpa[NT]using this
def Kj(c:UInt8):Option Nat:=if isDigit c then some (c.toNat-48)else if 97≤c.toNat∧c.toNat≤102 then some (c.toNat-87)else if 65≤c.toNat∧c.toNat≤70 then some (c.toNat-55)else none
def aaH(c:UInt8):Int:=match Kj c with|some n=>n|none=>-1
theorem R8{c:UInt8}{n:Nat}(h:Kj c=some n):n<16:=by
 unfold Kj at h;split at h
 ·rename_i hd;rw[qK]at hd;cases h;omega
 ·split at h
  ·cases h;omega
  ·split at h
   ·cases h;omega
   ·cases h
theorem RQ{c d:UInt8}(h:d.toNat≤c.toNat):(c-d).toNat=c.toNat-d.toNat:=UInt8.toNat_sub_of_le c d (UInt8.le_iff_toNat_le.2 h)
theorem acL(c:UInt8):wE c=some (aaH c):=by
 have hlt:=c.toNat_lt;unfold wE aaH Kj;simp only[digit_eq,aj];by_cases hd:isDigit c=true
 ·simp only[hd,arO];rw[qK]at hd;rw[RQ (by simpa using hd.1)];rfl
 ·simp only[atA]at hd;simp only[hd,arG,arN];by_cases h1:97≤c.toNat∧c.toNat≤102
  ·rw[arK (by simp;omega),arK h1,RQ (by simpa using h1.1)];have:(97:UInt8).toNat=97:=rfl;rw[this,O_ (by omega)];simp only[asB];omega
  ·rw[arF (by simp;omega),arF h1];by_cases h2:65≤c.toNat∧c.toNat≤70
   ·rw[arK (by simp;omega),arK h2,RQ (by simpa using h2.1)];have:(65:UInt8).toNat=65:=rfl;rw[this,O_ (by omega)];simp only[asB];omega
   ·rw[arF (by simp;omega),arF h2]
theorem Yf(c:UInt8):R3 c=some (aaH c):=by
 have hlt:=c.toNat_lt;unfold R3 aaH Kj;simp only[Gw,aj];by_cases hd:isDigit c=true
 ·simp only[hd,arO];rw[qK]at hd;rw[O_ (by omega)];simp only[asB];omega
 ·simp only[atA]at hd;simp only[hd,arG,arN];by_cases h1:97≤c.toNat∧c.toNat≤102
  ·rw[arK (by simp;omega),arK h1,O_ (by omega)];simp only[asB];omega
  ·rw[arF (by simp;omega),arF h1];by_cases h2:65≤c.toNat∧c.toNat≤70
   ·rw[arK (by simp;omega),arK h2,O_ (by omega)];simp only[asB];omega
   ·rw[arF (by simp;omega),arF h2]
theorem Ef{c:UInt8}{n:Nat}(h:Kj c=some n):aaH c=n:=by unfold aaH;rw[h]
theorem GR{c:UInt8}(h:Kj c=none):aaH c=-1:=by unfold aaH;rw[h]
def chr:Str→UInt8 × Nat × Int
 | []=>(0,0,5)
 | c::r=>if c.toNat<32 then (0,0,5)else if c.toNat≠92 then (c,1,0)else
  match r with
  | []=>(0,0,4)
  | d::r=>if d.toNat=34∨d.toNat=92 then (d,2,0)else if d.toNat=110 then (10,2,0)else if d.toNat=116 then (9,2,0)else if d.toNat=120 then
    match r with
    | []=>(0,0,4)
    | a::r=>match Kj a with
     | none=>(0,0,5)
     | some x=>match r with
      | []=>(0,0,4)
      | b::_=>match Kj b with
       | none=>(0,0,5)
       | some y=>(UInt8.ofNat (16*x+y),4,0)
   else (0,0,5)
theorem aeD:∀ {l:Str},(chr l).2.2=0→0<(chr l).2.1∧(chr l).2.1≤l.length
 | [],h=>by simp[chr]at h
 | c::r,h=>by
  unfold chr at h⊢;by_cases h1:c.toNat<32
  ·simp[h1]at h
  ·by_cases h2:c.toNat≠92
   ·simp[h1,h2]
   ·simp only[h1,h2,arN]at h⊢;cases r with
    | nil=>simp at h
    | cons d r=>
     simp only at h⊢;by_cases h3:d.toNat=34∨d.toNat=92
     ·simp[h3]
     ·by_cases h4:d.toNat=110
      ·simp[h4]
      ·by_cases h5:d.toNat=116
       ·simp[h5]
       ·by_cases h6:d.toNat=120
        ·simp only[h6,arO]at h⊢;cases r with
         | nil=>simp at h
         | cons a r=>
          simp only at h⊢;cases ha:Kj a with
          | none=>simp[ha]at h
          | some x=>
           simp only[ha]at h⊢;cases r with
           | nil=>simp at h
           | cons b r=>
            simp only at h⊢;cases hb:Kj b with
            | none=>simp[hb]at h
            | some y=>simp
        ·simp[h3,h4,h5,h6]at h
theorem getD_drop{s:Str}{i:Nat}(h:i<s.length):s.drop i=s.getD i 0::s.drop (i+1):=by
 rw[ar0 h,asD,asb h,atC]
theorem dflt:(default:UInt8)=0:=rfl
theorem ak_{s:Str}(hs:s.length<4611686018427387904){i:Nat}(hi:i+1<s.length)(h1:(s.getD i 0).toNat=92)(h2:(s.getD (i+1) 0).toNat=120):
  JO s (i:Int)=some ((chr (s.drop i)).1,((chr (s.drop i)).2.1:Int),(chr (s.drop i)).2.2):=by
 rw[getD_drop (by omega),getD_drop hi];unfold chr;unfold JO;obtain⟨m,hm⟩:∃m,BIG=m+3:=⟨BIG-3,rfl⟩;rw[hm];by_cases h4:i+2<s.length
 ·rw[getD_drop (by omega:i+1+1<s.length)];simp (disch:=omega) only[pG,Yf,dflt,h2,aX,bn,arK,arF,aj,arP,atD,asE,ar7,Int.reduceToNat,arO];cases ha:Kj (s.getD (i+1+1) 0)with
  | none=>simp (disch:=omega) only[GR ha,arK];rfl
  | some x=>
   have hx:=R8 ha;by_cases h5:i+3<s.length
   ·rw[getD_drop (by omega:i+1+1+1<s.length)];simp (disch:=omega) only[Ef ha,aX,arF];cases hb:Kj (s.getD (i+1+1+1) 0)with
    | none=>simp (disch:=omega) only[GR hb,arK];rfl
    | some y=>
     have hy:=R8 hb;simp (disch:=omega) only[Ef hb,aX,arF]
     have:byteOf (16*(16*0+(x:Int))+(y:Int))=UInt8.ofNat (16*x+y):=by
      apply as0.1;have e1:((byteOf (16*(16*0+(x:Int))+(y:Int))).toNat:Int)=16*(16*0+(x:Int))+(y:Int):=Qk (by omega) (by omega);have e2:(UInt8.ofNat (16*x+y)).toNat=16*x+y:=by simp;omega
      omega
     rw[this];rfl
   ·rw[asw (by omega:s.length≤i+1+1+1)];simp (disch:=omega) only[Ef ha,aX,arK,arF];rfl
 ·rw[asw (by omega:s.length≤i+1+1)];simp (disch:=omega) only[pG,h2,aX,arK,arF,arP,atD,arO];rfl
theorem alc{s:Str}(hs:s.length<4611686018427387904){i:Nat}(hi:i<s.length):uq s (i:Int)=some ((chr (s.drop i)).1,((chr (s.drop i)).2.1:Int),(chr (s.drop i)).2.2):=by
 by_cases h1:(s.getD i 0).toNat=92
 ·by_cases h2:i+1<s.length
  ·by_cases h3:(s.getD (i+1) 0).toNat=120
   ·rw[←ak_ hs h2 h1 h3];unfold uq;simp (disch:=omega) only[dflt,aX,bn,arK,arF,aj,arP,ar4,asL,atD,asE,ar7,Int.reduceToNat]
   ·rw[getD_drop hi,getD_drop h2];unfold uq chr;simp (disch:=omega) only[dflt,aX,bn,arF,aj,arP,ar4,asL,atD,asE,ar7,Int.reduceToNat];by_cases d1:(s.getD (i+1) 0).toNat=34
    ·simp (disch:=omega) only[arK];rfl
    ·by_cases d2:(s.getD (i+1) 0).toNat=92
     ·simp (disch:=omega) only[arK,arF];rfl
     ·by_cases d3:(s.getD (i+1) 0).toNat=110
      ·simp (disch:=omega) only[arK,arF];rfl
      ·by_cases d4:(s.getD (i+1) 0).toNat=116
       ·simp (disch:=omega) only[arK,arF];rfl
       ·simp (disch:=omega) only[arF];rfl
  ·rw[getD_drop hi,asw (by omega:s.length≤i+1)];unfold uq chr;simp (disch:=omega) only[dflt,aX,bn,arK,arF,aj,arP,asL,atD,ar7];rfl
 ·rw[getD_drop hi];unfold uq chr;by_cases h2:(s.getD i 0).toNat<32
  ·simp (disch:=omega) only[dflt,bn,arK,aj,arP,atD,ar7];rfl
  ·simp (disch:=omega) only[dflt,bn,arK,arF,aj,arP,asL,atD,ar7];rfl
theorem alF{s:Str}(hs:s.length<4611686018427387904){i:Nat}(hi:i<s.length)(h1:(s.getD i 0).toNat=92):
  xw s (i:Int)=some ((chr (s.drop i)).1,((chr (s.drop i)).2.1:Int)):=by
 unfold xw;rw[getD_drop hi];unfold chr;by_cases h2:i+1<s.length
 ·rw[getD_drop h2];simp (disch:=omega) only[dflt,aX,bn,arF,aj,arP,ar4,atD,asE,ar7,Int.reduceToNat];by_cases d1:(s.getD (i+1) 0).toNat=34
  ·simp (disch:=omega) only[aX,bn,arK,aj,asE,ar7,Int.reduceToNat];rfl
  ·by_cases d2:(s.getD (i+1) 0).toNat=92
   ·simp (disch:=omega) only[aX,bn,arK,arF,aj,asE,ar7,Int.reduceToNat];rfl
   ·by_cases d3:(s.getD (i+1) 0).toNat=110
    ·simp (disch:=omega) only[aX,bn,arK,arF,aj,asE,ar7,Int.reduceToNat];rfl
    ·by_cases d4:(s.getD (i+1) 0).toNat=116
     ·simp (disch:=omega) only[aX,bn,arK,arF,aj,asE,ar7,Int.reduceToNat];rfl
     ·by_cases d5:(s.getD (i+1) 0).toNat=120
      ·simp (disch:=omega) only[bn,arK,arF,aj,asE,ar7,Int.reduceToNat];by_cases h4:i+2<s.length
       ·rw[show s.drop (i+1+1)=s.getD (i+2) 0::s.drop (i+3)from getD_drop (by omega)];by_cases h5:i+3<s.length
        ·rw[show s.drop (i+3)=s.getD (i+3) 0::s.drop (i+4)from getD_drop (by omega)];simp (disch:=omega) only[acL,dflt,bn,arK,aj,arP,asE,ar7,Int.reduceToNat];cases ha:Kj (s.getD (i+2) 0)with
         | none=>simp (disch:=omega) only[GR ha,arF,aj,arG,arN];rfl
         | some x=>
          have hx:=R8 ha;simp (disch:=omega) only[Ef ha,aX,arK,aj,arP];cases hb:Kj (s.getD (i+3) 0)with
          | none=>simp (disch:=omega) only[GR hb,arF];rfl
          | some y=>
           have hy:=R8 hb;simp (disch:=omega) only[Ef hb,aX,arK]
           have:byteOf (16*(x:Int)+(y:Int))=UInt8.ofNat (16*x+y):=by
            apply as0.1;have e1:((byteOf (16*(x:Int)+(y:Int))).toNat:Int)=16*(x:Int)+(y:Int):=Qk (by omega) (by omega);have e2:(UInt8.ofNat (16*x+y)).toNat=16*x+y:=by simp;omega
            omega
           rw[this];rfl
        ·rw[asw (by omega:s.length≤i+3)];simp (disch:=omega) only[acL,bn,arF,aj,asE,ar7,Int.reduceToNat,arG,arN];cases ha:Kj (s.getD (i+2) 0)<;>rfl
       ·rw[asw (by omega:s.length≤i+1+1)];simp (disch:=omega) only[bn,arF,aj,asE,ar7,Int.reduceToNat,arG,arN];rfl
      ·simp (disch:=omega) only[aX,bn,arK,arF,aj,asE,ar7,Int.reduceToNat];rfl
 ·rw[asw (by omega:s.length≤i+1)];simp (disch:=omega) only[aX,arK,arF,arP,atD];rfl
theorem afG{s:Str}(hs:s.length<4611686018427387904){i:Nat}(hi:i<s.length)(h1:(s.getD i 0).toNat=92)(he:(chr (s.drop i)).2.2≠0):
  Ck s (i:Int)=some ((chr (s.drop i)).2.2==4):=by
 unfold Ck;rw[getD_drop hi]at he⊢;simp (disch:=omega) only[aX,bn,bI,aj,ar4,asq,asE,ar7,Int.reduceToNat];rw[List.take_length];generalize s.drop (i+1)=r at he⊢;generalize s.getD i 0=c at he h1⊢;have h92:¬c.toNat<32:=by omega
 have afT:¬c.toNat≠92:=by omega
 match r with
 | []=>simp[chr,h92,afT]
 | [d]=>
  by_cases d5:d=120
  ·subst d5;simp[chr,h92,afT]
  ·have:d.toNat≠120:=fun h=>d5 (as0.1 h);simp only[chr,h92,afT,arN]at he⊢;simp[d5];revert he
   repeat' split
   all_goals simp
 | [d,a]=>
  by_cases d5:d=120
  ·subst d5;simp[chr,h92,afT,idx];rw[acL];cases ha:Kj a with
   | none=>simp[GR ha]
   | some x=>simp[Ef ha]
  ·have:d.toNat≠120:=fun h=>d5 (as0.1 h);have d5':¬(d.toNat:Int)=120:=by omega
   simp only[chr,h92,afT,arN]at he⊢;simp[d5,idx,d5'];revert he
   repeat' split
   all_goals simp
 | d::a::b::r=>
  simp only[chr,h92,afT,arN]at he⊢;have hl:¬((r.length:Int)+1+1+1=2):=by omega
  simp[hl];revert he
  repeat' split
  all_goals simp
def txt:Nat→Str→Nat→Str→Str × Nat × Int
 | _,_,_,[]=>([],0,4)
 | k+1,b,n,_::r=>txt k b n r
 | 0,b,n,c::r=>if c.toNat=34 then (if 4096<b.length then ([],0,3)else (b,n+1,0))else
   if (chr (c::r)).2.2=0 then txt ((chr (c::r)).2.1-1) (b++[(chr (c::r)).1]) (n+(chr (c::r)).2.1) r else ([],0,(chr (c::r)).2.2)
theorem ZA:∀(k:Nat) (b:Str) (n:Nat) (r:Str),k≤r.length→txt k b n r=txt 0 b n (r.drop k)
 | 0,b,n,r,_=>by simp
 | k+1,b,n,[],h=>by simp at h
 | k+1,b,n,c::r,h=>by rw[txt,ZA k b n r (by simpa using h)];simp
theorem SC(b:Str)(n:Nat)(c:UInt8)(r:Str):txt 0 b n (c::r)=if c.toNat=34 then (if 4096<b.length then ([],0,3)else (b,n+1,0))else
  if (chr (c::r)).2.2=0 then txt 0 (b++[(chr (c::r)).1]) (n+(chr (c::r)).2.1) ((c::r).drop (chr (c::r)).2.1)else ([],0,(chr (c::r)).2.2):=by
 rw[txt];split
 ·rfl
 ·split
  ·rename_i h;obtain⟨h1,h2⟩:=aeD h;rw[ZA _ _ _ _ (by simp at h2;omega)];congr 1;obtain⟨m,hm⟩:∃m,(chr (c::r)).2.1=m+1:=⟨(chr (c::r)).2.1-1,by omega⟩;rw[hm];simp
  ·rfl
def acu(a:Nat)(x:Str × Nat × Int):aA × Int × Int:=if x.2.2=0 then (⟨3,x.1,a⟩,((a+x.2.1:Nat):Int),0)else (⟨0,[],0⟩,0,x.2.2)
def afh(x:Str × Nat × Int):aA × Int × Int:=if x.2.2=0 then (⟨3,x.1,0⟩,(x.2.1:Int),0)else (⟨0,[],0⟩,0,x.2.2)
theorem alY{l:Str}(h:(chr l).2.2≠0):(chr l).2.1=0:=by
 revert h;unfold chr
 repeat' split
 all_goals simp
theorem agh{c:UInt8}{r:Str}(h1:¬c.toNat<32)(h2:c.toNat≠92):chr (c::r)=(c,1,0):=by
 show (if c.toNat<32 then _ else _)=_;rw[arF h1,arK h2]
theorem alX{c:UInt8}{r:Str}(h1:c.toNat<32):chr (c::r)=(0,0,5):=by
 show (if c.toNat<32 then _ else _)=_;rw[arK h1]
theorem TW{s:Str}(hs:s.length≤2147483648)(a:Nat):∀(k i:Nat) (b:Str),s.length<k+i→i≤s.length→a≤i→b.length≤i→
  rz s (a:Int) k (i:Int) b=some (acu a (txt 0 b (i-a) (s.drop i)))
 | 0,i,b,h,h',_,_=>by omega
 | k+1,i,b,h,h',ha,hb=>by
  rw[rz];by_cases hi:i<s.length
  ·rw[getD_drop hi,SC];simp (disch:=omega) only[dflt,aX,bn,arK,aj,arP,ar4,ar7];have hd:=getD_drop hi;by_cases O6:(s.getD i 0).toNat=34
   ·simp (disch:=omega) only[aX,aU,arK,aj];by_cases hl:4096<b.length
    ·simp (disch:=omega) only[arK];rfl
    ·simp (disch:=omega) only[arF];simp only[acu,arO];congr 4;omega
   ·simp (disch:=omega) only[arK,arF];by_cases h92:(s.getD i 0).toNat=92
    ·simp (disch:=omega) only[alF (by omega) hi h92,arK,arF,aC];rw[hd];by_cases he:(chr (s.getD i 0::s.drop (i+1))).2.2=0
     ·obtain⟨n1,n2⟩:=aeD he;rw[←hd]at n2;rw[atB]at n2;have happ:app b [(chr (s.getD i 0::s.drop (i+1))).1]=some (b++[(chr (s.getD i 0::s.drop (i+1))).1]):=aU (by simp[wX];omega);rw[←hd]at n1 he happ⊢;simp (disch:=omega) only[he,happ,aX,arF,aj,arG,arO,arN];rw[show (i:Int)+((chr (s.drop i)).2.1:Int)=((i+(chr (s.drop i)).2.1:Nat):Int)from by omega];rw[TW hs a k (i+(chr (s.drop i)).2.1) _ (by omega) (by omega) (by omega) (by simp;omega)];rw[ato];congr 4;omega
     ·rw[←hd]at he⊢;rw[alY he];simp (disch:=omega) only[afG (by omega) hi h92 he,aX,aU,arK,arF,aj,ar4,atS];by_cases h4:(chr (s.drop i)).2.2=4
      ·simp (disch:=omega) only[h4,arO];simp[acu]
      ·simp (disch:=omega) only[h4,arN]
       have h5:(chr (s.drop i)).2.2=5:=by
        revert he h4;unfold chr
        repeat' split
        all_goals simp
       simp[acu,h5]
    ·by_cases h32:(s.getD i 0).toNat<32
     ·rw[alX h32];simp (disch:=omega) only[aX,aU,arK,arF,aj,atS];rfl
     ·rw[agh h32 h92];have happ:app b [s.getD i 0]=some (b++[s.getD i 0]):=aU (by simp[wX];omega);simp (disch:=omega) only[happ,aX,aU,arK,arF,aj,arO];rw[show (i:Int)+1=((i+1:Nat):Int)from rfl,TW hs a k (i+1) _ (by omega) (by omega) (by omega) (by simp;omega)];simp only[atr,atl];rw[show i+1-a=i-a+1 from by omega]
  ·have e:i=s.length:=by omega
   rw[e];simp (disch:=omega) only[arF,arP];simp[txt,acu]
theorem ait{s:Str}(hs:s.length≤2147483648){a:Nat}(h:a<s.length):EO s (a:Int)=some (acu a (txt 0 [] 1 (s.drop (a+1)))):=by
 unfold EO;simp (disch:=omega) only[aX];rw[show (a:Int)+1=((a+1:Nat):Int)from rfl,TW hs a BIG (a+1) [] (by unfold BIG;omega) (by omega) (by omega) (by simp)];rw[show a+1-a=1 from by omega]
theorem Z7{s:Str}(hs:s.length≤2147483648)(a:Nat):∀(k i:Nat) (b:Str),s.length<k+i→i≤s.length→a≤i→b.length≤i→
  FH s (a:Int) k b (i:Int)=some (afh (txt 0 b (i-a) (s.drop i)))
 | 0,i,b,h,h',_,_=>by omega
 | k+1,i,b,h,h',ha,hb=>by
  rw[FH];by_cases hi:i<s.length
  ·rw[getD_drop hi,SC];simp (disch:=omega) only[dflt,aX,bn,arK,aj,arP,ar4,asL,atD,ar7];have hd:=getD_drop hi;by_cases O6:(s.getD i 0).toNat=34
   ·simp (disch:=omega) only[aX,aU,arK,aj];by_cases hl:4096<b.length
    ·simp (disch:=omega) only[arK];rfl
    ·simp (disch:=omega) only[arF];simp only[afh,arO];congr 3;omega
   ·simp (disch:=omega) only[alc (by omega) hi,arK,arF,aD];rw[←hd];by_cases he:(chr (s.drop i)).2.2=0
    ·obtain⟨n1,n2⟩:=aeD he;rw[atB]at n2;have happ:app b [(chr (s.drop i)).1]=some (b++[(chr (s.drop i)).1]):=aU (by simp[wX];omega);simp (disch:=omega) only[he,happ,aX,aj,not_true_eq_false,arO,arN];rw[show (i:Int)+((chr (s.drop i)).2.1:Int)=((i+(chr (s.drop i)).2.1:Nat):Int)from by omega];rw[Z7 hs a k (i+(chr (s.drop i)).2.1) _ (by omega) (by omega) (by omega) (by simp;omega)];rw[ato];congr 4;omega
    ·simp (disch:=omega) only[he,atJ,arO,arN];simp[afh,he]
  ·have e:i=s.length:=by omega
   rw[e];simp (disch:=omega) only[arF,arP];simp[txt,afh]
theorem ahN{s:Str}(hs:s.length≤2147483648){a:Nat}(h:a<s.length):Tv s (a:Int)=some (afh (txt 0 [] 1 (s.drop (a+1)))):=by
 unfold Tv;simp (disch:=omega) only[aX];rw[show (a:Int)+1=((a+1:Nat):Int)from rfl,Z7 hs a BIG (a+1) [] (by unfold BIG;omega) (by omega) (by omega) (by simp)];rw[show a+1-a=1 from by omega]
def val(l:Str):Nat:=l.foldl (fun n c=>10*n+(c.toNat-48)) 0
def Gp:Nat:=9007199254740992
theorem ahd(l:Str):∀n:Nat,n≤l.foldl (fun n (c:UInt8)=>10*n+(c.toNat-48)) n:=by
 induction l with
 | nil=>intro n;simp
 | cons c l ih=>intro n;simp only[atP];exact at1 (by omega) (ih _)
theorem aaA{s:Str}(hs:s.length≤2147483648)(hd:∀c∈s,isDigit c=true):∀(k i n:Nat),s.length<k+i→i≤s.length→n≤10*Gp+9→
  rZ s k (n:Int) (i:Int)=some (decide (Gp<(s.drop i).foldl (fun n (c:UInt8)=>10*n+(c.toNat-48)) n))
 | 0,i,n,h,h',_=>by omega
 | k+1,i,n,h,h',hn=>by
  unfold Gp at hn;rw[rZ];by_cases hi:i<s.length
  ·have hdi:=hd s[i] (asv hi);rw[qK]at hdi;have e:=getD_drop hi;have e0:s.getD i 0=s[i]:=by rw[asD,asb hi,atC]
   by_cases hm:n≤9007199254740992
   ·simp (disch:=omega) only[dflt,aX,bn,arK,aj,arP,arV,ar7];rw[e,e0,RQ (by simpa using hdi.1)];have h48:(48:UInt8).toNat=48:=rfl;rw[h48];simp (disch:=omega) only[aX];rw[show 10*(n:Int)+((s[i].toNat-48:Nat):Int)=((10*n+(s[i].toNat-48):Nat):Int)from by omega,show (i:Int)+1=((i+1:Nat):Int)from rfl];rw[aaA hs hd k (i+1) _ (by omega) (by omega) (by unfold Gp;omega)]
    rw[atP]
   ·simp (disch:=omega) only[arF,arP,arV];have:=ahd (s.drop i) n;have h2:Gp<(s.drop i).foldl (fun n (c:UInt8)=>10*n+(c.toNat-48)) n:=by unfold Gp;omega
    simp[h2];omega
  ·have e:i=s.length:=by omega
   rw[e];simp (disch:=omega) only[arF,arP,arV];simp[Gp];omega
theorem aiA{s:Str}(hs:s.length≤2147483648)(hd:∀c∈s,isDigit c=true):FN s=some (decide (Gp<val s)):=by
 have:=aaA hs hd BIG 0 0 (by unfold BIG;omega) (by omega) (by omega);rw[atl]at this;exact this
theorem af0(l:Str):∀n:Nat,n*10 ^ l.length≤l.foldl (fun n (c:UInt8)=>10*n+(c.toNat-48)) n:=by
 induction l with
 | nil=>intro n;simp
 | cons c l ih=>
  intro n;simp only[atP,ase];refine at1 ?_ (ih _);rw[atx,←auk,Nat.mul_right_comm];exact asV _ (by omega)
theorem ahc{c:UInt8}{l:Str}(hc:isDigit c=true)(h0:c.toNat≠48)(hl:16≤l.length):Gp<val (c::l):=by
 rw[qK]at hc;have h1:=af0 l (c.toNat-48);have h2:10 ^ 16≤10 ^ l.length:=aty (by omega) hl;have h3:10 ^ l.length≤(c.toNat-48)*10 ^ l.length:=Nat.le_mul_of_pos_left _ (by omega);have h4:val (c::l)=l.foldl (fun n (c:UInt8)=>10*n+(c.toNat-48)) (c.toNat-48):=by simp[val]
 rw[h4];have h5:Gp<10 ^ 16:=by decide
 omega
end Go.Ft
