/- Proved here: plain facts on the functional texts. -/
import Derived.Test.YtpbjbkhfpjckoaaGreatDoorIePlain1
set_option linter.unusedVariables false
set_option linter.unusedSimpArgs false
set_option linter.defProp false
set_option linter.unusedSectionVars false
set_option maxHeartbeats 2000000
namespace Go.Ft
open Go
attribute [local congr] gq
theorem Rk{s t:Str}(hs:s.length≤4096)(ht:t.length≤4096):(dR (dU (!(t==([]:Str))) 1) (fun e4=>some (.bad e4)) fun _=>av (strings_Split s t) fun l1=>dR (dU (decide ((l1.length:Int)≤1024)) 3) (fun e5=>some (.bad e5)) fun _=>av (Az l1) fun G8=>some (.ok G8))=some (AU (afS s t))∧
  Ap s t=some (afS s t)∧GV (afS s t) 5000000:=by
 have FP:rM=4294967296:=rfl;unfold afS;by_cases h0:t=[]
 ·have e:(!(t==([]:Str)))=false:=by simp[h0]
  rw[e,Oq,aqJ h0,Ap,aqJ (by simpa using h0)];exact⟨rfl,rfl,GV.er (by decide)⟩
 ·have e:(!(t==([]:Str)))=true:=by simp[h0]
  have hl:=Rj t h0 (s.length+1) s;rw[e,Oo,jo,aqH h0,strings_Split,aqJ ⟨by omega,h0⟩,ak,jO,afP (by omega) (by omega) h0]
  have hb:(FV ((nU t (s.length+1) s).map mkS)).bulk<4611686018427387904:=by
   rw[Eh,arT]
   have:=Vb (f:=ah.bulk ∘ mkS) (l:=nU t (s.length+1) s) (c:=4103) fun x hx=>by
    have:=Hl t _ s x hx;simp only[asL,zG];omega
   have:(nU t (s.length+1) s).length*4103≤4097*4103:=arx _ (by omega);omega
  rw[Am hb,Vn (agM _),List.length_map];by_cases hc:(nU t (s.length+1) s).length≤1024
  ·rw[aqJ hc,aqJ (by simp;omega),jo,ab4 (by omega)];obtain⟨g1,g2⟩:=Yt hc fun x hx=>by have:=Hl t _ s x hx;omega
   exact⟨rfl,rfl,GV.ok g1 (by omega)⟩
  ·rw[aqH hc,aqH (by simp;omega)];exact⟨rfl,rfl,GV.er (by decide)⟩
theorem afC{name:Str}{a b:ah}(ha:VV a)(hb:VV b)(ba:a.bulk<4611686018427387904)(bb:b.bulk<4611686018427387904):JV name a b=some (AU (aat name a b)):=by
 have la:=iR ha.1;have lb:=iR hb.1;unfold JV aat iO;rw[(VR ha hb ba bb).1,(VB ha hb).1,Fq];simp only[aq7,ak,jO,aqW];by_cases n1:name=[100,101,102,97,117,108,116]
 ·rw[aqJ n1,aqJ n1];by_cases hk:a.kind=0
  ·rw[aqJ hk,aqJ hk];rfl
  ·rw[aqH hk,aqH hk];rfl
 ·rw[aqH n1,aqH n1];by_cases n2:name=[99,111,110,116,97,105,110,115]
  ·rw[aqJ n2,aqJ n2]
  ·rw[aqH n2,aqH n2];by_cases n3:name=[106,111,105,110]
   ·rw[aqJ n3,aqJ n3,AV]
   ·rw[aqH n3,aqH n3];by_cases hk:a.kind=3∧b.kind=3
    ·rw[aqJ hk,aqH (c:=¬(a.kind=3∧b.kind=3)) (by simpa using hk),jo];by_cases n4:name=[115,116,97,114,116,115,119,105,116,104]
     ·rw[aqJ n4,aqJ n4,ajF];rfl
     ·rw[aqH n4,aqH n4];by_cases n5:name=[101,110,100,115,119,105,116,104]
      ·rw[aqJ n5,aqJ n5,ajE (by omega) (by omega)];rfl
      ·rw[aqH n5,aqH n5];have:=(Rk (s:=a.bJ) (t:=b.bJ) la.1 lb.1).1;simp only[jO,aqW]at this;exact this
    ·rw[aqH hk,aqJ (c:=¬(a.kind=3∧b.kind=3)) hk];rfl
theorem adr{name:Str}{a b:ah}(ha:VV a)(hb:VV b)(ba:a.bulk<4611686018427387904)(bb:b.bulk<4611686018427387904)
  (hn:name∈([[99,111,110,116,97,105,110,115],[106,111,105,110],[115,112,108,105,116],[115,116,97,114,116,115,119,105,116,104],[101,110,100,115,119,105,116,104],[100,101,102,97,117,108,116]]:List Str)):MU name a b=some (aat name a b):=by
 have la:=iR ha.1;have lb:=iR hb.1;unfold MU aat;rw[(VR ha hb ba bb).2,(VB ha hb).2,(Rk la.1 lb.1).2.1,ab8,ab7 (by omega) (by omega)]
 have bk:((a.kind !=3)||(b.kind !=3))=!decide (a.kind=3∧b.kind=3):=by
  rw[arR,ars,arA,arA,arH,aru];omega
 rw[bk];simp only[arB,List.not_mem_nil,or_false]at hn;rcases hn with rfl|rfl|rfl|rfl|rfl|rfl
 ·rfl
 ·rfl
 ·by_cases hk:a.kind=3∧b.kind=3
  ·rw[aqH (c:=¬(a.kind=3∧b.kind=3)) (by simpa using hk)];simp[hk]
  ·rw[aqJ (c:=¬(a.kind=3∧b.kind=3)) hk];simp[hk,wm,ZV]
 ·by_cases hk:a.kind=3∧b.kind=3
  ·rw[aqH (c:=¬(a.kind=3∧b.kind=3)) (by simpa using hk)];simp[hk,jd,okV,Vu]
  ·rw[aqJ (c:=¬(a.kind=3∧b.kind=3)) hk];simp[hk,wm,ZV]
 ·by_cases hk:a.kind=3∧b.kind=3
  ·rw[aqH (c:=¬(a.kind=3∧b.kind=3)) (by simpa using hk)];simp[hk,jd,okV,Vu]
  ·rw[aqJ (c:=¬(a.kind=3∧b.kind=3)) hk];simp[hk,wm,ZV]
 ·by_cases hk:a.kind=0
  ·simp[hk,okV]
  ·simp[hk,okV]
theorem ajd{name:Str}{a b:ah}(ha:VV a)(hb:VV b):GV (aat name a b) (a.bulk+b.bulk+5000000):=by
 have la:=iR ha.1;have lb:=iR hb.1;unfold aat;split
 ·split
  ·exact GV.ok hb (by omega)
  ·exact GV.ok ha (by omega)
 ·split
  ·exact(ahm _ _).mono (by omega)
  ·split
   ·exact(agS _ _).mono (by omega)
   ·split
    ·exact GV.er (by decide)
    ·split
     ·exact GV.ok (H9 _) (by rw[zH];omega)
     ·split
      ·exact GV.ok (H9 _) (by rw[zH];omega)
      ·exact(Rk la.1 lb.1).2.2.mono (by omega)
end Go.Ft
namespace Go.Ft
open Go
attribute [local congr] gq
def I4(s:Str):Int:=(AJ s).getD 0
def aop:List Str:=[[99,111,110,116,97,105,110,115],[106,111,105,110],[115,112,108,105,116],[115,116,97,114,116,115,119,105,116,104],[101,110,100,115,119,105,116,104],[100,101,102,97,117,108,116]]
theorem abm(s:Str):AJ s=some (I4 s)∧Gb s=some (if I4 s=0 then -1 else I4 s)∧(I4 s=0∨I4 s=1∨(I4 s=2∧s∈aop)):=by
 unfold I4 AJ Gb aop;by_cases h1:s=[108,101,110]
 ·simp[h1]
 by_cases h2:s=[108,111,119,101,114]
 ·simp[h2]
 by_cases h3:s=[117,112,112,101,114]
 ·simp[h3]
 by_cases h4:s=[115,116,114,105,110,103]
 ·simp[h4]
 by_cases h5:s=[105,110,116]
 ·simp[h5]
 by_cases h6:s=[107,101,121,115]
 ·simp[h6]
 by_cases h7:s=[99,111,110,116,97,105,110,115]
 ·simp[h7]
 by_cases h8:s=[106,111,105,110]
 ·simp[h8]
 by_cases h9:s=[115,112,108,105,116]
 ·simp[h9]
 by_cases h10:s=[115,116,97,114,116,115,119,105,116,104]
 ·simp[h10]
 by_cases h11:s=[101,110,100,115,119,105,116,104]
 ·simp[h11]
 by_cases h12:s=[100,101,102,97,117,108,116]
 ·simp[h12]
 simp[h1,h2,h3,h4,h5,h6,h7,h8,h9,h10,h11,h12]
def JO:List aB→Str→ah × Int
 | [],_=>wm 10
 | x::r,n=>if x.name=n then okV x.value else JO r n
def nP:List (ah × Int)→List ah × Int
 | []=>([],0)
 | p::r=>if p.2≠0 then ([],p.2)else if (nP r).2≠0 then ([],(nP r).2)else (p.1::(nP r).1,0)
def E9(k:Int)(n:Str)(keys:List Str)(vs:List ah):ah × Int:=
 if k=9 then (if xF (FV vs)≤16 then okV (FV vs)else wm 13)
 else if k=10 then YZ (List.zipWith aB.mk keys vs)
 else match vs with
  | [a]=>if k=3 then Qb a (mkS n)else if k=6 then unS n a else aaP n a
  | [a,b]=>if k=4 then Qb a b else if k=7 then ZG n a b else aat n a b
  | _=>wm 99
def J_(b:ah × Int):ah × Int:=if b.2≠0 then wm b.2 else if b.1.kind≠1 then wm 9 else b
def acO(a b c:ah × Int):ah × Int:=if a.2≠0 then wm a.2 else if a.1.kind≠1 then wm 9 else if a.1.dD then b else c
def r_(n:Str)(a b:ah × Int):ah × Int:=if a.2≠0 then wm a.2 else if a.1.kind≠1 then wm 9 else if a.1.dD=decide (n=[124,124])then a else J_ b
def IL(k:Int)(n:Str)(keys:List Str)(rs:List (ah × Int)):ah × Int:=
 if k=8 then (match rs with|[a,b,c]=>acO a b c|_=>wm 99)
 else if k=7∧(n=[38,38]∨n=[124,124])then (match rs with|[a,b]=>r_ n a b|_=>wm 99)
 else if k=5∧I4 n=0 then wm 10
 else if k=5∧I4 n≠rs.length then wm 1
 else if (nP rs).2≠0 then wm (nP rs).2 else E9 k n keys (nP rs).1
mutual
def l9(env:List aB):aj→ah × Int
 | ⟨k,n,v,args,keys⟩=>if k=1 then okV v else if k=2 then JO env n else IL k n keys (evL env args)
def evL(env:List aB):List aj→List (ah × Int)
 | []=>[]
 | x::r=>l9 env x::evL env r
end
theorem acG(env:List aB):∀l:List aj,evL env l=l.map (l9 env)
 | []=>rfl
 | x::r=>by rw[evL,acG env r,arq]
theorem abd(env:List aB)(e:aj):l9 env e=if e.kind=1 then okV e.value else if e.kind=2 then JO env e.name else IL e.kind e.name e.keys (e.args.map (l9 env)):=by
 cases e;rw[l9,acG]
theorem VP:∀(l seen:List Str),Nv seen l=false→l.Nodup∧∀x∈l,x∉seen
 | [],_,_=>⟨List.nodup_nil,fun x hx=>by cases hx⟩
 | s::r,seen,h=>by
  rw[Nv,arF]at h;obtain⟨i1,i2⟩:=VP r _ h.2
  have h1:s∉seen:=by
   intro hm;have:=h.1;rw[List.contains_iff_mem.2 hm]at this;cases this
  refine⟨List.nodup_cons.2 ⟨fun hm=>?_,i1⟩,fun x hx=>?_⟩
  ·exact i2 s hm (by simp)
  ·rcases arB.1 hx with rfl|hx
   ·exact h1
   ·exact fun hm=>i2 x hx (by simp[hm])
structure Fm(e:aj):Prop where
 len:e.args.length≤1024
 kind:1≤e.kind∧e.kind≤10
 lit:e.kind=1→VV e.value
 k3:e.kind=3→∃a,e.args=[a]
 arw:e.kind=3→e.name.length≤64
 k4:e.kind=4→∃a b,e.args=[a,b]
 k6:e.kind=6→(∃a,e.args=[a])∧(e.name=[33]∨e.name=[45])
 k7:e.kind=7→(∃a b,e.args=[a,b])∧e.name∈opsL
 k8:e.kind=8→∃a b c,e.args=[a,b,c]
 k10:e.kind=10→e.keys.length=e.args.length∧(∀k∈e.keys,uZ k=true)∧e.keys.Nodup
theorem ah4{e:aj}{level:Nat}(h:G6 e level=0):Fm e∧∀x∈e.args,G6 x (level+1)=0:=by
 obtain⟨x1,x2⟩:=ac_ h;obtain⟨f1,f2,f3⟩:=aaf x1;obtain⟨p1,p2,p3⟩:=Xr f1
 have p4:JZ e=true:=by
  unfold xI at f1;simp only[aq5]at f1;exact f1.2
 have hd:Nv [] e.keys=false:=by
  unfold Bh at x1;split at x1
  ·omega
  ·split at x1
   ·omega
   ·split at x1
    ·rename_i hq;simp only[aq5,arA]at hq;exact absurd x1 hq.2
    ·split at x1
     ·omega
     ·split at x1
      ·omega
      ·rename_i hq;simpa using hq
 unfold Ep at p1;simp only[arH,arF,aru]at p1;refine⟨⟨f3,by omega,fun hk=>(Pe _).1 (f2 hk),fun hk=>?_,fun hk=>?_,fun hk=>?_,fun hk=>?_,fun hk=>?_,fun hk=>?_,fun hk=>?_⟩,x2⟩
 ·exact len1 (by unfold wI at p3;simp[hk]at p3;omega)
 ·unfold Ey at p2;simp[hk]at p2;unfold j4 at p2;simp only[aq5]at p2;have:=p2.1;unfold isName at this;simp only[aq5,aqW]at this;exact this.1.1.2
 ·exact len2 (by unfold wI at p3;simp[hk]at p3;omega)
 ·refine⟨len1 (by unfold wI at p3;simp[hk]at p3;omega),?_⟩;unfold Ey at p2;simp[hk]at p2;exact p2
 ·refine⟨len2 (by unfold wI at p3;simp[hk]at p3;omega),?_⟩;unfold Ey at p2;simp[hk]at p2;exact aay p2
 ·exact aqA (by unfold wI at p3;simp[hk]at p3;omega)
 ·unfold JZ at p4;simp[hk]at p4;refine⟨by omega,fun k hkm=>?_,(VP _ _ hd).1⟩;have:=p4.2 k hkm;simpa using this
theorem Nz:∀ {rs:List (ah × Int)} {N:Nat},(nP rs).2=0→(∀p∈rs,p.2=0)∧(nP rs).1=rs.map (·.1)
 | [],_,_=>⟨(fun p hp=>by cases hp),rfl⟩
 | p::r,N,h=>by
  rw[nP]at h⊢;split at h
  ·rename_i hp;exact absurd h hp
  ·rename_i hp;split at h
   ·rename_i hr;exact absurd h hr
   ·rename_i hr;simp only[ash,asV]at hp hr;obtain⟨i1,i2⟩:=Nz (N:=N) hr;refine⟨fun q hq=>?_,?_⟩
    ·rcases arB.1 hq with rfl|hq
     ·exact hp
     ·exact i1 q hq
    ·rw[aqH (by simpa using hp),aqH (by simpa using hr),i2,arq]
theorem ag8{env:List aB}{N:Nat}(h:∀x∈env,VV x.value∧x.value.bulk≤N)(n:Str):GV (JO env n) N:=by
 induction env with
 | nil=>exact GV.er (by decide)
 | cons x r ih=>
  rw[JO];split
  ·exact GV.ok (h x (by simp)).1 (h x (by simp)).2
  ·exact ih fun y hy=>h y (by simp[hy])
theorem ahA{b:ah × Int}{N:Nat}(h:GV b N):GV (J_ b) N:=by
 unfold J_;split
 ·rename_i h0;exact GV.er h0
 ·split
  ·exact GV.er (by decide)
  ·exact h
theorem V9{keys:List Str}{vs:List ah}(hl:keys.length=vs.length)(hn:vs.length≤1024)(hk:∀k∈keys,uZ k=true)(hd:keys.Nodup)(hv:∀v∈vs,VV v∧v.bulk<1152921504606846976):Ent (List.zipWith aB.mk keys vs):=by
 have hm:(List.zipWith aB.mk keys vs).map (·.name)=keys:=by
  clear hk hd hv hn
  induction keys generalizing vs with
  | nil=>simp
  | cons k ks ih=>
   cases vs with
   | nil=>simp at hl
   | cons v vs=>simp only[ar8,arq,ih (by simpa using hl)]
 have hmv:∀x∈List.zipWith aB.mk keys vs,x.name∈keys∧x.value∈vs:=by
  clear hk hd hv hn hm
  induction keys generalizing vs with
  | nil=>intro x hx;simp at hx
  | cons k ks ih=>
   cases vs with
   | nil=>intro x hx;simp at hx
   | cons v vs=>
    intro x hx;simp only[ar8,arB]at hx;rcases hx with rfl|hx
    ·simp
    ·have:=ih (by simpa using hl) x hx;exact⟨by simp[this.1],by simp[this.2]⟩
 exact⟨by simp;omega,fun x hx=>hk _ (hmv x hx).1,fun x hx=>hv _ (hmv x hx).2,by rw[hm];exact hd⟩
theorem X5:∀(keys:List Str) (vs:List ah),(∀k∈keys,k.length≤64)→((List.zipWith aB.mk keys vs).map fun x=>x.value.bulk).sum≤(vs.map ah.bulk).sum∧((List.zipWith aB.mk keys vs).map fun x=>x.name.length+1).sum≤keys.length*65
 | [],_,_=>by simp
 | k::ks,[],_=>by simp
 | k::ks,v::vs,h=>by
  obtain⟨h1,h2⟩:=X5 ks vs fun x hx=>h x (by simp[hx]);have:=h k (by simp);simp only[ar8,arq,arJ,aq2,asP];omega
theorem ajV{vars:List aB}(H:Ent vars):GV (YZ vars) ((vars.map fun x=>x.value.bulk).sum+(vars.map fun x=>x.name.length+1).sum+7):=by
 unfold YZ;split
 ·exact GV.er (by decide)
 ·rename_i h;refine GV.ok (ajU H h) ?_;have hp:=vG vars;rw[qA,ah.nR]
  have e1:((yP (jL vars)).aP.map ah.bulk).sum=(vars.map fun x=>x.value.bulk).sum:=by
   simp only[yP,arT];exact(hp.map _).sum_nat
  have e2:((yP (jL vars)).keys.map fun z:Str=>z.length+1).sum=(vars.map fun x=>x.name.length+1).sum:=by
   simp only[yP,arT];exact(hp.map _).sum_nat
  have e3:(yP (jL vars)).bJ=[]:=rfl;rw[e1,e2,e3];simp;omega
def WB:Nat:=2199023255552
theorem agC{e:aj}(F:Fm e){vs:List ah}(hl:vs.length=e.args.length)(hv:∀v∈vs,VV v∧v.bulk<1152921504606846976):GV (E9 e.kind e.name e.keys vs) ((vs.map ah.bulk).sum+6000000):=by
 unfold E9;by_cases h9:e.kind=9
 ·rw[aqJ h9];split
  ·rename_i hle;refine GV.ok ⟨(Xa (by have:=F.len;omega) fun x hx=>(hv x hx).1).1,hle⟩ (by rw[Eh];omega)
  ·exact GV.er (by decide)
 ·rw[aqH h9];by_cases h10:e.kind=10
  ·rw[aqJ h10];obtain⟨k1,k2,k3⟩:=F.k10 h10;have hlen:=F.len;have aqP:∀k∈e.keys,k.length≤64:=fun k hk=>(Ay (k2 k hk)).2;obtain⟨z1,z2⟩:=X5 e.keys vs aqP;have:e.keys.length*65≤1024*65:=arx _ (by omega);exact(ajV (V9 (by omega) (by omega) k2 k3 hv)).mono (by omega)
  ·rw[aqH h10]
   match vs,hv with
   | [],_=>exact GV.er (by decide)
   | [a],hv=>
    obtain⟨a1,a2⟩:=hv a (by simp);simp only[arq,ar_,arJ,List.sum_nil];split
    ·exact(acr a1).mono (by omega)
    ·split
     ·exact(amm a1).mono (by omega)
     ·exact(ajN a1).mono (by omega)
   | [a,b],hv=>
    obtain⟨a1,a2⟩:=hv a (by simp);obtain⟨b1,b2⟩:=hv b (by simp);simp only[arq,ar_,arJ,List.sum_nil];split
    ·exact(acr a1).mono (by omega)
    ·split
     ·exact(akt a1 b1).mono (by omega)
     ·exact(ajd a1 b1).mono (by omega)
   | a::b::c::r,_=>exact GV.er (by decide)
theorem Dx:∀l:List aj,Fj l=(l.map ecnt).sum
 | []=>rfl
 | x::r=>by rw[Fj,Dx r,arq,arJ]
theorem Hf{α:Type}{f g:α→Nat}:∀ {l:List α},(∀x∈l,f x≤g x)→(l.map f).sum≤(l.map g).sum
 | [],_=>by simp
 | x::l,h=>by
  have:=h x (by simp);have:=Hf (l:=l) fun y hy=>h y (by simp[hy]);simp only[arq,arJ];omega
theorem Qr{α:Type}{f:α→Nat}{c:Nat}:∀ {l:List α},(l.map fun x=>f x*c).sum=(l.map f).sum*c
 | []=>by simp
 | x::l=>by simp only[arq,arJ,Qr (l:=l),asP]
def SE(e:aj):Prop:=e.bulk≤1099511627776∧ecnt e≤4096
theorem SE.arg{e x:aj}(h:SE e)(hx:x∈e.args):SE x:=by
 obtain⟨h1,h2⟩:=h;have h3:=kr hx;have h4:=CY e;have h5:=KH (f:=ecnt) hx;rw[Dx]at h4;exact⟨by omega,by omega⟩
theorem acH{W:Nat}(hW:16777216≤W∧W≤2199023255552){env:List aB}(hE:∀x∈env,VV x.value∧x.value.bulk≤W):∀(b:Nat) (e:aj) (level:Nat),e.bulk≤b→e.bulk≤W→SE e→G6 e level=0→GV (l9 env e) (ecnt e*W)
 | 0,e,_,h,_,_,_=>by have:=e.kT;omega
 | b+1,e,level,h,hbW,hS,hx=>by
  obtain⟨hB,hC⟩:=(id hS:SE e);obtain⟨F,x2⟩:=ah4 hx;have hec:=CY e;have hcl:=Ii _ e (aq9 _);have ih:∀x∈e.args,GV (l9 env x) (ecnt x*W):=fun x hx=>acH hW hE b x (level+1) (by have:=kr hx;omega) (by have:=kr hx;omega) (hS.arg hx) (x2 x hx)
  have one:W≤ecnt e*W:=by
   have:1*W≤ecnt e*W:=arx _ (by omega);omega
  have mem:∀x∈e.args,ecnt x*W≤ecnt e*W:=fun x hx=>arx _ (by
   have:=KH (f:=ecnt) hx
   rw[Dx]at hec;omega)
  rw[abd];by_cases h1:e.kind=1
  ·rw[aqJ h1];exact GV.ok (F.lit h1) (by have:=JU e;omega)
  ·rw[aqH h1];by_cases h2:e.kind=2
   ·rw[aqJ h2];exact(ag8 hE e.name).mono (by omega)
   ·rw[aqH h2];unfold IL;by_cases h8:e.kind=8
    ·rw[aqJ h8];obtain⟨x,y,z,ha⟩:=F.k8 h8;rw[ha]at ih mem⊢;simp only[arq,ar_];unfold acO;split
     ·rename_i h0;exact GV.er h0
     ·split
      ·exact GV.er (by decide)
      ·split
       ·exact(ih y (by simp)).mono (mem y (by simp))
       ·exact(ih z (by simp)).mono (mem z (by simp))
    ·rw[aqH h8];split
     ·rename_i h7;obtain⟨⟨x,y,ha⟩,_⟩:=F.k7 h7.1;rw[ha]at ih mem⊢;simp only[arq,ar_];unfold r_;split
      ·rename_i h0;exact GV.er h0
      ·split
       ·exact GV.er (by decide)
       ·split
        ·exact(ih x (by simp)).mono (mem x (by simp))
        ·exact(ahA (ih y (by simp))).mono (mem y (by simp))
     ·split
      ·exact GV.er (by decide)
      ·split
       ·exact GV.er (by decide)
       ·split
        ·rename_i h0;exact GV.er h0
        ·rename_i h0;simp only[ash,asV]at h0;obtain⟨o1,o2⟩:=Nz (N:=0) h0
         have hv:∀v∈(nP (e.args.map (l9 env))).1,VV v∧v.bulk<1152921504606846976:=by
          intro v hv;rw[o2,arT]at hv;obtain⟨x,hx,rfl⟩:=ar4.1 hv;have hz:=o1 _ (ar6 hx);obtain⟨g1,g2⟩:=(ih x hx).1 hz;have:=mem x hx;have:ecnt e*W≤4096*W:=arx _ hC;exact⟨g1,by simp only[asL];omega⟩
         refine(agC F (by rw[o2];simp) hv).mono ?_;rw[o2,arT,arT];have s1:=Hf (l:=e.args) (f:=(ah.bulk ∘ fun x=>x.1) ∘ l9 env) (g:=fun x=>ecnt x*W) fun x hx=>((ih x hx).1 (o1 _ (ar6 hx))).2;rw[Qr]at s1;rw[hec,Dx,asP];omega
theorem Xv{env:List aB}(hE:∀x∈env,VV x.value∧x.value.bulk≤1048576)(b:Nat)(e:aj)(level:Nat)(h:e.bulk≤b)(hS:SE e)(hx:G6 e level=0):GV (l9 env e) (ecnt e*WB):=
 acH (W:=WB) ⟨by decide,by decide⟩ (fun x hx=>⟨(hE x hx).1,by have:=(hE x hx).2;have hW:WB=2199023255552:=rfl;omega⟩) b e level h (by have:=hS.1;have hW:WB=2199023255552:=rfl;omega) hS hx
end Go.Ft
namespace Go.Ft
open Go
attribute [local congr] gq
theorem find_spec{env:List aB}(hl:env.length<4611686018427387904)(n:Str):tJ env n=some (AU (JO env n)):=by
 unfold tJ;rw[eH (F:=fun k (_:Unit) i=>pE env n k i) (l:=env) (body:=fun _ e1 (_:Unit) r=>if e1.name==n then some (.ok e1.value)else r ()) (fin:=fun _=>dR (AB 10) (fun e2=>some (.bad e2)) fun _=>some (.ok (ah.mk 0 false 0 ([]:Str) [] []))) hl (fun k s i=>rfl) ()]
 have key:∀(t:List aB) (i:Nat),eB (R:=fE aG ah) (fun _ e1 (_:Unit) r=>if e1.name==n then some (.ok e1.value)else r ()) (fun _=>dR (AB 10) (fun e2=>some (.bad e2)) fun _=>some (.ok (ah.mk 0 false 0 ([]:Str) [] []))) i t ()=some (AU (JO t n)):=by
  intro t
  induction t with
  | nil=>intro i;rfl
  | cons x r ih=>
   intro i;rw[eB,JO];by_cases hx:x.name=n
   ·rw[aqJ (by simpa using hx),aqJ hx];rfl
   ·rw[aqH (by simpa using hx),aqH hx];exact ih (i+1)
 exact key env 0
theorem apR{go:aj→Option (fE aG ah)}{f:aj→ah × Int}:∀(l:List aj) (i:Nat) (out:List ah),(∀x∈l,go x=some (AU (f x)))→out.length+l.length≤rM→
  eB (R:=fE aG (List ah)) (fun _ e1 (bK:List ah) r=>dR (go e1) (fun e2=>some (.bad e2)) fun x2=>av (app bK [x2]) fun yQ=>r yQ) (fun bK=>some (.ok bK)) i l out=some (AU ((out++(nP (l.map f)).1,(nP (l.map f)).2):List ah × Int))
 | [],i,out,_,_=>by simp[eB,nP,AU]
 | x::r,i,out,h,hl=>by
  simp only[aq2]at hl;rw[eB,h x (by simp),arq,nP];by_cases h0:(f x).2=0
  ·have e:AU (f x)=.ok (f x).1:=aqJ h0;rw[e,jo,mO (by simp;omega),ak,aqH (by simpa using h0)];refine(apR r (i+1) (out++[(f x).1]) (fun y hy=>h y (by simp[hy])) (by simp;omega)).trans ?_;by_cases h1:(nP (r.map f)).2=0
   ·rw[aqH (by simpa using h1),h1];simp[AU]
   ·rw[aqJ h1];simp[AU,h1]
  ·have e:AU (f x)=.bad ⟨(f x).2⟩:=aqH h0;rw[e,VZ,aqJ h0];simp[AU,h0]
theorem iM{α β:Type}(p:α × Int)(F:α→Option (fE aG β)):dR (some (AU p)) (fun e=>some (.bad e)) F=if p.2=0 then F p.1 else some (.bad ⟨p.2⟩):=by
 unfold AU;split<;>rfl
theorem ahF(p:ah × Int):nP [p]=if p.2≠0 then ([],p.2)else ([p.1],0):=by
 rw[nP,nP];simp
theorem alH(p q:ah × Int):nP [p,q]=if p.2≠0 then ([],p.2)else if q.2≠0 then ([],q.2)else ([p.1,q.1],0):=by
 rw[nP,ahF];by_cases hp:p.2=0
 ·by_cases hq:q.2=0<;>simp[hp,hq]
 ·simp[hp]
theorem aea(p:ah × Int):(if p.2=0 then some (.ok p.1)else some (.bad ⟨p.2⟩):Option (fE aG ah))=some (AU p):=by unfold AU;split<;>rfl
theorem ad_(p:ah × Int):dR (if p.2=0 then some (.ok p.1)else some (.bad ⟨p.2⟩):Option (fE aG ah)) (fun e=>some (.bad e)) (fun x=>some (.ok x))=some (AU p):=by unfold AU;split<;>rfl
theorem Zq{e:aj}{vs:List ah}{K:List aB→Option (fE aG ah)}(hk:e.keys.length=vs.length)(hl:vs.length≤1024):∀(t:List ah) (i:Nat) (o:List aB),t=vs.drop i→o.length=i→
  eB (fun(i:Nat) e3 (o:List aB) r=>av (idx e.keys (i:Int)) fun e4=>av (app o [(aB.mk e4 e3)]) fun FY=>r FY) K i t o=K (o++List.zipWith aB.mk (e.keys.drop i) t)
 | [],i,o,_,_=>by simp[eB]
 | v::t,i,o,ht,ho=>by
  have FP:rM=4294967296:=rfl;obtain⟨h1,e1,e2⟩:=uw ht;have hi:i<e.keys.length:=by omega
  rw[eB,lX hi,ak,mO (by simp;omega),ak];refine(Zq hk hl t (i+1) _ e2 (by simp;omega)).trans ?_;rw[aqZ hi,ar8,asW,List.singleton_append]
theorem acF{env:List aB}(hl:env.length<4611686018427387904)(hE:∀x∈env,VV x.value∧x.value.bulk≤1048576):∀(b:Nat) (e:aj) (level k:Nat),e.bulk≤b→SE e→G6 e level=0→3*b+3≤k→
  dw k env e=some (AU (l9 env e))
 | 0,e,_,_,h,_,_,_=>by have:=e.kT;omega
 | b+1,e,level,k,h,hS,hx,hk=>by
  obtain⟨hB,hC⟩:=(id hS:SE e);obtain⟨F,x2⟩:=ah4 hx;have hW:WB=2199023255552:=rfl;have FP:rM=4294967296:=rfl;have hlen:=F.len;obtain⟨k1,rfl⟩:∃k1,k=k1+3:=⟨k-3,by omega⟩;have ih:∀k2,3*b+3≤k2→∀x∈e.args,dw k2 env x=some (AU (l9 env x)):=fun k2 hk2 x hx=>acF hl hE b x (level+1) k2 (by have:=kr hx;omega) (hS.arg hx) (x2 x hx) hk2
  have gv:∀x∈e.args,(l9 env x).2=0→VV (l9 env x).1∧(l9 env x).1.bulk<1152921504606846976:=by
   intro x hx hz;have hxb:=kr hx;obtain⟨g1,g2⟩:=(Xv hE b x (level+1) (by omega) (hS.arg hx) (x2 x hx)).1 hz;have hcl:=Ii _ x (aq9 _);have:ecnt x*WB≤4096*WB:=arx _ (hS.arg hx).2;exact⟨g1,by omega⟩
  have all:∀k2,3*b+3≤k2→nG (dw k2) env e.args BIG [] 0=some (AU (nP (e.args.map (l9 env)))):=by
   intro k2 hk2;rw[eH (F:=fun k s i=>nG (dw k2) env e.args k s i) (l:=e.args) (body:=fun _ e1 (bK:List ah) r=>dR (dw k2 env e1) (fun e2=>some (.bad e2)) fun x2=>av (app bK [x2]) fun yQ=>r yQ) (fin:=fun bK=>some (.ok bK)) (by omega) (fun k s i=>rfl)];have:=apR (go:=dw k2 env) (f:=l9 env) e.args 0 [] (ih k2 hk2) (by simp;omega);simpa using this
  have anp:∀j,3*b+3≤j→fq (j+1) env e.args=some (AU (nP (e.args.map (l9 env)))):=fun j hj=>all j hj
  have akx:(nP (e.args.map (l9 env))).2=0→(nP (e.args.map (l9 env))).1.length=e.args.length∧∀v∈(nP (e.args.map (l9 env))).1,VV v∧v.bulk<1152921504606846976:=by
   intro h0;obtain⟨o1,o2⟩:=Nz (N:=0) h0;refine⟨by rw[o2];simp,fun v hv=>?_⟩;rw[o2,arT]at hv;obtain⟨x,hx,rfl⟩:=ar4.1 hv;exact gv x hx (o1 _ (ar6 hx))
  rw[dw,uq,abd];have hkind:=F.kind;have hkc:e.kind=1∨e.kind=2∨e.kind=3∨e.kind=4∨e.kind=5∨e.kind=6∨e.kind=7∨e.kind=8∨e.kind=9∨e.kind=10:=by omega
  have i0:∀(x:aj) (r:List aj),idx (x::r) 0=some x:=fun x r=>rfl;have i1:∀(x y:aj) (r:List aj),idx (x::y::r) 1=some y:=fun x y r=>rfl;have i2:∀(x y z:aj) (r:List aj),idx (x::y::z::r) 2=some z:=fun x y z r=>rfl;have v0:∀(x:ah) (r:List ah),idx (x::r) 0=some x:=fun x r=>rfl;have v1:∀(x y:ah) (r:List ah),idx (x::y::r) 1=some y:=fun x y r=>rfl;rcases hkc with hk'|hk'|hk'|hk'|hk'|hk'|hk'|hk'|hk'|hk'
  ·rw[aqJ (by simpa using hk'),aqJ hk'];rfl
  ·rw[aqH (by simp[hk']),aqJ (by simpa using hk'),aqH (by omega),aqJ hk',find_spec hl,AV]
  ·obtain⟨x,ha⟩:=F.k3 hk';have e3:=ih (k1+2) (by omega) x (by rw[ha];simp);have g3:=gv x (by rw[ha];simp);rw[ha,i0];simp only[hk',ak,e3];unfold IL E9;rw[show (([x]:List aj).map (l9 env))=[l9 env x]from rfl,ahF];simp only[mJ,ak];by_cases h0:(l9 env x).2=0
   ·obtain⟨g1,g2⟩:=g3 h0;have he:=SI (b:=mkS e.name) g1 (by omega) (fun h=>by cases h.2);have he':xY (l9 env x).1 (ah.mk 3 false 0 e.name [] [])=some (AU (Qb (l9 env x).1 (mkS e.name))):=he;simp[h0,iM,he']
    first|exact aea _|exact ad_ _|exact AV _
   ·simp[h0,iM,qU h0]
  ·obtain⟨x,y,ha⟩:=F.k4 hk';have e3:=ih (k1+2) (by omega) x (by rw[ha];simp);have e4:=ih (k1+2) (by omega) y (by rw[ha];simp);have g3:=gv x (by rw[ha];simp);rw[ha,i0,i1];simp only[hk',ak,e3,e4];unfold IL E9;rw[show (([x,y]:List aj).map (l9 env))=[l9 env x,l9 env y]from rfl,alH];by_cases h0:(l9 env x).2=0
   ·obtain⟨g1,g2⟩:=g3 h0;have he:=Xy (b:=(l9 env y).1) g1 (by omega);by_cases h1:(l9 env y).2=0
    ·simp[h0,h1,iM,he]
     first|exact aea _|exact ad_ _|exact AV _
    ·simp[h0,h1,iM,qU h1]
   ·simp[h0,iM,qU h0]
  ·
   have hc5:eG (k1+2) env e=qx (dw (k1+1)) (eG (k1+1)) (fq (k1+1)) (dQ (k1+1)) (dJ (k1+1)) env e:=rfl;obtain⟨c1,c2,c3⟩:=abm e.name;have ha:=anp k1 (by omega);simp only[hk'];rw[hc5,qx,c1,ak,jO,jO,ha];unfold IL;have hlm:(e.args.map (l9 env)).length=e.args.length:=by simp
   rw[hlm];rcases c3 with c3|c3|⟨c3,c4⟩
   ·rw[c3];simp[qU]
   ·rw[c3];by_cases hlen:e.args.length=1
    ·by_cases h0:(nP (e.args.map (l9 env))).2=0
     ·obtain⟨l1,l2⟩:=akx h0;obtain⟨a,hva⟩:=len1 (l1.trans hlen);rw[hva]at l2;obtain⟨g1,g2⟩:=l2 a (by simp);have ho:=agy (name:=e.name) g1 (by omega);simp[hlen,h0,iM,hva,v0,ho,E9]
      first|exact aea _|exact ad_ _|exact AV _
     ·simp[hlen,h0,iM,qU h0]
    ·have:¬((e.args.length:Int)=1):=by omega
     have t2:¬((1:Int)=(e.args.length:Int)):=by omega
     simp[this,t2,qU]
   ·rw[c3];by_cases hlen:e.args.length=2
    ·by_cases h0:(nP (e.args.map (l9 env))).2=0
     ·obtain⟨l1,l2⟩:=akx h0;obtain⟨a,b',hva⟩:=len2 (l1.trans hlen);rw[hva]at l2;obtain⟨g1,g2⟩:=l2 a (by simp);obtain⟨g3,g4⟩:=l2 b' (by simp);have ho:=afC (name:=e.name) g1 g3 (by omega) (by omega);simp[hlen,h0,iM,hva,v0,v1,ho,E9]
      first|exact aea _|exact ad_ _|exact AV _
     ·simp[hlen,h0,iM,qU h0]
    ·have:¬((e.args.length:Int)=2):=by omega
     have t2:¬((2:Int)=(e.args.length:Int)):=by omega
     simp[this,t2,qU]
  ·obtain⟨⟨x,ha⟩,_⟩:=F.k6 hk';have e3:=ih (k1+2) (by omega) x (by rw[ha];simp);have g3:=gv x (by rw[ha];simp);rw[ha,i0];simp only[hk',ak,e3];unfold IL E9;rw[show (([x]:List aj).map (l9 env))=[l9 env x]from rfl,ahF];by_cases h0:(l9 env x).2=0
   ·obtain⟨g1,g2⟩:=g3 h0;have he:=aaq (op:=e.name) g1;simp[h0,iM,he]
    first|exact aea _|exact ad_ _|exact AV _
   ·simp[h0,iM,qU h0]
  ·
   obtain⟨⟨x,y,ha⟩,hop⟩:=F.k7 hk';have hb5:dQ (k1+2) env e=nQ (dw (k1+1)) (eG (k1+1)) (fq (k1+1)) (dQ (k1+1)) (dJ (k1+1)) env e:=rfl;have e3:=ih (k1+1) (by omega) x (by rw[ha];simp);have e4:=ih (k1+1) (by omega) y (by rw[ha];simp);have g3:=gv x (by rw[ha];simp);have g4:=gv y (by rw[ha];simp);simp only[hk'];rw[hb5,nQ,ha,i0,i1];simp only[ak,e3,e4];unfold IL E9;rw[show (([x,y]:List aj).map (l9 env))=[l9 env x,l9 env y]from rfl,alH];by_cases hsc:e.name=[38,38]∨e.name=[124,124]
   ·have aa7:((e.name==([38,38]:Str))||(e.name==([124,124]:Str)))=true:=by simpa using hsc
    simp only[aa7,aqV,hsc,and_true,r_];by_cases h0:(l9 env x).2=0
    ·simp only[h0,iM,Ra];by_cases hb1:(l9 env x).1.kind=1
     ·have ed:((l9 env x).1.dD==(e.name==([124,124]:Str)))=decide ((l9 env x).1.dD=decide (e.name=[124,124])):=by
       have eb:(e.name==([124,124]:Str))=decide (e.name=[124,124]):=by rw[arR];simp
       rw[eb];rfl
      simp only[hb1,aqV,jo,ed,aqW];by_cases hs:(l9 env x).1.dD=decide (e.name=[124,124])
      ·have:AU (l9 env x)=.ok (l9 env x).1:=aqJ h0;simp[hs,this]
      ·unfold J_;by_cases h1:(l9 env y).2=0
       ·obtain⟨gy1,gy2⟩:=g4 h1;by_cases hb2:(l9 env y).1.kind=1
        ·have hy:ah.mk 1 (l9 env y).1.dD 0 ([]:Str) [] []=(l9 env y).1:=by
          have hp:=NV ((yU _).1 gy1.1).1;unfold qP at hp;simp only[aq5,ars,aq7,hb2]at hp;obtain⟨⟨⟨⟨_,q2⟩,q3⟩,q4⟩,q5⟩:=hp;generalize (l9 env y).1=w at *;cases w with
          | mk k bb n s l ks=>
           simp only at hb2 q2 q3 q4 q5;have z1:n=0:=by omega
           have z2:s=[]:=q3.elim (fun q=>by omega) fun q=>q;have z3:l=[]:=q4.elim (fun q=>by omega) fun q=>arI (by omega);have z4:ks=[]:=q5.elim (fun q=>by omega) fun q=>arI (by omega);subst z1 z2 z3 z4 hb2;rfl
         have:AU (l9 env y)=.ok (l9 env y).1:=aqJ h1;simp[hs,h1,hb2,fC,hy,this]
        ·simp[hs,h1,hb2,qU]
       ·simp[hs,h1,qU h1]
     ·simp[hb1,qU]
    ·simp[h0,iM,qU h0]
   ·have aa7:((e.name==([38,38]:Str))||(e.name==([124,124]:Str)))=false:=by
     rw[arF,aq4,aq4];exact⟨fun h=>hsc (.inl h),fun h=>hsc (.inr h)⟩
    simp only[aa7,aqS,aqT,hsc,and_false];by_cases h0:(l9 env x).2=0
    ·by_cases h1:(l9 env y).2=0
     ·obtain⟨gx1,gx2⟩:=g3 h0;obtain⟨gy1,gy2⟩:=g4 h1;have hb:=ZF (op:=e.name) gx1 gy1 (by omega) (by omega);simp only[iM,h0,h1,aqV];rw[hb];simp
      first|exact aea _|exact ad_ _|exact AV _
     ·simp[h0,h1,iM,qU h1]
    ·simp[h0,iM,qU h0]
  ·obtain⟨x,y,z,ha⟩:=F.k8 hk';have e3:=ih (k1+2) (by omega) x (by rw[ha];simp);have e4:=ih (k1+2) (by omega) y (by rw[ha];simp);have e5:=ih (k1+2) (by omega) z (by rw[ha];simp);rw[ha,i0,i1,i2];simp only[hk',ak,e3,e4,e5,AV,Ra];unfold IL acO;by_cases h0:(l9 env x).2=0
   ·by_cases hb1:(l9 env x).1.kind=1
    ·cases hbb:(l9 env x).1.dD<;>simp[h0,hb1,hbb,iM]
    ·simp[h0,hb1,iM,qU]
   ·simp[h0,iM,qU h0]
  ·have ha:=anp (k1+1) (by omega);simp only[hk'];rw[ha];unfold IL E9;by_cases h0:(nP (e.args.map (l9 env))).2=0
   ·obtain⟨l1,l2⟩:=akx h0
    have hv:wN (FV (nP (e.args.map (l9 env))).1) 1=if xF (FV (nP (e.args.map (l9 env))).1)≤16 then 0 else 13:=by
     rw[Mx _ _ 1 (aq9 _) (Xa (by omega) fun x hx=>(l2 x hx).1).1 (by omega)];refine gq (propext (by omega))
    have hbk:(FV (nP (e.args.map (l9 env))).1).bulk<4611686018427387904:=by
     rw[Eh];obtain⟨o1,o2⟩:=Nz (N:=0) h0;rw[o2,arT,arT];have s1:=Hf (l:=e.args) (f:=(ah.bulk ∘ fun x=>x.1) ∘ l9 env) (g:=fun x=>ecnt x*WB) fun x hx=>((Xv hE b x (level+1) (by have:=kr hx;omega) (hS.arg hx) (x2 x hx)).1 (o1 _ (ar6 hx))).2;rw[Qr,←Dx]at s1;have hec:=CY e;have hcl:=Ii _ e (aq9 _);have:Fj e.args*WB≤4096*WB:=arx _ (by omega);omega
    have hvv:=FW hbk;rw[hv]at hvv;have hm:Ew (nP (e.args.map (l9 env))).1=some (FV (nP (e.args.map (l9 env))).1):=rfl;simp only[iM,h0,aqV,hm,ak,hvv,jO];by_cases hle:xF (FV (nP (e.args.map (l9 env))).1)≤16
    ·simp[hle]
    ·simp[hle,qU]
   ·simp[h0,iM,qU h0]
  ·have he5:dJ (k1+2) env e=ni (dw (k1+1)) (eG (k1+1)) (fq (k1+1)) (dQ (k1+1)) (dJ (k1+1)) env e:=rfl;have ha:=anp k1 (by omega);have n1:(e.kind==1)=false:=by simp[hk']
   have n2:(e.kind==2)=false:=by simp[hk']
   have n3:(e.kind==3)=false:=by simp[hk']
   have n4:(e.kind==4)=false:=by simp[hk']
   have n5:(e.kind==5)=false:=by simp[hk']
   have n6:(e.kind==6)=false:=by simp[hk']
   have n7:(e.kind==7)=false:=by simp[hk']
   have n8:(e.kind==8)=false:=by simp[hk']
   have n9:(e.kind==9)=false:=by simp[hk']
   simp only[n1,n2,n3,n4,n5,n6,n7,n8,n9,aqS,aqT];rw[he5,ni,ha];unfold IL E9;by_cases h0:(nP (e.args.map (l9 env))).2=0
   ·obtain⟨l1,l2⟩:=akx h0;obtain⟨q1,q2,q3⟩:=F.k10 hk';simp only[iM,h0,aqV]
    rw[eH (F:=fun k s i=>l8 e (nP (e.args.map (l9 env))).1 k s i) (l:=(nP (e.args.map (l9 env))).1) (body:=fun(i:Nat) e3 (o:List aB) r=>av (idx e.keys (i:Int)) fun e4=>av (app o [(aB.mk e4 e3)]) fun FY=>r FY)
     (fin:=fun iD=>eO (Dk iD) fun x2 nH=>dR (dU (nH==0) nH) (fun e5=>some (.bad e5)) fun _=>some (.ok x2)) (by omega) (fun k s i=>rfl),Zq (e:=e) (vs:=(nP (e.args.map (l9 env))).1) (by omega) (by omega) (nP (e.args.map (l9 env))).1 0 [] rfl rfl]
    have H:=V9 (keys:=e.keys) (vs:=(nP (e.args.map (l9 env))).1) (by omega) (by omega) q2 q3 l2;rw[asw,arU,ai9 H];unfold YZ;split
    ·rw[aC,jO];simp[hk',AU,ZV]
    ·rw[aC,jO];simp[hk',AU]
   ·simp[hk',h0,iM,qU h0]
end Go.Ft
namespace Go.Ft
open Go
attribute [local congr] gq
theorem aaE{env:List aB}(hl:env.length<4611686018427387904)(e:aj):yF e env BIG 0=some (JO env e.name):=by
 rw[eH (F:=fun k (_:Unit) i=>yF e env k i) (l:=env) (body:=fun(i:Nat) e1 (_:Unit) r=>if e1.name==e.name then av (idx env (i:Int)) fun e3=>some (e3.value,0)else r ()) (fin:=fun _=>some ((ah.mk 0 false 0 ([]:Str) [] []),10)) hl (fun k s i=>rfl) ()]
 have key:∀(t:List aB) (i:Nat),t=env.drop i→eB (fun(i:Nat) e1 (_:Unit) r=>if e1.name==e.name then av (idx env (i:Int)) fun e3=>some (e3.value,(0:Int))else r ()) (fun _=>some ((ah.mk 0 false 0 ([]:Str) [] []),10)) i t ()=some (JO t e.name):=by
  intro t
  induction t with
  | nil=>intro i _;rfl
  | cons x r ih=>
   intro i ht;obtain⟨h1,e1,e2⟩:=uw ht;rw[eB,JO,lX h1,←e1];by_cases hx:x.name=e.name
   ·rw[aqJ (by simpa using hx),aqJ hx];rfl
   ·rw[aqH (by simpa using hx),aqH hx];exact ih (i+1) e2
 exact key env 0 rfl
theorem apQ{go:aj→Option (ah × Int)}{f:aj→ah × Int}{K:List ah→Option (ah × Int)}:∀(l:List aj) (i:Nat) (out:List ah),(∀x∈l,go x=some (f x))→out.length+l.length≤rM→
  eB (fun _ e1 (bK:List ah) r=>eO (go e1) fun x7 f1=>if f1 !=0 then some ((ah.mk 0 false 0 ([]:Str) [] []),f1)else av (app bK [x7]) fun l2=>r l2) K i l out=if (nP (l.map f)).2≠0 then some (wm (nP (l.map f)).2)else K (out++(nP (l.map f)).1)
 | [],i,out,_,_=>by simp[eB,nP]
 | x::r,i,out,h,hl=>by
  simp only[aq2]at hl;rw[eB,h x (by simp),arq,nP];by_cases h0:(f x).2=0
  ·have e:(some (f x):Option (ah × Int))=some ((f x).1,0):=by rw[←h0]
   rw[e,aC,aqH (by simp),mO (by simp;omega),ak,aqH (c:=(f x).2≠0) (by simpa using h0)];refine(apQ r (i+1) (out++[(f x).1]) (fun y hy=>h y (by simp[hy])) (by simp;omega)).trans ?_;by_cases h1:(nP (r.map f)).2=0
   ·simp[h1]
   ·simp[h1]
  ·have e:(some (f x):Option (ah × Int))=some ((f x).1,(f x).2):=rfl;rw[e,aC,aqJ (by simpa using h0),aqJ (c:=(f x).2≠0) h0,aqJ (by simpa using h0)];rfl
theorem Vr{e:aj}{vs:List ah}{K:List aB→Option (ah × Int)}(hk:e.keys.length=vs.length)(hl:vs.length≤1024):∀(t:List ah) (i:Nat) (o:List aB),t=vs.drop i→o.length=i→
  eB (fun(i:Nat) e3 (o:List aB) r=>av (idx e.keys (i:Int)) fun e14=>av (idx vs (i:Int)) fun e15=>av (app o [(aB.mk e14 e15)]) fun FY=>r FY) K i t o=K (o++List.zipWith aB.mk (e.keys.drop i) t)
 | [],i,o,_,_=>by simp[eB]
 | v::t,i,o,ht,ho=>by
  have FP:rM=4294967296:=rfl;obtain⟨h1,e1,e2⟩:=uw ht;have hi:i<e.keys.length:=by omega
  rw[eB,lX hi,ak,lX h1,ak,mO (by simp;omega),ak,←e1];refine(Vr hk hl t (i+1) _ e2 (by simp;omega)).trans ?_;rw[aqZ hi,ar8,asW,List.singleton_append]
theorem XF{go:aj→List aB→Option (ah × Int)}{gb gc}{env:List aB}{x:aj}(h:go x env=some (l9 env x))(hz:(l9 env x).2≠0→(l9 env x).1=ZV):wQ go gb gc x env=some (J_ (l9 env x)):=by
 unfold wQ J_;rw[h];generalize l9 env x=p at *;obtain⟨v,c⟩:=p;rw[aC];by_cases h0:c=0
 ·subst h0;by_cases hk:v.kind=1
  ·simp[hk]
  ·simp[hk,wm,ZV]
 ·have:=hz h0;simp only at this;subst this;simp[h0,wm]
theorem aaD{e:aj}(F:Fm e){vs:List ah}(hl:vs.length=e.args.length)(hv:∀v∈vs,VV v∧v.bulk<1152921504606846976)(hb:(FV vs).bulk<4611686018427387904)(h3:3≤e.kind∧e.kind≠8)(h5:e.kind=5→(e.args.length:Int)=I4 e.name∧I4 e.name≠0)(h7:e.kind=7→e.name≠[38,38]∧e.name≠[124,124]):F9 e vs=some (E9 e.kind e.name e.keys vs):=by
 have hkind:=F.kind;have hlen:=F.len;have v0:∀(x:ah) (r:List ah),idx (x::r) 0=some x:=fun x r=>rfl;have v1:∀(x y:ah) (r:List ah),idx (x::y::r) 1=some y:=fun x y r=>rfl;unfold F9 E9;have hkc:e.kind=3∨e.kind=4∨e.kind=5∨e.kind=6∨e.kind=7∨e.kind=9∨e.kind=10:=by omega
 rcases hkc with hk|hk|hk|hk|hk|hk|hk
 ·obtain⟨x,ha⟩:=F.k3 hk;obtain⟨a,rfl⟩:=len1 (l:=vs) (by rw[hl,ha];rfl);obtain⟨g1,g2⟩:=hv a (by simp);simp only[hk,v0,ak,nX];exact(Px (b:=mkS e.name) g1 (by omega)).trans (by simp)
 ·obtain⟨x,y,ha⟩:=F.k4 hk;obtain⟨a,b,rfl⟩:=len2 (l:=vs) (by rw[hl,ha];rfl);obtain⟨g1,g2⟩:=hv a (by simp);simp only[hk,v0,v1,ak];exact(Px (b:=b) g1 (by omega)).trans (by simp)
 ·obtain⟨q1,q2⟩:=h5 hk;obtain⟨c1,c2,c3⟩:=abm e.name;rcases c3 with c3|c3|⟨c3,c4⟩
  ·exact absurd c3 q2
  ·obtain⟨a,rfl⟩:=len1 (l:=vs) (by omega);obtain⟨g1,g2⟩:=hv a (by simp);simp only[hk,v0,ak];have:=adw (name:=e.name) g1 (by omega);simp[this]
  ·obtain⟨a,b,rfl⟩:=len2 (l:=vs) (by omega);obtain⟨g1,g2⟩:=hv a (by simp);obtain⟨g3,g4⟩:=hv b (by simp);simp only[hk,v0,v1,ak];have:=adr (name:=e.name) g1 g3 (by omega) (by omega) c4;simp[this]
 ·obtain⟨⟨x,ha⟩,hn⟩:=F.k6 hk;obtain⟨a,rfl⟩:=len1 (l:=vs) (by rw[hl,ha];rfl);obtain⟨g1,g2⟩:=hv a (by simp);have la:=iR g1.1;simp only[hk,v0,ak];unfold unS;rcases hn with hn|hn
  ·rw[hn];by_cases h1:a.kind=1
   ·simp[h1,jd,okV,Vu]
   ·simp[h1,wm,ZV]
  ·rw[hn];by_cases h1:a.kind=2
   ·rw[rY (by omega)];simp[h1,okV,Xb]
   ·simp[h1,wm,ZV]
 ·obtain⟨⟨x,y,ha⟩,hop⟩:=F.k7 hk;obtain⟨a,b,rfl⟩:=len2 (l:=vs) (by rw[hl,ha];rfl);obtain⟨g1,g2⟩:=hv a (by simp);obtain⟨g3,g4⟩:=hv b (by simp);obtain⟨o1,o2⟩:=h7 hk;have:=WM (op:=e.name) g1 g3 g2 g4 hop o1 o2;simp only[hk,v0,v1,ak];simp[this]
 ·simp only[hk];have hr:=Am (v:=FV vs) hb;have hm:(ah.mk 4 false 0 ([]:Str) vs [])=FV vs:=rfl;rw[hm];unfold WI at hr;have e1:(FV vs).cu=0:=rfl;have e2:(FV vs).bJ.length=0:=rfl;have e3:(FV vs).aP=vs:=rfl;rw[e1,e2,e3,aqH (by omega),aqH (by omega)]at hr;by_cases hle:xF (FV vs)≤16
  ·rw[aqH (by omega)]at hr;simp[hr,hle]
  ·rw[aqJ (by omega)]at hr;simp[hr,hle]
 ·obtain⟨q1,q2,q3⟩:=F.k10 hk;have n3:(e.kind==3)=false:=by simp[hk]
  have n4:(e.kind==4)=false:=by simp[hk]
  have n5:(e.kind==5)=false:=by simp[hk]
  have n6:(e.kind==6)=false:=by simp[hk]
  have n7:(e.kind==7)=false:=by simp[hk]
  have n9:(e.kind==9)=false:=by simp[hk]
  simp only[n3,n4,n5,n6,n7,n9,aqS,aqT]
  rw[eH (F:=fun k s i=>yD e vs k s i) (l:=vs) (body:=fun(i:Nat) e3 (o:List aB) r=>av (idx e.keys (i:Int)) fun e14=>av (idx vs (i:Int)) fun e15=>av (app o [(aB.mk e14 e15)]) fun FY=>r FY) (fin:=fun iD=>Kz iD) (by omega) (fun k s i=>by
   rw[yD];by_cases hi:i<vs.length
   ·rw[aqJ (by simp;omega),aqJ (by simp;omega),lX hi];rfl
   ·rw[aqH (by simp;omega),aqH (by simp;omega)]),
   Vr (e:=e) (vs:=vs) (by omega) (by omega) vs 0 [] rfl rfl,asw,arU,ajB (V9 (by omega) (by omega) q2 q3 hv)]
  simp[hk]
theorem ahb{env:List aB}(hl:env.length<4611686018427387904)(hE:∀x∈env,VV x.value∧x.value.bulk≤1048576):∀(b:Nat) (e:aj) (level k:Nat),e.bulk≤b→SE e→G6 e level=0→3*b+3≤k→
  jC k e env=some (l9 env e)
 | 0,e,_,_,h,_,_,_=>by have:=e.kT;omega
 | b+1,e,level,k,h,hS,hx,hk=>by
  obtain⟨hB,hC⟩:=(id hS:SE e);obtain⟨F,x2⟩:=ah4 hx;have hW:WB=2199023255552:=rfl;have FP:rM=4294967296:=rfl;have hlen:=F.len;obtain⟨k1,rfl⟩:∃k1,k=k1+3:=⟨k-3,by omega⟩;have ih:∀k2,3*b+3≤k2→∀x∈e.args,jC k2 x env=some (l9 env x):=fun k2 hk2 x hx=>ahb hl hE b x (level+1) k2 (by have:=kr hx;omega) (hS.arg hx) (x2 x hx) hk2;have gvs:∀x∈e.args,GV (l9 env x) (ecnt x*WB):=fun x hx=>Xv hE b x (level+1) (by have:=kr hx;omega) (hS.arg hx) (x2 x hx);have hec:=CY e;have hcl:=Ii _ e (aq9 _)
  have gv:∀x∈e.args,(l9 env x).2=0→VV (l9 env x).1∧(l9 env x).1.bulk<1152921504606846976:=by
   intro x hx hz;obtain⟨g1,g2⟩:=(gvs x hx).1 hz;have hxb:=kr hx;have hcl:=Ii _ x (aq9 _);have:ecnt x*WB≤4096*WB:=arx _ (hS.arg hx).2;exact⟨g1,by omega⟩
  have i0:∀(x:aj) (r:List aj),idx (x::r) 0=some x:=fun x r=>rfl;have i1:∀(x y:aj) (r:List aj),idx (x::y::r) 1=some y:=fun x y r=>rfl;have i2:∀(x y z:aj) (r:List aj),idx (x::y::z::r) 2=some z:=fun x y z r=>rfl;have ahz:∀x∈e.args,ku (k1+1) x env=some (J_ (l9 env x)):=fun x hx=>XF (ih k1 (by omega) x hx) (gvs x hx).2;have hbr:lD (k1+2) e env=vN (jC (k1+1)) (lD (k1+1)) (ku (k1+1)) e env:=rfl
  have bz:∀p:ah × Int,(p.2≠0→(J_ p)=wm p.2)∧(p.2=0→p.1.kind≠1→J_ p=wm 9)∧(p.2=0→p.1.kind=1→J_ p=p):=by
   intro p;unfold J_;exact⟨fun h=>aqJ h,fun h h'=>by rw[aqH (by simpa using h),aqJ h'],fun h h'=>by rw[aqH (by simpa using h),aqH (by simpa using h')]⟩
  rw[jC,Hq,abd];by_cases h1:e.kind=1
  ·rw[aqJ (by simpa using h1),aqJ h1];rfl
  ·rw[aqH (by simpa using h1),aqH h1];by_cases h2:e.kind=2
   ·rw[aqJ (by simpa using h2),aqJ h2,aaE hl]
   ·rw[aqH (by simpa using h2),aqH h2];unfold IL;by_cases h8:e.kind=8
    ·rw[aqJ (by simpa using h8),aqJ h8,hbr,vN];obtain⟨x,y,z,ha⟩:=F.k8 h8;have e3:=ahz x (by rw[ha];simp);have e4:=ih (k1+1) (by omega) y (by rw[ha];simp);have e5:=ih (k1+1) (by omega) z (by rw[ha];simp);rw[ha,i0,i1,i2];simp only[ak,e3,e4,e5,arq,ar_,acO];obtain⟨b1,b2,b3⟩:=bz (l9 env x);by_cases q0:(l9 env x).2=0
     ·by_cases q1:(l9 env x).1.kind=1
      ·rw[b3 q0 q1];have ep:(some (l9 env x):Option (ah × Int))=some ((l9 env x).1,0):=by rw[←q0]
       rw[ep,aC];cases hb:(l9 env x).1.dD<;>simp[h8,q0,q1]
      ·rw[b2 q0 q1];simp[wm,ZV,q0,q1]
     ·rw[b1 q0];simp[wm,ZV,q0]
    ·rw[aqH (by simpa using h8),aqH h8];by_cases hsc:e.kind=7∧(e.name=[38,38]∨e.name=[124,124])
     ·have aa7:((e.kind==7)&&((e.name==([38,38]:Str))||(e.name==([124,124]:Str))))=true:=by simpa using hsc
      have n8:(e.kind==8)=false:=by simp[hsc.1]
      rw[aqJ aa7,aqJ hsc,hbr,vN];obtain⟨⟨x,y,ha⟩,_⟩:=F.k7 hsc.1;have e3:=ahz x (by rw[ha];simp);have e4:=ahz y (by rw[ha];simp);rw[ha,i0,i1];simp only[ak,e3,e4,arq,ar_,r_];obtain⟨b1,b2,b3⟩:=bz (l9 env x);by_cases q0:(l9 env x).2=0
      ·by_cases q1:(l9 env x).1.kind=1
       ·rw[b3 q0 q1];have ep:l9 env x=((l9 env x).1,0):=by rw[←q0]
        have ed:((l9 env x).1.dD==(e.name==([124,124]:Str)))=decide ((l9 env x).1.dD=decide (e.name=[124,124])):=by
         have eb:(e.name==([124,124]:Str))=decide (e.name=[124,124]):=by rw[arR];simp
         rw[eb];rfl
        rw[show (some (l9 env x):Option (ah × Int))=some ((l9 env x).1,0)from by rw[←q0],aC,n8,ed];by_cases q2:(l9 env x).1.dD=decide (e.name=[124,124])
        ·simp only[arX,aqS,aqT,q2,asB,aqV,q0,q1,ash,asX];rw[←ep]
        ·simp[q0,q1,q2]
       ·rw[b2 q0 q1];simp[wm,ZV,q0,q1]
      ·rw[b1 q0];simp[wm,ZV,q0]
     ·have aa7:((e.kind==7)&&((e.name==([38,38]:Str))||(e.name==([124,124]:Str))))=false:=by
       rw[←Bool.not_eq_true];intro hq;exact hsc (by simpa using hq)
      rw[aa7,aqH (c:=false=true) (by simp),aqH hsc];have hlm:(e.args.map (l9 env)).length=e.args.length:=by simp
      rw[hlm]
      have rest:(e.kind=5→(e.args.length:Int)=I4 e.name∧I4 e.name≠0)→Bz (jC (k1+2)) e env=some (if (nP (e.args.map (l9 env))).2≠0 then wm (nP (e.args.map (l9 env))).2 else E9 e.kind e.name e.keys (nP (e.args.map (l9 env))).1):=by
       intro h5;unfold Bz;rw[eH (F:=fun k s i=>Bw (jC (k1+2)) e env k s i) (l:=e.args) (body:=fun _ e1 (bK:List ah) r=>eO (jC (k1+2) e1 env) fun x7 f1=>if f1 !=0 then some ((ah.mk 0 false 0 ([]:Str) [] []),f1)else av (app bK [x7]) fun l2=>r l2) (fin:=fun l1=>F9 e l1) (by omega) (fun k s i=>rfl)];refine(apQ (go:=fun x=>jC (k1+2) x env) (f:=l9 env) e.args 0 [] (ih (k1+2) (by omega)) (by simp;omega)).trans ?_;by_cases h0:(nP (e.args.map (l9 env))).2=0
       ·rw[aqH (by simpa using h0),aqH (by simpa using h0),asw];obtain⟨o1,o2⟩:=Nz (N:=0) h0
        have hv:∀v∈(nP (e.args.map (l9 env))).1,VV v∧v.bulk<1152921504606846976:=by
         intro v hv;rw[o2,arT]at hv;obtain⟨x,hx,rfl⟩:=ar4.1 hv;exact gv x hx (o1 _ (ar6 hx))
        refine aaD F (by rw[o2];simp) hv ?_ ⟨by have:=F.kind;omega,h8⟩ h5 (fun h7=>⟨fun hn=>hsc ⟨h7,.inl hn⟩,fun hn=>hsc ⟨h7,.inr hn⟩⟩);rw[Eh,o2,arT,arT];have s1:=Hf (l:=e.args) (f:=(ah.bulk ∘ fun x=>x.1) ∘ l9 env) (g:=fun x=>ecnt x*WB) fun x hx=>((gvs x hx).1 (o1 _ (ar6 hx))).2;rw[Qr,←Dx]at s1;have:Fj e.args*WB≤4096*WB:=arx _ (by omega);omega
       ·rw[aqJ h0,aqJ h0]
      by_cases h5:e.kind=5
      ·have n5:(e.kind==5)=true:=by simpa using h5
       obtain⟨c1,c2,c3⟩:=abm e.name;rw[n5,c2];simp only[aqV,ak];by_cases hc0:I4 e.name=0
       ·rw[hc0];simp[h5,wm,ZV]
       ·have hpos:¬I4 e.name<0:=by omega
        by_cases hcl:I4 e.name=(e.args.length:Int)
        ·have:=rest fun _=>⟨by omega,hc0⟩;simp[h5,hcl]at this⊢;have hz:¬((e.args.length:Int)=0):=by omega
         have hz2:¬(e.args=[]):=by
          intro h;rw[h]at hz;exact hz rfl
         have hneg:¬((e.args.length:Int)<0):=by omega
         simp[hz2,hneg,this]
        ·simp[h5,hc0,hpos,hcl,wm,ZV]
      ·have n5:(e.kind==5)=false:=by simpa using h5
       rw[n5];simp only[aqS,aqT,ak];rw[rest fun h=>absurd h h5,aqH (c:=e.kind=5∧I4 e.name=0) (fun h=>h5 h.1),aqH (c:=e.kind=5∧I4 e.name≠(e.args.length:Int)) (fun h=>h5 h.1)]
end Go.Ft
namespace Go.Ft
open Go
attribute [local congr] gq
def Nu:List Str→List aB→Int
 | _,[]=>0
 | seen,d::r=>if !j4 d.name then 1 else if wN d.value 1 !=0 then wN d.value 1 else if seen.contains d.name then 7 else Nu (seen++[d.name]) r
theorem aly:∀(r:List aB) (i:Nat) (y:List (Str × Int)) (seen:List Str),(∀d∈r,d.name.length<4611686018427387000∧d.value.bulk<4611686018427387904)→(∀s,qJ y s=if s∈seen then 1 else 0)→
  eB (fun _ e1 (y1:List (Str × Int)) r=>av (jN (aj.mk 2 e1.name (ah.mk 0 false 0 ([]:Str) [] []) [] [])) fun x2=>if x2 !=0 then some 1 else av (jW e1.value) fun e2=>if e2 !=0 then some e2 else
   if decide (1<(qJ (uz y1 e1.name (bq ((qJ y1 e1.name)+1))) e1.name))then some 7 else r (uz y1 e1.name (bq ((qJ y1 e1.name)+1)))) (fun _=>some 0) i r y=some (Nu seen r)
 | [],_,_,_,_,_=>rfl
 | d::r,i,y,seen,hd,hy=>by
  rw[eB,Nu,ajD (hd d (by simp)).1,FW (hd d (by simp)).2,KD,aqJ rfl,hy d.name];cases h1:j4 d.name with
  | false=>simp
  | true=>
   simp only[aqV,ak,arf,aqS,aqT,arX];by_cases h2:wN d.value 1=0
   ·simp only[h2,arX,aqS,aqT];by_cases hc:d.name∈seen
    ·have:bq 2=2:=by decide
     simp[hc,this]
    ·have:bq ((0:Int)+1)=1:=by decide
     simp only[hc,aqT,this];have e:seen.contains d.name=false:=by simpa using hc
     rw[e];simp only[Int.lt_irrefl,arZ,aqS,aqT];refine aly r (i+1) _ (seen++[d.name]) (fun z hz=>hd z (by simp[hz])) fun s=>?_;rw[KD,hy s];by_cases h1:s=d.name
     ·subst h1;simp
     ·simp[h1]
   ·simp[h2]
theorem acI(l:List aB)(i:Nat)(hi:i<l.length)(hl:l.length<4611686018427387904)(go:Int→Option Int):∀(k j:Nat),i<k+j→j≤i→
  Ar l (i:Int) go k (j:Int)=if (((l.take i).drop j).map (·.name)).contains l[i].name then some 7 else go ((i+1:Nat):Int)
 | 0,j,h,h'=>by omega
 | k+1,j,h,h'=>by
  rw[Ar];by_cases hj:j<i
  ·have hlt:j<(l.take i).length:=by simp;omega
   rw[aqJ (by simpa using hj),lX hi,lX (by omega),aqZ hlt];simp only[ak,arq,List.contains_cons,List.getElem_take];by_cases h1:l[j].name=l[i].name
   ·simp[h1]
   ·have e1:(l[j].name==l[i].name)=false:=by simpa using h1
    have e2:(l[i].name==l[j].name)=false:=by simpa using fun hh=>h1 hh.symm
    simp only[e1,e2,aqS,aqT,ar0];rw[mh (by omega)];exact acI l i hi hl go k (j+1) (by omega) (by omega)
  ·have:j=i:=by omega
   subst this;rw[aqH (by simp),mh (by omega)];have:(List.take j l).drop j=[]:=ara (by simp;omega);rw[this];simp
theorem alx(l:List aB)(hl:l.length<4611686018427387904)(hd:∀d∈l,d.name.length<4611686018427387000∧d.value.bulk<4611686018427387904):∀(k i:Nat),l.length<k+i→i≤l.length→xV l k (i:Int)=some (Nu ((l.take i).map (·.name)) (l.drop i))
 | 0,i,h,h'=>by omega
 | k+1,i,h,h'=>by
  rw[xV];by_cases hi:i<l.length
  ·have hn:=hd l[i] (arj hi);rw[aqJ (by simpa using hi),aqZ hi,Nu,lX hi];have:=acI l i hi hl (xV l k) BIG 0 (by have:=iW;omega) (by omega);rw[show (0:Int)=((0:Nat):Int)from rfl,this,arU,alx l hl hd k (i+1) (by omega) (by omega)];simp only[ak,(Ee l[i].name (by omega)).2,Wo hn.2];have e:List.take (i+1) l=List.take i l++[l[i]]:=by rw[List.take_add_one,aq1 hi];rfl
   rw[e,asv];cases j4 l[i].name with
   | false=>simp
   | true=>
    simp only[arf,aqS,aqT];by_cases h2:wN l[i].value 1=0
    ·simp only[h2,Int.natCast_zero,arX,aqS,aqT];split<;>rfl
    ·simp[h2]
  ·have:i=l.length:=by omega
   subst this;simp[Nu]
def Af(env:List aB):Int:=if 1024<env.length then 3 else Nu [] env
theorem Xx{env:List aB}(hl:env.length<4611686018427387904)(hd:∀d∈env,d.name.length<4611686018427387000∧d.value.bulk<4611686018427387904):GI env=some (Af env)∧Ku env=some (Af env):=by
 unfold GI Ku Af;have e:decide ((1024:Int)<(env.length:Int))=decide (1024<env.length):=by congr 1;simp;omega
 rw[e];by_cases h:1024<env.length
 ·simp[h]
 ·simp only[h,arZ,aqS,aqT]
  have s1:=eH (F:=fun k s i=>BU env k i s) (l:=env) (body:=fun _ e1 (y1:List (Str × Int)) r=>av (jN (aj.mk 2 e1.name (ah.mk 0 false 0 ([]:Str) [] []) [] [])) fun x2=>if x2 !=0 then some 1 else av (jW e1.value) fun e2=>if e2 !=0 then some e2 else
   if decide (1<(qJ (uz y1 e1.name (bq ((qJ y1 e1.name)+1))) e1.name))then some 7 else r (uz y1 e1.name (bq ((qJ y1 e1.name)+1)))) (fin:=fun _=>some 0) hl (fun k s i=>rfl) []
  have s2:=alx env hl hd BIG 0 (by have:=iW;omega) (by omega);refine⟨?_,by simpa using s2⟩;rw[s1];exact aly env 0 [] [] hd (fun s=>by simp[qJ])
theorem Zp:∀(r:List aB) (seen:List Str),Nu seen r=0→(∀x∈r,VV x.value∧j4 x.name=true∧x.name∉seen)∧(r.map (·.name)).Nodup
 | [],_,_=>⟨(fun x hx=>by cases hx),List.nodup_nil⟩
 | d::r,seen,h=>by
  rw[Nu]at h;split at h
  ·cases h
  ·rename_i h1;split at h
   ·rename_i h2;rw[h]at h2;simp at h2
   ·rename_i h2;split at h
    ·cases h
    ·rename_i h3;obtain⟨i1,i2⟩:=Zp r _ h;have hs:d.name∉seen:=fun hm=>h3 (List.contains_iff_mem.2 hm);refine⟨fun x hx=>?_,?_⟩
     ·rcases arB.1 hx with rfl|hx
      ·exact⟨(Pe _).1 (by simpa using h2),by simpa using h1,hs⟩
      ·obtain⟨a1,a2,a3⟩:=i1 x hx;exact⟨a1,a2,fun hm=>a3 (by simp[hm])⟩
     ·rw[arq,List.nodup_cons];refine⟨fun hm=>?_,i2⟩;obtain⟨x,hx,he⟩:=ar4.1 hm;exact(i1 x hx).2.2 (by simp[he])
theorem Q7{env:List aB}{N:Nat}(h:(env.map aB.bulk).sum≤N):env.length≤N∧∀d∈env,d.name.length≤N∧d.value.bulk≤N:=by
 constructor
 ·have:=Nf (l:=env) (f:=aB.bulk) (fun x=>by unfold aB.bulk;omega);omega
 ·intro d hd;have:=KH (f:=aB.bulk) hd;have h2:d.name.length<d.bulk:=by unfold aB.bulk;omega
  have h3:d.value.bulk<d.bulk:=by unfold aB.bulk;omega
  omega
def wZ(e:aj)(env:List aB):ah × Int:=if Af env≠0 then wm (Af env)else if xval e≠0 then wm (xval e)else l9 env e
theorem Zo{env:List aB}(h:Af env=0):(∀x∈env,VV x.value∧j4 x.name=true)∧(env.map (·.name)).Nodup∧env.length≤1024:=by
 unfold Af at h;split at h
 ·cases h
 ·rename_i h1;obtain⟨a,b⟩:=Zp env [] h;exact⟨fun x hx=>⟨(a x hx).1,(a x hx).2.1⟩,b,by omega⟩
theorem abM{e:aj}(h:e.bulk≤1099511627776)(hx:xval e=0):SE e:=by
 refine⟨h,?_⟩;unfold xval at hx;split at hx
 ·cases hx
 ·omega
theorem abJ{e:aj}{env:List aB}(h:e.bulk≤1099511627776)(hl:env.length<4611686018427387904)(hd:∀d∈env,d.name.length<4611686018427387000∧d.value.bulk≤1048576):Dw e env=some (wZ e env)∧GV (wZ e env) 9007199254740992:=by
 obtain⟨v1,v2⟩:=Xx (env:=env) hl (fun d hd'=>by have:=hd d hd';omega);obtain⟨x1,x2⟩:=Qn (e:=e) (by omega);unfold Dw Fg wZ;rw[v1,x1];simp only[ak];by_cases hv:Af env=0
 ·obtain⟨w1,w2,w3⟩:=Zo hv;have hEv:∀x∈env,VV x.value∧x.value.bulk≤1048576:=fun x hx=>⟨(w1 x hx).1,(hd x hx).2⟩;have bv:(Af env !=0)=false:=by simpa using hv
  rw[aqH (c:=Af env≠0) (by simpa using hv)];simp only[bv,aqS,aqT];by_cases hx:xval e=0
  ·have hc:=U1 hx;have hS:=abM h hx;have hW:WB=2199023255552:=rfl;have hw:ecnt e*WB≤4096*WB:=arx _ hS.2;have hg:=(Xv hEv e.bulk e 1 (aq9 _) hS hc).mono (M:=9007199254740992) (by omega);have bx:(xval e !=0)=false:=by simpa using hx
   rw[aqH (c:=xval e≠0) (by simpa using hx)];simp only[bx,aqS,aqT,aC,arX];have p:=acF (by omega) hEv e.bulk e 1 BIG (aq9 _) hS hc (by have:=iW;omega);refine⟨?_,hg⟩;unfold zU Ch;rw[p];unfold AU;by_cases h0:(l9 env e).2=0
   ·rw[aqJ h0,jo,aC];obtain⟨g1,g2⟩:=hg.1 h0;rw[(NW g1.1 (by omega)).2,ak,←h0]
   ·rw[aqH h0,VZ,aC];have hz:=hg.2 h0;have hc2:xZ (ah.mk 0 false 0 ([]:Str) [] [])=some ZV:=(adf (v:=ZV) (by rw[ac8];decide)).2;rw[hc2,ak];generalize l9 env e=p at hz⊢;obtain⟨v,c⟩:=p;simp only at hz;rw[hz]
  ·have bx:(xval e !=0)=true:=by simpa using hx
   rw[aqJ (c:=xval e≠0) hx];simp only[bx,aqV,aC];exact⟨rfl,GV.er hx⟩
 ·have bv:(Af env !=0)=true:=by simpa using hv
  rw[aqJ (c:=Af env≠0) hv];simp only[bv,aqV,aC];exact⟨rfl,GV.er hv⟩
theorem aeM{e:aj}{env:List aB}(h:e.bulk≤1099511627776)(hl:env.length<4611686018427387904)(hd:∀d∈env,d.name.length<4611686018427387000∧d.value.bulk≤1048576):Ga e env=some (wZ e env):=by
 obtain⟨v1,v2⟩:=Xx (env:=env) hl (fun d hd'=>by have:=hd d hd';omega);obtain⟨x1,x2⟩:=Qn (e:=e) (by omega);unfold Ga wZ;rw[v2,x2];simp only[ak];by_cases hv:Af env=0
 ·obtain⟨w1,w2,w3⟩:=Zo hv;have hEv:∀x∈env,VV x.value∧x.value.bulk≤1048576:=fun x hx=>⟨(w1 x hx).1,(hd x hx).2⟩;have bv:(Af env !=0)=false:=by simpa using hv
  rw[aqH (c:=Af env≠0) (by simpa using hv)];simp only[bv,aqS,aqT];by_cases hx:xval e=0
  ·have hc:=U1 hx;have hS:=abM h hx;have bx:(xval e !=0)=false:=by simpa using hx
   rw[aqH (c:=xval e≠0) (by simpa using hx)];simp only[bx,aqS,aqT];exact ahb (by omega) hEv e.bulk e 1 BIG (aq9 _) hS hc (by have:=iW;omega)
  ·have bx:(xval e !=0)=true:=by simpa using hx
   rw[aqJ (c:=xval e≠0) hx];simp only[bx,aqV];rfl
 ·have bv:(Af env !=0)=true:=by simpa using hv
  rw[aqJ (c:=Af env≠0) hv];simp only[bv,aqV];rfl
theorem Qq{env:List aB}(hE:(env.map aB.bulk).sum≤1048576):env.length<4611686018427387904∧∀d∈env,d.name.length<4611686018427387000∧d.value.bulk≤1048576:=by
 obtain⟨s1,s2⟩:=Q7 hE;exact⟨by omega,fun d hd=>by have:=s2 d hd;omega⟩
theorem Pf{e:aj}{env:List aB}(h:e.bulk≤1099511627776)(hE:(env.map aB.bulk).sum≤1048576):Dw e env=some (wZ e env)∧Ga e env=some (wZ e env)∧GV (wZ e env) 9007199254740992:=
 have⟨p,g⟩:=abJ h (Qq hE).1 (Qq hE).2
 ⟨p,aeM h (Qq hE).1 (Qq hE).2,g⟩
theorem SC{p:ah × Int}{N:Nat}(h:GV p N):VV p.1∧p.1.bulk≤N+7:=by
 by_cases h0:p.2=0
 ·obtain⟨a,b⟩:=h.1 h0;exact⟨a,by omega⟩
 ·rw[h.2 h0];exact⟨apV,by rw[ac8];omega⟩
theorem DF{α β ρ:Type}(p:α × β)(f:α→β→Option ρ):eO (some p) f=f p.1 p.2:=rfl
end Go.Ft
namespace Go.Ft
open Go
attribute [local congr] gq
theorem apc{α:Type}(a:α)(l:List α):idx (a::l) 0=some a:=rfl
end Go.Ft
namespace Go.Ft
open Go
theorem ac1:Gx=some true:=by decide +kernel
end Go.Ft
namespace Go.Ft
open Go
attribute [local congr] gq
theorem Zu:∀(t:Str) (i:Nat) (s:Str),eB (fun(i:Nat) c (_:Unit) r=>av (oh c) fun x3=>if !x3 then some false else r ()) (fun _=>eO (strconv_Atoi s) fun n1 SG=>some ((SG.isNone)&&(decide (n1≤9007199254740992)))) i t ()=
  if t.all dI then eO (strconv_Atoi s) fun n1 SG=>some ((SG.isNone)&&(decide (n1≤9007199254740992)))else some false
 | [],i,s=>by simp[eB]
 | c::t,i,s=>by
  have ih:=Zu t (i+1) s;rw[eB];by_cases hd:dI c=true
  ·have e:oh c=some true:=by rw[acf,hd]
   rw[e,ak,aqH (by simp)];refine ih.trans ?_;simp[hd]
  ·have hd':dI c=false:=by simpa using hd
   have e:oh c=some false:=by rw[acf,hd']
   rw[e,ak,aqJ (by simp)];simp[hd']
theorem Yg:∀(s:Str) (acc:Nat),acc*10 ^ s.length≤xO acc s
 | [],acc=>by simp[Bo]
 | c::s,acc=>by
  have ih:=Yg s (acc*10+(c.toNat-48));rw[oK,aq2,asc];have:acc*(10 ^ s.length*10)=acc*10*10 ^ s.length:=by rw[asJ (10 ^ s.length) 10,←asU]
  rw[this];exact asI (arx _ (Nat.le_add_right _ _)) ih
theorem Y0:∀(s:Str) (acc v:Nat),JH acc s=(0,v)→v=xO acc s
 | [],acc,v,h=>by simp[JH]at h;rw[Bo,h]
 | c::s,acc,v,h=>by
  rw[JH]at h;rw[oK];split at h
  ·split at h
   ·cases h
   ·split at h
    ·cases h
    ·exact Y0 s _ v h
  ·cases h
theorem ahD{s:Str}(h:aes s)(h0:(vC s).1=0):(vC s).2=(xO 0 s:Int)∧xO 0 s<9223372036854775808:=by
 obtain⟨h1,h2,_⟩:=h;obtain⟨c,r,rfl⟩:∃c r,s=c::r:=by cases s with|nil=>exact absurd rfl h1|cons c r=>exact⟨c,r,rfl⟩
 have hc:=rC (h2 c (by simp));have e1:¬c.toNat=43:=by omega
 have e2:¬c.toNat=45:=by omega
 unfold vC at h0⊢;simp only[e1,e2,or_self,aqT,ash,asn,true_and,false_and,reduceCtorEq]at h0⊢;cases hm:JH 0 (c::r)with
 | mk a v=>
  rw[hm]at h0;simp only at h0⊢;by_cases a1:a=1
  ·simp[a1]at h0
  ·by_cases a2:a=2
   ·simp[a2]at h0
   ·rw[aqH a1,aqH a2]at h0⊢;by_cases hv:9223372036854775808≤v
    ·rw[aqJ hv]at h0;cases h0
    ·rw[aqH hv]
     have ha:a=0:=by
      have:∀(s:Str) (acc:Nat),(JH acc s).1=0∨(JH acc s).1=1∨(JH acc s).1=2:=by
       intro s
       induction s with
       | nil=>intro acc;simp[JH]
       | cons c s ih=>
        intro acc;rw[JH];split
        ·split
         ·simp
         ·split
          ·simp
          ·exact ih _
        ·simp
      have:=this (c::r) 0;rw[hm]at this;simp only at this;omega
     subst ha;have:=Y0 _ _ _ hm;exact⟨by rw[this],by omega⟩
theorem ahk{s:Str}(hs:s.length≤281474976710656):∃b,uT s=some b∧(b=true→∃u:Nat,s=tL 20 u∧u≤9007199254740992)∧∀u:Nat,s=tL 20 u→u≤9007199254740992→b=true:=by
 unfold uT;by_cases h0:s=[]
 ·subst h0;refine⟨false,rfl,(fun h=>by cases h),fun u h1 h2=>?_⟩;have:=(xk u u (aq9 _) (by omega)).1.1;exact absurd h1.symm this
 obtain⟨c,r,rfl⟩:∃c r,s=c::r:=by cases s with|nil=>exact absurd rfl h0|cons c r=>exact⟨c,r,rfl⟩
 have e0:((c::r)==([]:Str))=false:=rfl;simp only[e0,aqS,aqT];by_cases h1:1<(c::r).length∧c.toNat=48
 ·have e1:decide ((1:Int)<((c::r).length:Int))=true:=arC (by omega);refine⟨false,?_,(fun h=>by cases h),fun u h2 h3=>?_⟩
  ·rw[aqJ e1];simp[apc,h1.2]
  ·have:=(xk u u (aq9 _) (by omega)).1.2.2;rw[←h2]at this;exact absurd (by simp[h1.2]) (this h1.1)
 ·have e1:(av (if decide ((1:Int)<((c::r).length:Int))then av (idx (c::r) 0) fun x1=>some ((x1.toNat:Int)==48)else some false) fun b1=>if b1 then some false else lH (c::r) BIG 0)=lH (c::r) BIG 0:=by
   by_cases h2:1<(c::r).length
   ·rw[aqJ (arC (by omega))];have:((c.toNat:Int)==48)=false:=by rw[aq4];intro h;exact h1 ⟨h2,by omega⟩
    simp[apc,this]
   ·rw[aqH (by simp only[aqW];omega)];rfl
  rw[e1];have sc:=eH (F:=fun k (_:Unit) i=>lH (c::r) k i) (l:=c::r) (body:=fun(i:Nat) c (_:Unit) r=>av (oh c) fun x3=>if !x3 then some false else r ()) (fin:=fun _=>eO (strconv_Atoi (c::r)) fun n1 SG=>some ((SG.isNone)&&(decide (n1≤9007199254740992)))) (by omega) (fun k s i=>rfl) ();rw[sc,Zu];by_cases hd:∀x∈c::r,dI x=true
  ·have hcan:aes (c::r):=⟨by simp,hd,fun h2=>by simp;intro h;exact h1 ⟨h2,h⟩⟩;rw[aqJ (by rw[List.all_eq_true];exact hd),strconv_Atoi,aqJ hs,aC];refine⟨_,rfl,fun hb=>?_,fun u h2 h3=>?_⟩
   ·simp only[aq5,aqW]at hb
    have h0:(vC (c::r)).1=0:=by
     by_cases hz:(vC (c::r)).1=0
     ·exact hz
     ·rw[aqH hz]at hb;simp at hb
    obtain⟨a1,a2⟩:=ahD hcan h0
    have hlen:(c::r).length≤19:=by
     rcases arE 19 (c::r).length with h|h
     ·exfalso;have hc:=rC (hd c (by simp));have hlow:=Yg r (0*10+(c.toNat-48));have hne:c.toNat≠48:=fun h2=>h1 ⟨by omega,h2⟩;rw[oK]at a2;simp only[aq2]at h;have hp:10 ^ 19≤10 ^ r.length:=ase (by omega) (by omega);have h19:(10:Nat) ^ 19=10000000000000000000:=by decide
      have:1*10 ^ r.length≤(0*10+(c.toNat-48))*10 ^ r.length:=arx _ (by omega);omega
     ·exact h
    refine⟨xO 0 (c::r),(Td _ _ (aq9 _) hcan hlen).1.symm,?_⟩;rw[a1]at hb;omega
   ·rw[h2,Tx (by omega)];simp;omega
  ·rw[aqH (by rw[List.all_eq_true];exact hd)];refine⟨false,rfl,(fun h=>by cases h),fun u h2 h3=>?_⟩;have:=(xk u u (aq9 _) (by omega)).1.2.1;rw[←h2]at this;exact absurd this hd
end Go.Ft
namespace Go.Ft
open Go
attribute [local congr] gq
def I5(t:ay):Bool:=(jE t).getD false
theorem ajx{t:ay}(h:t.text.length≤281474976710656):jE t=some (I5 t):=by
 have:(jE t).isSome=true:=by
  unfold jE;rw[RN _ (by omega)];obtain⟨b,hb,_⟩:=ahk h;rw[hb]
  repeat' split
  all_goals rfl
 unfold I5;cases hp:jE t with
 | none=>rw[hp]at this;cases this
 | some b=>rfl
theorem aaR{t:ay}(h:t.kind=4):I5 t=true:=by simp[I5,jE,h]
theorem agz{t:ay}(h:I5 t=true):t.kind=1∨t.kind=2∨t.kind=3∨t.kind=4:=by
 unfold I5 jE at h;by_cases h1:t.kind=1
 ·exact .inl h1
 by_cases h2:t.kind=2
 ·exact .inr (.inl h2)
 by_cases h3:t.kind=3
 ·exact .inr (.inr (.inl h3))
 by_cases h4:t.kind=4
 ·exact .inr (.inr (.inr h4))
 simp[h1,h2,h3,h4]at h
def Dg(ts:List ay):Prop:=ts.length≤65536∧∀t∈ts,t.text.length≤1048576
def Bq(ts:List ay)(i:Nat):ay:=match ts[i]? with
 | some t=>if I5 t then t else ay.mk 0 [] 0
 | none=>ay.mk 0 [] 0
def uD(ts:List ay)(i:Nat)(op:Str):Bool:=((Bq ts i).kind==4)&&((Bq ts i).text==op)
def miss(ts:List ay)(i:Nat):Int:=if ts.length≤i then 4 else 5
theorem WV{ts:List ay}(h:Dg ts)(i:Nat):jF (au.mk ts (i:Int))=some (Bq ts i,au.mk ts (i:Int)):=by
 unfold jF Bq;by_cases hi:i<ts.length
 ·have ht:=h.2 ts[i] (arj hi);have e:decide (((i:Nat):Int)<(ts.length:Int))=true:=arC (by omega);simp only[e,aqV,lX hi,ak,ajx (t:=ts[i]) (by omega),aq1 hi];cases I5 ts[i]<;>simp
 ·have e:decide (((i:Nat):Int)<(ts.length:Int))=false:=arL (by omega);simp only[e,aqS,aqT,ak,arN (Nat.le_of_not_lt hi)]
theorem nK{ts:List ay}(h:Dg ts){i:Nat}(hi:i≤ts.length)(op:Str):dB (au.mk ts (i:Int)) op=some (uD ts i op,au.mk ts ((if uD ts i op then i+1 else i:Nat):Int)):=by
 have:=h.1;unfold dB vT;rw[WV h,aC,aC];show (if (!(uD ts i op))=true then _ else _)=_;cases uD ts i op with
 | true=>rw[aqH (by simp),mh (by omega)];rfl
 | false=>rw[aqJ (by simp)];rfl
theorem pO{ts:List ay}{i:Nat}{op:Str}(h:uD ts i op=true):∃hi:i<ts.length,ts[i].kind=4∧ts[i].text=op∧I5 ts[i]=true:=by
 unfold uD Bq at h;cases hx:ts[i]? with
 | none=>rw[hx]at h;simp at h
 | some t=>
  rw[hx]at h;obtain⟨hi,ht⟩:=arP.1 hx;cases ho:I5 t with
  | false=>simp[ho]at h
  | true=>
   simp[ho]at h;exact⟨hi,by rw[ht];exact h.1,by rw[ht];exact h.2,by rw[ht];exact ho⟩
theorem Ca{ts:List ay}(h:Dg ts)(i:Nat)(op:Str):qV ts (i:Int) op=some (uD ts i op):=by
 unfold qV;by_cases hi:i<ts.length
 ·have e:decide (((i:Nat):Int)<(ts.length:Int))=true:=arC (by omega);simp only[e,aqV,lX hi,ak];unfold uD Bq;rw[aq1 hi];simp only;by_cases h4:ts[i].kind=4
  ·rw[aqJ (by simpa using h4),aaR h4,aqJ rfl];simp[h4]
  ·rw[aqH (by simpa using h4)];cases I5 ts[i]<;>simp[h4]
 ·have e:decide (((i:Nat):Int)<(ts.length:Int))=false:=arL (by omega);simp only[e,aqS,aqT,ak];cases hc:uD ts i op with
  | false=>rfl
  | true=>obtain⟨h1,_⟩:=pO hc;omega
theorem Bv(ts:List ay)(i:Nat):lV ts (i:Int)=some (miss ts i):=by
 unfold lV miss;by_cases hi:ts.length≤i
 ·rw[aqJ (arC (by omega)),aqJ hi]
 ·rw[aqH (by simp;omega),aqH hi]
theorem M9{ts:List ay}(h:Dg ts)(i:Nat):jG (au.mk ts (i:Int))=some (if (Bq ts i).kind=0 then (.bad (aA.mk (i:Int) (miss ts i)),au.mk ts (i:Int))else (.ok (Bq ts i),au.mk ts (i:Int))):=by
 unfold jG gQ;by_cases hi:ts.length≤i
 ·have ht:(Bq ts i).kind=0:=by unfold Bq;rw[arN hi]
  rw[aqJ (arC (show (ts.length:Int)≤(i:Int) by omega)),aqJ ht];simp[fU,miss,hi]
 ·rw[aqH (by simp;omega),WV h,aC];by_cases hk:(Bq ts i).kind=0
  ·rw[aqJ (by simpa using hk),aqJ hk];simp[fU,miss,hi]
  ·rw[aqH (by simpa using hk),aqH hk]
theorem Dv{ts:List ay}(h:Dg ts){i:Nat}(hi:i≤ts.length)(op:Str):fH (au.mk ts (i:Int)) op=some (if uD ts i op then (.ok (),au.mk ts ((i+1:Nat):Int))else (.bad (aA.mk (i:Int) (miss ts i)),au.mk ts (i:Int))):=by
 unfold fH;rw[M9 h];by_cases hk:(Bq ts i).kind=0
 ·have ho:uD ts i op=false:=by unfold uD;rw[hk];rfl
  rw[aqJ hk,ho,aqH (by simp)];rfl
 ·rw[aqH hk];show eO _ _=_;rw[nK h hi,aC];cases ho:uD ts i op with
  | true=>rfl
  | false=>
   have hlt:¬ts.length≤i:=fun hl=>hk (by unfold Bq;rw[arN hl]);simp[fU,gQ,miss,hlt]
end Go.Ft
namespace Go.Ft
open Go
attribute [local congr] gq
def RE(ts:List ay)(i0:Nat)(P:Option (fE aA aj × au))(R:Option (aj × Int × Int)):Prop:=
 (∃(e:aj) (j:Nat),i0<j∧j≤ts.length∧e.bulk≤2097152*(j-i0)∧P=some (.ok e,au.mk ts (j:Int))∧R=some (e,(j:Int),0))∨
 (∃(j:Nat) (c:Int) (x:aj),i0≤j∧j≤ts.length∧c≠0∧P=some (.bad (aA.mk (j:Int) c),au.mk ts (j:Int))∧R=some (x,(j:Int),c))
theorem Ot:((0:Int) !=0)=false:=rfl
theorem CP(ts:List ay)(i:Nat):miss ts i≠0:=by unfold miss;split<;>decide
theorem R3{c:Int}(h:c≠0):(c !=0)=true:=by simpa using h
theorem apL(k:Int)(n:Str)(a b c:aj):(aj.mk k n (ah.mk 0 false 0 ([]:Str) [] []) [a,b,c] []).bulk=12+n.length+a.bulk+b.bulk+c.bulk:=by
 simp[aj.bulk,aj.kU,ah.bulk,ah.kU];omega
theorem alE(k:Int)(n:Str)(a b:aj):(aj.mk k n (ah.mk 0 false 0 ([]:Str) [] []) [a,b] []).bulk=12+n.length+a.bulk+b.bulk:=by
 simp[aj.bulk,aj.kU,ah.bulk,ah.kU];omega
theorem alF(k:Int)(n:Str)(a:aj):(aj.mk k n (ah.mk 0 false 0 ([]:Str) [] []) [a] []).bulk=12+n.length+a.bulk:=by
 simp[aj.bulk,aj.kU,ah.bulk,ah.kU];omega
theorem aej{ts:List ay}(h:Dg ts){k k' i:Nat}(ho:RE ts i (bA k (au.mk ts (i:Int)) 2) (dY k' ts (i:Int) 2))
  (hc:∀j,i<j→j≤ts.length→RE ts j (aY k (au.mk ts (j:Int))) (dH k' ts (j:Int))):
  RE ts i (aY (k+1) (au.mk ts (i:Int))) (dH (k'+1) ts (i:Int)):=by
 have hN:=h.1;rw[aY,l5,dH,xC];rcases ho with⟨e,j,h1,h2,hb,hP,hR⟩|⟨j,c,x,h1,h2,hc0,hP,hR⟩
 ·rw[hP,hR,gY,aD,nK h h2,aC];simp only[Ot,aqS,aqT,Ca h,ak];cases hq:uD ts j [63]with
  | false=>
   simp only[arz,aqV,aqS,aqT];exact .inl ⟨e,j,h1,h2,hb,rfl,rfl⟩
  | true=>
   obtain⟨hj,_⟩:=pO hq;simp only[arf,aqV,aqS,aqT];rw[mh (by omega)];rcases hc (j+1) (by omega) (by omega)with⟨e2,j2,g1,g2,gb,gP,gR⟩|⟨j2,c2,x2,g1,g2,gc,gP,gR⟩
   ·rw[gP,gR,gY,aD,Dv h g2];simp only[Ot,aqS,aqT,Ca h,ak];cases hq2:uD ts j2 [58]with
    | false=>
     simp only[arz,aqV,aqS,aqT,fM,Bv,ak];exact .inr ⟨j2,_,_,by omega,g2,CP ts j2,rfl,rfl⟩
    | true=>
     obtain⟨hj2,_⟩:=pO hq2;simp only[arf,aqV,aqS,aqT,gY];rw[mh (by omega)];rcases hc (j2+1) (by omega) (by omega)with⟨e3,j3,f1,f2,fb,fP,fR⟩|⟨j3,c3,x3,f1,f2,fc,fP,fR⟩
     ·rw[fP,fR,gY,aD];exact .inl ⟨_,j3,by omega,f2,by rw[apL];simp only[arY];omega,rfl,rfl⟩
     ·rw[fP,fR,fM,aD];exact .inr ⟨j3,c3,_,by omega,f2,fc,rfl,rfl⟩
   ·rw[gP,gR,fM,aD,aqJ (R3 gc)];exact .inr ⟨j2,c2,_,by omega,g2,gc,rfl,rfl⟩
 ·rw[hP,hR,fM,aD];simp only[R3 hc0,aqV,ak];exact .inr ⟨j,c,x,h1,h2,hc0,rfl,rfl⟩
def opAt(ts:List ay)(i:Nat)(n:Int):Bool:=((Bq ts i).kind==4)&&(Hg (Bq ts i).text==n)
theorem aci{ts:List ay}{i:Nat}{n:Int}(h:opAt ts i n=true):∃hi:i<ts.length,Bq ts i=ts[i]∧ts[i].kind=4∧Hg ts[i].text=n:=by
 unfold opAt Bq at h;unfold Bq;cases hx:ts[i]? with
 | none=>rw[hx]at h;simp at h
 | some t=>
  rw[hx]at h;obtain⟨hi,ht⟩:=arP.1 hx;cases ho:I5 t with
  | false=>simp[ho]at h
  | true=>
   simp[ho]at h;exact⟨hi,by simp[ho,ht],by rw[ht];exact h.1,by rw[ht];exact h.2⟩
theorem YI{ts:List ay}(i:Nat)(n:Int):(av (if decide ((i:Int)<(ts.length:Int))then av (idx ts (i:Int)) fun e3=>some (e3.kind==4)else some false) fun b1=>
  if b1 then av (idx ts (i:Int)) fun e4=>av (sw e4.text) fun x5=>some (x5==n)else some false)=some (opAt ts i n):=by
 by_cases hi:i<ts.length
 ·rw[aqJ (arC (by omega))];simp only[lX hi,ak,Bt,N7];unfold opAt Bq;rw[aq1 hi];simp only;by_cases h4:ts[i].kind=4
  ·rw[aqJ (by simpa using h4),aaR h4,aqJ rfl];simp[h4]
  ·rw[aqH (by simpa using h4)];cases I5 ts[i]<;>simp[h4]
 ·rw[aqH (by simp;omega)];cases hc:opAt ts i n with
  | false=>rfl
  | true=>obtain⟨h1,_⟩:=aci hc;omega
theorem adD{ts:List ay}(i:Nat)(n:Int):(if (Bq ts i).kind !=4 then some true else av (fG (Bq ts i).text) fun x4=>some (x4 !=n))=some (!opAt ts i n):=by
 unfold opAt;rw[N7];by_cases h4:(Bq ts i).kind=4
 ·rw[aqH (by simp[h4])];simp[h4,bne]
 ·rw[aqJ (by simpa using h4)];simp[h4]
theorem O0{α β γ:Type}(x:Option α)(f:α→Option β)(g:β→Option γ):av x (fun a=>av (f a) g)=av (av x f) g:=by cases x<;>rfl
theorem MR{ts:List ay}{go:List ay→Int→Int→Option (aj × Int × Int)}{n:Int}{m j:Nat}{c c1:Int}{e:aj}(hs:c1≠0∨opAt ts j n=false∨(n=4∧c≠0)):jM go ts n (m+1) (j:Int) c1 c e=some (e,(j:Int),c1):=by
 rw[jM];by_cases h0:c1=0
 ·subst h0;have e0:((0:Int)==0)=true:=rfl;simp only[e0,arQ];rw[O0,YI,ak];rcases hs with hs|hs|⟨hs,hc⟩
  ·exact absurd rfl hs
  ·rw[hs];rfl
  ·subst hs;have:(c==0)=false:=by simpa using hc
   rw[aqH (by rw[this];simp)]
 ·have e0:(c1==0)=false:=by simpa using h0
  simp only[e0,arV,aqS,aqT,ak]
theorem ach{ts:List ay}(h:Dg ts){k k' i0:Nat}{n:Int}(hn:2≤n∧n≤6)(hop:∀j,i0<j→j≤ts.length→RE ts j (bA k (au.mk ts (j:Int)) (bq (n+1))) (dY k' ts (j:Int) (bq (n+1)))):
  ∀(m m' i:Nat) (c:Int) (e:aj),ts.length<m+i→ts.length<m'+i→i0<i→i≤ts.length→e.bulk≤2097152*(i-i0)→(n=4→c=0)→
  RE ts i0 (iL (bA k) n m e (au.mk ts (i:Int))) (jM (dY k') ts n m' (i:Int) 0 c e)
 | 0,m',i,c,e,h1,_,_,h2,_,_=>by omega
 | m+1,0,i,c,e,_,h1,_,h2,_,_=>by omega
 | m+1,m'+1,i,c,e,hm,hm',h1,h2,hb,hc4=>by
  have hN:=h.1;rw[iL,jM,WV h,aC,adD,ak];cases hq:opAt ts i n with
  | false=>
   simp only[arz,aqV];have:=MR (go:=dY k') (m:=m') (c:=c) (c1:=0) (e:=e) (.inr (.inl hq));rw[jM]at this;rw[this];exact .inl ⟨e,i,h1,h2,hb,rfl,rfl⟩
  | true=>
   obtain⟨hi,htk,hk4,hs⟩:=aci hq;have htx:=h.2 ts[i] (arj hi);have e0:((0:Int)==0)=true:=rfl;simp only[e0,arQ];rw[O0,YI,ak,hq]
   have hcond:(true&&((c==0)||(n !=4)))=true:=by
    by_cases h4:n=4
    ·simp[hc4 h4]
    ·simp[h4]
   rw[aqH (by simp),aqJ hcond,htk];show RE ts i0 (fU (bA k (au.mk ts (bq ((i:Int)+1))) (bq (n+1))) _ _) _;rw[mh (by omega)];rcases hop (i+1) (by omega) (by omega)with⟨e2,j,g1,g2,gb,gP,gR⟩|⟨j,c2,x2,g1,g2,gc,gP,gR⟩
   ·rw[gP,gR,gY,aD,lX hi,ak];have hb2:(aj.mk 7 ts[i].text (ah.mk 0 false 0 ([]:Str) [] []) [e,e2] []).bulk≤2097152*(j-i0):=by rw[alE];omega
    by_cases h4:n=4
    ·subst h4;rw[aqJ (by rfl),hc4 rfl];obtain⟨m2,rfl⟩:∃m2,m'=m2+1:=⟨m'-1,by omega⟩;rw[MR (.inr (.inr ⟨rfl,by decide⟩))];exact .inl ⟨_,j,by omega,g2,hb2,rfl,rfl⟩
    ·rw[aqH (by simpa using h4)];exact ach h hn hop m m' j _ _ (by omega) (by omega) (by omega) g2 hb2 (fun h=>absurd h h4)
   ·rw[gP,gR,fM,aD,lX hi,ak];obtain⟨m2,rfl⟩:∃m2,m'=m2+1:=⟨m'-1,by omega⟩;rw[MR (.inl gc)];exact .inr ⟨j,c2,_,by omega,g2,gc,rfl,rfl⟩
theorem ajL{ts:List ay}(h:Dg ts){k k' i:Nat}{n:Int}(hn:2≤n∧n≤6)(h1:RE ts i (bA k (au.mk ts (i:Int)) (bq (n+1))) (dY k' ts (i:Int) (bq (n+1))))
  (hop:∀j,i<j→j≤ts.length→RE ts j (bA k (au.mk ts (j:Int)) (bq (n+1))) (dY k' ts (j:Int) (bq (n+1)))):
  RE ts i (bA (k+1) (au.mk ts (i:Int)) n) (dY (k'+1) ts (i:Int) n):=by
 have hN:=h.1;have h7:(n==7)=false:=by rw[aq4];omega
 have hB:=iW;rw[bA,jU,dY,sV,aqH (by rw[h7];simp),aqH (by rw[h7];simp)];rcases h1 with⟨e,j,g1,g2,gb,gP,gR⟩|⟨j,c,x,g1,g2,gc,gP,gR⟩
 ·rw[gP,gR,gY,aD];exact ach h hn hop BIG BIG j 0 e (by omega) (by omega) g1 g2 gb (fun _=>rfl)
 ·rw[gP,gR,fM,aD];obtain⟨b,hb,_⟩:=vF;rw[hb,MR (.inl gc)];exact .inr ⟨j,c,x,g1,g2,gc,rfl,rfl⟩
theorem agx{ts:List ay}{k k' i:Nat}(h1:RE ts i (dK k (au.mk ts (i:Int))) (jh k' ts (i:Int))):
  RE ts i (bA (k+1) (au.mk ts (i:Int)) 7) (dY (k'+1) ts (i:Int) 7):=by
 rw[bA,jU,dY,sV,aqJ (by decide),aqJ (by decide)];rcases h1 with⟨e,j,g1,g2,gb,gP,gR⟩|⟨j,c,x,g1,g2,gc,gP,gR⟩
 ·rw[gP,gR];exact .inl ⟨e,j,g1,g2,gb,rfl,rfl⟩
 ·rw[gP,gR];exact .inr ⟨j,c,x,g1,g2,gc,rfl,rfl⟩
theorem ark:∃b,BIG=b+3:=⟨BIG-3,by decide⟩
theorem aap{ts:List ay}(h:Dg ts){k k' i:Nat}(hi:i≤ts.length)(hch:RE ts i (dZ k (au.mk ts (i:Int))) (jX k' ts (i:Int)))
  (hu:∀j,i<j→j≤ts.length→RE ts j (dK k (au.mk ts (j:Int))) (jh k' ts (j:Int))):
  RE ts i (dK (k+1) (au.mk ts (i:Int))) (jh (k'+1) ts (i:Int)):=by
 have hN:=h.1;obtain⟨b,hb⟩:=ark;have w01:bq (0+1)=1:=by decide
 have w11:bq (1+1)=2:=by decide
 have i0:idx ([([33]:Str),([45]:Str)]:List Str) 0=some [33]:=rfl;have i1:idx ([([33]:Str),([45]:Str)]:List Str) 1=some [45]:=rfl;rw[dK,pJ,jh,EP,hb,iV];rw[aqJ (by decide),i0,ak,nK h hi,aC];simp only[Ca h,ak]
 have un:∀op:Str,uD ts i op=true→RE ts i (fU (dK k (au.mk ts ((i+1:Nat):Int))) (fun e1 y4=>some (.bad e1,y4)) fun x3 y3=>some (.ok (aj.mk 6 op (ah.mk 0 false 0 ([]:Str) [] []) [x3] []),y3))
   (lN (jh k' ts (bq ((i:Int)+1))) fun x6 kN e1=>av (idx ts (i:Int)) fun e2=>some ((aj.mk 6 e2.text (ah.mk 0 false 0 ([]:Str) [] []) [x6] []),kN,e1)):=fun op ho=>by
  obtain⟨hlt,hk,ht,_⟩:=pO ho;have htx:=h.2 ts[i] (arj hlt);rw[ht]at htx;rw[mh (by omega)];rcases hu (i+1) (by omega) (by omega)with⟨e,j,g1,g2,gb,gP,gR⟩|⟨j,c,x,g1,g2,gc,gP,gR⟩
  ·rw[gP,gR,gY,aD,lX hlt,ak,ht];exact .inl ⟨_,j,by omega,g2,by rw[alF];omega,rfl,rfl⟩
  ·rw[gP,gR,fM,aD,lX hlt,ak];exact .inr ⟨j,c,_,by omega,g2,gc,rfl,rfl⟩
 cases h1:uD ts i [33]with
 | true=>
  simp only[aqV,arf,aqS,aqT,ak];exact un _ h1
 | false=>
  simp only[aqV,arz,aqS,aqT,ak];rw[w01,iV,aqJ (by decide),i1,ak,nK h hi,aC];cases h2:uD ts i [45]with
  | true=>
   simp only[aqV,arf,aqS,aqT];exact un _ h2
  | false=>
   simp only[aqV,arz,aqS,aqT];rw[w11,iV,aqH (by decide)];rcases hch with⟨e,j,g1,g2,gb,gP,gR⟩|⟨j,c,x,g1,g2,gc,gP,gR⟩
   ·rw[gP,gR];exact .inl ⟨e,j,g1,g2,gb,rfl,rfl⟩
   ·rw[gP,gR];exact .inr ⟨j,c,x,g1,g2,gc,rfl,rfl⟩
end Go.Ft
namespace Go.Ft
open Go
attribute [local congr] gq
def nameAt(ts:List ay)(i:Nat):Bool:=((Bq ts i).kind==1)&&j4 (Bq ts i).text
theorem adP{ts:List ay}{i:Nat}(h:nameAt ts i=true):∃hi:i<ts.length,Bq ts i=ts[i]:=by
 unfold nameAt Bq at h;unfold Bq;cases hx:ts[i]? with
 | none=>rw[hx]at h;simp at h
 | some t=>
  rw[hx]at h;obtain⟨hi,ht⟩:=arP.1 hx;cases ho:I5 t with
  | false=>simp[ho]at h
  | true=>exact⟨hi,by simp[ho,ht]⟩
theorem Lx{s:Str}(hs:s.length≤1048576)(hn:isName s=true):qg s=some (!j4 s):=by
 obtain⟨p1,_⟩:=Ee s (by omega);unfold nZ at p1;rw[RN s (by omega),ak,aqJ hn]at p1;cases hw:qg s with
 | none=>rw[hw]at p1;cases p1
 | some b=>rw[hw]at p1;simp at p1;rw[←p1]
theorem Jz{t:ay}(hk:t.kind=1)(hs:t.text.length≤1048576):I5 t=isName t.text:=by
 unfold I5 jE;rw[aqJ (by simpa using hk),RN _ (by omega)];rfl
theorem RH{s:Str}(hs:s.length≤1048576)(h:j4 s=true):isName s=true:=by
 obtain⟨p1,_⟩:=Ee s (by omega);unfold nZ at p1;rw[RN s (by omega),ak,h]at p1;cases hn:isName s with
 | true=>rfl
 | false=>rw[hn]at p1;simp at p1
theorem af3{ts:List ay}(h:Dg ts)(i:Nat):(av (if decide ((ts.length:Int)≤(i:Int))then some true else av (idx ts (i:Int)) fun e2=>some (e2.kind !=1)) fun b3=>
  if b3 then some true else av (idx ts (i:Int)) fun e3=>av (qW e3.text) fun x6=>some (!x6))=some (!nameAt ts i):=by
 unfold nameAt Bq;by_cases hi:i<ts.length
 ·have ht:=h.2 ts[i] (arj hi);rw[aqH (by simp;omega)];simp only[lX hi,ak,(Ee ts[i].text (by omega)).2,aq1 hi];by_cases h1:ts[i].kind=1
  ·rw[aqH (by simp[h1]),Jz h1 ht];cases hn:isName ts[i].text with
   | true=>simp[h1]
   | false=>
    cases hp:j4 ts[i].text with
    | true=>rw[RH ht hp]at hn;cases hn
    | false=>simp
  ·rw[aqJ (by simpa using h1)];cases I5 ts[i]<;>simp[h1]
 ·rw[aqJ (by simp;omega),arN (Nat.le_of_not_lt hi)];rfl
theorem Mc{ts:List ay}(h:Dg ts){k k' i0:Nat}(hc:∀j,i0<j→j≤ts.length→RE ts j (aY k (au.mk ts (j:Int))) (dH k' ts (j:Int))):
  ∀(m m' i:Nat) (e:aj),ts.length<m+i→ts.length<m'+i→i0<i→i≤ts.length→e.bulk≤2097152*(i-i0)→
  RE ts i0 (gF (aY k) m e (au.mk ts (i:Int))) (nY (dH k') ts 0 m' (i:Int) e)
 | 0,m',i,e,h1,_,_,h2,_=>by omega
 | m+1,0,i,e,_,h1,_,h2,_=>by omega
 | m+1,m'+1,i,e,hm,hm',h1,h2,hb=>by
  have hN:=h.1;rw[gF,nY,nK h h2,aC];have e0:((0:Int)==0)=true:=rfl;simp only[e0,aqV,Ca h,ak];cases hd:uD ts i [46]with
  | true=>
   obtain⟨hi,_⟩:=pO hd;simp only[aqV,ak];rw[mh (by omega),M9 h];have hr:=af3 h (i+1);rw[O0,hr,ak];cases hn:nameAt ts (i+1)with
   | true=>
    obtain⟨hlt,htk⟩:=adP hn;unfold nameAt at hn;simp only[aq5,aq7]at hn;have htx:=h.2 ts[i+1] (arj hlt);rw[htk]at hn⊢;rw[aqH (by omega)];simp only[arf,aqS,aqT,gY];rw[aqH (by simp[hn.1]),Lx htx (RH htx hn.2),hn.2,ak,aqH (by simp),lX hlt,ak];show RE ts i0 (gF (aY k) m _ (au.mk ts (bq (((i+1:Nat):Int)+1)))) _;rw[mh (by omega)];exact Mc h hc m m' (i+1+1) _ (by omega) (by omega) (by omega) (by omega) (by rw[alF];omega)
   | false=>
    simp only[arz,aqV,Bv,ak];by_cases hk0:(Bq ts (i+1)).kind=0
    ·rw[aqJ hk0,fM];exact .inr ⟨i+1,_,_,by omega,by omega,CP ts (i+1),rfl,rfl⟩
    ·rw[aqH hk0,gY]
     have hlt:i+1<ts.length:=by
      rcases arE (i+1) ts.length with hh|hh
      ·exact hh
      ·exfalso;apply hk0;unfold Bq;rw[arN hh]
     have hms:miss ts (i+1)=5:=by unfold miss;rw[aqH (by omega)]
     have htk:Bq ts (i+1)=ts[i+1]∧I5 ts[i+1]=true:=by
      unfold Bq at hk0⊢;rw[aq1 hlt]at hk0⊢;simp only at hk0⊢;cases ho:I5 ts[i+1]with
      | true=>exact⟨rfl,rfl⟩
      | false=>rw[ho]at hk0;simp at hk0
     have htx:=h.2 ts[i+1] (arj hlt)
     have hb1:(if ((Bq ts (i+1)).kind !=1)=true then some true else qg (Bq ts (i+1)).text)=some true:=by
      by_cases h1k:(Bq ts (i+1)).kind=1
      ·rw[aqH (by simp[h1k])];unfold nameAt at hn;rw[h1k]at hn;have hp:j4 (Bq ts (i+1)).text=false:=by simpa using hn
       rw[htk.1]at h1k hp⊢;have:=Jz h1k htx;rw[htk.2]at this;rw[Lx htx this.symm,hp];rfl
      ·rw[aqJ (by simpa using h1k)]
     rw[hb1,ak,aqJ rfl];show RE ts i0 (fU (some (.bad (aA.mk ((i+1:Nat):Int) 5),au.mk ts ((i+1:Nat):Int))) _ _) _;rw[fM,hms];exact .inr ⟨i+1,5,_,by omega,by omega,by decide,rfl,rfl⟩
  | false=>
   simp only[aqS,aqT,ak];rw[nK h h2,aC];cases hbk:uD ts i [91]with
   | true=>
    obtain⟨hi,_⟩:=pO hbk;simp only[aqV];rw[mh (by omega)];rcases hc (i+1) (by omega) (by omega)with⟨e2,j,g1,g2,gb,gP,gR⟩|⟨j,c2,x2,g1,g2,gc,gP,gR⟩
    ·rw[gP,gR,gY,aD,Dv h g2];simp only[Ot,aqS,aqT,Ca h,ak];cases hq:uD ts j [93]with
     | false=>
      simp only[arz,aqV,aqS,aqT,fM,Bv,ak];exact .inr ⟨j,_,_,by omega,g2,CP ts j,rfl,rfl⟩
     | true=>
      obtain⟨hj,_⟩:=pO hq;simp only[arf,aqV,aqS,aqT,gY];rw[mh (by omega)];exact Mc h hc m m' (j+1) _ (by omega) (by omega) (by omega) (by omega) (by rw[alE];simp only[arY];omega)
    ·rw[gP,gR,fM,aD,aqJ (R3 gc)];exact .inr ⟨j,c2,_,by omega,g2,gc,rfl,rfl⟩
   | false=>
    simp only[aqS,aqT];exact .inl ⟨e,i,h1,h2,hb,rfl,rfl⟩
end Go.Ft
namespace Go.Ft
open Go
attribute [local congr] gq
theorem abo{ts:List ay}{go:List ay→Int→Option (aj × Int × Int)}{c:Int}(hc:c≠0){m:Nat}{j:Int}{e:aj}:nY go ts c (m+1) j e=some (e,j,c):=by
 rw[nY];have e0:(c==0)=false:=by simpa using hc
 simp only[e0,aqS,aqT,ak]
theorem abp{ts:List ay}(h:Dg ts){k k' i:Nat}(ha:RE ts i (eF k (au.mk ts (i:Int))) (lF k' ts (i:Int)))
  (hc:∀j,i<j→j≤ts.length→RE ts j (aY k (au.mk ts (j:Int))) (dH k' ts (j:Int))):
  RE ts i (dZ (k+1) (au.mk ts (i:Int))) (jX (k'+1) ts (i:Int)):=by
 have hN:=h.1;have hB:=iW;rw[dZ,pK,jX,ES];rcases ha with⟨e,j,g1,g2,gb,gP,gR⟩|⟨j,c,x,g1,g2,gc,gP,gR⟩
 ·rw[gP,gR,gY,aD];exact Mc h hc BIG BIG j e (by omega) (by omega) g1 g2 gb
 ·rw[gP,gR,fM,aD];obtain⟨b,hb,_⟩:=vF;rw[hb,abo gc];exact .inr ⟨j,c,x,g1,g2,gc,rfl,rfl⟩
theorem Y_{ts:List ay}{i:Nat}{a b:Str}(hab:a≠b)(ha:uD ts i a=true):uD ts i b=false:=by
 cases hb:uD ts i b with
 | false=>rfl
 | true=>
  obtain⟨_,_,h1,_⟩:=pO ha;obtain⟨_,_,h2,_⟩:=pO hb;exact absurd (h1.symm.trans h2) hab
def RL(ts:List ay)(i0:Nat)(P:Option (fE aA (List aj) × au))(R:Option (List aj × List Str × Int × Int)):Prop:=
 (∃(l:List aj) (j:Nat),i0<j∧j≤ts.length∧(l.map aj.bulk).sum≤2097152*(j-i0)∧P=some (.ok l,au.mk ts (j:Int))∧R=some (l,[],(j:Int),0))∨
 (∃(j:Nat) (c:Int) (x:List aj) (y:List Str),i0≤j∧j≤ts.length∧c≠0∧P=some (.bad (aA.mk (j:Int) c),au.mk ts (j:Int))∧R=some (x,y,(j:Int),c))
theorem V3{ts:List ay}(h:Dg ts){k k' i0:Nat}{cl:Str}(hcl:cl≠[44])(hc:∀j,i0≤j→j≤ts.length→RE ts j (aY k (au.mk ts (j:Int))) (dH k' ts (j:Int))):
  ∀(m m' i:Nat) (out:List aj),ts.length<m+i→ts.length<m'+i→i0≤i→i≤ts.length→out.length+i0≤i→(out.map aj.bulk).sum≤2097152*(i-i0)→
  RL ts i0 (kg (aY k) cl m out (au.mk ts (i:Int))) (qc (dH k') ts cl false m' (i:Int) out [])
 | 0,m',i,out,h1,_,_,h2,_,_=>by omega
 | m+1,0,i,out,_,h1,_,h2,_,_=>by omega
 | m+1,m'+1,i,out,hm,hm',h1,h2,hl,hb=>by
  have hN:=h.1;have hL:rM=4294967296:=rfl;rw[kg,qc,aqH (by simp)];rcases hc i h1 h2 with⟨e,j,g1,g2,gb,gP,gR⟩|⟨j,c,x,g1,g2,gc,gP,gR⟩
  ·rw[gP,gR,gY,aD,aV (by simp;omega),ak,nK h g2,aC];simp only[Ot,aqS,aqT,Ca h,ak]
   have hs:((out++[e]).map aj.bulk).sum≤2097152*(j-i0):=by
    rw[asv,asH];simp;omega
   cases hq:uD ts j [44]with
   | true=>
    obtain⟨hj,_⟩:=pO hq;have hq2:=Y_ (Ne.symm hcl) hq;simp only[hq2,aqS,aqT,arf,aqV];rw[mh (by omega)];exact V3 h hcl hc m m' (j+1) (out++[e]) (by omega) (by omega) (by omega) (by omega) (by simp;omega) (by omega)
   | false=>
    simp only[arz,aqV,aqS,aqT];rw[Dv h g2];cases hq2:uD ts j cl with
    | true=>
     obtain⟨hj,_⟩:=pO hq2;simp only[aqV,gY];rw[mh (by omega)];exact .inl ⟨_,j+1,by omega,by omega,by omega,rfl,rfl⟩
    | false=>
     simp only[aqS,aqT,fM,Bv,ak];exact .inr ⟨j,_,_,_,by omega,g2,CP ts j,rfl,rfl⟩
  ·rw[gP,gR,fM,aD,aqJ (R3 gc)];exact .inr ⟨j,c,_,_,by omega,g2,gc,rfl,rfl⟩
theorem aez{ts:List ay}(h:Dg ts){k k' i:Nat}(hi:i≤ts.length){cl:Str}(hcl:cl≠[44])(hc:∀j,i≤j→j≤ts.length→RE ts j (aY k (au.mk ts (j:Int))) (dH k' ts (j:Int))):
  RL ts i (dP (k+1) (au.mk ts (i:Int)) cl) (iK (k'+1) ts (i:Int) cl false):=by
 have hN:=h.1;have hB:=iW;rw[dP,ql,iK,D9,nK h hi,aC];simp only[Ca h,ak];cases hq:uD ts i cl with
 | true=>
  obtain⟨hj,_⟩:=pO hq;simp only[aqV];rw[mh (by omega)];exact .inl ⟨[],i+1,by omega,by omega,by simp,rfl,rfl⟩
 | false=>
  simp only[aqS,aqT];exact V3 h hcl hc BIG BIG i [] (by omega) (by omega) (aq9 _) hi (by simp) (by simp)
end Go.Ft
namespace Go.Ft
open Go
attribute [local congr] gq
def PU(ts:List ay)(i:Nat):Bool:=((Bq ts i).kind==1)||((Bq ts i).kind==3)
theorem afG{ts:List ay}{i:Nat}(h:(Bq ts i).kind≠0):∃hi:i<ts.length,Bq ts i=ts[i]∧I5 ts[i]=true:=by
 unfold Bq at h⊢;cases hx:ts[i]? with
 | none=>rw[hx]at h;exact absurd rfl h
 | some t=>
  rw[hx]at h;obtain⟨hi,ht⟩:=arP.1 hx;cases ho:I5 t with
  | false=>simp[ho]at h
  | true=>exact⟨hi,by simp[ho,ht],by rw[ht];exact ho⟩
theorem agR{ts:List ay}{i:Nat}(h:PU ts i=true):∃hi:i<ts.length,Bq ts i=ts[i]∧I5 ts[i]=true:=by
 refine afG fun h0=>?_;unfold PU at h;rw[h0]at h;cases h
theorem ajw{ts:List ay}(h:Dg ts)(i:Nat):(if decide ((ts.length:Int)≤(i:Int))then some true else av (idx ts (i:Int)) fun e1=>av (MW e1) fun x2=>some (!x2))=some (!PU ts i):=by
 unfold PU Bq;by_cases hi:i<ts.length
 ·have ht:=h.2 ts[i] (arj hi);rw[aqH (by simp;omega)];simp only[lX hi,ak,aq1 hi,MW];by_cases h1:ts[i].kind=1
  ·rw[aqJ (by simpa using h1),af4 _ (by omega),ak,ak,Jz h1 ht];cases isName ts[i].text<;>simp[h1]
  ·rw[aqH (by simpa using h1),ak,ak];by_cases h3:ts[i].kind=3
   ·have:I5 ts[i]=decide ((ts[i].text.length:Int)≤4096):=by unfold I5 jE;simp[h3]
    rw[this];cases decide ((ts[i].text.length:Int)≤4096)<;>simp[h3]
   ·have b1:(ts[i].kind==1)=false:=by simpa using h1
    have b3:(ts[i].kind==3)=false:=by simpa using h3
    cases I5 ts[i]<;>simp[b1,b3]
 ·rw[aqJ (by simp;omega),arN (Nat.le_of_not_lt hi)];rfl
def RX(ts:List ay)(i0:Nat)(P:Option (fE aA aj × au))(R:Option (List aj × List Str × Int × Int)):Prop:=
 (∃(l:List aj) (ks:List Str) (j:Nat),i0<j∧j≤ts.length∧(l.map aj.bulk).sum+(ks.map fun z:Str=>z.length+1).sum≤2097152*(j-i0)∧P=some (.ok (aj.mk 10 ([]:Str) (ah.mk 0 false 0 ([]:Str) [] []) l ks),au.mk ts (j:Int))∧R=some (l,ks,(j:Int),0))∨
 (∃(j:Nat) (c:Int) (x:List aj) (y:List Str),i0≤j∧j≤ts.length∧c≠0∧P=some (.bad (aA.mk (j:Int) c),au.mk ts (j:Int))∧R=some (x,y,(j:Int),c))
theorem VN{ts:List ay}(h:Dg ts){k k' i0:Nat}(hc:∀j,i0≤j→j≤ts.length→RE ts j (aY k (au.mk ts (j:Int))) (dH k' ts (j:Int))):
  ∀(m m' i:Nat) (l:List aj) (ks:List Str),ts.length<m+i→ts.length<m'+i→i0≤i→i≤ts.length→l.length+i0≤i→ks.length+i0≤i→(l.map aj.bulk).sum+(ks.map fun z:Str=>z.length+1).sum≤2097152*(i-i0)→
  RX ts i0 (iA (aY k) m (aj.mk 10 ([]:Str) (ah.mk 0 false 0 ([]:Str) [] []) l ks) (au.mk ts (i:Int))) (qc (dH k') ts [125] true m' (i:Int) l ks)
 | 0,m',i,l,ks,h1,_,_,h2,_,_,_=>by omega
 | m+1,0,i,l,ks,_,h1,_,h2,_,_,_=>by omega
 | m+1,m'+1,i,l,ks,hm,hm',h1,h2,hl,hk,hb=>by
  have hN:=h.1;have hL:rM=4294967296:=rfl;rw[iA,qc,aqJ rfl,ajw h,ak,M9 h];cases hq:PU ts i with
  | false=>
   simp only[arz,aqV,Bv,ak];by_cases h0:(Bq ts i).kind=0
   ·rw[aqJ h0,fM];exact .inr ⟨i,_,_,_,h1,h2,CP ts i,rfl,rfl⟩
   ·obtain⟨hi,htk,_⟩:=afG h0;have hms:miss ts i=5:=by unfold miss;rw[aqH (by omega)]
    rw[aqH h0,gY]
    have hcnd:(((Bq ts i).kind !=1)&&((Bq ts i).kind !=3))=true:=by
     unfold PU at hq;simp only[arF]at hq;simp[bne,hq.1,hq.2]
    rw[aqJ hcnd];show RX ts i0 (fU (some (.bad (aA.mk ((i:Nat):Int) 5),au.mk ts (i:Int))) _ _) _;rw[fM,hms];exact .inr ⟨i,5,_,_,h1,h2,by decide,rfl,rfl⟩
  | true=>
   obtain⟨hi,htk,_⟩:=agR hq;have htx:=h.2 ts[i] (arj hi);have h0:(Bq ts i).kind≠0:=fun h0=>by unfold PU at hq;rw[h0]at hq;cases hq
   have hcnd:(((Bq ts i).kind !=1)&&((Bq ts i).kind !=3))=false:=by
    unfold PU at hq;simp only[ars]at hq;rcases hq with hq|hq<;>simp[bne,hq]
   rw[aqH h0,gY,aqH (by rw[hcnd];simp),htk];simp only[arf,aqS,aqT,lX hi,ak];rw[aV (by simp;omega),ak,mh (by omega),Dv h (by omega)];simp only[Ca h,ak];cases hq1:uD ts (i+1) [58]with
   | false=>
    simp only[arz,aqV,aqS,aqT,fM,Bv,ak];exact .inr ⟨i+1,_,_,_,by omega,by omega,CP ts (i+1),rfl,rfl⟩
   | true=>
    obtain⟨hi1,_⟩:=pO hq1;simp only[arf,aqV,aqS,aqT,gY];rw[mh (by omega)];rcases hc (i+1+1) (by omega) (by omega)with⟨e,j,g1,g2,gb,gP,gR⟩|⟨j,c,x,g1,g2,gc,gP,gR⟩
    ·rw[gP,gR,gY,aD,aV (by simp;omega),ak,nK h g2,aC];simp only[Ot,aqS,aqT,Ca h,ak]
     have hs:((l++[e]).map aj.bulk).sum+((ks++[ts[i].text]).map fun z:Str=>z.length+1).sum≤2097152*(j-i0):=by
      simp only[asv,asH,arq,ar_,arJ,List.sum_nil];omega
     cases hq2:uD ts j [44]with
     | true=>
      obtain⟨hj,_⟩:=pO hq2;have hq3:uD ts j [125]=false:=Y_ (by decide) hq2;simp only[hq3,aqS,aqT,arf,aqV];rw[mh (by omega)];exact VN h hc m m' (j+1) (l++[e]) (ks++[ts[i].text]) (by omega) (by omega) (by omega) (by omega) (by simp;omega) (by simp;omega) (by omega)
     | false=>
      simp only[arz,aqV,aqS,aqT];rw[Dv h g2];cases hq3:uD ts j [125]with
      | true=>
       obtain⟨hj,_⟩:=pO hq3;simp only[aqV,gY];rw[mh (by omega)];exact .inl ⟨_,_,j+1,by omega,by omega,by omega,rfl,rfl⟩
      | false=>
       simp only[aqS,aqT,fM,Bv,ak];exact .inr ⟨j,_,_,_,by omega,g2,CP ts j,rfl,rfl⟩
    ·rw[gP,gR,fM,aD,aqJ (R3 gc)];exact .inr ⟨j,c,_,_,by omega,g2,gc,rfl,rfl⟩
theorem aec{ts:List ay}(h:Dg ts){k k' i:Nat}(hi:i≤ts.length)(hc:∀j,i≤j→j≤ts.length→RE ts j (aY k (au.mk ts (j:Int))) (dH k' ts (j:Int))):
  RX ts i (dM (k+1) (au.mk ts (i:Int))) (iK (k'+1) ts (i:Int) [125] true):=by
 have hN:=h.1;have hB:=iW;rw[dM,nC,iK,D9,nK h hi,aC];simp only[Ca h,ak];cases hq:uD ts i [125]with
 | true=>
  obtain⟨hj,_⟩:=pO hq;simp only[aqV];rw[mh (by omega)];exact .inl ⟨[],[],i+1,by omega,by omega,by simp,rfl,rfl⟩
 | false=>
  simp only[aqS,aqT];exact VN h hc BIG BIG i [] [] (by omega) (by omega) (aq9 _) hi (by simp) (by simp) (by simp)
end Go.Ft
namespace Go.Ft
open Go
attribute [local congr] gq
theorem XE(k:Int)(n:Str)(l:List aj)(ks:List Str):(aj.mk k n (ah.mk 0 false 0 ([]:Str) [] []) l ks).bulk=12+n.length+(l.map aj.bulk).sum+(ks.map fun z:Str=>z.length+1).sum:=by
 rw[aj.nJ,aj.nR];simp[ah.bulk,ah.kU];omega
theorem JI(v:ah):(aj.mk 1 ([]:Str) v [] []).bulk=5+v.bulk:=by
 simp[aj.bulk,aj.kU];omega
theorem acj{t:ay}(h:t.kind=2)(hs:t.text.length≤1048576):(I5 t=true∧∃u:Nat,u≤9007199254740992∧strconv_Atoi t.text=some ((u:Int),none)∧xD t.text=some ((u:Int),true))∨(I5 t=false∧∃n,xD t.text=some (n,false)):=by
 obtain⟨b,d1,d2,d3⟩:=ahk (s:=t.text) (by omega);obtain⟨n,ok,r1,r2,r3⟩:=Qw t.text;have ho:I5 t=b:=by unfold I5 jE;rw[h];simp[d1]
 cases hb:b with
 | true=>
  left;obtain⟨u,hu,hl⟩:=d2 hb;obtain⟨e1,e2⟩:=r3 u hu hl;refine⟨by rw[ho,hb],u,hl,?_,by rw[r1,e1,e2]⟩;rw[strconv_Atoi,aqJ (by omega),hu,Tx (by omega)];rfl
 | false=>
  right;refine⟨by rw[ho,hb],n,?_⟩;cases hok:ok with
  | false=>rw[r1,hok]
  | true=>
   obtain⟨u,_,hs2,hl⟩:=r2 hok;rw[d3 u hs2 hl]at hb;cases hb
theorem adO:isName [110,117,108,108]=true:=by decide
theorem adN:isName [116,114,117,101]=true:=by decide
theorem aaU:isName [102,97,108,115,101]=true:=by decide
theorem ade{ts:List ay}(h:Dg ts){k k' i:Nat}(hi:i<ts.length)(hk1:ts[i].kind=1)(hok:I5 ts[i]=true)
  (hargs:∀j,i<j→j≤ts.length→RL ts j (dP k (au.mk ts (j:Int)) [41]) (iK k' ts (j:Int) [41] false)):
  RE ts i (eY (k+1) (au.mk ts ((i+1:Nat):Int)) ts[i].text) (mF (k'+1) ts (i:Int)):=by
 have hN:=h.1;have htx:=h.2 ts[i] (arj hi);have hnm:=Jz hk1 htx;rw[hok]at hnm;rw[eY,qh,mF,D8,lX hi,ak];have w1:bq ((i:Int)+1)=((i+1:Nat):Int):=mh (by omega);by_cases h1:ts[i].text=[110,117,108,108]
 ·rw[aqJ (by simpa using h1),aqJ (by simpa using h1)];exact .inl ⟨_,i+1,by omega,by omega,by rw[JI];simp[ah.bulk,ah.kU],rfl,by rw[w1];rfl⟩
 ·rw[aqH (by simpa using h1),aqH (by simpa using h1)];by_cases h2:ts[i].text=[116,114,117,101]
  ·rw[aqJ (by simpa using h2),h2];exact .inl ⟨_,i+1,by omega,by omega,by rw[JI];simp[ah.bulk,ah.kU],rfl,by rw[w1];rfl⟩
  ·rw[aqH (by simpa using h2)];by_cases h3:ts[i].text=[102,97,108,115,101]
   ·rw[aqJ (by simpa using h3),h3];exact .inl ⟨_,i+1,by omega,by omega,by rw[JI];simp[ah.bulk,ah.kU],rfl,by rw[w1];rfl⟩
   ·rw[aqH (by simpa using h3)];have hp:j4 ts[i].text=true:=by unfold j4;rw[←hnm];simp[h1,h2,h3]
    rw[(Ee ts[i].text (by omega)).2,hp,ak,Lx htx hnm.symm,hp,ak,aqH (by simp),aqH (by simp),nK h (by omega),aC,w1,Ca h,ak];cases hq:uD ts (i+1) [40]with
    | false=>
     simp only[arz,aqV,aqS,aqT];exact .inl ⟨_,i+1,by omega,by omega,by rw[XE];simp;omega,rfl,rfl⟩
    | true=>
     obtain⟨hlt,_⟩:=pO hq;simp only[arf,aqV,aqS,aqT];have w2:bq ((i:Int)+2)=((i+1+1:Nat):Int):=by rw[aW (by omega) (by omega)];omega
     rw[w2];rcases hargs (i+1+1) (by omega) (by omega)with⟨l,j,g1,g2,gb,gP,gR⟩|⟨j,c,x,y,g1,g2,gc,gP,gR⟩
     ·rw[gP,gR,gY,aH];exact .inl ⟨_,j,by omega,g2,by rw[XE];simp;omega,rfl,rfl⟩
     ·rw[gP,gR,fM,aH];exact .inr ⟨j,c,_,by omega,g2,gc,rfl,rfl⟩
theorem aex{ts:List ay}(h:Dg ts){k k' i:Nat}(hi0:i≤ts.length)
  (hc:∀j,i<j→j≤ts.length→RE ts j (aY (k+1) (au.mk ts (j:Int))) (dH k' ts (j:Int)))
  (hargs:∀j,i<j→j≤ts.length→RL ts j (dP k (au.mk ts (j:Int)) [41]) (iK k' ts (j:Int) [41] false))
  (hlist:∀j,i<j→j≤ts.length→RL ts j (dP (k+1) (au.mk ts (j:Int)) [93]) (iK k' ts (j:Int) [93] false))
  (apk:∀j,i<j→j≤ts.length→RX ts j (dM (k+1) (au.mk ts (j:Int))) (iK k' ts (j:Int) [125] true)):
  RE ts i (eF (k+1+1) (au.mk ts (i:Int))) (lF (k'+1+1) ts (i:Int)):=by
 have hN:=h.1;rw[eF,qj,lF,Hr,M9 h];by_cases hi:ts.length≤i
 ·have ht:(Bq ts i).kind=0:=by unfold Bq;rw[arN hi]
  rw[aqJ (arC (by omega)),aqJ ht,fM];have:miss ts i=4:=by unfold miss;rw[aqJ hi]
  rw[this];exact .inr ⟨i,4,_,aq9 _,hi0,by decide,rfl,rfl⟩
 have hlt:i<ts.length:=by omega
 have hms:miss ts i=5:=by unfold miss;rw[aqH hi]
 have htx:=h.2 ts[i] (arj hlt);have w1:bq ((i:Int)+1)=((i+1:Nat):Int):=mh (by omega);rw[aqH (show ¬decide ((ts.length:Int)≤(i:Int))=true by simp;omega),lX hlt,ak,hms];have htk:Bq ts i=if I5 ts[i]then ts[i]else ay.mk 0 [] 0:=by unfold Bq;rw[aq1 hlt]
 cases hok:I5 ts[i]with
 | false=>
  rw[hok]at htk;rw[htk];show RE ts i (fU (some (.bad (aA.mk ((i:Nat):Int) 5),au.mk ts (i:Int))) _ _) _;rw[fM];have bad:∀x:aj,RE ts i (some (.bad (aA.mk ((i:Nat):Int) 5),au.mk ts (i:Int))) (some (x,(i:Int),5)):=fun x=>.inr ⟨i,5,x,aq9 _,hi0,by decide,rfl,rfl⟩;by_cases h2:ts[i].kind=2
  ·rw[aqJ (by simpa using h2)];rcases acj h2 htx with⟨h3,_⟩|⟨_,n,hn⟩
   ·rw[hok]at h3;cases h3
   ·rw[hn,aC,aqH (by simp)];exact bad _
  ·rw[aqH (by simpa using h2)];by_cases h3:ts[i].kind=3
   ·have:I5 ts[i]=decide ((ts[i].text.length:Int)≤4096):=by unfold I5 jE;simp[h3]
    rw[hok]at this;rw[aqJ (by simpa using h3),aqH (by rw[←this];simp)];exact bad _
   ·rw[aqH (by simpa using h3)];by_cases h1:ts[i].kind=1
    ·have hnm:=Jz h1 htx;rw[hok]at hnm;have n1:ts[i].text≠[110,117,108,108]:=fun e=>by rw[e,adO]at hnm;cases hnm
     have n2:ts[i].text≠[116,114,117,101]:=fun e=>by rw[e,adN]at hnm;cases hnm
     have n3:ts[i].text≠[102,97,108,115,101]:=fun e=>by rw[e,aaU]at hnm;cases hnm
     have hp:j4 ts[i].text=false:=by unfold j4;rw[←hnm];rfl
     rw[aqJ (by simpa using h1),mF,D8,lX hlt,ak,aqH (by simpa using n1),aqH (by simpa using n2),aqH (by simpa using n3),(Ee ts[i].text (by omega)).2,hp,ak,aqJ (by simp)];exact bad _
    ·rw[aqH (by simpa using h1)];have h4:ts[i].kind≠4:=fun e=>by rw[aaR e]at hok;cases hok
     rw[aqH (by simpa using h4)];exact bad _
 | true=>
  rw[hok,aqJ rfl]at htk;have hk:=agz hok;rw[htk,aqH (by omega),gY];rcases hk with h1|h2|h3|h4
  ·rw[aqH (by simp[h1]),aqH (by simp[h1]),aqJ (by simpa using h1),aqH (by simp[h1]),aqH (by simp[h1]),aqJ (by simpa using h1)];show RE ts i (fU (eY (k+1) (au.mk ts (bq ((i:Int)+1))) ts[i].text) _ _) _;rw[w1];rcases ade h hlt h1 hok hargs with⟨e,j,g1,g2,gb,gP,gR⟩|⟨j,c,x,g1,g2,gc,gP,gR⟩
   ·rw[gP,gR];exact .inl ⟨e,j,g1,g2,gb,rfl,rfl⟩
   ·rw[gP,gR];exact .inr ⟨j,c,x,g1,g2,gc,rfl,rfl⟩
  ·rw[aqJ (by simpa using h2),aqJ (by simpa using h2)];rcases acj h2 htx with⟨_,u,hu,ha,hr⟩|⟨h3,_⟩
   ·rw[ha,hr,aC,aC,aqJ rfl];have hbk:(aj.mk 1 ([]:Str) (ah.mk 2 false (u:Int) ([]:Str) [] []) [] []).bulk≤2097152*(i+1-i):=by rw[JI];simp[ah.bulk,ah.kU]
    exact .inl ⟨aj.mk 1 ([]:Str) (ah.mk 2 false (u:Int) ([]:Str) [] []) [] [],i+1,by omega,by omega,hbk,by rw[←w1];rfl,by rw[←w1];rfl⟩
   ·rw[hok]at h3;cases h3
  ·have:I5 ts[i]=decide ((ts[i].text.length:Int)≤4096):=by unfold I5 jE;simp[h3]
   rw[hok]at this;rw[aqH (by simp[h3]),aqJ (by simpa using h3),aqH (by simp[h3]),aqJ (by simpa using h3),aqJ this.symm];have hbk:(aj.mk 1 ([]:Str) (ah.mk 3 false 0 ts[i].text [] []) [] []).bulk≤2097152*(i+1-i):=by rw[JI];simp[ah.bulk,ah.kU];omega
   exact .inl ⟨aj.mk 1 ([]:Str) (ah.mk 3 false 0 ts[i].text [] []) [] [],i+1,by omega,by omega,hbk,by rw[←w1];rfl,by rw[←w1];rfl⟩
  ·have hop:∀op,uD ts i op=(ts[i].text==op):=fun op=>by unfold uD;rw[htk,h4];rfl
   rw[aqH (by simp[h4]),aqH (by simp[h4]),aqH (by simp[h4]),aqH (by simp[h4]),aqH (by simp[h4]),aqH (by simp[h4]),aqJ (by simpa using h4),jD,zk,lX hlt,ak,nK h hi0,aC,hop];by_cases h40:ts[i].text=[40]
   ·have e40:(ts[i].text==([40]:Str))=true:=by simpa using h40
    simp only[e40,aqV];rw[w1];rcases hc (i+1) (by omega) (by omega)with⟨e,j,g1,g2,gb,gP,gR⟩|⟨j,c,x,g1,g2,gc,gP,gR⟩
    ·rw[gP,gR,gY,aD,Dv h g2];have e0:((0:Int)==0)=true:=rfl;simp only[e0,aqV,Ca h,ak,Ot,aqS,aqT];cases hq:uD ts j [41]with
     | true=>
      obtain⟨hj,_⟩:=pO hq;simp only[arf,aqV,aqS,aqT,gY];rw[mh (by omega)];exact .inl ⟨e,j+1,by omega,by omega,by omega,rfl,rfl⟩
     | false=>
      simp only[arz,aqV,aqS,aqT,fM,Bv,ak,R3 (CP ts j)];exact .inr ⟨j,_,_,by omega,g2,CP ts j,rfl,rfl⟩
    ·have e0:(c==0)=false:=by simpa using gc
     rw[gP,gR,fM,aD];simp only[e0,aqS,aqT,ak,R3 gc,aqV];exact .inr ⟨j,c,_,by omega,g2,gc,rfl,rfl⟩
   ·have e40:(ts[i].text==([40]:Str))=false:=by simpa using h40
    simp only[e40,aqS,aqT];rw[nK h hi0,aC,hop];by_cases h91:ts[i].text=[91]
    ·have e91:(ts[i].text==([91]:Str))=true:=by simpa using h91
     simp only[e91,aqV];rw[w1];rcases hlist (i+1) (by omega) (by omega)with⟨l,j,g1,g2,gb,gP,gR⟩|⟨j,c,x,y,g1,g2,gc,gP,gR⟩
     ·rw[gP,gR,gY,aH];exact .inl ⟨_,j,by omega,g2,by rw[XE];simp;omega,rfl,rfl⟩
     ·rw[gP,gR,fM,aH];exact .inr ⟨j,c,_,by omega,g2,gc,rfl,rfl⟩
    ·have e91:(ts[i].text==([91]:Str))=false:=by simpa using h91
     simp only[e91,aqS,aqT];rw[nK h hi0,aC,hop];by_cases aps:ts[i].text=[123]
     ·have ane:(ts[i].text==([123]:Str))=true:=by simpa using aps
      simp only[ane,aqV];rw[w1];rcases apk (i+1) (by omega) (by omega)with⟨l,ks,j,g1,g2,gb,gP,gR⟩|⟨j,c,x,y,g1,g2,gc,gP,gR⟩
      ·rw[gP,gR,gY,aH];exact .inl ⟨_,j,by omega,g2,by rw[XE];simp only[arY];omega,rfl,rfl⟩
      ·rw[gP,gR,fM,aH];exact .inr ⟨j,c,_,by omega,g2,gc,rfl,rfl⟩
     ·have ane:(ts[i].text==([123]:Str))=false:=by simpa using aps
      simp only[ane,aqS,aqT];exact .inr ⟨i,5,_,aq9 _,hi0,by decide,rfl,rfl⟩
end Go.Ft
namespace Go.Ft
open Go
attribute [local congr] gq
theorem w7(n:Int)(h:2≤n∧n≤6):bq (n+1)=n+1:=aW (by omega) (by omega)
theorem adJ{ts:List ay}(h:Dg ts):∀(k:Nat),
  (∀k' i,i≤ts.length→30*(ts.length-i)+20≤k→30*(ts.length-i)+20≤k'→RE ts i (aY k (au.mk ts (i:Int))) (dH k' ts (i:Int)))∧
  (∀(k' i:Nat) (n:Int),2≤n→n≤7→i≤ts.length→((30*(ts.length-i)+19:Nat):Int)-n≤(k:Int)→((30*(ts.length-i)+19:Nat):Int)-n≤(k':Int)→RE ts i (bA k (au.mk ts (i:Int)) n) (dY k' ts (i:Int) n))∧
  (∀k' i,i≤ts.length→30*(ts.length-i)+10≤k→30*(ts.length-i)+10≤k'→RE ts i (dK k (au.mk ts (i:Int))) (jh k' ts (i:Int)))∧
  (∀k' i,i≤ts.length→30*(ts.length-i)+9≤k→30*(ts.length-i)+9≤k'→RE ts i (dZ k (au.mk ts (i:Int))) (jX k' ts (i:Int)))∧
  (∀k' i,i≤ts.length→30*(ts.length-i)+8≤k→30*(ts.length-i)+8≤k'→RE ts i (eF k (au.mk ts (i:Int))) (lF k' ts (i:Int)))∧
  (∀k' i cl,cl≠[44]→i≤ts.length→30*(ts.length-i)+21≤k→30*(ts.length-i)+21≤k'→RL ts i (dP k (au.mk ts (i:Int)) cl) (iK k' ts (i:Int) cl false))∧
  (∀k' i,i≤ts.length→30*(ts.length-i)+21≤k→30*(ts.length-i)+21≤k'→RX ts i (dM k (au.mk ts (i:Int))) (iK k' ts (i:Int) [125] true)):=by
 intro k
 induction k using Nat.strongRecOn with
 | _ k ih=>
  have hN:=h.1;refine⟨?_,?_,?_,?_,?_,?_,?_⟩
  ·intro k' i hi h1 h2;obtain⟨q,rfl⟩:∃q,k=q+1:=⟨k-1,by omega⟩;obtain⟨q',rfl⟩:∃q',k'=q'+1:=⟨k'-1,by omega⟩;obtain⟨c1,c2,_⟩:=ih q (by omega);exact aej h (c2 q' i 2 (by omega) (by omega) hi (by omega) (by omega)) fun j hj hj2=>c1 q' j hj2 (by omega) (by omega)
  ·intro k' i n n2 n7 hi h1 h2;obtain⟨q,rfl⟩:∃q,k=q+1:=⟨k-1,by omega⟩;obtain⟨q',rfl⟩:∃q',k'=q'+1:=⟨k'-1,by omega⟩;obtain⟨_,c2,c3,_⟩:=ih q (by omega);by_cases e7:n=7
   ·subst e7;exact agx (c3 q' i hi (by omega) (by omega))
   ·have hn:2≤n∧n≤6:=⟨n2,by omega⟩;refine ajL h hn ?_ ?_
    ·rw[w7 n hn];exact c2 q' i (n+1) (by omega) (by omega) hi (by omega) (by omega)
    ·intro j hj hj2;rw[w7 n hn];exact c2 q' j (n+1) (by omega) (by omega) hj2 (by omega) (by omega)
  ·intro k' i hi h1 h2;obtain⟨q,rfl⟩:∃q,k=q+1:=⟨k-1,by omega⟩;obtain⟨q',rfl⟩:∃q',k'=q'+1:=⟨k'-1,by omega⟩;obtain⟨_,_,c3,c4,_⟩:=ih q (by omega);exact aap h hi (c4 q' i hi (by omega) (by omega)) fun j hj hj2=>c3 q' j hj2 (by omega) (by omega)
  ·intro k' i hi h1 h2;obtain⟨q,rfl⟩:∃q,k=q+1:=⟨k-1,by omega⟩;obtain⟨q',rfl⟩:∃q',k'=q'+1:=⟨k'-1,by omega⟩;obtain⟨c1,_,_,_,c5,_⟩:=ih q (by omega);exact abp h (c5 q' i hi (by omega) (by omega)) fun j hj hj2=>c1 q' j hj2 (by omega) (by omega)
  ·intro k' i hi h1 h2;obtain⟨q,rfl⟩:∃q,k=q+1+1:=⟨k-2,by omega⟩;obtain⟨q',rfl⟩:∃q',k'=q'+1+1:=⟨k'-2,by omega⟩;obtain⟨c1,_,_,_,_,c6,c7⟩:=ih (q+1) (by omega);obtain⟨_,_,_,_,_,d6,_⟩:=ih q (by omega);exact aex h hi (fun j hj hj2=>c1 q' j hj2 (by omega) (by omega)) (fun j hj hj2=>d6 q' j _ (by decide) hj2 (by omega) (by omega)) (fun j hj hj2=>c6 q' j _ (by decide) hj2 (by omega) (by omega)) (fun j hj hj2=>c7 q' j hj2 (by omega) (by omega))
  ·intro k' i cl hcl hi h1 h2;obtain⟨q,rfl⟩:∃q,k=q+1:=⟨k-1,by omega⟩;obtain⟨q',rfl⟩:∃q',k'=q'+1:=⟨k'-1,by omega⟩;obtain⟨c1,_⟩:=ih q (by omega);exact aez h hi hcl fun j hj hj2=>c1 q' j hj2 (by omega) (by omega)
  ·intro k' i hi h1 h2;obtain⟨q,rfl⟩:∃q,k=q+1:=⟨k-1,by omega⟩;obtain⟨q',rfl⟩:∃q',k'=q'+1:=⟨k'-1,by omega⟩;obtain⟨c1,_⟩:=ih q (by omega);exact aec h hi fun j hj hj2=>c1 q' j hj2 (by omega) (by omega)
theorem ahn{ts:List ay}(h:Dg ts):RE ts 0 (qX (au.mk ts 0)) (FJ ts 0):=by
 have hN:=h.1;have hB:=iW;exact(adJ h BIG).1 BIG 0 (asQ _) (by omega) (by omega)
end Go.Ft
namespace Go.Ft
open Go
attribute [local congr] gq
theorem NU{n:Int}(h:-9223372036854775808≤n∧n<9223372036854775808):bq n=n:=Wj (by omega) (by omega)
theorem afl{i j:Nat}(h:i+j<9223372036854775808):bq ((i:Int)+(j:Int))=((i+j:Nat):Int):=by rw[NU (by omega)];omega
theorem OA{α:Type}{l:List α}{i:Nat}(h:i<l.length):idx l (i:Int)=some (l[i]):=by rw[acp,aq1 h]
def pq(c:UInt8):Bool:=(((decide (97≤(c.toNat:Int)))&&(decide ((c.toNat:Int)≤122)))||((decide (65≤(c.toNat:Int)))&&(decide ((c.toNat:Int)≤90))))||((c.toNat:Int)==95)
def isDigit(c:UInt8):Bool:=(decide (48≤(c.toNat:Int)))&&(decide ((c.toNat:Int)≤57))
def isWord(c:UInt8):Bool:=pq c||isDigit c
theorem qp{c:UInt8}:isDigit c=true↔48≤c.toNat∧c.toNat≤57:=by simp[isDigit];omega
theorem CQ{c:UInt8}:pq c=true↔(97≤c.toNat∧c.toNat≤122)∨(65≤c.toNat∧c.toNat≤90)∨c.toNat=95:=by simp[pq];omega
@[simp] theorem letter_eq(c:UInt8):sI c=some (pq c):=rfl
@[simp] theorem digit_eq(c:UInt8):rU c=some (isDigit c):=rfl
@[simp] theorem Rs(c:UInt8):Au c=some (pq c):=rfl
@[simp] theorem F7(c:UInt8):pU c=some (isDigit c):=rfl
@[simp] theorem agJ(c:UInt8):vV c=some (isWord c):=by
 unfold vV isWord;simp;cases pq c<;>simp
def span(p:UInt8→Bool)(l:Str):Nat:=(l.takeWhile p).length
@[simp] theorem aow(p:UInt8→Bool):span p []=0:=rfl
theorem lQ(p:UInt8→Bool)(c:UInt8)(l:Str):span p (c::l)=if p c then span p l+1 else 0:=by
 unfold span;rw[List.takeWhile_cons];split<;>simp
theorem Cv(p:UInt8→Bool)(l:Str):span p l≤l.length:=by
 induction l with
 | nil=>simp
 | cons c l ih=>rw[lQ];split<;>simp<;>omega
theorem Ya{p:UInt8→Bool}{cls:UInt8→Option Bool}(hc:∀c,cls c=some (p c))(s:Str)(hs:s.length<4611686018427387904):
  ∀(k i:Nat),s.length<k+i→i≤s.length→ru s cls k (i:Int)=some ((i+span p (s.drop i):Nat):Int)
 | 0,i,h,h'=>by omega
 | k+1,i,h,h'=>by
  rw[ru];by_cases hi:i<s.length
  ·rw[aqZ hi,lQ];have h1:((i:Int)<(s.length:Int)):=by omega
   simp only[h1,asB,aqV,OA hi,ak,hc];cases e:p s[i]with
   | false=>simp
   | true=>
    simp only[aqV];rw[show (i:Int)+1=((i:Int)+(1:Nat))from rfl,afl (by omega),Ya hc s hs k (i+1) (by omega) (by omega)];simp only[aro,asr];omega
  ·have:i=s.length:=by omega
   subst this;simp
theorem QZ{p:UInt8→Bool}{cls:UInt8→Option Bool}(hc:∀c,cls c=some (p c)){s:Str}(hs:s.length<4611686018427387904){i:Nat}(h:i≤s.length):
  uV s (i:Int) cls=some ((i+span p (s.drop i):Nat):Int):=Ya hc s hs BIG i (by unfold BIG;omega) h
theorem VQ(s:Str)(hs:s.length<4611686018427387904)(a:Nat):∀(k n:Nat),s.length<k+(a+n)→a+n≤s.length→
  tX s (a:Int) k (n:Int)=some ((n+span isDigit (s.drop (a+n)):Nat):Int)
 | 0,n,h,h'=>by omega
 | k+1,n,h,h'=>by
  rw[tX,afl (by omega)];by_cases hi:a+n<s.length
  ·rw[aqZ hi,lQ];have h1:(((a+n:Nat):Int)<(s.length:Int)):=by omega
   simp only[h1,asB,aqV,OA hi,ak,F7];cases e:isDigit s[a+n]with
   | false=>simp
   | true=>
    simp only[aqV];rw[show (n:Int)+1=((n:Int)+(1:Nat))from rfl,afl (by omega),VQ s hs a k (n+1) (by omega) (by omega)];simp only[aro,asr];rw[show a+(n+1)=a+n+1 from rfl];omega
  ·have e:a+n=s.length:=by omega
   rw[e];simp
theorem abQ(s:Str)(hs:s.length<4611686018427387904)(a:Nat):∀(k n:Nat),s.length<k+(a+n)→a+n≤s.length→
  yG s (a:Int) k (n:Int)=some ((n+span isWord (s.drop (a+n)):Nat):Int)
 | 0,n,h,h'=>by omega
 | k+1,n,h,h'=>by
  rw[yG,afl (by omega)];by_cases hi:a+n<s.length
  ·rw[aqZ hi,lQ];have h1:(((a+n:Nat):Int)<(s.length:Int)):=by omega
   simp only[h1,asB,aqV,OA hi,ak,F7,Rs]
   have e:(if pq s[a+n]=true then some true else some (isDigit s[a+n]))=some (isWord s[a+n]):=by
    unfold isWord;cases pq s[a+n]<;>simp
   rw[e];simp only[ak];cases e:isWord s[a+n]with
   | false=>simp
   | true=>
    simp only[aqV];rw[show (n:Int)+1=((n:Int)+(1:Nat))from rfl,afl (by omega),abQ s hs a k (n+1) (by omega) (by omega)];simp only[aro,asr];rw[show a+(n+1)=a+n+1 from rfl];omega
  ·have e:a+n=s.length:=by omega
   rw[e];simp
theorem aeg{s:Str}(hs:s.length<4611686018427387904){a:Nat}(h:a≤s.length):Eb s (a:Int)=some ((span isDigit (s.drop a):Nat):Int):=by
 have:=VQ s hs a BIG 0 (by unfold BIG;omega) (by omega);simpa[Eb]using this
theorem abP{s:Str}(hs:s.length<4611686018427387904){a:Nat}(h:a≤s.length):Gh s (a:Int)=some ((span isWord (s.drop a):Nat):Int):=by
 have:=abQ s hs a BIG 0 (by unfold BIG;omega) (by omega);simpa[Gh]using this
def JM(c:UInt8):Option Nat:=if isDigit c then some (c.toNat-48)else if 97≤c.toNat∧c.toNat≤102 then some (c.toNat-87)else if 65≤c.toNat∧c.toNat≤70 then some (c.toNat-55)else none
def Zc(c:UInt8):Int:=match JM c with|some n=>n|none=>-1
theorem QG{c:UInt8}{n:Nat}(h:JM c=some n):n<16:=by
 unfold JM at h;split at h
 ·rename_i hd;rw[qp]at hd;cases h;omega
 ·split at h
  ·cases h;omega
  ·split at h
   ·cases h;omega
   ·cases h
theorem Qs{c d:UInt8}(h:d.toNat≤c.toNat):(c-d).toNat=c.toNat-d.toNat:=UInt8.toNat_sub_of_le c d (UInt8.le_iff_toNat_le.2 h)
theorem aa_(c:UInt8):vW c=some (Zc c):=by
 have hlt:=c.toNat_lt;unfold vW Zc JM;simp only[digit_eq,ak];by_cases hd:isDigit c=true
 ·simp only[hd,aqV];rw[qp]at hd;rw[Qs (by simpa using hd.1)];rfl
 ·simp only[Bool.not_eq_true]at hd;simp only[hd,aqS,aqT];by_cases h1:97≤c.toNat∧c.toNat≤102
  ·rw[aqJ (by simp;omega),aqJ h1,Qs (by simpa using h1.1)];have:(97:UInt8).toNat=97:=rfl;rw[this,NU (by omega)];simp only[aro];omega
  ·rw[aqH (by simp;omega),aqH h1];by_cases h2:65≤c.toNat∧c.toNat≤70
   ·rw[aqJ (by simp;omega),aqJ h2,Qs (by simpa using h2.1)];have:(65:UInt8).toNat=65:=rfl;rw[this,NU (by omega)];simp only[aro];omega
   ·rw[aqH (by simp;omega),aqH h2]
theorem WH(c:UInt8):Kw c=some (Zc c):=by
 have hlt:=c.toNat_lt;unfold Kw Zc JM;simp only[F7,ak];by_cases hd:isDigit c=true
 ·simp only[hd,aqV];rw[qp]at hd;rw[NU (by omega)];simp only[aro];omega
 ·simp only[Bool.not_eq_true]at hd;simp only[hd,aqS,aqT];by_cases h1:97≤c.toNat∧c.toNat≤102
  ·rw[aqJ (by simp;omega),aqJ h1,NU (by omega)];simp only[aro];omega
  ·rw[aqH (by simp;omega),aqH h1];by_cases h2:65≤c.toNat∧c.toNat≤70
   ·rw[aqJ (by simp;omega),aqJ h2,NU (by omega)];simp only[aro];omega
   ·rw[aqH (by simp;omega),aqH h2]
theorem Du{c:UInt8}{n:Nat}(h:JM c=some n):Zc c=n:=by unfold Zc;rw[h]
theorem Gz{c:UInt8}(h:JM c=none):Zc c=-1:=by unfold Zc;rw[h]
def chr:Str→UInt8 × Nat × Int
 | []=>(0,0,5)
 | c::r=>if c.toNat<32 then (0,0,5)else if c.toNat≠92 then (c,1,0)else
  match r with
  | []=>(0,0,4)
  | d::r=>if d.toNat=34∨d.toNat=92 then (d,2,0)else if d.toNat=110 then (10,2,0)else if d.toNat=116 then (9,2,0)else if d.toNat=120 then
    match r with
    | []=>(0,0,4)
    | a::r=>match JM a with
     | none=>(0,0,5)
     | some x=>match r with
      | []=>(0,0,4)
      | b::_=>match JM b with
       | none=>(0,0,5)
       | some y=>(UInt8.ofNat (16*x+y),4,0)
   else (0,0,5)
theorem acS:∀ {l:Str},(chr l).2.2=0→0<(chr l).2.1∧(chr l).2.1≤l.length
 | [],h=>by simp[chr]at h
 | c::r,h=>by
  unfold chr at h⊢;by_cases h1:c.toNat<32
  ·simp[h1]at h
  ·by_cases h2:c.toNat≠92
   ·simp[h1,h2]
   ·simp only[h1,h2,aqT]at h⊢;cases r with
    | nil=>simp at h
    | cons d r=>
     simp only at h⊢;by_cases h3:d.toNat=34∨d.toNat=92
     ·simp[h3]
     ·by_cases h4:d.toNat=110
      ·simp[h4]
      ·by_cases h5:d.toNat=116
       ·simp[h5]
       ·by_cases h6:d.toNat=120
        ·simp only[h6,aqV]at h⊢;cases r with
         | nil=>simp at h
         | cons a r=>
          simp only at h⊢;cases ha:JM a with
          | none=>simp[ha]at h
          | some x=>
           simp only[ha]at h⊢;cases r with
           | nil=>simp at h
           | cons b r=>
            simp only at h⊢;cases hb:JM b with
            | none=>simp[hb]at h
            | some y=>simp
        ·simp[h3,h4,h5,h6]at h
theorem getD_drop{s:Str}{i:Nat}(h:i<s.length):s.drop i=s.getD i 0::s.drop (i+1):=by
 rw[aqZ h,arp,aq1 h,aso]
theorem dflt:(default:UInt8)=0:=rfl
theorem ajv{s:Str}(hs:s.length<4611686018427387904){i:Nat}(hi:i+1<s.length)(h1:(s.getD i 0).toNat=92)(h2:(s.getD (i+1) 0).toNat=120):
  BA s (i:Int)=some ((chr (s.drop i)).1,((chr (s.drop i)).2.1:Int),(chr (s.drop i)).2.2):=by
 rw[getD_drop (by omega),getD_drop hi];unfold chr;unfold BA;obtain⟨m,hm⟩:∃m,BIG=m+3:=⟨BIG-3,rfl⟩;rw[hm];by_cases h4:i+2<s.length
 ·rw[getD_drop (by omega:i+1+1<s.length)];simp (disch:=omega) only[lG,WH,dflt,h2,aW,bg,aqJ,aqH,ak,aqW,ash,arv,aq0,Int.reduceToNat,aqV];cases ha:JM (s.getD (i+1+1) 0)with
  | none=>simp (disch:=omega) only[Gz ha,aqJ];rfl
  | some x=>
   have hx:=QG ha;by_cases h5:i+3<s.length
   ·rw[getD_drop (by omega:i+1+1+1<s.length)];simp (disch:=omega) only[Du ha,aW,aqH];cases hb:JM (s.getD (i+1+1+1) 0)with
    | none=>simp (disch:=omega) only[Gz hb,aqJ];rfl
    | some y=>
     have hy:=QG hb;simp (disch:=omega) only[Du hb,aW,aqH]
     have:byteOf (16*(16*0+(x:Int))+(y:Int))=UInt8.ofNat (16*x+y):=by
      apply arD.1;have e1:((byteOf (16*(16*0+(x:Int))+(y:Int))).toNat:Int)=16*(16*0+(x:Int))+(y:Int):=OX (by omega) (by omega);have e2:(UInt8.ofNat (16*x+y)).toNat=16*x+y:=by simp;omega
      omega
     rw[this];rfl
   ·rw[ara (by omega:s.length≤i+1+1+1)];simp (disch:=omega) only[Du ha,aW,aqJ,aqH];rfl
 ·rw[ara (by omega:s.length≤i+1+1)];simp (disch:=omega) only[lG,h2,aW,aqJ,aqH,aqW,ash,aqV];rfl
theorem ajy{s:Str}(hs:s.length<4611686018427387904){i:Nat}(hi:i<s.length):oI s (i:Int)=some ((chr (s.drop i)).1,((chr (s.drop i)).2.1:Int),(chr (s.drop i)).2.2):=by
 by_cases h1:(s.getD i 0).toNat=92
 ·by_cases h2:i+1<s.length
  ·by_cases h3:(s.getD (i+1) 0).toNat=120
   ·rw[←ajv hs h2 h1 h3];unfold oI;simp (disch:=omega) only[dflt,aW,bg,aqJ,aqH,ak,aqW,aq7,arA,ash,arv,aq0,Int.reduceToNat]
   ·rw[getD_drop hi,getD_drop h2];unfold oI chr;simp (disch:=omega) only[dflt,aW,bg,aqH,ak,aqW,aq7,arA,ash,arv,aq0,Int.reduceToNat];by_cases d1:(s.getD (i+1) 0).toNat=34
    ·simp (disch:=omega) only[aqJ];rfl
    ·by_cases d2:(s.getD (i+1) 0).toNat=92
     ·simp (disch:=omega) only[aqJ,aqH];rfl
     ·by_cases d3:(s.getD (i+1) 0).toNat=110
      ·simp (disch:=omega) only[aqJ,aqH];rfl
      ·by_cases d4:(s.getD (i+1) 0).toNat=116
       ·simp (disch:=omega) only[aqJ,aqH];rfl
       ·simp (disch:=omega) only[aqH];rfl
  ·rw[getD_drop hi,ara (by omega:s.length≤i+1)];unfold oI chr;simp (disch:=omega) only[dflt,aW,bg,aqJ,aqH,ak,aqW,arA,ash,aq0];rfl
 ·rw[getD_drop hi];unfold oI chr;by_cases h2:(s.getD i 0).toNat<32
  ·simp (disch:=omega) only[dflt,bg,aqJ,ak,aqW,ash,aq0];rfl
  ·simp (disch:=omega) only[dflt,bg,aqJ,aqH,ak,aqW,arA,ash,aq0];rfl
theorem ajX{s:Str}(hs:s.length<4611686018427387904){i:Nat}(hi:i<s.length)(h1:(s.getD i 0).toNat=92):
  wW s (i:Int)=some ((chr (s.drop i)).1,((chr (s.drop i)).2.1:Int)):=by
 unfold wW;rw[getD_drop hi];unfold chr;by_cases h2:i+1<s.length
 ·rw[getD_drop h2];simp (disch:=omega) only[dflt,aW,bg,aqH,ak,aqW,aq7,ash,arv,aq0,Int.reduceToNat];by_cases d1:(s.getD (i+1) 0).toNat=34
  ·simp (disch:=omega) only[aW,bg,aqJ,ak,arv,aq0,Int.reduceToNat];rfl
  ·by_cases d2:(s.getD (i+1) 0).toNat=92
   ·simp (disch:=omega) only[aW,bg,aqJ,aqH,ak,arv,aq0,Int.reduceToNat];rfl
   ·by_cases d3:(s.getD (i+1) 0).toNat=110
    ·simp (disch:=omega) only[aW,bg,aqJ,aqH,ak,arv,aq0,Int.reduceToNat];rfl
    ·by_cases d4:(s.getD (i+1) 0).toNat=116
     ·simp (disch:=omega) only[aW,bg,aqJ,aqH,ak,arv,aq0,Int.reduceToNat];rfl
     ·by_cases d5:(s.getD (i+1) 0).toNat=120
      ·simp (disch:=omega) only[bg,aqJ,aqH,ak,arv,aq0,Int.reduceToNat];by_cases h4:i+2<s.length
       ·rw[show s.drop (i+1+1)=s.getD (i+2) 0::s.drop (i+3)from getD_drop (by omega)];by_cases h5:i+3<s.length
        ·rw[show s.drop (i+3)=s.getD (i+3) 0::s.drop (i+4)from getD_drop (by omega)];simp (disch:=omega) only[aa_,dflt,bg,aqJ,ak,aqW,arv,aq0,Int.reduceToNat];cases ha:JM (s.getD (i+2) 0)with
         | none=>simp (disch:=omega) only[Gz ha,aqH,ak,aqS,aqT];rfl
         | some x=>
          have hx:=QG ha;simp (disch:=omega) only[Du ha,aW,aqJ,ak,aqW];cases hb:JM (s.getD (i+3) 0)with
          | none=>simp (disch:=omega) only[Gz hb,aqH];rfl
          | some y=>
           have hy:=QG hb;simp (disch:=omega) only[Du hb,aW,aqJ]
           have:byteOf (16*(x:Int)+(y:Int))=UInt8.ofNat (16*x+y):=by
            apply arD.1;have e1:((byteOf (16*(x:Int)+(y:Int))).toNat:Int)=16*(x:Int)+(y:Int):=OX (by omega) (by omega);have e2:(UInt8.ofNat (16*x+y)).toNat=16*x+y:=by simp;omega
            omega
           rw[this];rfl
        ·rw[ara (by omega:s.length≤i+3)];simp (disch:=omega) only[aa_,bg,aqH,ak,arv,aq0,Int.reduceToNat,aqS,aqT];cases ha:JM (s.getD (i+2) 0)<;>rfl
       ·rw[ara (by omega:s.length≤i+1+1)];simp (disch:=omega) only[bg,aqH,ak,arv,aq0,Int.reduceToNat,aqS,aqT];rfl
      ·simp (disch:=omega) only[aW,bg,aqJ,aqH,ak,arv,aq0,Int.reduceToNat];rfl
 ·rw[ara (by omega:s.length≤i+1)];simp (disch:=omega) only[aW,aqJ,aqH,aqW,ash];rfl
theorem adR{s:Str}(hs:s.length<4611686018427387904){i:Nat}(hi:i<s.length)(h1:(s.getD i 0).toNat=92)(he:(chr (s.drop i)).2.2≠0):
  BP s (i:Int)=some ((chr (s.drop i)).2.2==4):=by
 unfold BP;rw[getD_drop hi]at he⊢;simp (disch:=omega) only[aW,bg,bL,ak,aq7,ars,arv,aq0,Int.reduceToNat];rw[List.take_length];generalize s.drop (i+1)=r at he⊢;generalize s.getD i 0=c at he h1⊢;have h92:¬c.toNat<32:=by omega
 have adZ:¬c.toNat≠92:=by omega
 match r with
 | []=>simp[chr,h92,adZ]
 | [d]=>
  by_cases d5:d=120
  ·subst d5;simp[chr,h92,adZ]
  ·have:d.toNat≠120:=fun h=>d5 (arD.1 h);simp only[chr,h92,adZ,aqT]at he⊢;simp[d5];revert he
   repeat' split
   all_goals simp
 | [d,a]=>
  by_cases d5:d=120
  ·subst d5;simp[chr,h92,adZ,idx];rw[aa_];cases ha:JM a with
   | none=>simp[Gz ha]
   | some x=>simp[Du ha]
  ·have:d.toNat≠120:=fun h=>d5 (arD.1 h);have d5':¬(d.toNat:Int)=120:=by omega
   simp only[chr,h92,adZ,aqT]at he⊢;simp[d5,idx,d5'];revert he
   repeat' split
   all_goals simp
 | d::a::b::r=>
  simp only[chr,h92,adZ,aqT]at he⊢;have hl:¬((r.length:Int)+1+1+1=2):=by omega
  simp[hl];revert he
  repeat' split
  all_goals simp
def txt:Nat→Str→Nat→Str→Str × Nat × Int
 | _,_,_,[]=>([],0,4)
 | k+1,b,n,_::r=>txt k b n r
 | 0,b,n,c::r=>if c.toNat=34 then (if 4096<b.length then ([],0,3)else (b,n+1,0))else
   if (chr (c::r)).2.2=0 then txt ((chr (c::r)).2.1-1) (b++[(chr (c::r)).1]) (n+(chr (c::r)).2.1) r else ([],0,(chr (c::r)).2.2)
theorem Yi:∀(k:Nat) (b:Str) (n:Nat) (r:Str),k≤r.length→txt k b n r=txt 0 b n (r.drop k)
 | 0,b,n,r,_=>by simp
 | k+1,b,n,[],h=>by simp at h
 | k+1,b,n,c::r,h=>by rw[txt,Yi k b n r (by simpa using h)];simp
theorem Q_(b:Str)(n:Nat)(c:UInt8)(r:Str):txt 0 b n (c::r)=if c.toNat=34 then (if 4096<b.length then ([],0,3)else (b,n+1,0))else
  if (chr (c::r)).2.2=0 then txt 0 (b++[(chr (c::r)).1]) (n+(chr (c::r)).2.1) ((c::r).drop (chr (c::r)).2.1)else ([],0,(chr (c::r)).2.2):=by
 rw[txt];split
 ·rfl
 ·split
  ·rename_i h;obtain⟨h1,h2⟩:=acS h;rw[Yi _ _ _ _ (by simp at h2;omega)];congr 1;obtain⟨m,hm⟩:∃m,(chr (c::r)).2.1=m+1:=⟨(chr (c::r)).2.1-1,by omega⟩;rw[hm];simp
  ·rfl
def aaV(a:Nat)(x:Str × Nat × Int):ay × Int × Int:=if x.2.2=0 then (⟨3,x.1,a⟩,((a+x.2.1:Nat):Int),0)else (⟨0,[],0⟩,0,x.2.2)
def adt(x:Str × Nat × Int):ay × Int × Int:=if x.2.2=0 then (⟨3,x.1,0⟩,(x.2.1:Int),0)else (⟨0,[],0⟩,0,x.2.2)
theorem aki{l:Str}(h:(chr l).2.2≠0):(chr l).2.1=0:=by
 revert h;unfold chr
 repeat' split
 all_goals simp
theorem aen{c:UInt8}{r:Str}(h1:¬c.toNat<32)(h2:c.toNat≠92):chr (c::r)=(c,1,0):=by
 show (if c.toNat<32 then _ else _)=_;rw[aqH h1,aqJ h2]
theorem akh{c:UInt8}{r:Str}(h1:c.toNat<32):chr (c::r)=(0,0,5):=by
 show (if c.toNat<32 then _ else _)=_;rw[aqJ h1]
theorem Sb{s:Str}(hs:s.length≤2147483648)(a:Nat):∀(k i:Nat) (b:Str),s.length<k+i→i≤s.length→a≤i→b.length≤i→
  qF s (a:Int) k (i:Int) b=some (aaV a (txt 0 b (i-a) (s.drop i)))
 | 0,i,b,h,h',_,_=>by omega
 | k+1,i,b,h,h',ha,hb=>by
  rw[qF];by_cases hi:i<s.length
  ·rw[getD_drop hi,Q_];simp (disch:=omega) only[dflt,aW,bg,aqJ,ak,aqW,aq7,aq0];have hd:=getD_drop hi;by_cases NR:(s.getD i 0).toNat=34
   ·simp (disch:=omega) only[aW,aV,aqJ,ak];by_cases hl:4096<b.length
    ·simp (disch:=omega) only[aqJ];rfl
    ·simp (disch:=omega) only[aqH];simp only[aaV,aqV];congr 4;omega
   ·simp (disch:=omega) only[aqJ,aqH];by_cases h92:(s.getD i 0).toNat=92
    ·simp (disch:=omega) only[ajX (by omega) hi h92,aqJ,aqH,aC];rw[hd];by_cases he:(chr (s.getD i 0::s.drop (i+1))).2.2=0
     ·obtain⟨n1,n2⟩:=acS he;rw[←hd]at n2;rw[asg]at n2;have happ:app b [(chr (s.getD i 0::s.drop (i+1))).1]=some (b++[(chr (s.getD i 0::s.drop (i+1))).1]):=aV (by simp[rM];omega);rw[←hd]at n1 he happ⊢;simp (disch:=omega) only[he,happ,aW,aqH,ak,aqS,aqV,aqT];rw[show (i:Int)+((chr (s.drop i)).2.1:Int)=((i+(chr (s.drop i)).2.1:Nat):Int)from by omega];rw[Sb hs a k (i+(chr (s.drop i)).2.1) _ (by omega) (by omega) (by omega) (by simp;omega)];rw[arW];congr 4;omega
     ·rw[←hd]at he⊢;rw[aki he];simp (disch:=omega) only[adR (by omega) hi h92 he,aW,aV,aqJ,aqH,ak,aq7,asy];by_cases h4:(chr (s.drop i)).2.2=4
      ·simp (disch:=omega) only[h4,aqV];simp[aaV]
      ·simp (disch:=omega) only[h4,aqT]
       have h5:(chr (s.drop i)).2.2=5:=by
        revert he h4;unfold chr
        repeat' split
        all_goals simp
       simp[aaV,h5]
    ·by_cases h32:(s.getD i 0).toNat<32
     ·rw[akh h32];simp (disch:=omega) only[aW,aV,aqJ,aqH,ak,asy];rfl
     ·rw[aen h32 h92];have happ:app b [s.getD i 0]=some (b++[s.getD i 0]):=aV (by simp[rM];omega);simp (disch:=omega) only[happ,aW,aV,aqJ,aqH,ak,aqV];rw[show (i:Int)+1=((i+1:Nat):Int)from rfl,Sb hs a k (i+1) _ (by omega) (by omega) (by omega) (by simp;omega)];simp only[ar5,arU];rw[show i+1-a=i-a+1 from by omega]
  ·have e:i=s.length:=by omega
   rw[e];simp (disch:=omega) only[aqH,aqW];simp[txt,aaV]
theorem agK{s:Str}(hs:s.length≤2147483648){a:Nat}(h:a<s.length):Ej s (a:Int)=some (aaV a (txt 0 [] 1 (s.drop (a+1)))):=by
 unfold Ej;simp (disch:=omega) only[aW];rw[show (a:Int)+1=((a+1:Nat):Int)from rfl,Sb hs a BIG (a+1) [] (by unfold BIG;omega) (by omega) (by omega) (by simp)];rw[show a+1-a=1 from by omega]
theorem YB{s:Str}(hs:s.length≤2147483648)(a:Nat):∀(k i:Nat) (b:Str),s.length<k+i→i≤s.length→a≤i→b.length≤i→
  yH s (a:Int) k b (i:Int)=some (adt (txt 0 b (i-a) (s.drop i)))
 | 0,i,b,h,h',_,_=>by omega
 | k+1,i,b,h,h',ha,hb=>by
  rw[yH];by_cases hi:i<s.length
  ·rw[getD_drop hi,Q_];simp (disch:=omega) only[dflt,aW,bg,aqJ,ak,aqW,aq7,arA,ash,aq0];have hd:=getD_drop hi;by_cases NR:(s.getD i 0).toNat=34
   ·simp (disch:=omega) only[aW,aV,aqJ,ak];by_cases hl:4096<b.length
    ·simp (disch:=omega) only[aqJ];rfl
    ·simp (disch:=omega) only[aqH];simp only[adt,aqV];congr 3;omega
   ·simp (disch:=omega) only[ajy (by omega) hi,aqJ,aqH,aD];rw[←hd];by_cases he:(chr (s.drop i)).2.2=0
    ·obtain⟨n1,n2⟩:=acS he;rw[asg]at n2;have happ:app b [(chr (s.drop i)).1]=some (b++[(chr (s.drop i)).1]):=aV (by simp[rM];omega);simp (disch:=omega) only[he,happ,aW,ak,asX,aqV,aqT];rw[show (i:Int)+((chr (s.drop i)).2.1:Int)=((i+(chr (s.drop i)).2.1:Nat):Int)from by omega];rw[YB hs a k (i+(chr (s.drop i)).2.1) _ (by omega) (by omega) (by omega) (by simp;omega)];rw[arW];congr 4;omega
    ·simp (disch:=omega) only[he,asn,aqV,aqT];simp[adt,he]
  ·have e:i=s.length:=by omega
   rw[e];simp (disch:=omega) only[aqH,aqW];simp[txt,adt]
theorem afU{s:Str}(hs:s.length≤2147483648){a:Nat}(h:a<s.length):Jq s (a:Int)=some (adt (txt 0 [] 1 (s.drop (a+1)))):=by
 unfold Jq;simp (disch:=omega) only[aW];rw[show (a:Int)+1=((a+1:Nat):Int)from rfl,YB hs a BIG (a+1) [] (by unfold BIG;omega) (by omega) (by omega) (by simp)];rw[show a+1-a=1 from by omega]
def val(l:Str):Nat:=l.foldl (fun n c=>10*n+(c.toNat-48)) 0
def FU:Nat:=9007199254740992
theorem afr(l:Str):∀n:Nat,n≤l.foldl (fun n (c:UInt8)=>10*n+(c.toNat-48)) n:=by
 induction l with
 | nil=>intro n;simp
 | cons c l ih=>intro n;simp only[asu];exact asI (by omega) (ih _)
theorem Y5{s:Str}(hs:s.length≤2147483648)(hd:∀c∈s,isDigit c=true):∀(k i n:Nat),s.length<k+i→i≤s.length→n≤10*FU+9→
  rz s k (n:Int) (i:Int)=some (decide (FU<(s.drop i).foldl (fun n (c:UInt8)=>10*n+(c.toNat-48)) n))
 | 0,i,n,h,h',_=>by omega
 | k+1,i,n,h,h',hn=>by
  unfold FU at hn;rw[rz];by_cases hi:i<s.length
  ·have hdi:=hd s[i] (arj hi);rw[qp]at hdi;have e:=getD_drop hi;have e0:s.getD i 0=s[i]:=by rw[arp,aq1 hi,aso]
   by_cases hm:n≤9007199254740992
   ·simp (disch:=omega) only[dflt,aW,bg,aqJ,ak,aqW,aq5,aq0];rw[e,e0,Qs (by simpa using hdi.1)];have h48:(48:UInt8).toNat=48:=rfl;rw[h48];simp (disch:=omega) only[aW];rw[show 10*(n:Int)+((s[i].toNat-48:Nat):Int)=((10*n+(s[i].toNat-48):Nat):Int)from by omega,show (i:Int)+1=((i+1:Nat):Int)from rfl];rw[Y5 hs hd k (i+1) _ (by omega) (by omega) (by unfold FU;omega)]
    rw[asu]
   ·simp (disch:=omega) only[aqH,aqW,aq5];have:=afr (s.drop i) n;have h2:FU<(s.drop i).foldl (fun n (c:UInt8)=>10*n+(c.toNat-48)) n:=by unfold FU;omega
    simp[h2];omega
  ·have e:i=s.length:=by omega
   rw[e];simp (disch:=omega) only[aqH,aqW,aq5];simp[FU];omega
theorem agP{s:Str}(hs:s.length≤2147483648)(hd:∀c∈s,isDigit c=true):E_ s=some (decide (FU<val s)):=by
 have:=Y5 hs hd BIG 0 0 (by unfold BIG;omega) (by omega) (by omega);rw[arU]at this;exact this
theorem ad9(l:Str):∀n:Nat,n*10 ^ l.length≤l.foldl (fun n (c:UInt8)=>10*n+(c.toNat-48)) n:=by
 induction l with
 | nil=>intro n;simp
 | cons c l ih=>
  intro n;simp only[asu,aq2];refine asI ?_ (ih _);rw[asc,←asU,Nat.mul_right_comm];exact arx _ (by omega)
theorem afq{c:UInt8}{l:Str}(hc:isDigit c=true)(h0:c.toNat≠48)(hl:16≤l.length):FU<val (c::l):=by
 rw[qp]at hc;have h1:=ad9 l (c.toNat-48);have h2:10 ^ 16≤10 ^ l.length:=ase (by omega) hl;have h3:10 ^ l.length≤(c.toNat-48)*10 ^ l.length:=Nat.le_mul_of_pos_left _ (by omega);have h4:val (c::l)=l.foldl (fun n (c:UInt8)=>10*n+(c.toNat-48)) (c.toNat-48):=by simp[val]
 rw[h4];have h5:FU<10 ^ 16:=by decide
 omega
theorem ab9{s:Str}(hs:s.length≤16)(hd:∀c∈s,isDigit c=true):∀(k i n:Nat),s.length<k+i→i≤s.length→n<10 ^ i→
  uQ s k (n:Int) (i:Int)=some ((((s.drop i).foldl (fun n (c:UInt8)=>10*n+(c.toNat-48)) n:Nat):Int),decide ((s.drop i).foldl (fun n (c:UInt8)=>10*n+(c.toNat-48)) n≤FU))
 | 0,i,n,h,h',_=>by omega
 | k+1,i,n,h,h',hn=>by
  have h16:10 ^ i≤10 ^ 16:=ase (by omega) (by omega);have hp:10 ^ 16=10000000000000000:=by decide
  rw[uQ];by_cases hi:i<s.length
  ·have hdi:=hd s[i] (arj hi);have hdj:=hdi;rw[qp]at hdj;have e:=getD_drop hi;have e0:s.getD i 0=s[i]:=by rw[arp,aq1 hi,aso]
   rw[e,e0];simp (disch:=omega) only[dflt,e0,F7,hdi,aW,bg,aqJ,ak,aqW,arH,aq0,asS,aqT];rw[show 10*(n:Int)+(s[i].toNat:Int)-48=((10*n+(s[i].toNat-48):Nat):Int)from by omega,show (i:Int)+1=((i+1:Nat):Int)from rfl];rw[ab9 hs hd k (i+1) _ (by omega) (by omega) (by rw[asc];omega)];rw[asu]
  ·have e:i=s.length:=by omega
   rw[e];simp (disch:=omega) only[aqH,aqW];simp[FU];omega
theorem ajC{s:Str}(hd:∀c∈s,isDigit c=true)(hne:s≠[]):xD s=if 16<s.length∨(1<s.length∧(s.getD 0 0).toNat=48)then some (0,false)else some ((val s:Int),decide (val s≤FU)):=by
 unfold xD;have hb:(s==([]:Str))=false:=by simpa using hne
 by_cases h1:16<s.length
 ·have:decide ((16:Int)<(s.length:Int))=true:=by simp;omega
  rw[aqJ (show 16<s.length∨(1<s.length∧(s.getD 0 0).toNat=48)from .inl h1),hb,this];rfl
 ·have h1':decide ((16:Int)<(s.length:Int))=false:=by simp;omega
  have hz:=ab9 (s:=s) (by omega) hd BIG 0 0 (by unfold BIG;omega) (by omega) (by simp);by_cases h2:1<s.length
  ·by_cases h3:(s.getD 0 0).toNat=48
   ·rw[aqJ (show 16<s.length∨(1<s.length∧(s.getD 0 0).toNat=48)from .inr ⟨h2,h3⟩),hb,h1'];simp (disch:=omega) only[dflt,bg,aqJ,ak,aqW,aq7,Int.reduceToNat,asD,aqS,aqT]
   ·rw[aqH (show ¬(16<s.length∨(1<s.length∧(s.getD 0 0).toNat=48))from by omega),hb,h1'];simp (disch:=omega) only[dflt,bg,aqJ,aqH,ak,aqW,aq7,Int.reduceToNat,asD,aqS,aqT];exact hz
  ·rw[aqH (show ¬(16<s.length∨(1<s.length∧(s.getD 0 0).toNat=48))from by omega),hb,h1'];simp (disch:=omega) only[aqH,ak,aqW,asD,aqS,aqT];exact hz
end Go.Ft
namespace Go.Ft
open Go
def EI(s:Str):Bool:=((s==([124,124]:Str))||((s==([38,38]:Str))||((s==([61,61]:Str))||((s==([33,61]:Str))||((s==([60,61]:Str))||((s==([62,61]:Str))||((s==([60]:Str))||((s==([62]:Str))||((s==([43]:Str))||((s==([45]:Str))||((s==([42]:Str))||((s==([47]:Str))||((s==([37]:Str))||((s==([33]:Str))||((s==([63]:Str))||((s==([58]:Str))||((s==([46]:Str))||((s==([44]:Str))||((s==([61]:Str))||((s==([40]:Str))||((s==([41]:Str))||((s==([91]:Str))||((s==([93]:Str))||((s==([123]:Str))||(s==([125]:Str))))))))))))))))))))))))))
theorem aaN{α:Type}(p q:Bool)(x y:α):(if (p||q)=true then x else y)=if p=true then x else if q=true then x else y:=by cases p<;>simp
theorem Sc(s:Str)(a:Int)(k:Nat)(x:Int):jm s a (k+1) x=if decide (x<(([2,1]:List Int).length:Int))then
   av (idx ([2,1]:List Int) x) fun n1=>
   if decide ((s.length:Int)<(bq (a+n1)))then jm s a k (bq (x+1))
   else av (sl s a (bq (a+n1))) fun s1=>if EI s1 then some ((ay.mk 4 s1 a),(bq (a+n1)),0)else jm s a k (bq (x+1))
  else some ((ay.mk 0 ([]:Str) 0),0,5):=by
 have key:∀(s1:Str) (x y:Option (ay × Int × Int)),(if EI s1=true then x else y)=_:=fun s1 x y=>by unfold EI;simp only[aaN];rfl
 rw[jm];congr 1;congr 1;funext n1;congr 1;congr 1;funext s1;exact(key s1 _ _).symm
attribute [local congr] gq
def opn:Str→Nat
 | a::b::_=>if EI [a,b]then 2 else if EI [a]then 1 else 0
 | [a]=>if EI [a]then 1 else 0
 | []=>0
theorem Rc{s:Str}{i:Nat}(h:i+1<s.length):(s.take (i+2)).drop i=[s.getD i 0,s.getD (i+1) 0]:=by
 rw[asf,getD_drop (by omega),getD_drop h];rw[show i+2-i=2 from by omega];rfl
theorem Rf{s:Str}{i:Nat}(h:i<s.length):(s.take (i+1)).drop i=[s.getD i 0]:=by
 rw[asf,getD_drop h];rw[show i+1-i=1 from by omega];rfl
theorem amW{s:Str}(hs:s.length≤2147483648){i:Nat}(h:i<s.length):uW s (i:Int)=
  some (if opn (s.drop i)=0 then (⟨0,[],0⟩,0,5)else (⟨4,(s.drop i).take (opn (s.drop i)),i⟩,((i+opn (s.drop i):Nat):Int),0)):=by
 unfold uW;obtain⟨m,hm⟩:∃m,BIG=m+3:=⟨BIG-3,rfl⟩;rw[hm,Sc,Sc,Sc];have e0:idx ([2,1]:List Int) 0=some 2:=rfl;have e1:idx ([2,1]:List Int) 1=some 1:=rfl;have el:(([2,1]:List Int).length:Int)=2:=rfl;rw[el];by_cases h2:i+1<s.length
 ·rw[getD_drop h,getD_drop h2];simp (disch:=omega) only[e0,e1,aW,bL,aqJ,aqH,ak,aqW,arv,aq0,Int.reduceToNat,Int.zero_add];rw[Rc h2];unfold opn;cases h3:EI [s.getD i 0,s.getD (i+1) 0]with
  | true=>simp (disch:=omega) only[h3,reduceCtorEq,aqV,aqT];rfl
  | false=>
   simp (disch:=omega) only[h3,aqS,aqT];rw[Rf h];cases h4:EI [s.getD i 0]with
   | true=>simp (disch:=omega) only[reduceCtorEq,aqV,aqT];rfl
   | false=>simp (disch:=omega) only[aqS,aqV,aqT]
 ·rw[getD_drop h,ara (by omega:s.length≤i+1)];simp (disch:=omega) only[e0,e1,aW,bL,aqJ,aqH,ak,aqW,arv,aq0,Int.reduceToNat,Int.zero_add];rw[Rf h];unfold opn;cases h4:EI [s.getD i 0]with
  | true=>simp (disch:=omega) only[h4,reduceCtorEq,aqV,aqT];rfl
  | false=>simp (disch:=omega) only[h4,aqS,aqV,aqT]
end Go.Ft
