/- Proved here: plain facts on the functional texts. -/
import Derived.Test.YtchmdnpcppkdpaaGreatDoorPdPlain1
set_option linter.unusedVariables false
set_option linter.unusedSimpArgs false
set_option linter.defProp false
set_option linter.unusedSectionVars false
set_option maxHeartbeats 2000000
namespace Go.Ft
open Go
attribute [local congr] fD
theorem aa0{env:List aD}(hl:env.length<4611686018427387904)(hE:∀x∈env,VV x.value∧x.value.bulk≤1048576):∀(b:Nat) (e:au) (level k:Nat),e.bulk≤b→SE e→FM e level=0→3*b+3≤k→
  bZ k env e=some (zx (ru env e))
 | 0,e,_,_,h,_,_,_=>by have:=e.lg;omega
 | b+1,e,level,k,h,hS,hx,hk=>by
  obtain⟨hB,hC⟩:=(id hS:SE e);obtain⟨F,x2⟩:=ajl hx;have hW:WB=2199023255552:=rfl;have ahJ:w9=4294967296:=rfl;have hlen:=F.len;obtain⟨k1,rfl⟩:∃k1,k=k1+3:=⟨k-3,by omega⟩;have ih:∀k2,3*b+3≤k2→∀x∈e.args,bZ k2 env x=some (zx (ru env x)):=fun k2 hk2 x hx=>aa0 hl hE b x (level+1) k2 (by have:=lG hx;omega) (hS.arg hx) (x2 x hx) hk2
  have gv:∀x∈e.args,(ru env x).2=0→VV (ru env x).1∧(ru env x).1.bulk<1152921504606846976:=by
   intro x hx hz;have hxb:=lG hx;obtain⟨g1,g2⟩:=(Zy hE b x (level+1) (by omega) (hS.arg hx) (x2 x hx)).1 hz;have hcl:=Lm _ x (aod _);have:ecnt x*WB≤4096*WB:=aoA _ (hS.arg hx).2;exact⟨g1,by omega⟩
  have all:∀k2,3*b+3≤k2→mh (bZ k2) env e.args BIG [] 0=some (zx (qA (e.args.map (ru env)))):=by
   intro k2 hk2;rw[fu (F:=fun k s i=>mh (bZ k2) env e.args k s i) (l:=e.args) (body:=fun _ e1 (bM:List ah) r=>dM (bZ k2 env e1) (fun e2=>some (.bad e2)) fun x2=>av (app bM [x2]) fun xM=>r xM) (fin:=fun bM=>some (.ok bM)) (by omega) (fun k s i=>rfl)];have:=amU (go:=bZ k2 env) (f:=ru env) e.args 0 [] (ih k2 hk2) (by simp;omega);simpa using this
  have aky:∀j,3*b+3≤j→eT (j+1) env e.args=some (zx (qA (e.args.map (ru env)))):=fun j hj=>all j hj
  have aic:(qA (e.args.map (ru env))).2=0→(qA (e.args.map (ru env))).1.length=e.args.length∧∀v∈(qA (e.args.map (ru env))).1,VV v∧v.bulk<1152921504606846976:=by
   intro h0;obtain⟨o1,o2⟩:=OX (N:=0) h0;refine⟨by rw[o2];simp,fun v hv=>?_⟩;rw[o2,ao_]at hv;obtain⟨x,hx,rfl⟩:=apk.1 hv;exact gv x hx (o1 _ (apt hx))
  rw[bZ,su,Zx];have hkind:=F.kind;have hkc:e.kind=1∨e.kind=2∨e.kind=3∨e.kind=4∨e.kind=5∨e.kind=6∨e.kind=7∨e.kind=8∨e.kind=9∨e.kind=10:=by omega
  have i0:∀(x:au) (r:List au),idx (x::r) 0=some x:=fun x r=>rfl;have i1:∀(x y:au) (r:List au),idx (x::y::r) 1=some y:=fun x y r=>rfl;have i2:∀(x y z:au) (r:List au),idx (x::y::z::r) 2=some z:=fun x y z r=>rfl;have v0:∀(x:ah) (r:List ah),idx (x::r) 0=some x:=fun x r=>rfl;have v1:∀(x y:ah) (r:List ah),idx (x::y::r) 1=some y:=fun x y r=>rfl;rcases hkc with hk'|hk'|hk'|hk'|hk'|hk'|hk'|hk'|hk'|hk'
  ·rw[anN (by simpa using hk'),anN hk'];rfl
  ·rw[anG (by simp[hk']),anN (by simpa using hk'),anG (by omega),anN hk',find_spec hl,zy]
  ·obtain⟨x,ha⟩:=F.k3 hk';have e3:=ih (k1+2) (by omega) x (by rw[ha];simp);have g3:=gv x (by rw[ha];simp);rw[ha,i0];simp only[hk',aj,e3];unfold Hy GA;rw[show (([x]:List au).map (ru env))=[ru env x]from rfl,afD];simp only[lF,aj];by_cases h0:(ru env x).2=0
   ·obtain⟨g1,g2⟩:=g3 h0;have he:=QL (b:=mkS e.name) g1 (by omega) (fun h=>by cases h.2);have he':wI (ru env x).1 (ah.mk 3 false 0 e.name [] [])=some (zx (Sg (ru env x).1 (mkS e.name))):=he;simp[h0,iA,he']
    first|exact acA _|exact acz _|exact zy _
   ·simp[h0,iA,pY h0]
  ·obtain⟨x,y,ha⟩:=F.k4 hk';have e3:=ih (k1+2) (by omega) x (by rw[ha];simp);have e4:=ih (k1+2) (by omega) y (by rw[ha];simp);have g3:=gv x (by rw[ha];simp);rw[ha,i0,i1];simp only[hk',aj,e3,e4];unfold Hy GA;rw[show (([x,y]:List au).map (ru env))=[ru env x,ru env y]from rfl,ai8];by_cases h0:(ru env x).2=0
   ·obtain⟨g1,g2⟩:=g3 h0;have he:=Vx (b:=(ru env y).1) g1 (by omega);by_cases h1:(ru env y).2=0
    ·simp[h0,h1,iA,he]
     first|exact acA _|exact acz _|exact zy _
    ·simp[h0,h1,iA,pY h1]
   ·simp[h0,iA,pY h0]
  ·
   have hc5:eB (k1+2) env e=o9 (bZ (k1+1)) (eB (k1+1)) (eT (k1+1)) (dL (k1+1)) (dw (k1+1)) env e:=rfl;obtain⟨c1,c2,c3⟩:=akp e.name;have ha:=aky k1 (by omega);simp only[hk'];rw[hc5,o9,c1,aj,jq,jq,ha];unfold Hy;have hlm:(e.args.map (ru env)).length=e.args.length:=by simp
   rw[hlm];rcases c3 with c3|c3|⟨c3,c4⟩
   ·rw[c3];simp[pY]
   ·rw[c3];by_cases hlen:e.args.length=1
    ·by_cases h0:(qA (e.args.map (ru env))).2=0
     ·obtain⟨l1,l2⟩:=aic h0;obtain⟨a,hva⟩:=len1 (l1.trans hlen);rw[hva]at l2;obtain⟨g1,g2⟩:=l2 a (by simp);have ho:=aep (name:=e.name) g1 (by omega);simp[hlen,h0,iA,hva,v0,ho,GA]
      first|exact acA _|exact acz _|exact zy _
     ·simp[hlen,h0,iA,pY h0]
    ·have:¬((e.args.length:Int)=1):=by omega
     have t2:¬((1:Int)=(e.args.length:Int)):=by omega
     simp[this,t2,pY]
   ·rw[c3];by_cases hlen:e.args.length=2
    ·by_cases h0:(qA (e.args.map (ru env))).2=0
     ·obtain⟨l1,l2⟩:=aic h0;obtain⟨a,b',hva⟩:=len2 (l1.trans hlen);rw[hva]at l2;obtain⟨g1,g2⟩:=l2 a (by simp);obtain⟨g3,g4⟩:=l2 b' (by simp);have ho:=adJ (name:=e.name) g1 g3 (by omega) (by omega);simp[hlen,h0,iA,hva,v0,v1,ho,GA]
      first|exact acA _|exact acz _|exact zy _
     ·simp[hlen,h0,iA,pY h0]
    ·have:¬((e.args.length:Int)=2):=by omega
     have t2:¬((2:Int)=(e.args.length:Int)):=by omega
     simp[this,t2,pY]
  ·obtain⟨⟨x,ha⟩,_⟩:=F.k6 hk';have e3:=ih (k1+2) (by omega) x (by rw[ha];simp);have g3:=gv x (by rw[ha];simp);rw[ha,i0];simp only[hk',aj,e3];unfold Hy GA;rw[show (([x]:List au).map (ru env))=[ru env x]from rfl,afD];by_cases h0:(ru env x).2=0
   ·obtain⟨g1,g2⟩:=g3 h0;have he:=YM (op:=e.name) g1;simp[h0,iA,he]
    first|exact acA _|exact acz _|exact zy _
   ·simp[h0,iA,pY h0]
  ·
   obtain⟨⟨x,y,ha⟩,hop⟩:=F.k7 hk';have hb5:dL (k1+2) env e=mP (bZ (k1+1)) (eB (k1+1)) (eT (k1+1)) (dL (k1+1)) (dw (k1+1)) env e:=rfl;have e3:=ih (k1+1) (by omega) x (by rw[ha];simp);have e4:=ih (k1+1) (by omega) y (by rw[ha];simp);have g3:=gv x (by rw[ha];simp);have g4:=gv y (by rw[ha];simp);simp only[hk'];rw[hb5,mP,ha,i0,i1];simp only[aj,e3,e4];unfold Hy GA;rw[show (([x,y]:List au).map (ru env))=[ru env x,ru env y]from rfl,ai8];by_cases hsc:e.name=[38,38]∨e.name=[124,124]
   ·have akd:((e.name==([38,38]:Str))||(e.name==([124,124]:Str)))=true:=by simpa using hsc
    simp only[akd,anX,hsc,and_true,Po];by_cases h0:(ru env x).2=0
    ·simp only[h0,iA,Pg];by_cases hb1:(ru env x).1.kind=1
     ·have ed:((ru env x).1.dR==(e.name==([124,124]:Str)))=decide ((ru env x).1.dR=decide (e.name=[124,124])):=by
       have eb:(e.name==([124,124]:Str))=decide (e.name=[124,124]):=by rw[ao9];simp
       rw[eb];rfl
      simp only[hb1,anX,iW,ed,anZ];by_cases hs:(ru env x).1.dR=decide (e.name=[124,124])
      ·have:zx (ru env x)=.ok (ru env x).1:=anN h0;simp[hs,this]
      ·unfold abe;by_cases h1:(ru env y).2=0
       ·obtain⟨gy1,gy2⟩:=g4 h1;by_cases hb2:(ru env y).1.kind=1
        ·have hy:ah.mk 1 (ru env y).1.dR 0 ([]:Str) [] []=(ru env y).1:=by
          have hp:=LV ((xu _).1 gy1.1).1;unfold pK at hp;simp only[an_,aov,aoi,hb2]at hp;obtain⟨⟨⟨⟨_,q2⟩,q3⟩,q4⟩,q5⟩:=hp;generalize (ru env y).1=w at *;cases w with
          | mk k bb n s l ks=>
           simp only at hb2 q2 q3 q4 q5;have z1:n=0:=by omega
           have z2:s=[]:=q3.elim (fun q=>by omega) fun q=>q;have z3:l=[]:=q4.elim (fun q=>by omega) fun q=>aoL (by omega);have z4:ks=[]:=q5.elim (fun q=>by omega) fun q=>aoL (by omega);subst z1 z2 z3 z4 hb2;rfl
         have:zx (ru env y)=.ok (ru env y).1:=anN h1;simp[hs,h1,hb2,eY,hy,this]
        ·simp[hs,h1,hb2,pY]
       ·simp[hs,h1,pY h1]
     ·simp[hb1,pY]
    ·simp[h0,iA,pY h0]
   ·have akd:((e.name==([38,38]:Str))||(e.name==([124,124]:Str)))=false:=by
     rw[aoE,an7,an7];exact⟨fun h=>hsc (.inl h),fun h=>hsc (.inr h)⟩
    simp only[akd,anL,anW,hsc,and_false];by_cases h0:(ru env x).2=0
    ·by_cases h1:(ru env y).2=0
     ·obtain⟨gx1,gx2⟩:=g3 h0;obtain⟨gy1,gy2⟩:=g4 h1;have hb:=Yb (op:=e.name) gx1 gy1 (by omega) (by omega);simp only[iA,h0,h1,anX];rw[hb];simp
      first|exact acA _|exact acz _|exact zy _
     ·simp[h0,h1,iA,pY h1]
    ·simp[h0,iA,pY h0]
  ·obtain⟨x,y,z,ha⟩:=F.k8 hk';have e3:=ih (k1+2) (by omega) x (by rw[ha];simp);have e4:=ih (k1+2) (by omega) y (by rw[ha];simp);have e5:=ih (k1+2) (by omega) z (by rw[ha];simp);rw[ha,i0,i1,i2];simp only[hk',aj,e3,e4,e5,zy,Pg];unfold Hy afl;by_cases h0:(ru env x).2=0
   ·by_cases hb1:(ru env x).1.kind=1
    ·cases hbb:(ru env x).1.dR<;>simp[h0,hb1,hbb,iA]
    ·simp[h0,hb1,iA,pY]
   ·simp[h0,iA,pY h0]
  ·have ha:=aky (k1+1) (by omega);simp only[hk'];rw[ha];unfold Hy GA;by_cases h0:(qA (e.args.map (ru env))).2=0
   ·obtain⟨l1,l2⟩:=aic h0
    have hv:uw (JW (qA (e.args.map (ru env))).1) 1=if yI (JW (qA (e.args.map (ru env))).1)≤16 then 0 else 13:=by
     rw[Kt _ _ 1 (aod _) (Ve (by omega) fun x hx=>(l2 x hx).1).1 (by omega)];refine fD (propext (by omega))
    have hbk:(JW (qA (e.args.map (ru env))).1).bulk<4611686018427387904:=by
     rw[GK];obtain⟨o1,o2⟩:=OX (N:=0) h0;rw[o2,ao_,ao_];have s1:=Jy (l:=e.args) (f:=(ah.bulk ∘ fun x=>x.1) ∘ ru env) (g:=fun x=>ecnt x*WB) fun x hx=>((Zy hE b x (level+1) (by have:=lG hx;omega) (hS.arg hx) (x2 x hx)).1 (o1 _ (apt hx))).2;rw[UG,←Ej]at s1;have hec:=Dp e;have hcl:=Lm _ e (aod _);have:El e.args*WB≤4096*WB:=aoA _ (by omega);omega
    have hvv:=DT hbk;rw[hv]at hvv;have hm:Cv (qA (e.args.map (ru env))).1=some (JW (qA (e.args.map (ru env))).1):=rfl;simp only[iA,h0,anX,hm,aj,hvv,jq];by_cases hle:yI (JW (qA (e.args.map (ru env))).1)≤16
    ·simp[hle]
    ·simp[hle,pY]
   ·simp[h0,iA,pY h0]
  ·have he5:dw (k1+2) env e=l6 (bZ (k1+1)) (eB (k1+1)) (eT (k1+1)) (dL (k1+1)) (dw (k1+1)) env e:=rfl;have ha:=aky k1 (by omega);have n1:(e.kind==1)=false:=by simp[hk']
   have n2:(e.kind==2)=false:=by simp[hk']
   have n3:(e.kind==3)=false:=by simp[hk']
   have n4:(e.kind==4)=false:=by simp[hk']
   have n5:(e.kind==5)=false:=by simp[hk']
   have n6:(e.kind==6)=false:=by simp[hk']
   have n7:(e.kind==7)=false:=by simp[hk']
   have n8:(e.kind==8)=false:=by simp[hk']
   have n9:(e.kind==9)=false:=by simp[hk']
   simp only[n1,n2,n3,n4,n5,n6,n7,n8,n9,anL,anW];rw[he5,l6,ha];unfold Hy GA;by_cases h0:(qA (e.args.map (ru env))).2=0
   ·obtain⟨l1,l2⟩:=aic h0;obtain⟨q1,q2,q3⟩:=F.k10 hk';simp only[iA,h0,anX]
    rw[fu (F:=fun k s i=>kY e (qA (e.args.map (ru env))).1 k s i) (l:=(qA (e.args.map (ru env))).1) (body:=fun(i:Nat) e3 (o:List aD) r=>av (idx e.keys (i:Int)) fun e4=>av (app o [(aD.mk e4 e3)]) fun O_=>r O_)
     (fin:=fun iJ=>eD (BK iJ) fun x2 uf=>dM (dN (uf==0) uf) (fun e5=>some (.bad e5)) fun _=>some (.ok x2)) (by omega) (fun k s i=>rfl),XR (e:=e) (vs:=(qA (e.args.map (ru env))).1) (by omega) (by omega) (qA (e.args.map (ru env))).1 0 [] rfl rfl]
    have H:=Z_ (keys:=e.keys) (vs:=(qA (e.args.map (ru env))).1) (by omega) (by omega) q2 q3 l2;rw[apa,aoV,agM H];unfold ab_;split
    ·rw[aB,jq];simp[hk',zx,ZV]
    ·rw[aB,jq];simp[hk',zx]
   ·simp[hk',h0,iA,pY h0]
end Go.Ft
namespace Go.Ft
open Go
attribute [local congr] fD
def Hq:List Str→List aD→Int
 | _,[]=>0
 | seen,d::r=>if !jv d.name then 1 else if uw d.value 1 !=0 then uw d.value 1 else if seen.contains d.name then 7 else Hq (seen++[d.name]) r
theorem aiY:∀(r:List aD) (i:Nat) (y:List (Str × Int)) (seen:List Str),(∀d∈r,d.name.length<4611686018427387000∧d.value.bulk<4611686018427387904)→(∀s,rR y s=if s∈seen then 1 else 0)→
  eX (fun _ e1 (y1:List (Str × Int)) r=>av (lN (au.mk 2 e1.name (ah.mk 0 false 0 ([]:Str) [] []) [] [])) fun x2=>if x2 !=0 then some 1 else av (kL e1.value) fun e2=>if e2 !=0 then some e2 else
   if decide (1<(rR (vL y1 e1.name (bq ((rR y1 e1.name)+1))) e1.name))then some 7 else r (vL y1 e1.name (bq ((rR y1 e1.name)+1)))) (fun _=>some 0) i r y=some (Hq seen r)
 | [],_,_,_,_,_=>rfl
 | d::r,i,y,seen,hd,hy=>by
  rw[eX,Hq,ahh (hd d (by simp)).1,DT (hd d (by simp)).2,Ir,anN rfl,hy d.name];cases h1:jv d.name with
  | false=>simp
  | true=>
   simp only[anX,aj,aot,anL,anW,apf];by_cases h2:uw d.value 1=0
   ·simp only[h2,apf,anL,anW];by_cases hc:d.name∈seen
    ·have:bq 2=2:=by decide
     simp[hc,this]
    ·have:bq ((0:Int)+1)=1:=by decide
     simp only[hc,anW,this];have e:seen.contains d.name=false:=by simpa using hc
     rw[e];simp only[Int.lt_irrefl,aoO,anL,anW];refine aiY r (i+1) _ (seen++[d.name]) (fun z hz=>hd z (by simp[hz])) fun s=>?_;rw[Ir,hy s];by_cases h1:s=d.name
     ·subst h1;simp
     ·simp[h1]
   ·simp[h2]
theorem aa4(l:List aD)(i:Nat)(hi:i<l.length)(hl:l.length<4611686018427387904)(go:Int→Option Int):∀(k j:Nat),i<k+j→j≤i→
  EI l (i:Int) go k (j:Int)=if (((l.take i).drop j).map (·.name)).contains l[i].name then some 7 else go ((i+1:Nat):Int)
 | 0,j,h,h'=>by omega
 | k+1,j,h,h'=>by
  rw[EI];by_cases hj:j<i
  ·have hlt:j<(l.take i).length:=by simp;omega
   rw[anN (by simpa using hj),gK hi,gK (by omega),an0 hlt];simp only[aj,aor,List.contains_cons,List.getElem_take];by_cases h1:l[j].name=l[i].name
   ·simp[h1]
   ·have e1:(l[j].name==l[i].name)=false:=by simpa using h1
    have e2:(l[i].name==l[j].name)=false:=by simpa using fun hh=>h1 hh.symm
    simp only[e1,e2,anL,anW,ao2];rw[iG (by omega)];exact aa4 l i hi hl go k (j+1) (by omega) (by omega)
  ·have:j=i:=by omega
   subst this;rw[anG (by simp),iG (by omega)];have:(List.take j l).drop j=[]:=aob (by simp;omega);rw[this];simp
theorem aiX(l:List aD)(hl:l.length<4611686018427387904)(hd:∀d∈l,d.name.length<4611686018427387000∧d.value.bulk<4611686018427387904):∀(k i:Nat),l.length<k+i→i≤l.length→Cc l k (i:Int)=some (Hq ((l.take i).map (·.name)) (l.drop i))
 | 0,i,h,h'=>by omega
 | k+1,i,h,h'=>by
  rw[Cc];by_cases hi:i<l.length
  ·have hn:=hd l[i] (aol hi);rw[anN (by simpa using hi),an0 hi,Hq,gK hi];have:=aa4 l i hi hl (Cc l k) BIG 0 (by have:=dX;omega) (by omega);rw[show (0:Int)=((0:Nat):Int)from rfl,this,aoV,aiX l hl hd k (i+1) (by omega) (by omega)];simp only[aj,(Ce l[i].name (by omega)).2,YH hn.2];have e:List.take (i+1) l=List.take i l++[l[i]]:=by rw[List.take_add_one,an6 hi];rfl
   rw[e,apE];cases jv l[i].name with
   | false=>simp
   | true=>
    simp only[aot,anL,anW];by_cases h2:uw l[i].value 1=0
    ·simp only[h2,Int.natCast_zero,apf,anL,anW];split<;>rfl
    ·simp[h2]
  ·have:i=l.length:=by omega
   subst this;simp[Hq]
def Ad(env:List aD):Int:=if 1024<env.length then 3 else Hq [] env
theorem aa5{env:List aD}(hl:env.length<4611686018427387904)(hd:∀d∈env,d.name.length<4611686018427387000∧d.value.bulk<4611686018427387904):Cw env=some (Ad env)∧aaA env=some (Ad env):=by
 unfold Cw aaA Ad;have e:decide ((1024:Int)<(env.length:Int))=decide (1024<env.length):=by congr 1;simp;omega
 rw[e];by_cases h:1024<env.length
 ·simp[h]
 ·simp only[h,aoO,anL,anW]
  have s1:=fu (F:=fun k s i=>Ac env k i s) (l:=env) (body:=fun _ e1 (y1:List (Str × Int)) r=>av (lN (au.mk 2 e1.name (ah.mk 0 false 0 ([]:Str) [] []) [] [])) fun x2=>if x2 !=0 then some 1 else av (kL e1.value) fun e2=>if e2 !=0 then some e2 else
   if decide (1<(rR (vL y1 e1.name (bq ((rR y1 e1.name)+1))) e1.name))then some 7 else r (vL y1 e1.name (bq ((rR y1 e1.name)+1)))) (fin:=fun _=>some 0) hl (fun k s i=>rfl) []
  have s2:=aiX env hl hd BIG 0 (by have:=dX;omega) (by omega);refine⟨?_,by simpa using s2⟩;rw[s1];exact aiY env 0 [] [] hd (fun s=>by simp[rR])
theorem XQ:∀(r:List aD) (seen:List Str),Hq seen r=0→(∀x∈r,VV x.value∧jv x.name=true∧x.name∉seen)∧(r.map (·.name)).Nodup
 | [],_,_=>⟨(fun x hx=>by cases hx),List.nodup_nil⟩
 | d::r,seen,h=>by
  rw[Hq]at h;split at h
  ·cases h
  ·rename_i h1;split at h
   ·rename_i h2;rw[h]at h2;simp at h2
   ·rename_i h2;split at h
    ·cases h
    ·rename_i h3;obtain⟨i1,i2⟩:=XQ r _ h;have hs:d.name∉seen:=fun hm=>h3 (List.contains_iff_mem.2 hm);refine⟨fun x hx=>?_,?_⟩
     ·rcases aoJ.1 hx with rfl|hx
      ·exact⟨(Rz _).1 (by simpa using h2),by simpa using h1,hs⟩
      ·obtain⟨a1,a2,a3⟩:=i1 x hx;exact⟨a1,a2,fun hm=>a3 (by simp[hm])⟩
     ·rw[aor,List.nodup_cons];refine⟨fun hm=>?_,i2⟩;obtain⟨x,hx,he⟩:=apk.1 hm;exact(i1 x hx).2.2 (by simp[he])
theorem YG{env:List aD}{N:Nat}(h:(env.map aD.bulk).sum≤N):env.length≤N∧∀d∈env,d.name.length≤N∧d.value.bulk≤N:=by
 constructor
 ·have:=K9 (l:=env) (f:=aD.bulk) (fun x=>by unfold aD.bulk;omega);omega
 ·intro d hd;have:=Iy (f:=aD.bulk) hd;have h2:d.name.length<d.bulk:=by unfold aD.bulk;omega
  have h3:d.value.bulk<d.bulk:=by unfold aD.bulk;omega
  omega
def G9(e:au)(env:List aD):ah × Int:=if Ad env≠0 then Ai (Ad env)else if xval e≠0 then Ai (xval e)else ru env e
theorem afa{env:List aD}(h:Ad env=0):(∀x∈env,VV x.value∧jv x.name=true)∧(env.map (·.name)).Nodup∧env.length≤1024:=by
 unfold Ad at h;split at h
 ·cases h
 ·rename_i h1;obtain⟨a,b⟩:=XQ env [] h;exact⟨fun x hx=>⟨(a x hx).1,(a x hx).2.1⟩,b,by omega⟩
theorem agF{e:au}(h:e.bulk≤1099511627776)(hx:xval e=0):SE e:=by
 refine⟨h,?_⟩;unfold xval at hx;split at hx
 ·cases hx
 ·omega
theorem Z6{e:au}{env:List aD}(h:e.bulk≤1099511627776)(hl:env.length<4611686018427387904)(hd:∀d∈env,d.name.length<4611686018427387000∧d.value.bulk≤1048576):Ei e env=some (G9 e env)∧GV (G9 e env) 9007199254740992:=by
 obtain⟨v1,v2⟩:=aa5 (env:=env) hl (fun d hd'=>by have:=hd d hd';omega);obtain⟨x1,x2⟩:=Ut (e:=e) (by omega);unfold Ei Dm G9;rw[v1,x1];simp only[aj];by_cases hv:Ad env=0
 ·obtain⟨w1,w2,w3⟩:=afa hv;have hEv:∀x∈env,VV x.value∧x.value.bulk≤1048576:=fun x hx=>⟨(w1 x hx).1,(hd x hx).2⟩;have bv:(Ad env !=0)=false:=by simpa using hv
  rw[anG (c:=Ad env≠0) (by simpa using hv)];simp only[bv,anL,anW];by_cases hx:xval e=0
  ·have hc:=abt hx;have hS:=agF h hx;have hW:WB=2199023255552:=rfl;have hw:ecnt e*WB≤4096*WB:=aoA _ hS.2;have hg:=(Zy hEv e.bulk e 1 (aod _) hS hc).mono (M:=9007199254740992) (by omega);have bx:(xval e !=0)=false:=by simpa using hx
   rw[anG (c:=xval e≠0) (by simpa using hx)];simp only[bx,anL,anW,aB,apf];have p:=aa0 (by omega) hEv e.bulk e 1 BIG (aod _) hS hc (by have:=dX;omega);refine⟨?_,hg⟩;unfold yg Am;rw[p];unfold zx;by_cases h0:(ru env e).2=0
   ·rw[anN h0,iW,aB];obtain⟨g1,g2⟩:=hg.1 h0;rw[(LW g1.1 (by omega)).2,aj,←h0]
   ·rw[anG h0,Un,aB];have hz:=hg.2 h0;have hc2:wJ (ah.mk 0 false 0 ([]:Str) [] [])=some ZV:=(abx (v:=ZV) (by rw[abp];decide)).2;rw[hc2,aj];generalize ru env e=p at hz⊢;obtain⟨v,c⟩:=p;simp only at hz;rw[hz]
  ·have bx:(xval e !=0)=true:=by simpa using hx
   rw[anN (c:=xval e≠0) hx];simp only[bx,anX,aB];exact⟨rfl,GV.er hx⟩
 ·have bv:(Ad env !=0)=true:=by simpa using hv
  rw[anN (c:=Ad env≠0) hv];simp only[bv,anX,aB];exact⟨rfl,GV.er hv⟩
theorem ae9{p:ah × Int}{N:Nat}(h:GV p N):VV p.1∧p.1.bulk≤N+7:=by
 by_cases h0:p.2=0
 ·obtain⟨a,b⟩:=h.1 h0;exact⟨a,by omega⟩
 ·rw[h.2 h0];exact⟨amX,by rw[abp];omega⟩
theorem IU{α β ρ:Type}(p:α × β)(f:α→β→Option ρ):eD (some p) f=f p.1 p.2:=rfl
end Go.Ft
namespace Go.Ft
open Go
attribute [local congr] fD
theorem amg{α:Type}(a:α)(l:List α):idx (a::l) 0=some a:=rfl
end Go.Ft
namespace Go.Ft
open Go
attribute [local congr] fD
theorem XW:∀(t:Str) (i:Nat) (s:Str),eX (fun(i:Nat) c (_:Unit) r=>av (mV c) fun x3=>if !x3 then some false else r ()) (fun _=>eD (strconv_Atoi s) fun n1 QJ=>some ((QJ.isNone)&&(decide (n1≤9007199254740992)))) i t ()=
  if t.all dh then eD (strconv_Atoi s) fun n1 QJ=>some ((QJ.isNone)&&(decide (n1≤9007199254740992)))else some false
 | [],i,s=>by simp[eX]
 | c::t,i,s=>by
  have ih:=XW t (i+1) s;rw[eX];by_cases hd:dh c=true
  ·have e:mV c=some true:=by rw[aaE,hd]
   rw[e,aj,anG (by simp)];refine ih.trans ?_;simp[hd]
  ·have hd':dh c=false:=by simpa using hd
   have e:mV c=some false:=by rw[aaE,hd']
   rw[e,aj,anN (by simp)];simp[hd']
theorem Wo:∀(s:Str) (acc:Nat),acc*10 ^ s.length≤wo acc s
 | [],acc=>by simp[zO]
 | c::s,acc=>by
  have ih:=Wo s (acc*10+(c.toNat-48));rw[nJ,an5,ape];have:acc*(10 ^ s.length*10)=acc*10*10 ^ s.length:=by rw[apF (10 ^ s.length) 10,←apN]
  rw[this];exact apA (aoA _ (Nat.le_add_right _ _)) ih
theorem Xp:∀(s:Str) (acc v:Nat),GN acc s=(0,v)→v=wo acc s
 | [],acc,v,h=>by simp[GN]at h;rw[zO,h]
 | c::s,acc,v,h=>by
  rw[GN]at h;rw[nJ];split at h
  ·split at h
   ·cases h
   ·split at h
    ·cases h
    ·exact Xp s _ v h
  ·cases h
theorem afA{s:Str}(h:acP s)(h0:(uj s).1=0):(uj s).2=(wo 0 s:Int)∧wo 0 s<9223372036854775808:=by
 obtain⟨h1,h2,_⟩:=h;obtain⟨c,r,rfl⟩:∃c r,s=c::r:=by cases s with|nil=>exact absurd rfl h1|cons c r=>exact⟨c,r,rfl⟩
 have hc:=qj (h2 c (by simp));have e1:¬c.toNat=43:=by omega
 have e2:¬c.toNat=45:=by omega
 unfold uj at h0⊢;simp only[e1,e2,or_self,anW,apl,apn,true_and,false_and,reduceCtorEq]at h0⊢;cases hm:GN 0 (c::r)with
 | mk a v=>
  rw[hm]at h0;simp only at h0⊢;by_cases a1:a=1
  ·simp[a1]at h0
  ·by_cases a2:a=2
   ·simp[a2]at h0
   ·rw[anG a1,anG a2]at h0⊢;by_cases hv:9223372036854775808≤v
    ·rw[anN hv]at h0;cases h0
    ·rw[anG hv]
     have ha:a=0:=by
      have:∀(s:Str) (acc:Nat),(GN acc s).1=0∨(GN acc s).1=1∨(GN acc s).1=2:=by
       intro s
       induction s with
       | nil=>intro acc;simp[GN]
       | cons c s ih=>
        intro acc;rw[GN];split
        ·split
         ·simp
         ·split
          ·simp
          ·exact ih _
        ·simp
      have:=this (c::r) 0;rw[hm]at this;simp only at this;omega
     subst ha;have:=Xp _ _ _ hm;exact⟨by rw[this],by omega⟩
theorem afi{s:Str}(hs:s.length≤281474976710656):∃b,sZ s=some b∧(b=true→∃u:Nat,s=rz 20 u∧u≤9007199254740992)∧∀u:Nat,s=rz 20 u→u≤9007199254740992→b=true:=by
 unfold sZ;by_cases h0:s=[]
 ·subst h0;refine⟨false,rfl,(fun h=>by cases h),fun u h1 h2=>?_⟩;have:=(vR u u (aod _) (by omega)).1.1;exact absurd h1.symm this
 obtain⟨c,r,rfl⟩:∃c r,s=c::r:=by cases s with|nil=>exact absurd rfl h0|cons c r=>exact⟨c,r,rfl⟩
 have e0:((c::r)==([]:Str))=false:=rfl;simp only[e0,anL,anW];by_cases h1:1<(c::r).length∧c.toNat=48
 ·have e1:decide ((1:Int)<((c::r).length:Int))=true:=aou (by omega);refine⟨false,?_,(fun h=>by cases h),fun u h2 h3=>?_⟩
  ·rw[anN e1];simp[amg,h1.2]
  ·have:=(vR u u (aod _) (by omega)).1.2.2;rw[←h2]at this;exact absurd (by simp[h1.2]) (this h1.1)
 ·have e1:(av (if decide ((1:Int)<((c::r).length:Int))then av (idx (c::r) 0) fun x1=>some ((x1.toNat:Int)==48)else some false) fun b1=>if b1 then some false else kD (c::r) BIG 0)=kD (c::r) BIG 0:=by
   by_cases h2:1<(c::r).length
   ·rw[anN (aou (by omega))];have:((c.toNat:Int)==48)=false:=by rw[an7];intro h;exact h1 ⟨h2,by omega⟩
    simp[amg,this]
   ·rw[anG (by simp only[anZ];omega)];rfl
  rw[e1];have sc:=fu (F:=fun k (_:Unit) i=>kD (c::r) k i) (l:=c::r) (body:=fun(i:Nat) c (_:Unit) r=>av (mV c) fun x3=>if !x3 then some false else r ()) (fin:=fun _=>eD (strconv_Atoi (c::r)) fun n1 QJ=>some ((QJ.isNone)&&(decide (n1≤9007199254740992)))) (by omega) (fun k s i=>rfl) ();rw[sc,XW];by_cases hd:∀x∈c::r,dh x=true
  ·have hcan:acP (c::r):=⟨by simp,hd,fun h2=>by simp;intro h;exact h1 ⟨h2,h⟩⟩;rw[anN (by rw[List.all_eq_true];exact hd),strconv_Atoi,anN hs,aB];refine⟨_,rfl,fun hb=>?_,fun u h2 h3=>?_⟩
   ·simp only[an_,anZ]at hb
    have h0:(uj (c::r)).1=0:=by
     by_cases hz:(uj (c::r)).1=0
     ·exact hz
     ·rw[anG hz]at hb;simp at hb
    obtain⟨a1,a2⟩:=afA hcan h0
    have hlen:(c::r).length≤19:=by
     rcases aoD 19 (c::r).length with h|h
     ·exfalso;have hc:=qj (hd c (by simp));have hlow:=Wo r (0*10+(c.toNat-48));have hne:c.toNat≠48:=fun h2=>h1 ⟨by omega,h2⟩;rw[nJ]at a2;simp only[an5]at h;have hp:10 ^ 19≤10 ^ r.length:=aph (by omega) (by omega);have h19:(10:Nat) ^ 19=10000000000000000000:=by decide
      have:1*10 ^ r.length≤(0*10+(c.toNat-48))*10 ^ r.length:=aoA _ (by omega);omega
     ·exact h
    refine⟨wo 0 (c::r),(Q0 _ _ (aod _) hcan hlen).1.symm,?_⟩;rw[a1]at hb;omega
   ·rw[h2,Rc (by omega)];simp;omega
  ·rw[anG (by rw[List.all_eq_true];exact hd)];refine⟨false,rfl,(fun h=>by cases h),fun u h2 h3=>?_⟩;have:=(vR u u (aod _) (by omega)).1.2.1;rw[←h2]at this;exact absurd this hd
end Go.Ft
namespace Go.Ft
open Go
attribute [local congr] fD
def FR(t:ay):Bool:=(jf t).getD false
theorem ahc{t:ay}(h:t.text.length≤281474976710656):jf t=some (FR t):=by
 have:(jf t).isSome=true:=by
  unfold jf;rw[P5 _ (by omega)];obtain⟨b,hb,_⟩:=afi h;rw[hb]
  repeat' split
  all_goals rfl
 unfold FR;cases hp:jf t with
 | none=>rw[hp]at this;cases this
 | some b=>rfl
theorem Y_{t:ay}(h:t.kind=4):FR t=true:=by simp[FR,jf,h]
theorem aeu{t:ay}(h:FR t=true):t.kind=1∨t.kind=2∨t.kind=3∨t.kind=4:=by
 unfold FR jf at h;by_cases h1:t.kind=1
 ·exact .inl h1
 by_cases h2:t.kind=2
 ·exact .inr (.inl h2)
 by_cases h3:t.kind=3
 ·exact .inr (.inr (.inl h3))
 by_cases h4:t.kind=4
 ·exact .inr (.inr (.inr h4))
 simp[h1,h2,h3,h4]at h
def BH(ts:List ay):Prop:=ts.length≤65536∧∀t∈ts,t.text.length≤1048576
def zQ(ts:List ay)(i:Nat):ay:=match ts[i]? with
 | some t=>if FR t then t else ay.mk 0 [] 0
 | none=>ay.mk 0 [] 0
def sG(ts:List ay)(i:Nat)(op:Str):Bool:=((zQ ts i).kind==4)&&((zQ ts i).text==op)
def miss(ts:List ay)(i:Nat):Int:=if ts.length≤i then 4 else 5
theorem U6{ts:List ay}(h:BH ts)(i:Nat):jg (ak.mk ts (i:Int))=some (zQ ts i,ak.mk ts (i:Int)):=by
 unfold jg zQ;by_cases hi:i<ts.length
 ·have ht:=h.2 ts[i] (aol hi);have e:decide (((i:Nat):Int)<(ts.length:Int))=true:=aou (by omega);simp only[e,anX,gK hi,aj,ahc (t:=ts[i]) (by omega),an6 hi];cases FR ts[i]<;>simp
 ·have e:decide (((i:Nat):Int)<(ts.length:Int))=false:=aoG (by omega);simp only[e,anL,anW,aj,aoQ (Nat.le_of_not_lt hi)]
theorem mE{ts:List ay}(h:BH ts){i:Nat}(hi:i≤ts.length)(op:Str):b_ (ak.mk ts (i:Int)) op=some (sG ts i op,ak.mk ts ((if sG ts i op then i+1 else i:Nat):Int)):=by
 have:=h.1;unfold b_ uL;rw[U6 h,aB,aB];show (if (!(sG ts i op))=true then _ else _)=_;cases sG ts i op with
 | true=>rw[anG (by simp),iG (by omega)];rfl
 | false=>rw[anN (by simp)];rfl
theorem oF{ts:List ay}{i:Nat}{op:Str}(h:sG ts i op=true):∃hi:i<ts.length,ts[i].kind=4∧ts[i].text=op∧FR ts[i]=true:=by
 unfold sG zQ at h;cases hx:ts[i]? with
 | none=>rw[hx]at h;simp at h
 | some t=>
  rw[hx]at h;obtain⟨hi,ht⟩:=aoT.1 hx;cases ho:FR t with
  | false=>simp[ho]at h
  | true=>
   simp[ho]at h;exact⟨hi,by rw[ht];exact h.1,by rw[ht];exact h.2,by rw[ht];exact ho⟩
theorem Ak{ts:List ay}(h:BH ts)(i:Nat)(op:Str):rQ ts (i:Int) op=some (sG ts i op):=by
 unfold rQ;by_cases hi:i<ts.length
 ·have e:decide (((i:Nat):Int)<(ts.length:Int))=true:=aou (by omega);simp only[e,anX,gK hi,aj];unfold sG zQ;rw[an6 hi];simp only;by_cases h4:ts[i].kind=4
  ·rw[anN (by simpa using h4),Y_ h4,anN rfl];simp[h4]
  ·rw[anG (by simpa using h4)];cases FR ts[i]<;>simp[h4]
 ·have e:decide (((i:Nat):Int)<(ts.length:Int))=false:=aoG (by omega);simp only[e,anL,anW,aj];cases hc:sG ts i op with
  | false=>rfl
  | true=>obtain⟨h1,_⟩:=oF hc;omega
theorem zT(ts:List ay)(i:Nat):nu ts (i:Int)=some (miss ts i):=by
 unfold nu miss;by_cases hi:ts.length≤i
 ·rw[anN (aou (by omega)),anN hi]
 ·rw[anG (by simp;omega),anG hi]
theorem KY{ts:List ay}(h:BH ts)(i:Nat):jh (ak.mk ts (i:Int))=some (if (zQ ts i).kind=0 then (.bad (aA.mk (i:Int) (miss ts i)),ak.mk ts (i:Int))else (.ok (zQ ts i),ak.mk ts (i:Int))):=by
 unfold jh gy;by_cases hi:ts.length≤i
 ·have ht:(zQ ts i).kind=0:=by unfold zQ;rw[aoQ hi]
  rw[anN (aou (show (ts.length:Int)≤(i:Int) by omega)),anN ht];simp[fJ,miss,hi]
 ·rw[anG (by simp;omega),U6 h,aB];by_cases hk:(zQ ts i).kind=0
  ·rw[anN (by simpa using hk),anN hk];simp[fJ,miss,hi]
  ·rw[anG (by simpa using hk),anG hk]
theorem BQ{ts:List ay}(h:BH ts){i:Nat}(hi:i≤ts.length)(op:Str):fA (ak.mk ts (i:Int)) op=some (if sG ts i op then (.ok (),ak.mk ts ((i+1:Nat):Int))else (.bad (aA.mk (i:Int) (miss ts i)),ak.mk ts (i:Int))):=by
 unfold fA;rw[KY h];by_cases hk:(zQ ts i).kind=0
 ·have ho:sG ts i op=false:=by unfold sG;rw[hk];rfl
  rw[anN hk,ho,anG (by simp)];rfl
 ·rw[anG hk];show eD _ _=_;rw[mE h hi,aB];cases ho:sG ts i op with
  | true=>rfl
  | false=>
   have hlt:¬ts.length≤i:=fun hl=>hk (by unfold zQ;rw[aoQ hl]);simp[fJ,gy,miss,hlt]
end Go.Ft
namespace Go.Ft
open Go
attribute [local congr] fD
def RE(ts:List ay)(i0:Nat)(P:Option (fq aA au × ak))(R:Option (au × Int × Int)):Prop:=
 (∃(e:au) (j:Nat),i0<j∧j≤ts.length∧e.bulk≤2097152*(j-i0)∧P=some (.ok e,ak.mk ts (j:Int))∧R=some (e,(j:Int),0))∨
 (∃(j:Nat) (c:Int) (x:au),i0≤j∧j≤ts.length∧c≠0∧P=some (.bad (aA.mk (j:Int) c),ak.mk ts (j:Int))∧R=some (x,(j:Int),c))
theorem Qc:((0:Int) !=0)=false:=rfl
theorem Bh(ts:List ay)(i:Nat):miss ts i≠0:=by unfold miss;split<;>decide
theorem Qb{c:Int}(h:c≠0):(c !=0)=true:=by simpa using h
theorem amQ(k:Int)(n:Str)(a b c:au):(au.mk k n (ah.mk 0 false 0 ([]:Str) [] []) [a,b,c] []).bulk=12+n.length+a.bulk+b.bulk+c.bulk:=by
 simp[au.bulk,au.mq,ah.bulk,ah.mq];omega
theorem ai5(k:Int)(n:Str)(a b:au):(au.mk k n (ah.mk 0 false 0 ([]:Str) [] []) [a,b] []).bulk=12+n.length+a.bulk+b.bulk:=by
 simp[au.bulk,au.mq,ah.bulk,ah.mq];omega
theorem ai6(k:Int)(n:Str)(a:au):(au.mk k n (ah.mk 0 false 0 ([]:Str) [] []) [a] []).bulk=12+n.length+a.bulk:=by
 simp[au.bulk,au.mq,ah.bulk,ah.mq];omega
theorem acI{ts:List ay}(h:BH ts){k k' i:Nat}(ho:RE ts i (bB k (ak.mk ts (i:Int)) 2) (eF k' ts (i:Int) 2))
  (hc:∀j,i<j→j≤ts.length→RE ts j (aY k (ak.mk ts (j:Int))) (dF k' ts (j:Int))):
  RE ts i (aY (k+1) (ak.mk ts (i:Int))) (dF (k'+1) ts (i:Int)):=by
 have hN:=h.1;rw[aY,kU,dF,Fw];rcases ho with⟨e,j,h1,h2,hb,hP,hR⟩|⟨j,c,x,h1,h2,hc0,hP,hR⟩
 ·rw[hP,hR,gF,aC,mE h h2,aB];simp only[Qc,anL,anW,Ak h,aj];cases hq:sG ts j [63]with
  | false=>
   simp only[aoC,anX,anL,anW];exact .inl ⟨e,j,h1,h2,hb,rfl,rfl⟩
  | true=>
   obtain⟨hj,_⟩:=oF hq;simp only[aot,anX,anL,anW];rw[iG (by omega)];rcases hc (j+1) (by omega) (by omega)with⟨e2,j2,g1,g2,gb,gP,gR⟩|⟨j2,c2,x2,g1,g2,gc,gP,gR⟩
   ·rw[gP,gR,gF,aC,BQ h g2];simp only[Qc,anL,anW,Ak h,aj];cases hq2:sG ts j2 [58]with
    | false=>
     simp only[aoC,anX,anL,anW,fG,zT,aj];exact .inr ⟨j2,_,_,by omega,g2,Bh ts j2,rfl,rfl⟩
    | true=>
     obtain⟨hj2,_⟩:=oF hq2;simp only[aot,anX,anL,anW,gF];rw[iG (by omega)];rcases hc (j2+1) (by omega) (by omega)with⟨e3,j3,f1,f2,fb,fP,fR⟩|⟨j3,c3,x3,f1,f2,fc,fP,fR⟩
     ·rw[fP,fR,gF,aC];exact .inl ⟨_,j3,by omega,f2,by rw[amQ];simp only[aoS];omega,rfl,rfl⟩
     ·rw[fP,fR,fG,aC];exact .inr ⟨j3,c3,_,by omega,f2,fc,rfl,rfl⟩
   ·rw[gP,gR,fG,aC,anN (Qb gc)];exact .inr ⟨j2,c2,_,by omega,g2,gc,rfl,rfl⟩
 ·rw[hP,hR,fG,aC];simp only[Qb hc0,anX,aj];exact .inr ⟨j,c,x,h1,h2,hc0,rfl,rfl⟩
def opAt(ts:List ay)(i:Nat)(n:Int):Bool:=((zQ ts i).kind==4)&&(EB (zQ ts i).text==n)
theorem aaH{ts:List ay}{i:Nat}{n:Int}(h:opAt ts i n=true):∃hi:i<ts.length,zQ ts i=ts[i]∧ts[i].kind=4∧EB ts[i].text=n:=by
 unfold opAt zQ at h;unfold zQ;cases hx:ts[i]? with
 | none=>rw[hx]at h;simp at h
 | some t=>
  rw[hx]at h;obtain⟨hi,ht⟩:=aoT.1 hx;cases ho:FR t with
  | false=>simp[ho]at h
  | true=>
   simp[ho]at h;exact⟨hi,by simp[ho,ht],by rw[ht];exact h.1,by rw[ht];exact h.2⟩
theorem WY{ts:List ay}(i:Nat)(n:Int):(av (if decide ((i:Int)<(ts.length:Int))then av (idx ts (i:Int)) fun e3=>some (e3.kind==4)else some false) fun b1=>
  if b1 then av (idx ts (i:Int)) fun e4=>av (A8 e4.text) fun x5=>some (x5==n)else some false)=some (opAt ts i n):=by
 by_cases hi:i<ts.length
 ·rw[anN (aou (by omega))];simp only[gK hi,aj,Ns,LY];unfold opAt zQ;rw[an6 hi];simp only;by_cases h4:ts[i].kind=4
  ·rw[anN (by simpa using h4),Y_ h4,anN rfl];simp[h4]
  ·rw[anG (by simpa using h4)];cases FR ts[i]<;>simp[h4]
 ·rw[anG (by simp;omega)];cases hc:opAt ts i n with
  | false=>rfl
  | true=>obtain⟨h1,_⟩:=aaH hc;omega
theorem abX{ts:List ay}(i:Nat)(n:Int):(if (zQ ts i).kind !=4 then some true else av (g_ (zQ ts i).text) fun x4=>some (x4 !=n))=some (!opAt ts i n):=by
 unfold opAt;rw[LY];by_cases h4:(zQ ts i).kind=4
 ·rw[anG (by simp[h4])];simp[h4,bne]
 ·rw[anN (by simpa using h4)];simp[h4]
theorem M8{α β γ:Type}(x:Option α)(f:α→Option β)(g:β→Option γ):av x (fun a=>av (f a) g)=av (av x f) g:=by cases x<;>rfl
theorem KJ{ts:List ay}{go:List ay→Int→Int→Option (au × Int × Int)}{n:Int}{m j:Nat}{c c1:Int}{e:au}(hs:c1≠0∨opAt ts j n=false∨(n=4∧c≠0)):lC go ts n (m+1) (j:Int) c1 c e=some (e,(j:Int),c1):=by
 rw[lC];by_cases h0:c1=0
 ·subst h0;have e0:((0:Int)==0)=true:=rfl;simp only[e0,aoU];rw[M8,WY,aj];rcases hs with hs|hs|⟨hs,hc⟩
  ·exact absurd rfl hs
  ·rw[hs];rfl
  ·subst hs;have:(c==0)=false:=by simpa using hc
   rw[anG (by rw[this];simp)]
 ·have e0:(c1==0)=false:=by simpa using h0
  simp only[e0,aoY,anL,anW,aj]
theorem aaG{ts:List ay}(h:BH ts){k k' i0:Nat}{n:Int}(hn:2≤n∧n≤6)(hop:∀j,i0<j→j≤ts.length→RE ts j (bB k (ak.mk ts (j:Int)) (bq (n+1))) (eF k' ts (j:Int) (bq (n+1)))):
  ∀(m m' i:Nat) (c:Int) (e:au),ts.length<m+i→ts.length<m'+i→i0<i→i≤ts.length→e.bulk≤2097152*(i-i0)→(n=4→c=0)→
  RE ts i0 (iw (bB k) n m e (ak.mk ts (i:Int))) (lC (eF k') ts n m' (i:Int) 0 c e)
 | 0,m',i,c,e,h1,_,_,h2,_,_=>by omega
 | m+1,0,i,c,e,_,h1,_,h2,_,_=>by omega
 | m+1,m'+1,i,c,e,hm,hm',h1,h2,hb,hc4=>by
  have hN:=h.1;rw[iw,lC,U6 h,aB,abX,aj];cases hq:opAt ts i n with
  | false=>
   simp only[aoC,anX];have:=KJ (go:=eF k') (m:=m') (c:=c) (c1:=0) (e:=e) (.inr (.inl hq));rw[lC]at this;rw[this];exact .inl ⟨e,i,h1,h2,hb,rfl,rfl⟩
  | true=>
   obtain⟨hi,htk,hk4,hs⟩:=aaH hq;have htx:=h.2 ts[i] (aol hi);have e0:((0:Int)==0)=true:=rfl;simp only[e0,aoU];rw[M8,WY,aj,hq]
   have hcond:(true&&((c==0)||(n !=4)))=true:=by
    by_cases h4:n=4
    ·simp[hc4 h4]
    ·simp[h4]
   rw[anG (by simp),anN hcond,htk];show RE ts i0 (fJ (bB k (ak.mk ts (bq ((i:Int)+1))) (bq (n+1))) _ _) _;rw[iG (by omega)];rcases hop (i+1) (by omega) (by omega)with⟨e2,j,g1,g2,gb,gP,gR⟩|⟨j,c2,x2,g1,g2,gc,gP,gR⟩
   ·rw[gP,gR,gF,aC,gK hi,aj];have hb2:(au.mk 7 ts[i].text (ah.mk 0 false 0 ([]:Str) [] []) [e,e2] []).bulk≤2097152*(j-i0):=by rw[ai5];omega
    by_cases h4:n=4
    ·subst h4;rw[anN (by rfl),hc4 rfl];obtain⟨m2,rfl⟩:∃m2,m'=m2+1:=⟨m'-1,by omega⟩;rw[KJ (.inr (.inr ⟨rfl,by decide⟩))];exact .inl ⟨_,j,by omega,g2,hb2,rfl,rfl⟩
    ·rw[anG (by simpa using h4)];exact aaG h hn hop m m' j _ _ (by omega) (by omega) (by omega) g2 hb2 (fun h=>absurd h h4)
   ·rw[gP,gR,fG,aC,gK hi,aj];obtain⟨m2,rfl⟩:∃m2,m'=m2+1:=⟨m'-1,by omega⟩;rw[KJ (.inl gc)];exact .inr ⟨j,c2,_,by omega,g2,gc,rfl,rfl⟩
theorem ahv{ts:List ay}(h:BH ts){k k' i:Nat}{n:Int}(hn:2≤n∧n≤6)(h1:RE ts i (bB k (ak.mk ts (i:Int)) (bq (n+1))) (eF k' ts (i:Int) (bq (n+1))))
  (hop:∀j,i<j→j≤ts.length→RE ts j (bB k (ak.mk ts (j:Int)) (bq (n+1))) (eF k' ts (j:Int) (bq (n+1)))):
  RE ts i (bB (k+1) (ak.mk ts (i:Int)) n) (eF (k'+1) ts (i:Int) n):=by
 have hN:=h.1;have h7:(n==7)=false:=by rw[an7];omega
 have hB:=dX;rw[bB,jF,eF,Al,anG (by rw[h7];simp),anG (by rw[h7];simp)];rcases h1 with⟨e,j,g1,g2,gb,gP,gR⟩|⟨j,c,x,g1,g2,gc,gP,gR⟩
 ·rw[gP,gR,gF,aC];exact aaG h hn hop BIG BIG j 0 e (by omega) (by omega) g1 g2 gb (fun _=>rfl)
 ·rw[gP,gR,fG,aC];obtain⟨b,hb,_⟩:=pJ;rw[hb,KJ (.inl gc)];exact .inr ⟨j,c,x,g1,g2,gc,rfl,rfl⟩
theorem aeo{ts:List ay}{k k' i:Nat}(h1:RE ts i (dx k (ak.mk ts (i:Int))) (jG k' ts (i:Int))):
  RE ts i (bB (k+1) (ak.mk ts (i:Int)) 7) (eF (k'+1) ts (i:Int) 7):=by
 rw[bB,jF,eF,Al,anN (by decide),anN (by decide)];rcases h1 with⟨e,j,g1,g2,gb,gP,gR⟩|⟨j,c,x,g1,g2,gc,gP,gR⟩
 ·rw[gP,gR];exact .inl ⟨e,j,g1,g2,gb,rfl,rfl⟩
 ·rw[gP,gR];exact .inr ⟨j,c,x,g1,g2,gc,rfl,rfl⟩
theorem aom:∃b,BIG=b+3:=⟨BIG-3,by decide⟩
theorem YL{ts:List ay}(h:BH ts){k k' i:Nat}(hi:i≤ts.length)(hch:RE ts i (dQ k (ak.mk ts (i:Int))) (kM k' ts (i:Int)))
  (hu:∀j,i<j→j≤ts.length→RE ts j (dx k (ak.mk ts (j:Int))) (jG k' ts (j:Int))):
  RE ts i (dx (k+1) (ak.mk ts (i:Int))) (jG (k'+1) ts (i:Int)):=by
 have hN:=h.1;obtain⟨b,hb⟩:=aom;have w01:bq (0+1)=1:=by decide
 have w11:bq (1+1)=2:=by decide
 have i0:idx ([([33]:Str),([45]:Str)]:List Str) 0=some [33]:=rfl;have i1:idx ([([33]:Str),([45]:Str)]:List Str) 1=some [45]:=rfl;rw[dx,oC,jG,Ny,hb,iH];rw[anN (by decide),i0,aj,mE h hi,aB];simp only[Ak h,aj]
 have un:∀op:Str,sG ts i op=true→RE ts i (fJ (dx k (ak.mk ts ((i+1:Nat):Int))) (fun e1 y4=>some (.bad e1,y4)) fun x3 y3=>some (.ok (au.mk 6 op (ah.mk 0 false 0 ([]:Str) [] []) [x3] []),y3))
   (mD (jG k' ts (bq ((i:Int)+1))) fun x6 jV e1=>av (idx ts (i:Int)) fun e2=>some ((au.mk 6 e2.text (ah.mk 0 false 0 ([]:Str) [] []) [x6] []),jV,e1)):=fun op ho=>by
  obtain⟨hlt,hk,ht,_⟩:=oF ho;have htx:=h.2 ts[i] (aol hlt);rw[ht]at htx;rw[iG (by omega)];rcases hu (i+1) (by omega) (by omega)with⟨e,j,g1,g2,gb,gP,gR⟩|⟨j,c,x,g1,g2,gc,gP,gR⟩
  ·rw[gP,gR,gF,aC,gK hlt,aj,ht];exact .inl ⟨_,j,by omega,g2,by rw[ai6];omega,rfl,rfl⟩
  ·rw[gP,gR,fG,aC,gK hlt,aj];exact .inr ⟨j,c,_,by omega,g2,gc,rfl,rfl⟩
 cases h1:sG ts i [33]with
 | true=>
  simp only[anX,aot,anL,anW,aj];exact un _ h1
 | false=>
  simp only[anX,aoC,anL,anW,aj];rw[w01,iH,anN (by decide),i1,aj,mE h hi,aB];cases h2:sG ts i [45]with
  | true=>
   simp only[anX,aot,anL,anW];exact un _ h2
  | false=>
   simp only[anX,aoC,anL,anW];rw[w11,iH,anG (by decide)];rcases hch with⟨e,j,g1,g2,gb,gP,gR⟩|⟨j,c,x,g1,g2,gc,gP,gR⟩
   ·rw[gP,gR];exact .inl ⟨e,j,g1,g2,gb,rfl,rfl⟩
   ·rw[gP,gR];exact .inr ⟨j,c,x,g1,g2,gc,rfl,rfl⟩
end Go.Ft
namespace Go.Ft
open Go
attribute [local congr] fD
def nameAt(ts:List ay)(i:Nat):Bool:=((zQ ts i).kind==1)&&jv (zQ ts i).text
theorem ab9{ts:List ay}{i:Nat}(h:nameAt ts i=true):∃hi:i<ts.length,zQ ts i=ts[i]:=by
 unfold nameAt zQ at h;unfold zQ;cases hx:ts[i]? with
 | none=>rw[hx]at h;simp at h
 | some t=>
  rw[hx]at h;obtain⟨hi,ht⟩:=aoT.1 hx;cases ho:FR t with
  | false=>simp[ho]at h
  | true=>exact⟨hi,by simp[ho,ht]⟩
theorem Jw{s:Str}(hs:s.length≤1048576)(hn:isName s=true):oN s=some (!jv s):=by
 obtain⟨p1,_⟩:=Ce s (by omega);unfold mU at p1;rw[P5 s (by omega),aj,anN hn]at p1;cases hw:oN s with
 | none=>rw[hw]at p1;cases p1
 | some b=>rw[hw]at p1;simp at p1;rw[←p1]
theorem Gy{t:ay}(hk:t.kind=1)(hs:t.text.length≤1048576):FR t=isName t.text:=by
 unfold FR jf;rw[anN (by simpa using hk),P5 _ (by omega)];rfl
theorem PW{s:Str}(hs:s.length≤1048576)(h:jv s=true):isName s=true:=by
 obtain⟨p1,_⟩:=Ce s (by omega);unfold mU at p1;rw[P5 s (by omega),aj,h]at p1;cases hn:isName s with
 | true=>rfl
 | false=>rw[hn]at p1;simp at p1
theorem aea{ts:List ay}(h:BH ts)(i:Nat):(av (if decide ((ts.length:Int)≤(i:Int))then some true else av (idx ts (i:Int)) fun e2=>some (e2.kind !=1)) fun b3=>
  if b3 then some true else av (idx ts (i:Int)) fun e3=>av (uI e3.text) fun x6=>some (!x6))=some (!nameAt ts i):=by
 unfold nameAt zQ;by_cases hi:i<ts.length
 ·have ht:=h.2 ts[i] (aol hi);rw[anG (by simp;omega)];simp only[gK hi,aj,(Ce ts[i].text (by omega)).2,an6 hi];by_cases h1:ts[i].kind=1
  ·rw[anG (by simp[h1]),Gy h1 ht];cases hn:isName ts[i].text with
   | true=>simp[h1]
   | false=>
    cases hp:jv ts[i].text with
    | true=>rw[PW ht hp]at hn;cases hn
    | false=>simp
  ·rw[anN (by simpa using h1)];cases FR ts[i]<;>simp[h1]
 ·rw[anN (by simp;omega),aoQ (Nat.le_of_not_lt hi)];rfl
theorem J9{ts:List ay}(h:BH ts){k k' i0:Nat}(hc:∀j,i0<j→j≤ts.length→RE ts j (aY k (ak.mk ts (j:Int))) (dF k' ts (j:Int))):
  ∀(m m' i:Nat) (e:au),ts.length<m+i→ts.length<m'+i→i0<i→i≤ts.length→e.bulk≤2097152*(i-i0)→
  RE ts i0 (fT (aY k) m e (ak.mk ts (i:Int))) (qJ (dF k') ts 0 m' (i:Int) e)
 | 0,m',i,e,h1,_,_,h2,_=>by omega
 | m+1,0,i,e,_,h1,_,h2,_=>by omega
 | m+1,m'+1,i,e,hm,hm',h1,h2,hb=>by
  have hN:=h.1;rw[fT,qJ,mE h h2,aB];have e0:((0:Int)==0)=true:=rfl;simp only[e0,anX,Ak h,aj];cases hd:sG ts i [46]with
  | true=>
   obtain⟨hi,_⟩:=oF hd;simp only[anX,aj];rw[iG (by omega),KY h];have hr:=aea h (i+1);rw[M8,hr,aj];cases hn:nameAt ts (i+1)with
   | true=>
    obtain⟨hlt,htk⟩:=ab9 hn;unfold nameAt at hn;simp only[an_,aoi]at hn;have htx:=h.2 ts[i+1] (aol hlt);rw[htk]at hn⊢;rw[anG (by omega)];simp only[aot,anL,anW,gF];rw[anG (by simp[hn.1]),Jw htx (PW htx hn.2),hn.2,aj,anG (by simp),gK hlt,aj];show RE ts i0 (fT (aY k) m _ (ak.mk ts (bq (((i+1:Nat):Int)+1)))) _;rw[iG (by omega)];exact J9 h hc m m' (i+1+1) _ (by omega) (by omega) (by omega) (by omega) (by rw[ai6];omega)
   | false=>
    simp only[aoC,anX,zT,aj];by_cases hk0:(zQ ts (i+1)).kind=0
    ·rw[anN hk0,fG];exact .inr ⟨i+1,_,_,by omega,by omega,Bh ts (i+1),rfl,rfl⟩
    ·rw[anG hk0,gF]
     have hlt:i+1<ts.length:=by
      rcases aoD (i+1) ts.length with hh|hh
      ·exact hh
      ·exfalso;apply hk0;unfold zQ;rw[aoQ hh]
     have hms:miss ts (i+1)=5:=by unfold miss;rw[anG (by omega)]
     have htk:zQ ts (i+1)=ts[i+1]∧FR ts[i+1]=true:=by
      unfold zQ at hk0⊢;rw[an6 hlt]at hk0⊢;simp only at hk0⊢;cases ho:FR ts[i+1]with
      | true=>exact⟨rfl,rfl⟩
      | false=>rw[ho]at hk0;simp at hk0
     have htx:=h.2 ts[i+1] (aol hlt)
     have hb1:(if ((zQ ts (i+1)).kind !=1)=true then some true else oN (zQ ts (i+1)).text)=some true:=by
      by_cases h1k:(zQ ts (i+1)).kind=1
      ·rw[anG (by simp[h1k])];unfold nameAt at hn;rw[h1k]at hn;have hp:jv (zQ ts (i+1)).text=false:=by simpa using hn
       rw[htk.1]at h1k hp⊢;have:=Gy h1k htx;rw[htk.2]at this;rw[Jw htx this.symm,hp];rfl
      ·rw[anN (by simpa using h1k)]
     rw[hb1,aj,anN rfl];show RE ts i0 (fJ (some (.bad (aA.mk ((i+1:Nat):Int) 5),ak.mk ts ((i+1:Nat):Int))) _ _) _;rw[fG,hms];exact .inr ⟨i+1,5,_,by omega,by omega,by decide,rfl,rfl⟩
  | false=>
   simp only[anL,anW,aj];rw[mE h h2,aB];cases hbk:sG ts i [91]with
   | true=>
    obtain⟨hi,_⟩:=oF hbk;simp only[anX];rw[iG (by omega)];rcases hc (i+1) (by omega) (by omega)with⟨e2,j,g1,g2,gb,gP,gR⟩|⟨j,c2,x2,g1,g2,gc,gP,gR⟩
    ·rw[gP,gR,gF,aC,BQ h g2];simp only[Qc,anL,anW,Ak h,aj];cases hq:sG ts j [93]with
     | false=>
      simp only[aoC,anX,anL,anW,fG,zT,aj];exact .inr ⟨j,_,_,by omega,g2,Bh ts j,rfl,rfl⟩
     | true=>
      obtain⟨hj,_⟩:=oF hq;simp only[aot,anX,anL,anW,gF];rw[iG (by omega)];exact J9 h hc m m' (j+1) _ (by omega) (by omega) (by omega) (by omega) (by rw[ai5];simp only[aoS];omega)
    ·rw[gP,gR,fG,aC,anN (Qb gc)];exact .inr ⟨j,c2,_,by omega,g2,gc,rfl,rfl⟩
   | false=>
    simp only[anL,anW];exact .inl ⟨e,i,h1,h2,hb,rfl,rfl⟩
end Go.Ft
namespace Go.Ft
open Go
attribute [local congr] fD
theorem ZG{ts:List ay}{go:List ay→Int→Option (au × Int × Int)}{c:Int}(hc:c≠0){m:Nat}{j:Int}{e:au}:qJ go ts c (m+1) j e=some (e,j,c):=by
 rw[qJ];have e0:(c==0)=false:=by simpa using hc
 simp only[e0,anL,anW,aj]
theorem ZH{ts:List ay}(h:BH ts){k k' i:Nat}(ha:RE ts i (dY k (ak.mk ts (i:Int))) (mJ k' ts (i:Int)))
  (hc:∀j,i<j→j≤ts.length→RE ts j (aY k (ak.mk ts (j:Int))) (dF k' ts (j:Int))):
  RE ts i (dQ (k+1) (ak.mk ts (i:Int))) (kM (k'+1) ts (i:Int)):=by
 have hN:=h.1;have hB:=dX;rw[dQ,oD,kM,NA];rcases ha with⟨e,j,g1,g2,gb,gP,gR⟩|⟨j,c,x,g1,g2,gc,gP,gR⟩
 ·rw[gP,gR,gF,aC];exact J9 h hc BIG BIG j e (by omega) (by omega) g1 g2 gb
 ·rw[gP,gR,fG,aC];obtain⟨b,hb,_⟩:=pJ;rw[hb,ZG gc];exact .inr ⟨j,c,x,g1,g2,gc,rfl,rfl⟩
theorem Xz{ts:List ay}{i:Nat}{a b:Str}(hab:a≠b)(ha:sG ts i a=true):sG ts i b=false:=by
 cases hb:sG ts i b with
 | false=>rfl
 | true=>
  obtain⟨_,_,h1,_⟩:=oF ha;obtain⟨_,_,h2,_⟩:=oF hb;exact absurd (h1.symm.trans h2) hab
def RL(ts:List ay)(i0:Nat)(P:Option (fq aA (List au) × ak))(R:Option (List au × List Str × Int × Int)):Prop:=
 (∃(l:List au) (j:Nat),i0<j∧j≤ts.length∧(l.map au.bulk).sum≤2097152*(j-i0)∧P=some (.ok l,ak.mk ts (j:Int))∧R=some (l,[],(j:Int),0))∨
 (∃(j:Nat) (c:Int) (x:List au) (y:List Str),i0≤j∧j≤ts.length∧c≠0∧P=some (.bad (aA.mk (j:Int) c),ak.mk ts (j:Int))∧R=some (x,y,(j:Int),c))
theorem Uo{ts:List ay}(h:BH ts){k k' i0:Nat}{cl:Str}(hcl:cl≠[44])(hc:∀j,i0≤j→j≤ts.length→RE ts j (aY k (ak.mk ts (j:Int))) (dF k' ts (j:Int))):
  ∀(m m' i:Nat) (out:List au),ts.length<m+i→ts.length<m'+i→i0≤i→i≤ts.length→out.length+i0≤i→(out.map au.bulk).sum≤2097152*(i-i0)→
  RL ts i0 (jL (aY k) cl m out (ak.mk ts (i:Int))) (sQ (dF k') ts cl false m' (i:Int) out [])
 | 0,m',i,out,h1,_,_,h2,_,_=>by omega
 | m+1,0,i,out,_,h1,_,h2,_,_=>by omega
 | m+1,m'+1,i,out,hm,hm',h1,h2,hl,hb=>by
  have hN:=h.1;have hL:w9=4294967296:=rfl;rw[jL,sQ,anG (by simp)];rcases hc i h1 h2 with⟨e,j,g1,g2,gb,gP,gR⟩|⟨j,c,x,g1,g2,gc,gP,gR⟩
  ·rw[gP,gR,gF,aC,aT (by simp;omega),aj,mE h g2,aB];simp only[Qc,anL,anW,Ak h,aj]
   have hs:((out++[e]).map au.bulk).sum≤2097152*(j-i0):=by
    rw[apE,List.sum_append];simp;omega
   cases hq:sG ts j [44]with
   | true=>
    obtain⟨hj,_⟩:=oF hq;have hq2:=Xz (Ne.symm hcl) hq;simp only[hq2,anL,anW,aot,anX];rw[iG (by omega)];exact Uo h hcl hc m m' (j+1) (out++[e]) (by omega) (by omega) (by omega) (by omega) (by simp;omega) (by omega)
   | false=>
    simp only[aoC,anX,anL,anW];rw[BQ h g2];cases hq2:sG ts j cl with
    | true=>
     obtain⟨hj,_⟩:=oF hq2;simp only[anX,gF];rw[iG (by omega)];exact .inl ⟨_,j+1,by omega,by omega,by omega,rfl,rfl⟩
    | false=>
     simp only[anL,anW,fG,zT,aj];exact .inr ⟨j,_,_,_,by omega,g2,Bh ts j,rfl,rfl⟩
  ·rw[gP,gR,fG,aC,anN (Qb gc)];exact .inr ⟨j,c,_,_,by omega,g2,gc,rfl,rfl⟩
theorem acU{ts:List ay}(h:BH ts){k k' i:Nat}(hi:i≤ts.length){cl:Str}(hcl:cl≠[44])(hc:∀j,i≤j→j≤ts.length→RE ts j (aY k (ak.mk ts (j:Int))) (dF k' ts (j:Int))):
  RL ts i (dK (k+1) (ak.mk ts (i:Int)) cl) (iQ (k'+1) ts (i:Int) cl false):=by
 have hN:=h.1;have hB:=dX;rw[dK,oQ,iQ,JD,mE h hi,aB];simp only[Ak h,aj];cases hq:sG ts i cl with
 | true=>
  obtain⟨hj,_⟩:=oF hq;simp only[anX];rw[iG (by omega)];exact .inl ⟨[],i+1,by omega,by omega,by simp,rfl,rfl⟩
 | false=>
  simp only[anL,anW];exact Uo h hcl hc BIG BIG i [] (by omega) (by omega) (aod _) hi (by simp) (by simp)
end Go.Ft
namespace Go.Ft
open Go
attribute [local congr] fD
def NU(ts:List ay)(i:Nat):Bool:=((zQ ts i).kind==1)||((zQ ts i).kind==3)
theorem adO{ts:List ay}{i:Nat}(h:(zQ ts i).kind≠0):∃hi:i<ts.length,zQ ts i=ts[i]∧FR ts[i]=true:=by
 unfold zQ at h⊢;cases hx:ts[i]? with
 | none=>rw[hx]at h;exact absurd rfl h
 | some t=>
  rw[hx]at h;obtain⟨hi,ht⟩:=aoT.1 hx;cases ho:FR t with
  | false=>simp[ho]at h
  | true=>exact⟨hi,by simp[ho,ht],by rw[ht];exact ho⟩
theorem aeQ{ts:List ay}{i:Nat}(h:NU ts i=true):∃hi:i<ts.length,zQ ts i=ts[i]∧FR ts[i]=true:=by
 refine adO fun h0=>?_;unfold NU at h;rw[h0]at h;cases h
theorem ahb{ts:List ay}(h:BH ts)(i:Nat):(if decide ((ts.length:Int)≤(i:Int))then some true else av (idx ts (i:Int)) fun e1=>av (UW e1) fun x2=>some (!x2))=some (!NU ts i):=by
 unfold NU zQ;by_cases hi:i<ts.length
 ·have ht:=h.2 ts[i] (aol hi);rw[anG (by simp;omega)];simp only[gK hi,aj,an6 hi,UW];by_cases h1:ts[i].kind=1
  ·rw[anN (by simpa using h1),aeb _ (by omega),aj,aj,Gy h1 ht];cases isName ts[i].text<;>simp[h1]
  ·rw[anG (by simpa using h1),aj,aj];by_cases h3:ts[i].kind=3
   ·have:FR ts[i]=decide ((ts[i].text.length:Int)≤4096):=by unfold FR jf;simp[h3]
    rw[this];cases decide ((ts[i].text.length:Int)≤4096)<;>simp[h3]
   ·have b1:(ts[i].kind==1)=false:=by simpa using h1
    have b3:(ts[i].kind==3)=false:=by simpa using h3
    cases FR ts[i]<;>simp[b1,b3]
 ·rw[anN (by simp;omega),aoQ (Nat.le_of_not_lt hi)];rfl
def RX(ts:List ay)(i0:Nat)(P:Option (fq aA au × ak))(R:Option (List au × List Str × Int × Int)):Prop:=
 (∃(l:List au) (ks:List Str) (j:Nat),i0<j∧j≤ts.length∧(l.map au.bulk).sum+(ks.map fun z:Str=>z.length+1).sum≤2097152*(j-i0)∧P=some (.ok (au.mk 10 ([]:Str) (ah.mk 0 false 0 ([]:Str) [] []) l ks),ak.mk ts (j:Int))∧R=some (l,ks,(j:Int),0))∨
 (∃(j:Nat) (c:Int) (x:List au) (y:List Str),i0≤j∧j≤ts.length∧c≠0∧P=some (.bad (aA.mk (j:Int) c),ak.mk ts (j:Int))∧R=some (x,y,(j:Int),c))
theorem Ud{ts:List ay}(h:BH ts){k k' i0:Nat}(hc:∀j,i0≤j→j≤ts.length→RE ts j (aY k (ak.mk ts (j:Int))) (dF k' ts (j:Int))):
  ∀(m m' i:Nat) (l:List au) (ks:List Str),ts.length<m+i→ts.length<m'+i→i0≤i→i≤ts.length→l.length+i0≤i→ks.length+i0≤i→(l.map au.bulk).sum+(ks.map fun z:Str=>z.length+1).sum≤2097152*(i-i0)→
  RX ts i0 (gV (aY k) m (au.mk 10 ([]:Str) (ah.mk 0 false 0 ([]:Str) [] []) l ks) (ak.mk ts (i:Int))) (sQ (dF k') ts [125] true m' (i:Int) l ks)
 | 0,m',i,l,ks,h1,_,_,h2,_,_,_=>by omega
 | m+1,0,i,l,ks,_,h1,_,h2,_,_,_=>by omega
 | m+1,m'+1,i,l,ks,hm,hm',h1,h2,hl,hk,hb=>by
  have hN:=h.1;have hL:w9=4294967296:=rfl;rw[gV,sQ,anN rfl,ahb h,aj,KY h];cases hq:NU ts i with
  | false=>
   simp only[aoC,anX,zT,aj];by_cases h0:(zQ ts i).kind=0
   ·rw[anN h0,fG];exact .inr ⟨i,_,_,_,h1,h2,Bh ts i,rfl,rfl⟩
   ·obtain⟨hi,htk,_⟩:=adO h0;have hms:miss ts i=5:=by unfold miss;rw[anG (by omega)]
    rw[anG h0,gF]
    have hcnd:(((zQ ts i).kind !=1)&&((zQ ts i).kind !=3))=true:=by
     unfold NU at hq;simp only[aoE]at hq;simp[bne,hq.1,hq.2]
    rw[anN hcnd];show RX ts i0 (fJ (some (.bad (aA.mk ((i:Nat):Int) 5),ak.mk ts (i:Int))) _ _) _;rw[fG,hms];exact .inr ⟨i,5,_,_,h1,h2,by decide,rfl,rfl⟩
  | true=>
   obtain⟨hi,htk,_⟩:=aeQ hq;have htx:=h.2 ts[i] (aol hi);have h0:(zQ ts i).kind≠0:=fun h0=>by unfold NU at hq;rw[h0]at hq;cases hq
   have hcnd:(((zQ ts i).kind !=1)&&((zQ ts i).kind !=3))=false:=by
    unfold NU at hq;simp only[aov]at hq;rcases hq with hq|hq<;>simp[bne,hq]
   rw[anG h0,gF,anG (by rw[hcnd];simp),htk];simp only[aot,anL,anW,gK hi,aj];rw[aT (by simp;omega),aj,iG (by omega),BQ h (by omega)];simp only[Ak h,aj];cases hq1:sG ts (i+1) [58]with
   | false=>
    simp only[aoC,anX,anL,anW,fG,zT,aj];exact .inr ⟨i+1,_,_,_,by omega,by omega,Bh ts (i+1),rfl,rfl⟩
   | true=>
    obtain⟨hi1,_⟩:=oF hq1;simp only[aot,anX,anL,anW,gF];rw[iG (by omega)];rcases hc (i+1+1) (by omega) (by omega)with⟨e,j,g1,g2,gb,gP,gR⟩|⟨j,c,x,g1,g2,gc,gP,gR⟩
    ·rw[gP,gR,gF,aC,aT (by simp;omega),aj,mE h g2,aB];simp only[Qc,anL,anW,Ak h,aj]
     have hs:((l++[e]).map au.bulk).sum+((ks++[ts[i].text]).map fun z:Str=>z.length+1).sum≤2097152*(j-i0):=by
      simp only[apE,List.sum_append,aor,apd,aoK,List.sum_nil];omega
     cases hq2:sG ts j [44]with
     | true=>
      obtain⟨hj,_⟩:=oF hq2;have hq3:sG ts j [125]=false:=Xz (by decide) hq2;simp only[hq3,anL,anW,aot,anX];rw[iG (by omega)];exact Ud h hc m m' (j+1) (l++[e]) (ks++[ts[i].text]) (by omega) (by omega) (by omega) (by omega) (by simp;omega) (by simp;omega) (by omega)
     | false=>
      simp only[aoC,anX,anL,anW];rw[BQ h g2];cases hq3:sG ts j [125]with
      | true=>
       obtain⟨hj,_⟩:=oF hq3;simp only[anX,gF];rw[iG (by omega)];exact .inl ⟨_,_,j+1,by omega,by omega,by omega,rfl,rfl⟩
      | false=>
       simp only[anL,anW,fG,zT,aj];exact .inr ⟨j,_,_,_,by omega,g2,Bh ts j,rfl,rfl⟩
    ·rw[gP,gR,fG,aC,anN (Qb gc)];exact .inr ⟨j,c,_,_,by omega,g2,gc,rfl,rfl⟩
theorem acB{ts:List ay}(h:BH ts){k k' i:Nat}(hi:i≤ts.length)(hc:∀j,i≤j→j≤ts.length→RE ts j (aY k (ak.mk ts (j:Int))) (dF k' ts (j:Int))):
  RX ts i (dD (k+1) (ak.mk ts (i:Int))) (iQ (k'+1) ts (i:Int) [125] true):=by
 have hN:=h.1;have hB:=dX;rw[dD,l8,iQ,JD,mE h hi,aB];simp only[Ak h,aj];cases hq:sG ts i [125]with
 | true=>
  obtain⟨hj,_⟩:=oF hq;simp only[anX];rw[iG (by omega)];exact .inl ⟨[],[],i+1,by omega,by omega,by simp,rfl,rfl⟩
 | false=>
  simp only[anL,anW];exact Ud h hc BIG BIG i [] [] (by omega) (by omega) (aod _) hi (by simp) (by simp) (by simp)
end Go.Ft
namespace Go.Ft
open Go
attribute [local congr] fD
theorem VE(k:Int)(n:Str)(l:List au)(ks:List Str):(au.mk k n (ah.mk 0 false 0 ([]:Str) [] []) l ks).bulk=12+n.length+(l.map au.bulk).sum+(ks.map fun z:Str=>z.length+1).sum:=by
 rw[au.kW,au.pF];simp[ah.bulk,ah.mq];omega
theorem GR(v:ah):(au.mk 1 ([]:Str) v [] []).bulk=5+v.bulk:=by
 simp[au.bulk,au.mq];omega
theorem aaI{t:ay}(h:t.kind=2)(hs:t.text.length≤1048576):(FR t=true∧∃u:Nat,u≤9007199254740992∧strconv_Atoi t.text=some ((u:Int),none)∧zD t.text=some ((u:Int),true))∨(FR t=false∧∃n,zD t.text=some (n,false)):=by
 obtain⟨b,d1,d2,d3⟩:=afi (s:=t.text) (by omega);obtain⟨n,ok,r1,r2,r3⟩:=OC t.text;have ho:FR t=b:=by unfold FR jf;rw[h];simp[d1]
 cases hb:b with
 | true=>
  left;obtain⟨u,hu,hl⟩:=d2 hb;obtain⟨e1,e2⟩:=r3 u hu hl;refine⟨by rw[ho,hb],u,hl,?_,by rw[r1,e1,e2]⟩;rw[strconv_Atoi,anN (by omega),hu,Rc (by omega)];rfl
 | false=>
  right;refine⟨by rw[ho,hb],n,?_⟩;cases hok:ok with
  | false=>rw[r1,hok]
  | true=>
   obtain⟨u,_,hs2,hl⟩:=r2 hok;rw[d3 u hs2 hl]at hb;cases hb
theorem ab8:isName [110,117,108,108]=true:=by decide
theorem ab7:isName [116,114,117,101]=true:=by decide
theorem Zd:isName [102,97,108,115,101]=true:=by decide
theorem abw{ts:List ay}(h:BH ts){k k' i:Nat}(hi:i<ts.length)(hk1:ts[i].kind=1)(hok:FR ts[i]=true)
  (hargs:∀j,i<j→j≤ts.length→RL ts j (dK k (ak.mk ts (j:Int)) [41]) (iQ k' ts (j:Int) [41] false)):
  RE ts i (eO (k+1) (ak.mk ts ((i+1:Nat):Int)) ts[i].text) (nP (k'+1) ts (i:Int)):=by
 have hN:=h.1;have htx:=h.2 ts[i] (aol hi);have hnm:=Gy hk1 htx;rw[hok]at hnm;rw[eO,oO,nP,JC,gK hi,aj];have w1:bq ((i:Int)+1)=((i+1:Nat):Int):=iG (by omega);by_cases h1:ts[i].text=[110,117,108,108]
 ·rw[anN (by simpa using h1),anN (by simpa using h1)];exact .inl ⟨_,i+1,by omega,by omega,by rw[GR];simp[ah.bulk,ah.mq],rfl,by rw[w1];rfl⟩
 ·rw[anG (by simpa using h1),anG (by simpa using h1)];by_cases h2:ts[i].text=[116,114,117,101]
  ·rw[anN (by simpa using h2),h2];exact .inl ⟨_,i+1,by omega,by omega,by rw[GR];simp[ah.bulk,ah.mq],rfl,by rw[w1];rfl⟩
  ·rw[anG (by simpa using h2)];by_cases h3:ts[i].text=[102,97,108,115,101]
   ·rw[anN (by simpa using h3),h3];exact .inl ⟨_,i+1,by omega,by omega,by rw[GR];simp[ah.bulk,ah.mq],rfl,by rw[w1];rfl⟩
   ·rw[anG (by simpa using h3)];have hp:jv ts[i].text=true:=by unfold jv;rw[←hnm];simp[h1,h2,h3]
    rw[(Ce ts[i].text (by omega)).2,hp,aj,Jw htx hnm.symm,hp,aj,anG (by simp),anG (by simp),mE h (by omega),aB,w1,Ak h,aj];cases hq:sG ts (i+1) [40]with
    | false=>
     simp only[aoC,anX,anL,anW];exact .inl ⟨_,i+1,by omega,by omega,by rw[VE];simp;omega,rfl,rfl⟩
    | true=>
     obtain⟨hlt,_⟩:=oF hq;simp only[aot,anX,anL,anW];have w2:bq ((i:Int)+2)=((i+1+1:Nat):Int):=by rw[aW (by omega) (by omega)];omega
     rw[w2];rcases hargs (i+1+1) (by omega) (by omega)with⟨l,j,g1,g2,gb,gP,gR⟩|⟨j,c,x,y,g1,g2,gc,gP,gR⟩
     ·rw[gP,gR,gF,aG];exact .inl ⟨_,j,by omega,g2,by rw[VE];simp;omega,rfl,rfl⟩
     ·rw[gP,gR,fG,aG];exact .inr ⟨j,c,_,by omega,g2,gc,rfl,rfl⟩
theorem acT{ts:List ay}(h:BH ts){k k' i:Nat}(hi0:i≤ts.length)
  (hc:∀j,i<j→j≤ts.length→RE ts j (aY (k+1) (ak.mk ts (j:Int))) (dF k' ts (j:Int)))
  (hargs:∀j,i<j→j≤ts.length→RL ts j (dK k (ak.mk ts (j:Int)) [41]) (iQ k' ts (j:Int) [41] false))
  (hlist:∀j,i<j→j≤ts.length→RL ts j (dK (k+1) (ak.mk ts (j:Int)) [93]) (iQ k' ts (j:Int) [93] false))
  (amo:∀j,i<j→j≤ts.length→RX ts j (dD (k+1) (ak.mk ts (j:Int))) (iQ k' ts (j:Int) [125] true)):
  RE ts i (dY (k+1+1) (ak.mk ts (i:Int))) (mJ (k'+1+1) ts (i:Int)):=by
 have hN:=h.1;rw[dY,oP,mJ,PI,KY h];by_cases hi:ts.length≤i
 ·have ht:(zQ ts i).kind=0:=by unfold zQ;rw[aoQ hi]
  rw[anN (aou (by omega)),anN ht,fG];have:miss ts i=4:=by unfold miss;rw[anN hi]
  rw[this];exact .inr ⟨i,4,_,aod _,hi0,by decide,rfl,rfl⟩
 have hlt:i<ts.length:=by omega
 have hms:miss ts i=5:=by unfold miss;rw[anG hi]
 have htx:=h.2 ts[i] (aol hlt);have w1:bq ((i:Int)+1)=((i+1:Nat):Int):=iG (by omega);rw[anG (show ¬decide ((ts.length:Int)≤(i:Int))=true by simp;omega),gK hlt,aj,hms];have htk:zQ ts i=if FR ts[i]then ts[i]else ay.mk 0 [] 0:=by unfold zQ;rw[an6 hlt]
 cases hok:FR ts[i]with
 | false=>
  rw[hok]at htk;rw[htk];show RE ts i (fJ (some (.bad (aA.mk ((i:Nat):Int) 5),ak.mk ts (i:Int))) _ _) _;rw[fG];have bad:∀x:au,RE ts i (some (.bad (aA.mk ((i:Nat):Int) 5),ak.mk ts (i:Int))) (some (x,(i:Int),5)):=fun x=>.inr ⟨i,5,x,aod _,hi0,by decide,rfl,rfl⟩;by_cases h2:ts[i].kind=2
  ·rw[anN (by simpa using h2)];rcases aaI h2 htx with⟨h3,_⟩|⟨_,n,hn⟩
   ·rw[hok]at h3;cases h3
   ·rw[hn,aB,anG (by simp)];exact bad _
  ·rw[anG (by simpa using h2)];by_cases h3:ts[i].kind=3
   ·have:FR ts[i]=decide ((ts[i].text.length:Int)≤4096):=by unfold FR jf;simp[h3]
    rw[hok]at this;rw[anN (by simpa using h3),anG (by rw[←this];simp)];exact bad _
   ·rw[anG (by simpa using h3)];by_cases h1:ts[i].kind=1
    ·have hnm:=Gy h1 htx;rw[hok]at hnm;have n1:ts[i].text≠[110,117,108,108]:=fun e=>by rw[e,ab8]at hnm;cases hnm
     have n2:ts[i].text≠[116,114,117,101]:=fun e=>by rw[e,ab7]at hnm;cases hnm
     have n3:ts[i].text≠[102,97,108,115,101]:=fun e=>by rw[e,Zd]at hnm;cases hnm
     have hp:jv ts[i].text=false:=by unfold jv;rw[←hnm];rfl
     rw[anN (by simpa using h1),nP,JC,gK hlt,aj,anG (by simpa using n1),anG (by simpa using n2),anG (by simpa using n3),(Ce ts[i].text (by omega)).2,hp,aj,anN (by simp)];exact bad _
    ·rw[anG (by simpa using h1)];have h4:ts[i].kind≠4:=fun e=>by rw[Y_ e]at hok;cases hok
     rw[anG (by simpa using h4)];exact bad _
 | true=>
  rw[hok,anN rfl]at htk;have hk:=aeu hok;rw[htk,anG (by omega),gF];rcases hk with h1|h2|h3|h4
  ·rw[anG (by simp[h1]),anG (by simp[h1]),anN (by simpa using h1),anG (by simp[h1]),anG (by simp[h1]),anN (by simpa using h1)];show RE ts i (fJ (eO (k+1) (ak.mk ts (bq ((i:Int)+1))) ts[i].text) _ _) _;rw[w1];rcases abw h hlt h1 hok hargs with⟨e,j,g1,g2,gb,gP,gR⟩|⟨j,c,x,g1,g2,gc,gP,gR⟩
   ·rw[gP,gR];exact .inl ⟨e,j,g1,g2,gb,rfl,rfl⟩
   ·rw[gP,gR];exact .inr ⟨j,c,x,g1,g2,gc,rfl,rfl⟩
  ·rw[anN (by simpa using h2),anN (by simpa using h2)];rcases aaI h2 htx with⟨_,u,hu,ha,hr⟩|⟨h3,_⟩
   ·rw[ha,hr,aB,aB,anN rfl];have hbk:(au.mk 1 ([]:Str) (ah.mk 2 false (u:Int) ([]:Str) [] []) [] []).bulk≤2097152*(i+1-i):=by rw[GR];simp[ah.bulk,ah.mq]
    exact .inl ⟨au.mk 1 ([]:Str) (ah.mk 2 false (u:Int) ([]:Str) [] []) [] [],i+1,by omega,by omega,hbk,by rw[←w1];rfl,by rw[←w1];rfl⟩
   ·rw[hok]at h3;cases h3
  ·have:FR ts[i]=decide ((ts[i].text.length:Int)≤4096):=by unfold FR jf;simp[h3]
   rw[hok]at this;rw[anG (by simp[h3]),anN (by simpa using h3),anG (by simp[h3]),anN (by simpa using h3),anN this.symm];have hbk:(au.mk 1 ([]:Str) (ah.mk 3 false 0 ts[i].text [] []) [] []).bulk≤2097152*(i+1-i):=by rw[GR];simp[ah.bulk,ah.mq];omega
   exact .inl ⟨au.mk 1 ([]:Str) (ah.mk 3 false 0 ts[i].text [] []) [] [],i+1,by omega,by omega,hbk,by rw[←w1];rfl,by rw[←w1];rfl⟩
  ·have hop:∀op,sG ts i op=(ts[i].text==op):=fun op=>by unfold sG;rw[htk,h4];rfl
   rw[anG (by simp[h4]),anG (by simp[h4]),anG (by simp[h4]),anG (by simp[h4]),anG (by simp[h4]),anG (by simp[h4]),anN (by simpa using h4),kC,Gj,gK hlt,aj,mE h hi0,aB,hop];by_cases h40:ts[i].text=[40]
   ·have e40:(ts[i].text==([40]:Str))=true:=by simpa using h40
    simp only[e40,anX];rw[w1];rcases hc (i+1) (by omega) (by omega)with⟨e,j,g1,g2,gb,gP,gR⟩|⟨j,c,x,g1,g2,gc,gP,gR⟩
    ·rw[gP,gR,gF,aC,BQ h g2];have e0:((0:Int)==0)=true:=rfl;simp only[e0,anX,Ak h,aj,Qc,anL,anW];cases hq:sG ts j [41]with
     | true=>
      obtain⟨hj,_⟩:=oF hq;simp only[aot,anX,anL,anW,gF];rw[iG (by omega)];exact .inl ⟨e,j+1,by omega,by omega,by omega,rfl,rfl⟩
     | false=>
      simp only[aoC,anX,anL,anW,fG,zT,aj,Qb (Bh ts j)];exact .inr ⟨j,_,_,by omega,g2,Bh ts j,rfl,rfl⟩
    ·have e0:(c==0)=false:=by simpa using gc
     rw[gP,gR,fG,aC];simp only[e0,anL,anW,aj,Qb gc,anX];exact .inr ⟨j,c,_,by omega,g2,gc,rfl,rfl⟩
   ·have e40:(ts[i].text==([40]:Str))=false:=by simpa using h40
    simp only[e40,anL,anW];rw[mE h hi0,aB,hop];by_cases h91:ts[i].text=[91]
    ·have e91:(ts[i].text==([91]:Str))=true:=by simpa using h91
     simp only[e91,anX];rw[w1];rcases hlist (i+1) (by omega) (by omega)with⟨l,j,g1,g2,gb,gP,gR⟩|⟨j,c,x,y,g1,g2,gc,gP,gR⟩
     ·rw[gP,gR,gF,aG];exact .inl ⟨_,j,by omega,g2,by rw[VE];simp;omega,rfl,rfl⟩
     ·rw[gP,gR,fG,aG];exact .inr ⟨j,c,_,by omega,g2,gc,rfl,rfl⟩
    ·have e91:(ts[i].text==([91]:Str))=false:=by simpa using h91
     simp only[e91,anL,anW];rw[mE h hi0,aB,hop];by_cases amx:ts[i].text=[123]
     ·have akn:(ts[i].text==([123]:Str))=true:=by simpa using amx
      simp only[akn,anX];rw[w1];rcases amo (i+1) (by omega) (by omega)with⟨l,ks,j,g1,g2,gb,gP,gR⟩|⟨j,c,x,y,g1,g2,gc,gP,gR⟩
      ·rw[gP,gR,gF,aG];exact .inl ⟨_,j,by omega,g2,by rw[VE];simp only[aoS];omega,rfl,rfl⟩
      ·rw[gP,gR,fG,aG];exact .inr ⟨j,c,_,by omega,g2,gc,rfl,rfl⟩
     ·have akn:(ts[i].text==([123]:Str))=false:=by simpa using amx
      simp only[akn,anL,anW];exact .inr ⟨i,5,_,aod _,hi0,by decide,rfl,rfl⟩
end Go.Ft
namespace Go.Ft
open Go
attribute [local congr] fD
theorem w7(n:Int)(h:2≤n∧n≤6):bq (n+1)=n+1:=aW (by omega) (by omega)
theorem ab2{ts:List ay}(h:BH ts):∀(k:Nat),
  (∀k' i,i≤ts.length→30*(ts.length-i)+20≤k→30*(ts.length-i)+20≤k'→RE ts i (aY k (ak.mk ts (i:Int))) (dF k' ts (i:Int)))∧
  (∀(k' i:Nat) (n:Int),2≤n→n≤7→i≤ts.length→((30*(ts.length-i)+19:Nat):Int)-n≤(k:Int)→((30*(ts.length-i)+19:Nat):Int)-n≤(k':Int)→RE ts i (bB k (ak.mk ts (i:Int)) n) (eF k' ts (i:Int) n))∧
  (∀k' i,i≤ts.length→30*(ts.length-i)+10≤k→30*(ts.length-i)+10≤k'→RE ts i (dx k (ak.mk ts (i:Int))) (jG k' ts (i:Int)))∧
  (∀k' i,i≤ts.length→30*(ts.length-i)+9≤k→30*(ts.length-i)+9≤k'→RE ts i (dQ k (ak.mk ts (i:Int))) (kM k' ts (i:Int)))∧
  (∀k' i,i≤ts.length→30*(ts.length-i)+8≤k→30*(ts.length-i)+8≤k'→RE ts i (dY k (ak.mk ts (i:Int))) (mJ k' ts (i:Int)))∧
  (∀k' i cl,cl≠[44]→i≤ts.length→30*(ts.length-i)+21≤k→30*(ts.length-i)+21≤k'→RL ts i (dK k (ak.mk ts (i:Int)) cl) (iQ k' ts (i:Int) cl false))∧
  (∀k' i,i≤ts.length→30*(ts.length-i)+21≤k→30*(ts.length-i)+21≤k'→RX ts i (dD k (ak.mk ts (i:Int))) (iQ k' ts (i:Int) [125] true)):=by
 intro k
 induction k using Nat.strongRecOn with
 | _ k ih=>
  have hN:=h.1;refine⟨?_,?_,?_,?_,?_,?_,?_⟩
  ·intro k' i hi h1 h2;obtain⟨q,rfl⟩:∃q,k=q+1:=⟨k-1,by omega⟩;obtain⟨q',rfl⟩:∃q',k'=q'+1:=⟨k'-1,by omega⟩;obtain⟨c1,c2,_⟩:=ih q (by omega);exact acI h (c2 q' i 2 (by omega) (by omega) hi (by omega) (by omega)) fun j hj hj2=>c1 q' j hj2 (by omega) (by omega)
  ·intro k' i n n2 n7 hi h1 h2;obtain⟨q,rfl⟩:∃q,k=q+1:=⟨k-1,by omega⟩;obtain⟨q',rfl⟩:∃q',k'=q'+1:=⟨k'-1,by omega⟩;obtain⟨_,c2,c3,_⟩:=ih q (by omega);by_cases e7:n=7
   ·subst e7;exact aeo (c3 q' i hi (by omega) (by omega))
   ·have hn:2≤n∧n≤6:=⟨n2,by omega⟩;refine ahv h hn ?_ ?_
    ·rw[w7 n hn];exact c2 q' i (n+1) (by omega) (by omega) hi (by omega) (by omega)
    ·intro j hj hj2;rw[w7 n hn];exact c2 q' j (n+1) (by omega) (by omega) hj2 (by omega) (by omega)
  ·intro k' i hi h1 h2;obtain⟨q,rfl⟩:∃q,k=q+1:=⟨k-1,by omega⟩;obtain⟨q',rfl⟩:∃q',k'=q'+1:=⟨k'-1,by omega⟩;obtain⟨_,_,c3,c4,_⟩:=ih q (by omega);exact YL h hi (c4 q' i hi (by omega) (by omega)) fun j hj hj2=>c3 q' j hj2 (by omega) (by omega)
  ·intro k' i hi h1 h2;obtain⟨q,rfl⟩:∃q,k=q+1:=⟨k-1,by omega⟩;obtain⟨q',rfl⟩:∃q',k'=q'+1:=⟨k'-1,by omega⟩;obtain⟨c1,_,_,_,c5,_⟩:=ih q (by omega);exact ZH h (c5 q' i hi (by omega) (by omega)) fun j hj hj2=>c1 q' j hj2 (by omega) (by omega)
  ·intro k' i hi h1 h2;obtain⟨q,rfl⟩:∃q,k=q+1+1:=⟨k-2,by omega⟩;obtain⟨q',rfl⟩:∃q',k'=q'+1+1:=⟨k'-2,by omega⟩;obtain⟨c1,_,_,_,_,c6,c7⟩:=ih (q+1) (by omega);obtain⟨_,_,_,_,_,d6,_⟩:=ih q (by omega);exact acT h hi (fun j hj hj2=>c1 q' j hj2 (by omega) (by omega)) (fun j hj hj2=>d6 q' j _ (by decide) hj2 (by omega) (by omega)) (fun j hj hj2=>c6 q' j _ (by decide) hj2 (by omega) (by omega)) (fun j hj hj2=>c7 q' j hj2 (by omega) (by omega))
  ·intro k' i cl hcl hi h1 h2;obtain⟨q,rfl⟩:∃q,k=q+1:=⟨k-1,by omega⟩;obtain⟨q',rfl⟩:∃q',k'=q'+1:=⟨k'-1,by omega⟩;obtain⟨c1,_⟩:=ih q (by omega);exact acU h hi hcl fun j hj hj2=>c1 q' j hj2 (by omega) (by omega)
  ·intro k' i hi h1 h2;obtain⟨q,rfl⟩:∃q,k=q+1:=⟨k-1,by omega⟩;obtain⟨q',rfl⟩:∃q',k'=q'+1:=⟨k'-1,by omega⟩;obtain⟨c1,_⟩:=ih q (by omega);exact acB h hi fun j hj hj2=>c1 q' j hj2 (by omega) (by omega)
theorem afk{ts:List ay}(h:BH ts):RE ts 0 (p9 (ak.mk ts 0)) (Jc ts 0):=by
 have hN:=h.1;have hB:=dX;exact(ab2 h BIG).1 BIG 0 (aoN _) (by omega) (by omega)
end Go.Ft
namespace Go.Ft
open Go
attribute [local congr] fD
theorem LU{n:Int}(h:-9223372036854775808≤n∧n<9223372036854775808):bq n=n:=Uy (by omega) (by omega)
theorem ads{i j:Nat}(h:i+j<9223372036854775808):bq ((i:Int)+(j:Int))=((i+j:Nat):Int):=by rw[LU (by omega)];omega
theorem MJ{α:Type}{l:List α}{i:Nat}(h:i<l.length):idx l (i:Int)=some (l[i]):=by rw[aaO,an6 h]
def nW(c:UInt8):Bool:=(((decide (97≤(c.toNat:Int)))&&(decide ((c.toNat:Int)≤122)))||((decide (65≤(c.toNat:Int)))&&(decide ((c.toNat:Int)≤90))))||((c.toNat:Int)==95)
def isDigit(c:UInt8):Bool:=(decide (48≤(c.toNat:Int)))&&(decide ((c.toNat:Int)≤57))
def isWord(c:UInt8):Bool:=nW c||isDigit c
theorem oZ{c:UInt8}:isDigit c=true↔48≤c.toNat∧c.toNat≤57:=by simp[isDigit];omega
theorem Bn{c:UInt8}:nW c=true↔(97≤c.toNat∧c.toNat≤122)∨(65≤c.toNat∧c.toNat≤90)∨c.toNat=95:=by simp[nW];omega
@[simp] theorem letter_eq(c:UInt8):qL c=some (nW c):=rfl
@[simp] theorem digit_eq(c:UInt8):qC c=some (isDigit c):=rfl
@[simp] theorem Pw(c:UInt8):EM c=some (nW c):=rfl
@[simp] theorem DZ(c:UInt8):rD c=some (isDigit c):=rfl
@[simp] theorem aeB(c:UInt8):uN c=some (isWord c):=by
 unfold uN isWord;simp;cases nW c<;>simp
def span(p:UInt8→Bool)(l:Str):Nat:=(l.takeWhile p).length
@[simp] theorem alp(p:UInt8→Bool):span p []=0:=rfl
theorem kH(p:UInt8→Bool)(c:UInt8)(l:Str):span p (c::l)=if p c then span p l+1 else 0:=by
 unfold span;rw[List.takeWhile_cons];split<;>simp
theorem AL(p:UInt8→Bool)(l:Str):span p l≤l.length:=by
 induction l with
 | nil=>simp
 | cons c l ih=>rw[kH];split<;>simp<;>omega
theorem V9{p:UInt8→Bool}{cls:UInt8→Option Bool}(hc:∀c,cls c=some (p c))(s:Str)(hs:s.length<4611686018427387904):
  ∀(k i:Nat),s.length<k+i→i≤s.length→qd s cls k (i:Int)=some ((i+span p (s.drop i):Nat):Int)
 | 0,i,h,h'=>by omega
 | k+1,i,h,h'=>by
  rw[qd];by_cases hi:i<s.length
  ·rw[an0 hi,kH];have h1:((i:Int)<(s.length:Int)):=by omega
   simp only[h1,ao8,anX,MJ hi,aj,hc];cases e:p s[i]with
   | false=>simp
   | true=>
    simp only[anX];rw[show (i:Int)+1=((i:Int)+(1:Nat))from rfl,ads (by omega),V9 hc s hs k (i+1) (by omega) (by omega)];simp only[aoq,apu];omega
  ·have:i=s.length:=by omega
   subst this;simp
theorem O7{p:UInt8→Bool}{cls:UInt8→Option Bool}(hc:∀c,cls c=some (p c)){s:Str}(hs:s.length<4611686018427387904){i:Nat}(h:i≤s.length):
  tu s (i:Int) cls=some ((i+span p (s.drop i):Nat):Int):=V9 hc s hs BIG i (by unfold BIG;omega) h
theorem Ug(s:Str)(hs:s.length<4611686018427387904)(a:Nat):∀(k n:Nat),s.length<k+(a+n)→a+n≤s.length→
  zC s (a:Int) k (n:Int)=some ((n+span isDigit (s.drop (a+n)):Nat):Int)
 | 0,n,h,h'=>by omega
 | k+1,n,h,h'=>by
  rw[zC,ads (by omega)];by_cases hi:a+n<s.length
  ·rw[an0 hi,kH];have h1:(((a+n:Nat):Int)<(s.length:Int)):=by omega
   simp only[h1,ao8,anX,MJ hi,aj,DZ];cases e:isDigit s[a+n]with
   | false=>simp
   | true=>
    simp only[anX];rw[show (n:Int)+1=((n:Int)+(1:Nat))from rfl,ads (by omega),Ug s hs a k (n+1) (by omega) (by omega)];simp only[aoq,apu];rw[show a+(n+1)=a+n+1 from rfl];omega
  ·have e:a+n=s.length:=by omega
   rw[e];simp
theorem aae(s:Str)(hs:s.length<4611686018427387904)(a:Nat):∀(k n:Nat),s.length<k+(a+n)→a+n≤s.length→
  C9 s (a:Int) k (n:Int)=some ((n+span isWord (s.drop (a+n)):Nat):Int)
 | 0,n,h,h'=>by omega
 | k+1,n,h,h'=>by
  rw[C9,ads (by omega)];by_cases hi:a+n<s.length
  ·rw[an0 hi,kH];have h1:(((a+n:Nat):Int)<(s.length:Int)):=by omega
   simp only[h1,ao8,anX,MJ hi,aj,DZ,Pw]
   have e:(if nW s[a+n]=true then some true else some (isDigit s[a+n]))=some (isWord s[a+n]):=by
    unfold isWord;cases nW s[a+n]<;>simp
   rw[e];simp only[aj];cases e:isWord s[a+n]with
   | false=>simp
   | true=>
    simp only[anX];rw[show (n:Int)+1=((n:Int)+(1:Nat))from rfl,ads (by omega),aae s hs a k (n+1) (by omega) (by omega)];simp only[aoq,apu];rw[show a+(n+1)=a+n+1 from rfl];omega
  ·have e:a+n=s.length:=by omega
   rw[e];simp
theorem acF{s:Str}(hs:s.length<4611686018427387904){a:Nat}(h:a≤s.length):JG s (a:Int)=some ((span isDigit (s.drop a):Nat):Int):=by
 have:=Ug s hs a BIG 0 (by unfold BIG;omega) (by omega);simpa[JG]using this
theorem aad{s:Str}(hs:s.length<4611686018427387904){a:Nat}(h:a≤s.length):KN s (a:Int)=some ((span isWord (s.drop a):Nat):Int):=by
 have:=aae s hs a BIG 0 (by unfold BIG;omega) (by omega);simpa[KN]using this
def GX(c:UInt8):Option Nat:=if isDigit c then some (c.toNat-48)else if 97≤c.toNat∧c.toNat≤102 then some (c.toNat-87)else if 65≤c.toNat∧c.toNat≤70 then some (c.toNat-55)else none
def XB(c:UInt8):Int:=match GX c with|some n=>n|none=>-1
theorem OO{c:UInt8}{n:Nat}(h:GX c=some n):n<16:=by
 unfold GX at h;split at h
 ·rename_i hd;rw[oZ]at hd;cases h;omega
 ·split at h
  ·cases h;omega
  ·split at h
   ·cases h;omega
   ·cases h
theorem Ox{c d:UInt8}(h:d.toNat≤c.toNat):(c-d).toNat=c.toNat-d.toNat:=UInt8.toNat_sub_of_le c d (UInt8.le_iff_toNat_le.2 h)
theorem Zt(c:UInt8):uO c=some (XB c):=by
 have hlt:=c.toNat_lt;unfold uO XB GX;simp only[digit_eq,aj];by_cases hd:isDigit c=true
 ·simp only[hd,anX];rw[oZ]at hd;rw[Ox (by simpa using hd.1)];rfl
 ·simp only[Bool.not_eq_true]at hd;simp only[hd,anL,anW];by_cases h1:97≤c.toNat∧c.toNat≤102
  ·rw[anN (by simp;omega),anN h1,Ox (by simpa using h1.1)];have:(97:UInt8).toNat=97:=rfl;rw[this,LU (by omega)];simp only[aoq];omega
  ·rw[anG (by simp;omega),anG h1];by_cases h2:65≤c.toNat∧c.toNat≤70
   ·rw[anN (by simp;omega),anN h2,Ox (by simpa using h2.1)];have:(65:UInt8).toNat=65:=rfl;rw[this,LU (by omega)];simp only[aoq];omega
   ·rw[anG (by simp;omega),anG h2]
theorem UO(c:UInt8):OD c=some (XB c):=by
 have hlt:=c.toNat_lt;unfold OD XB GX;simp only[DZ,aj];by_cases hd:isDigit c=true
 ·simp only[hd,anX];rw[oZ]at hd;rw[LU (by omega)];simp only[aoq];omega
 ·simp only[Bool.not_eq_true]at hd;simp only[hd,anL,anW];by_cases h1:97≤c.toNat∧c.toNat≤102
  ·rw[anN (by simp;omega),anN h1,LU (by omega)];simp only[aoq];omega
  ·rw[anG (by simp;omega),anG h1];by_cases h2:65≤c.toNat∧c.toNat≤70
   ·rw[anN (by simp;omega),anN h2,LU (by omega)];simp only[aoq];omega
   ·rw[anG (by simp;omega),anG h2]
theorem BM{c:UInt8}{n:Nat}(h:GX c=some n):XB c=n:=by unfold XB;rw[h]
theorem Ec{c:UInt8}(h:GX c=none):XB c=-1:=by unfold XB;rw[h]
def chr:Str→UInt8 × Nat × Int
 | []=>(0,0,5)
 | c::r=>if c.toNat<32 then (0,0,5)else if c.toNat≠92 then (c,1,0)else
  match r with
  | []=>(0,0,4)
  | d::r=>if d.toNat=34∨d.toNat=92 then (d,2,0)else if d.toNat=110 then (10,2,0)else if d.toNat=116 then (9,2,0)else if d.toNat=120 then
    match r with
    | []=>(0,0,4)
    | a::r=>match GX a with
     | none=>(0,0,5)
     | some x=>match r with
      | []=>(0,0,4)
      | b::_=>match GX b with
       | none=>(0,0,5)
       | some y=>(UInt8.ofNat (16*x+y),4,0)
   else (0,0,5)
theorem abb:∀ {l:Str},(chr l).2.2=0→0<(chr l).2.1∧(chr l).2.1≤l.length
 | [],h=>by simp[chr]at h
 | c::r,h=>by
  unfold chr at h⊢;by_cases h1:c.toNat<32
  ·simp[h1]at h
  ·by_cases h2:c.toNat≠92
   ·simp[h1,h2]
   ·simp only[h1,h2,anW]at h⊢;cases r with
    | nil=>simp at h
    | cons d r=>
     simp only at h⊢;by_cases h3:d.toNat=34∨d.toNat=92
     ·simp[h3]
     ·by_cases h4:d.toNat=110
      ·simp[h4]
      ·by_cases h5:d.toNat=116
       ·simp[h5]
       ·by_cases h6:d.toNat=120
        ·simp only[h6,anX]at h⊢;cases r with
         | nil=>simp at h
         | cons a r=>
          simp only at h⊢;cases ha:GX a with
          | none=>simp[ha]at h
          | some x=>
           simp only[ha]at h⊢;cases r with
           | nil=>simp at h
           | cons b r=>
            simp only at h⊢;cases hb:GX b with
            | none=>simp[hb]at h
            | some y=>simp
        ·simp[h3,h4,h5,h6]at h
theorem getD_drop{s:Str}{i:Nat}(h:i<s.length):s.drop i=s.getD i 0::s.drop (i+1):=by
 rw[an0 h,aos,an6 h,apr]
theorem dflt:(default:UInt8)=0:=rfl
theorem aha{s:Str}(hs:s.length<4611686018427387904){i:Nat}(hi:i+1<s.length)(h1:(s.getD i 0).toNat=92)(h2:(s.getD (i+1) 0).toNat=120):
  Gl s (i:Int)=some ((chr (s.drop i)).1,((chr (s.drop i)).2.1:Int),(chr (s.drop i)).2.2):=by
 rw[getD_drop (by omega),getD_drop hi];unfold chr;unfold Gl;obtain⟨m,hm⟩:∃m,BIG=m+3:=⟨BIG-3,rfl⟩;rw[hm];by_cases h4:i+2<s.length
 ·rw[getD_drop (by omega:i+1+1<s.length)];simp (disch:=omega) only[nQ,UO,dflt,h2,aW,bg,anN,anG,aj,anZ,apl,aoy,an1,Int.reduceToNat,anX];cases ha:GX (s.getD (i+1+1) 0)with
  | none=>simp (disch:=omega) only[Ec ha,anN];rfl
  | some x=>
   have hx:=OO ha;by_cases h5:i+3<s.length
   ·rw[getD_drop (by omega:i+1+1+1<s.length)];simp (disch:=omega) only[BM ha,aW,anG];cases hb:GX (s.getD (i+1+1+1) 0)with
    | none=>simp (disch:=omega) only[Ec hb,anN];rfl
    | some y=>
     have hy:=OO hb;simp (disch:=omega) only[BM hb,aW,anG]
     have:byteOf (16*(16*0+(x:Int))+(y:Int))=UInt8.ofNat (16*x+y):=by
      apply aoB.1;have e1:((byteOf (16*(16*0+(x:Int))+(y:Int))).toNat:Int)=16*(16*0+(x:Int))+(y:Int):=M5 (by omega) (by omega);have e2:(UInt8.ofNat (16*x+y)).toNat=16*x+y:=by simp;omega
      omega
     rw[this];rfl
   ·rw[aob (by omega:s.length≤i+1+1+1)];simp (disch:=omega) only[BM ha,aW,anN,anG];rfl
 ·rw[aob (by omega:s.length≤i+1+1)];simp (disch:=omega) only[nQ,h2,aW,anN,anG,anZ,apl,anX];rfl
theorem ahd{s:Str}(hs:s.length<4611686018427387904){i:Nat}(hi:i<s.length):rE s (i:Int)=some ((chr (s.drop i)).1,((chr (s.drop i)).2.1:Int),(chr (s.drop i)).2.2):=by
 by_cases h1:(s.getD i 0).toNat=92
 ·by_cases h2:i+1<s.length
  ·by_cases h3:(s.getD (i+1) 0).toNat=120
   ·rw[←aha hs h2 h1 h3];unfold rE;simp (disch:=omega) only[dflt,aW,bg,anN,anG,aj,anZ,aoi,aoF,apl,aoy,an1,Int.reduceToNat]
   ·rw[getD_drop hi,getD_drop h2];unfold rE chr;simp (disch:=omega) only[dflt,aW,bg,anG,aj,anZ,aoi,aoF,apl,aoy,an1,Int.reduceToNat];by_cases d1:(s.getD (i+1) 0).toNat=34
    ·simp (disch:=omega) only[anN];rfl
    ·by_cases d2:(s.getD (i+1) 0).toNat=92
     ·simp (disch:=omega) only[anN,anG];rfl
     ·by_cases d3:(s.getD (i+1) 0).toNat=110
      ·simp (disch:=omega) only[anN,anG];rfl
      ·by_cases d4:(s.getD (i+1) 0).toNat=116
       ·simp (disch:=omega) only[anN,anG];rfl
       ·simp (disch:=omega) only[anG];rfl
  ·rw[getD_drop hi,aob (by omega:s.length≤i+1)];unfold rE chr;simp (disch:=omega) only[dflt,aW,bg,anN,anG,aj,anZ,aoF,apl,an1];rfl
 ·rw[getD_drop hi];unfold rE chr;by_cases h2:(s.getD i 0).toNat<32
  ·simp (disch:=omega) only[dflt,bg,anN,aj,anZ,apl,an1];rfl
  ·simp (disch:=omega) only[dflt,bg,anN,anG,aj,anZ,aoF,apl,an1];rfl
theorem ahF{s:Str}(hs:s.length<4611686018427387904){i:Nat}(hi:i<s.length)(h1:(s.getD i 0).toNat=92):
  vN s (i:Int)=some ((chr (s.drop i)).1,((chr (s.drop i)).2.1:Int)):=by
 unfold vN;rw[getD_drop hi];unfold chr;by_cases h2:i+1<s.length
 ·rw[getD_drop h2];simp (disch:=omega) only[dflt,aW,bg,anG,aj,anZ,aoi,apl,aoy,an1,Int.reduceToNat];by_cases d1:(s.getD (i+1) 0).toNat=34
  ·simp (disch:=omega) only[aW,bg,anN,aj,aoy,an1,Int.reduceToNat];rfl
  ·by_cases d2:(s.getD (i+1) 0).toNat=92
   ·simp (disch:=omega) only[aW,bg,anN,anG,aj,aoy,an1,Int.reduceToNat];rfl
   ·by_cases d3:(s.getD (i+1) 0).toNat=110
    ·simp (disch:=omega) only[aW,bg,anN,anG,aj,aoy,an1,Int.reduceToNat];rfl
    ·by_cases d4:(s.getD (i+1) 0).toNat=116
     ·simp (disch:=omega) only[aW,bg,anN,anG,aj,aoy,an1,Int.reduceToNat];rfl
     ·by_cases d5:(s.getD (i+1) 0).toNat=120
      ·simp (disch:=omega) only[bg,anN,anG,aj,aoy,an1,Int.reduceToNat];by_cases h4:i+2<s.length
       ·rw[show s.drop (i+1+1)=s.getD (i+2) 0::s.drop (i+3)from getD_drop (by omega)];by_cases h5:i+3<s.length
        ·rw[show s.drop (i+3)=s.getD (i+3) 0::s.drop (i+4)from getD_drop (by omega)];simp (disch:=omega) only[Zt,dflt,bg,anN,aj,anZ,aoy,an1,Int.reduceToNat];cases ha:GX (s.getD (i+2) 0)with
         | none=>simp (disch:=omega) only[Ec ha,anG,aj,anL,anW];rfl
         | some x=>
          have hx:=OO ha;simp (disch:=omega) only[BM ha,aW,anN,aj,anZ];cases hb:GX (s.getD (i+3) 0)with
          | none=>simp (disch:=omega) only[Ec hb,anG];rfl
          | some y=>
           have hy:=OO hb;simp (disch:=omega) only[BM hb,aW,anN]
           have:byteOf (16*(x:Int)+(y:Int))=UInt8.ofNat (16*x+y):=by
            apply aoB.1;have e1:((byteOf (16*(x:Int)+(y:Int))).toNat:Int)=16*(x:Int)+(y:Int):=M5 (by omega) (by omega);have e2:(UInt8.ofNat (16*x+y)).toNat=16*x+y:=by simp;omega
            omega
           rw[this];rfl
        ·rw[aob (by omega:s.length≤i+3)];simp (disch:=omega) only[Zt,bg,anG,aj,aoy,an1,Int.reduceToNat,anL,anW];cases ha:GX (s.getD (i+2) 0)<;>rfl
       ·rw[aob (by omega:s.length≤i+1+1)];simp (disch:=omega) only[bg,anG,aj,aoy,an1,Int.reduceToNat,anL,anW];rfl
      ·simp (disch:=omega) only[aW,bg,anN,anG,aj,aoy,an1,Int.reduceToNat];rfl
 ·rw[aob (by omega:s.length≤i+1)];simp (disch:=omega) only[aW,anN,anG,anZ,apl];rfl
theorem acd{s:Str}(hs:s.length<4611686018427387904){i:Nat}(hi:i<s.length)(h1:(s.getD i 0).toNat=92)(he:(chr (s.drop i)).2.2≠0):
  z_ s (i:Int)=some ((chr (s.drop i)).2.2==4):=by
 unfold z_;rw[getD_drop hi]at he⊢;simp (disch:=omega) only[aW,bg,bG,aj,aoi,aov,aoy,an1,Int.reduceToNat];rw[List.take_length];generalize s.drop (i+1)=r at he⊢;generalize s.getD i 0=c at he h1⊢;have h92:¬c.toNat<32:=by omega
 have acp:¬c.toNat≠92:=by omega
 match r with
 | []=>simp[chr,h92,acp]
 | [d]=>
  by_cases d5:d=120
  ·subst d5;simp[chr,h92,acp]
  ·have:d.toNat≠120:=fun h=>d5 (aoB.1 h);simp only[chr,h92,acp,anW]at he⊢;simp[d5];revert he
   repeat' split
   all_goals simp
 | [d,a]=>
  by_cases d5:d=120
  ·subst d5;simp[chr,h92,acp,idx];rw[Zt];cases ha:GX a with
   | none=>simp[Ec ha]
   | some x=>simp[BM ha]
  ·have:d.toNat≠120:=fun h=>d5 (aoB.1 h);have d5':¬(d.toNat:Int)=120:=by omega
   simp only[chr,h92,acp,anW]at he⊢;simp[d5,idx,d5'];revert he
   repeat' split
   all_goals simp
 | d::a::b::r=>
  simp only[chr,h92,acp,anW]at he⊢;have hl:¬((r.length:Int)+1+1+1=2):=by omega
  simp[hl];revert he
  repeat' split
  all_goals simp
def txt:Nat→Str→Nat→Str→Str × Nat × Int
 | _,_,_,[]=>([],0,4)
 | k+1,b,n,_::r=>txt k b n r
 | 0,b,n,c::r=>if c.toNat=34 then (if 4096<b.length then ([],0,3)else (b,n+1,0))else
   if (chr (c::r)).2.2=0 then txt ((chr (c::r)).2.1-1) (b++[(chr (c::r)).1]) (n+(chr (c::r)).2.1) r else ([],0,(chr (c::r)).2.2)
theorem Ws:∀(k:Nat) (b:Str) (n:Nat) (r:Str),k≤r.length→txt k b n r=txt 0 b n (r.drop k)
 | 0,b,n,r,_=>by simp
 | k+1,b,n,[],h=>by simp at h
 | k+1,b,n,c::r,h=>by rw[txt,Ws k b n r (by simpa using h)];simp
theorem Pf(b:Str)(n:Nat)(c:UInt8)(r:Str):txt 0 b n (c::r)=if c.toNat=34 then (if 4096<b.length then ([],0,3)else (b,n+1,0))else
  if (chr (c::r)).2.2=0 then txt 0 (b++[(chr (c::r)).1]) (n+(chr (c::r)).2.1) ((c::r).drop (chr (c::r)).2.1)else ([],0,(chr (c::r)).2.2):=by
 rw[txt];split
 ·rfl
 ·split
  ·rename_i h;obtain⟨h1,h2⟩:=abb h;rw[Ws _ _ _ _ (by simp at h2;omega)];congr 1;obtain⟨m,hm⟩:∃m,(chr (c::r)).2.1=m+1:=⟨(chr (c::r)).2.1-1,by omega⟩;rw[hm];simp
  ·rfl
def Zg(a:Nat)(x:Str × Nat × Int):ay × Int × Int:=if x.2.2=0 then (⟨3,x.1,a⟩,((a+x.2.1:Nat):Int),0)else (⟨0,[],0⟩,0,x.2.2)
def abP(x:Str × Nat × Int):ay × Int × Int:=if x.2.2=0 then (⟨3,x.1,0⟩,(x.2.1:Int),0)else (⟨0,[],0⟩,0,x.2.2)
theorem ahU{l:Str}(h:(chr l).2.2≠0):(chr l).2.1=0:=by
 revert h;unfold chr
 repeat' split
 all_goals simp
theorem acM{c:UInt8}{r:Str}(h1:¬c.toNat<32)(h2:c.toNat≠92):chr (c::r)=(c,1,0):=by
 show (if c.toNat<32 then _ else _)=_;rw[anG h1,anN h2]
theorem ahT{c:UInt8}{r:Str}(h1:c.toNat<32):chr (c::r)=(0,0,5):=by
 show (if c.toNat<32 then _ else _)=_;rw[anN h1]
theorem Ql{s:Str}(hs:s.length≤2147483648)(a:Nat):∀(k i:Nat) (b:Str),s.length<k+i→i≤s.length→a≤i→b.length≤i→
  pO s (a:Int) k (i:Int) b=some (Zg a (txt 0 b (i-a) (s.drop i)))
 | 0,i,b,h,h',_,_=>by omega
 | k+1,i,b,h,h',ha,hb=>by
  rw[pO];by_cases hi:i<s.length
  ·rw[getD_drop hi,Pf];simp (disch:=omega) only[dflt,aW,bg,anN,aj,anZ,aoi,an1];have hd:=getD_drop hi;by_cases Vl:(s.getD i 0).toNat=34
   ·simp (disch:=omega) only[aW,aT,anN,aj];by_cases hl:4096<b.length
    ·simp (disch:=omega) only[anN];rfl
    ·simp (disch:=omega) only[anG];simp only[Zg,anX];congr 4;omega
   ·simp (disch:=omega) only[anN,anG];by_cases h92:(s.getD i 0).toNat=92
    ·simp (disch:=omega) only[ahF (by omega) hi h92,anN,anG,aB];rw[hd];by_cases he:(chr (s.getD i 0::s.drop (i+1))).2.2=0
     ·obtain⟨n1,n2⟩:=abb he;rw[←hd]at n2;rw[ao5]at n2;have happ:app b [(chr (s.getD i 0::s.drop (i+1))).1]=some (b++[(chr (s.getD i 0::s.drop (i+1))).1]):=aT (by simp[w9];omega);rw[←hd]at n1 he happ⊢;simp (disch:=omega) only[he,happ,aW,anG,aj,anL,anX,anW];rw[show (i:Int)+((chr (s.drop i)).2.1:Int)=((i+(chr (s.drop i)).2.1:Nat):Int)from by omega];rw[Ql hs a k (i+(chr (s.drop i)).2.1) _ (by omega) (by omega) (by omega) (by simp;omega)];rw[ao1];congr 4;omega
     ·rw[←hd]at he⊢;rw[ahU he];simp (disch:=omega) only[acd (by omega) hi h92 he,aW,aT,anN,anG,aj,aoi,apy];by_cases h4:(chr (s.drop i)).2.2=4
      ·simp (disch:=omega) only[h4,anX];simp[Zg]
      ·simp (disch:=omega) only[h4,anW]
       have h5:(chr (s.drop i)).2.2=5:=by
        revert he h4;unfold chr
        repeat' split
        all_goals simp
       simp[Zg,h5]
    ·by_cases h32:(s.getD i 0).toNat<32
     ·rw[ahT h32];simp (disch:=omega) only[aW,aT,anN,anG,aj,apy];rfl
     ·rw[acM h32 h92];have happ:app b [s.getD i 0]=some (b++[s.getD i 0]):=aT (by simp[w9];omega);simp (disch:=omega) only[happ,aW,aT,anN,anG,aj,anX];rw[show (i:Int)+1=((i+1:Nat):Int)from rfl,Ql hs a k (i+1) _ (by omega) (by omega) (by omega) (by simp;omega)];simp only[apb,aoV];rw[show i+1-a=i-a+1 from by omega]
  ·have e:i=s.length:=by omega
   rw[e];simp (disch:=omega) only[anG,anZ];simp[txt,Zg]
theorem aeD{s:Str}(hs:s.length≤2147483648){a:Nat}(h:a<s.length):Ch s (a:Int)=some (Zg a (txt 0 [] 1 (s.drop (a+1)))):=by
 unfold Ch;simp (disch:=omega) only[aW];rw[show (a:Int)+1=((a+1:Nat):Int)from rfl,Ql hs a BIG (a+1) [] (by unfold BIG;omega) (by omega) (by omega) (by simp)];rw[show a+1-a=1 from by omega]
theorem WS{s:Str}(hs:s.length≤2147483648)(a:Nat):∀(k i:Nat) (b:Str),s.length<k+i→i≤s.length→a≤i→b.length≤i→
  C_ s (a:Int) k b (i:Int)=some (abP (txt 0 b (i-a) (s.drop i)))
 | 0,i,b,h,h',_,_=>by omega
 | k+1,i,b,h,h',ha,hb=>by
  rw[C_];by_cases hi:i<s.length
  ·rw[getD_drop hi,Pf];simp (disch:=omega) only[dflt,aW,bg,anN,aj,anZ,aoi,aoF,apl,an1];have hd:=getD_drop hi;by_cases Vl:(s.getD i 0).toNat=34
   ·simp (disch:=omega) only[aW,aT,anN,aj];by_cases hl:4096<b.length
    ·simp (disch:=omega) only[anN];rfl
    ·simp (disch:=omega) only[anG];simp only[abP,anX];congr 3;omega
   ·simp (disch:=omega) only[ahd (by omega) hi,anN,anG,aC];rw[←hd];by_cases he:(chr (s.drop i)).2.2=0
    ·obtain⟨n1,n2⟩:=abb he;rw[ao5]at n2;have happ:app b [(chr (s.drop i)).1]=some (b++[(chr (s.drop i)).1]):=aT (by simp[w9];omega);simp (disch:=omega) only[he,happ,aW,aj,not_true_eq_false,anX,anW];rw[show (i:Int)+((chr (s.drop i)).2.1:Int)=((i+(chr (s.drop i)).2.1:Nat):Int)from by omega];rw[WS hs a k (i+(chr (s.drop i)).2.1) _ (by omega) (by omega) (by omega) (by simp;omega)];rw[ao1];congr 4;omega
    ·simp (disch:=omega) only[he,apn,anX,anW];simp[abP,he]
  ·have e:i=s.length:=by omega
   rw[e];simp (disch:=omega) only[anG,anZ];simp[txt,abP]
theorem ad6{s:Str}(hs:s.length≤2147483648){a:Nat}(h:a<s.length):PL s (a:Int)=some (abP (txt 0 [] 1 (s.drop (a+1)))):=by
 unfold PL;simp (disch:=omega) only[aW];rw[show (a:Int)+1=((a+1:Nat):Int)from rfl,WS hs a BIG (a+1) [] (by unfold BIG;omega) (by omega) (by omega) (by simp)];rw[show a+1-a=1 from by omega]
def val(l:Str):Nat:=l.foldl (fun n c=>10*n+(c.toNat-48)) 0
def DN:Nat:=9007199254740992
theorem adx(l:Str):∀n:Nat,n≤l.foldl (fun n (c:UInt8)=>10*n+(c.toNat-48)) n:=by
 induction l with
 | nil=>intro n;simp
 | cons c l ih=>intro n;simp only[apv];exact apA (by omega) (ih _)
theorem Xv{s:Str}(hs:s.length≤2147483648)(hd:∀c∈s,isDigit c=true):∀(k i n:Nat),s.length<k+i→i≤s.length→n≤10*DN+9→
  qg s k (n:Int) (i:Int)=some (decide (DN<(s.drop i).foldl (fun n (c:UInt8)=>10*n+(c.toNat-48)) n))
 | 0,i,n,h,h',_=>by omega
 | k+1,i,n,h,h',hn=>by
  unfold DN at hn;rw[qg];by_cases hi:i<s.length
  ·have hdi:=hd s[i] (aol hi);rw[oZ]at hdi;have e:=getD_drop hi;have e0:s.getD i 0=s[i]:=by rw[aos,an6 hi,apr]
   by_cases hm:n≤9007199254740992
   ·simp (disch:=omega) only[dflt,aW,bg,anN,aj,anZ,an_,an1];rw[e,e0,Ox (by simpa using hdi.1)];have h48:(48:UInt8).toNat=48:=rfl;rw[h48];simp (disch:=omega) only[aW];rw[show 10*(n:Int)+((s[i].toNat-48:Nat):Int)=((10*n+(s[i].toNat-48):Nat):Int)from by omega,show (i:Int)+1=((i+1:Nat):Int)from rfl];rw[Xv hs hd k (i+1) _ (by omega) (by omega) (by unfold DN;omega)]
    rw[apv]
   ·simp (disch:=omega) only[anG,anZ,an_];have:=adx (s.drop i) n;have h2:DN<(s.drop i).foldl (fun n (c:UInt8)=>10*n+(c.toNat-48)) n:=by unfold DN;omega
    simp[h2];omega
  ·have e:i=s.length:=by omega
   rw[e];simp (disch:=omega) only[anG,anZ,an_];simp[DN];omega
theorem aeN{s:Str}(hs:s.length≤2147483648)(hd:∀c∈s,isDigit c=true):Dg s=some (decide (DN<val s)):=by
 have:=Xv hs hd BIG 0 0 (by unfold BIG;omega) (by omega) (by omega);rw[aoV]at this;exact this
theorem acw(l:Str):∀n:Nat,n*10 ^ l.length≤l.foldl (fun n (c:UInt8)=>10*n+(c.toNat-48)) n:=by
 induction l with
 | nil=>intro n;simp
 | cons c l ih=>
  intro n;simp only[apv,an5];refine apA ?_ (ih _);rw[ape,←apN,Nat.mul_right_comm];exact aoA _ (by omega)
theorem adw{c:UInt8}{l:Str}(hc:isDigit c=true)(h0:c.toNat≠48)(hl:16≤l.length):DN<val (c::l):=by
 rw[oZ]at hc;have h1:=acw l (c.toNat-48);have h2:10 ^ 16≤10 ^ l.length:=aph (by omega) hl;have h3:10 ^ l.length≤(c.toNat-48)*10 ^ l.length:=Nat.le_mul_of_pos_left _ (by omega);have h4:val (c::l)=l.foldl (fun n (c:UInt8)=>10*n+(c.toNat-48)) (c.toNat-48):=by simp[val]
 rw[h4];have h5:DN<10 ^ 16:=by decide
 omega
theorem aax{s:Str}(hs:s.length≤16)(hd:∀c∈s,isDigit c=true):∀(k i n:Nat),s.length<k+i→i≤s.length→n<10 ^ i→
  yR s k (n:Int) (i:Int)=some ((((s.drop i).foldl (fun n (c:UInt8)=>10*n+(c.toNat-48)) n:Nat):Int),decide ((s.drop i).foldl (fun n (c:UInt8)=>10*n+(c.toNat-48)) n≤DN))
 | 0,i,n,h,h',_=>by omega
 | k+1,i,n,h,h',hn=>by
  have h16:10 ^ i≤10 ^ 16:=aph (by omega) (by omega);have hp:10 ^ 16=10000000000000000:=by decide
  rw[yR];by_cases hi:i<s.length
  ·have hdi:=hd s[i] (aol hi);have hdj:=hdi;rw[oZ]at hdj;have e:=getD_drop hi;have e0:s.getD i 0=s[i]:=by rw[aos,an6 hi,apr]
   rw[e,e0];simp (disch:=omega) only[dflt,e0,DZ,hdi,aW,bg,anN,aj,anZ,aoR,an1,Bool.true_eq_false,anW];rw[show 10*(n:Int)+(s[i].toNat:Int)-48=((10*n+(s[i].toNat-48):Nat):Int)from by omega,show (i:Int)+1=((i+1:Nat):Int)from rfl];rw[aax hs hd k (i+1) _ (by omega) (by omega) (by rw[ape];omega)];rw[apv]
  ·have e:i=s.length:=by omega
   rw[e];simp (disch:=omega) only[anG,anZ];simp[DN];omega
theorem ahf{s:Str}(hd:∀c∈s,isDigit c=true)(hne:s≠[]):zD s=if 16<s.length∨(1<s.length∧(s.getD 0 0).toNat=48)then some (0,false)else some ((val s:Int),decide (val s≤DN)):=by
 unfold zD;have hb:(s==([]:Str))=false:=by simpa using hne
 by_cases h1:16<s.length
 ·have:decide ((16:Int)<(s.length:Int))=true:=by simp;omega
  rw[anN (show 16<s.length∨(1<s.length∧(s.getD 0 0).toNat=48)from .inl h1),hb,this];rfl
 ·have h1':decide ((16:Int)<(s.length:Int))=false:=by simp;omega
  have hz:=aax (s:=s) (by omega) hd BIG 0 0 (by unfold BIG;omega) (by omega) (by simp);by_cases h2:1<s.length
  ·by_cases h3:(s.getD 0 0).toNat=48
   ·rw[anN (show 16<s.length∨(1<s.length∧(s.getD 0 0).toNat=48)from .inr ⟨h2,h3⟩),hb,h1'];simp (disch:=omega) only[dflt,bg,anN,aj,anZ,aoi,Int.reduceToNat,apL,anL,anW]
   ·rw[anG (show ¬(16<s.length∨(1<s.length∧(s.getD 0 0).toNat=48))from by omega),hb,h1'];simp (disch:=omega) only[dflt,bg,anN,anG,aj,anZ,aoi,Int.reduceToNat,apL,anL,anW];exact hz
  ·rw[anG (show ¬(16<s.length∨(1<s.length∧(s.getD 0 0).toNat=48))from by omega),hb,h1'];simp (disch:=omega) only[anG,aj,anZ,apL,anL,anW];exact hz
end Go.Ft
namespace Go.Ft
open Go
def CV(s:Str):Bool:=((s==([124,124]:Str))||((s==([38,38]:Str))||((s==([61,61]:Str))||((s==([33,61]:Str))||((s==([60,61]:Str))||((s==([62,61]:Str))||((s==([60]:Str))||((s==([62]:Str))||((s==([43]:Str))||((s==([45]:Str))||((s==([42]:Str))||((s==([47]:Str))||((s==([37]:Str))||((s==([33]:Str))||((s==([63]:Str))||((s==([58]:Str))||((s==([46]:Str))||((s==([44]:Str))||((s==([61]:Str))||((s==([40]:Str))||((s==([41]:Str))||((s==([91]:Str))||((s==([93]:Str))||((s==([123]:Str))||(s==([125]:Str))))))))))))))))))))))))))
theorem Y9{α:Type}(p q:Bool)(x y:α):(if (p||q)=true then x else y)=if p=true then x else if q=true then x else y:=by cases p<;>simp
theorem Qn(s:Str)(a:Int)(k:Nat)(x:Int):iT s a (k+1) x=if decide (x<(([2,1]:List Int).length:Int))then
   av (idx ([2,1]:List Int) x) fun n1=>
   if decide ((s.length:Int)<(bq (a+n1)))then iT s a k (bq (x+1))
   else av (sl s a (bq (a+n1))) fun s1=>if CV s1 then some ((ay.mk 4 s1 a),(bq (a+n1)),0)else iT s a k (bq (x+1))
  else some ((ay.mk 0 ([]:Str) 0),0,5):=by
 have key:∀(s1:Str) (x y:Option (ay × Int × Int)),(if CV s1=true then x else y)=_:=fun s1 x y=>by unfold CV;simp only[Y9];rfl
 rw[iT];congr 1;congr 1;funext n1;congr 1;congr 1;funext s1;exact(key s1 _ _).symm
attribute [local congr] fD
def opn:Str→Nat
 | a::b::_=>if CV [a,b]then 2 else if CV [a]then 1 else 0
 | [a]=>if CV [a]then 1 else 0
 | []=>0
theorem Ph{s:Str}{i:Nat}(h:i+1<s.length):(s.take (i+2)).drop i=[s.getD i 0,s.getD (i+1) 0]:=by
 rw[apj,getD_drop (by omega),getD_drop h];rw[show i+2-i=2 from by omega];rfl
theorem Pj{s:Str}{i:Nat}(h:i<s.length):(s.take (i+1)).drop i=[s.getD i 0]:=by
 rw[apj,getD_drop h];rw[show i+1-i=1 from by omega];rfl
theorem aj2{s:Str}(hs:s.length≤2147483648){i:Nat}(h:i<s.length):tC s (i:Int)=
  some (if opn (s.drop i)=0 then (⟨0,[],0⟩,0,5)else (⟨4,(s.drop i).take (opn (s.drop i)),i⟩,((i+opn (s.drop i):Nat):Int),0)):=by
 unfold tC;obtain⟨m,hm⟩:∃m,BIG=m+3:=⟨BIG-3,rfl⟩;rw[hm,Qn,Qn,Qn];have e0:idx ([2,1]:List Int) 0=some 2:=rfl;have e1:idx ([2,1]:List Int) 1=some 1:=rfl;have el:(([2,1]:List Int).length:Int)=2:=rfl;rw[el];by_cases h2:i+1<s.length
 ·rw[getD_drop h,getD_drop h2];simp (disch:=omega) only[e0,e1,aW,bG,anN,anG,aj,anZ,aoy,an1,Int.reduceToNat,Int.zero_add];rw[Ph h2];unfold opn;cases h3:CV [s.getD i 0,s.getD (i+1) 0]with
  | true=>simp (disch:=omega) only[h3,reduceCtorEq,anX,anW];rfl
  | false=>
   simp (disch:=omega) only[h3,anL,anW];rw[Pj h];cases h4:CV [s.getD i 0]with
   | true=>simp (disch:=omega) only[reduceCtorEq,anX,anW];rfl
   | false=>simp (disch:=omega) only[anL,anX,anW]
 ·rw[getD_drop h,aob (by omega:s.length≤i+1)];simp (disch:=omega) only[e0,e1,aW,bG,anN,anG,aj,anZ,aoy,an1,Int.reduceToNat,Int.zero_add];rw[Pj h];unfold opn;cases h4:CV [s.getD i 0]with
  | true=>simp (disch:=omega) only[h4,reduceCtorEq,anX,anW];rfl
  | false=>simp (disch:=omega) only[h4,anL,anX,anW]
theorem als(s:Str)(a:Int):∀k:Nat,gZ s a (k+20) 0=av (idx s a) fun c=>if CV [c]then some 1 else some 0:=by
 intro k;have d0:idx ([60,62,43,45,42,47,37,33,63,58,46,44,61,40,41,91,93,123,125]:Str) 0=some 60:=rfl;have d1:idx ([60,62,43,45,42,47,37,33,63,58,46,44,61,40,41,91,93,123,125]:Str) 1=some 62:=rfl;have d2:idx ([60,62,43,45,42,47,37,33,63,58,46,44,61,40,41,91,93,123,125]:Str) 2=some 43:=rfl;have d3:idx ([60,62,43,45,42,47,37,33,63,58,46,44,61,40,41,91,93,123,125]:Str) 3=some 45:=rfl;have d4:idx ([60,62,43,45,42,47,37,33,63,58,46,44,61,40,41,91,93,123,125]:Str) 4=some 42:=rfl;have d5:idx ([60,62,43,45,42,47,37,33,63,58,46,44,61,40,41,91,93,123,125]:Str) 5=some 47:=rfl;have d6:idx ([60,62,43,45,42,47,37,33,63,58,46,44,61,40,41,91,93,123,125]:Str) 6=some 37:=rfl;have d7:idx ([60,62,43,45,42,47,37,33,63,58,46,44,61,40,41,91,93,123,125]:Str) 7=some 33:=rfl;have d8:idx ([60,62,43,45,42,47,37,33,63,58,46,44,61,40,41,91,93,123,125]:Str) 8=some 63:=rfl;have d9:idx ([60,62,43,45,42,47,37,33,63,58,46,44,61,40,41,91,93,123,125]:Str) 9=some 58:=rfl;have d10:idx ([60,62,43,45,42,47,37,33,63,58,46,44,61,40,41,91,93,123,125]:Str) 10=some 46:=rfl;have d11:idx ([60,62,43,45,42,47,37,33,63,58,46,44,61,40,41,91,93,123,125]:Str) 11=some 44:=rfl;have d12:idx ([60,62,43,45,42,47,37,33,63,58,46,44,61,40,41,91,93,123,125]:Str) 12=some 61:=rfl;have d13:idx ([60,62,43,45,42,47,37,33,63,58,46,44,61,40,41,91,93,123,125]:Str) 13=some 40:=rfl;have d14:idx ([60,62,43,45,42,47,37,33,63,58,46,44,61,40,41,91,93,123,125]:Str) 14=some 41:=rfl;have d15:idx ([60,62,43,45,42,47,37,33,63,58,46,44,61,40,41,91,93,123,125]:Str) 15=some 91:=rfl
 have d16:idx ([60,62,43,45,42,47,37,33,63,58,46,44,61,40,41,91,93,123,125]:Str) 16=some 93:=rfl;have d17:idx ([60,62,43,45,42,47,37,33,63,58,46,44,61,40,41,91,93,123,125]:Str) 17=some 123:=rfl;have d18:idx ([60,62,43,45,42,47,37,33,63,58,46,44,61,40,41,91,93,123,125]:Str) 18=some 125:=rfl;cases hc:idx s a with
 | none=>rw[gZ];simp[hc]
 | some c=>
  have f:∀n:Nat,((c.toNat:Int)==((UInt8.ofNat n).toNat:Int))=(c==UInt8.ofNat n):=by
   intro n;by_cases h:c=UInt8.ofNat n
   ·subst h;simp
   ·have h':¬c.toNat=(UInt8.ofNat n).toNat:=fun h2=>h (aoB.1 h2);have h3:¬((c.toNat:Int)=((UInt8.ofNat n).toNat:Int)):=by omega
    simp only[an7.2 h,an7.2 h3]
  have g:∀i:Int,0≤i→i<19→∀m:Nat,∀d:UInt8,idx ([60,62,43,45,42,47,37,33,63,58,46,44,61,40,41,91,93,123,125]:Str) i=some d→gZ s a (m+1) i=if c==d then some 1 else gZ s a m (i+1):=by
   intro i h0 h1 m d hd;rw[gZ];simp (disch:=omega) only[hc,hd,aW,anN,aj,anZ,aoi];have:=f d.toNat;rw[UInt8.ofNat_toNat]at this;by_cases h:c=d
   ·subst h;simp
   ·have h':¬(c.toNat:Int)=(d.toNat:Int):=fun h2=>h (aoB.1 (by omega));simp[h,h']
  have z:∀m:Nat,gZ s a (m+1) 19=some 0:=by intro m;rw[gZ];simp
  simp only[aj];rw[g 0 (by omega) (by omega) (k+19) 60 d0];simp only[Int.reduceAdd];rw[g 1 (by omega) (by omega) (k+18) 62 d1];simp only[Int.reduceAdd];rw[g 2 (by omega) (by omega) (k+17) 43 d2];simp only[Int.reduceAdd];rw[g 3 (by omega) (by omega) (k+16) 45 d3];simp only[Int.reduceAdd];rw[g 4 (by omega) (by omega) (k+15) 42 d4];simp only[Int.reduceAdd];rw[g 5 (by omega) (by omega) (k+14) 47 d5];simp only[Int.reduceAdd];rw[g 6 (by omega) (by omega) (k+13) 37 d6];simp only[Int.reduceAdd];rw[g 7 (by omega) (by omega) (k+12) 33 d7];simp only[Int.reduceAdd];rw[g 8 (by omega) (by omega) (k+11) 63 d8];simp only[Int.reduceAdd];rw[g 9 (by omega) (by omega) (k+10) 58 d9];simp only[Int.reduceAdd];rw[g 10 (by omega) (by omega) (k+9) 46 d10];simp only[Int.reduceAdd];rw[g 11 (by omega) (by omega) (k+8) 44 d11];simp only[Int.reduceAdd];rw[g 12 (by omega) (by omega) (k+7) 61 d12];simp only[Int.reduceAdd];rw[g 13 (by omega) (by omega) (k+6) 40 d13];simp only[Int.reduceAdd];rw[g 14 (by omega) (by omega) (k+5) 41 d14];simp only[Int.reduceAdd];rw[g 15 (by omega) (by omega) (k+4) 91 d15];simp only[Int.reduceAdd];rw[g 16 (by omega) (by omega) (k+3) 93 d16];simp only[Int.reduceAdd];rw[g 17 (by omega) (by omega) (k+2) 123 d17];simp only[Int.reduceAdd];rw[g 18 (by omega) (by omega) (k+1) 125 d18];simp only[Int.reduceAdd];rw[z]
  have key:CV [c]=((c==60)||((c==62)||((c==43)||((c==45)||((c==42)||((c==47)||((c==37)||((c==33)||((c==63)||((c==58)||((c==46)||((c==44)||((c==61)||((c==40)||((c==41)||((c==91)||((c==93)||((c==123)||(c==125))))))))))))))))))):=by
   simp[CV,List.cons_beq_cons]
  rw[key];simp only[Y9]
theorem anr(s:Str)(a:Int)(k:Nat)(b:Str)(hb:sl s a (bq (a+2))=some b)(hl:b.length=2)(h0:bq (a+2)≤s.length):
  gJ s a (k+7) 0=if CV b then some 2 else gZ s a BIG 0:=by
 have g:∀i:Int,0≤i→i<12→∀m:Nat,∀d:Str,sl ([124,124,38,38,61,61,33,61,60,61,62,61]:Str) i (i+2)=some d→gJ s a (m+1) i=if b==d then some 2 else gJ s a m (i+2):=by
  intro i h1 h2 m d hd;rw[gJ];simp only[h0,ao8,anX,hb,aj];rw[aW (by omega) (by omega),hd];have h3:decide (i<12)=true:=by simpa using h2
  simp only[h3,anX,aj]
 have z:∀m:Nat,gJ s a (m+1) 12=gZ s a BIG 0:=by intro m;rw[gJ];simp
 rw[g 0 (by omega) (by omega) (k+6) [124,124] rfl,g _ (by omega) (by omega) (k+5) [38,38] rfl,g _ (by omega) (by omega) (k+4) [61,61] rfl,g _ (by omega) (by omega) (k+3) [33,61] rfl,g _ (by omega) (by omega) (k+2) [60,61] rfl,g _ (by omega) (by omega) (k+1) [62,61] rfl];rw[show (0:Int)+2+2+2+2+2+2=12 from rfl,z]
 have key:CV b=((b==[124,124])||((b==[38,38])||((b==[61,61])||((b==[33,61])||((b==[60,61])||(b==[62,61])))))):=by
  match b,hl with
  | [x,y],_=>simp[CV]
 rw[key];simp only[Y9]
theorem ajD{s:Str}(hs:s.length≤2147483648){i:Nat}(h:i<s.length):EL s (i:Int)=some ((opn (s.drop i):Nat):Int):=by
 unfold EL;obtain⟨m,hm⟩:∃m,BIG=m+20:=⟨BIG-20,rfl⟩;have hc:idx s (i:Int)=some (s.getD i 0):=by simp (disch:=omega) only[dflt,bg,an1]
 by_cases h2:i+1<s.length
 ·have hb:sl s (i:Int) (bq ((i:Int)+2))=some [s.getD i 0,s.getD (i+1) 0]:=by
   simp (disch:=omega) only[aW,bG,aoy,an1,Int.reduceToNat];rw[Ph h2]
  rw[hm,show m+20=(m+13)+7 from rfl,anr s _ _ _ hb rfl (by rw[aW (by omega) (by omega)];omega),hm,als,hc];rw[getD_drop h,getD_drop h2];unfold opn;cases h3:CV [s.getD i 0,s.getD (i+1) 0]with
  | true=>simp (disch:=omega) only[h3,anX];rfl
  | false=>
   simp (disch:=omega) only[h3,aj,anL,anW];cases h4:CV [s.getD i 0]with
   | true=>simp (disch:=omega) only[anX];rfl
   | false=>simp (disch:=omega) only[anL,anW];rfl
 ·have g:∀m:Nat,∀j:Int,0≤j→j<12→gJ s (i:Int) (m+1) j=gJ s (i:Int) m (j+2):=by
   intro m j h0 h1;rw[gJ];simp (disch:=omega) only[aW,anN,anG,aj,anZ,anL,anW]
  have z:∀m:Nat,gJ s (i:Int) (m+1) 12=gZ s (i:Int) BIG 0:=by intro m;rw[gJ];simp
  rw[hm,show m+20=(m+13+1+6)from rfl,g _ _ (by omega) (by omega),g _ _ (by omega) (by omega),g _ _ (by omega) (by omega),g _ _ (by omega) (by omega),g _ _ (by omega) (by omega),g _ _ (by omega) (by omega)];rw[show (0:Int)+2+2+2+2+2+2=12 from rfl,z,hm,als,hc];rw[getD_drop h,aob (by omega:s.length≤i+1)];unfold opn;cases h4:CV [s.getD i 0]with
  | true=>simp (disch:=omega) only[h4,aj,anX];rfl
  | false=>simp (disch:=omega) only[h4,aj,anL,anW];rfl
theorem UJ(l:Str):span isDigit l<span isWord l↔∃c,l[span isDigit l]?=some c∧nW c=true:=by
 induction l with
 | nil=>simp
 | cons c l ih=>
  rw[kH,kH];cases h:isDigit c with
  | false=>cases h2:nW c<;>simp[isWord,h,h2]
  | true=>simp[isWord,h,ih]
theorem L6(p:UInt8→Bool)(l:Str):∀c∈l.take (span p l),p c=true:=by
 induction l with
 | nil=>simp
 | cons c l ih=>
  rw[kH];split
  ·rename_i h;intro x hx;simp only[List.take_succ_cons,aoJ]at hx;rcases hx with rfl|hx
   ·exact h
   ·exact ih x hx
  ·simp
def nK:Str→Int × Str × Nat × Int
 | []=>(0,[],0,5)
 | c::r=>
  if isDigit c then
   let n:=span isDigit (c::r)
   if (1<n∧c.toNat=48)∨n<span isWord (c::r)then (0,[],0,5)
   else if DN<val ((c::r).take n)then (0,[],0,2)else (2,(c::r).take n,n,0)
  else if c.toNat=34 then
   let x:=txt 0 [] 1 r
   if x.2.2=0 then (3,x.1,x.2.1,0)else (0,[],0,x.2.2)
  else if nW c then
   let n:=span isWord (c::r)
   if 64<n then (0,[],0,3)else (1,(c::r).take n,n,0)
  else
   let n:=opn (c::r)
   if n=0 then (0,[],0,5)else (4,(c::r).take n,n,0)
def ltk(a:Nat)(x:Int × Str × Nat × Int):ay × Int × Int:=if x.2.2.2=0 then (⟨x.1,x.2.1,a⟩,((a+x.2.2.1:Nat):Int),0)else (⟨0,[],0⟩,0,x.2.2.2)
def rtk(x:Int × Str × Nat × Int):ay × Int × Int:=if x.2.2.2=0 then (⟨x.1,x.2.1,0⟩,(x.2.2.1:Int),0)else (⟨0,[],0⟩,0,x.2.2.2)
end Go.Ft
namespace Go.Ft
open Go
attribute [local congr] fD
theorem qw(s:Str)(i:Nat):(s.drop i).length=s.length-i:=ao5
theorem wO(s:Str)(i n:Nat):(s.take (i+n)).drop i=(s.drop i).take n:=by
 rw[apj,apB]
theorem T_{s:Str}{i n:Nat}(c:UInt8):(s.drop i)[n]?=some c↔s[i+n]?=some c:=by rw[apw]
theorem aeH{s:Str}(hs:s.length≤2147483648){i:Nat}(h:i<s.length):Ci s (i:Int)=
  some (ltk i (if 64<span isWord (s.drop i)then (0,[],0,3)else (1,(s.drop i).take (span isWord (s.drop i)),span isWord (s.drop i),0))):=by
 have hle:=AL isWord (s.drop i);rw[qw]at hle;unfold Ci;rw[O7 aeB (by omega) (by omega)];generalize span isWord (s.drop i)=n at hle⊢;simp (disch:=omega) only[aW,bG,aj,anZ,an1];by_cases h1:64<n
 ·simp (disch:=omega) only[anN];rfl
 ·simp (disch:=omega) only[anG];rw[wO];rfl
theorem Zh{s:Str}(hs:s.length≤2147483648){i:Nat}(h:i<s.length)(hd:isDigit (s.getD i 0)=true):xS s (i:Int)=some (ltk i (nK (s.drop i))):=by
 have hle:=AL isDigit (s.drop i);rw[qw]at hle;have hlt:=UJ (s.drop i);have htk:=L6 isDigit (s.drop i);have hpos:0<span isDigit (s.drop i):=by rw[getD_drop h,kH,hd];simp
 have hh:(s.drop i)=s.getD i 0::s.drop (i+1):=getD_drop h
 have ht:nK (s.drop i)=if (1<span isDigit (s.drop i)∧(s.getD i 0).toNat=48)∨span isDigit (s.drop i)<span isWord (s.drop i)then (0,[],0,5)
   else if DN<val ((s.drop i).take (span isDigit (s.drop i)))then (0,[],0,2)else (2,(s.drop i).take (span isDigit (s.drop i)),span isDigit (s.drop i),0):=by
  rw[hh];simp only[nK,hd,anX]
 rw[ht];unfold xS;rw[O7 digit_eq (by omega) (by omega)];generalize span isDigit (s.drop i)=n at hle hlt htk hpos⊢;generalize span isWord (s.drop i)=m at hlt⊢
 have e1:sl s (i:Int) ((i+n:Nat):Int)=some ((s.drop i).take n):=by
  simp (disch:=omega) only[bG,an1];rw[wO]
 have e2:((s.drop i).take n).length=n:=by simp;omega
 have e3:((s.drop i).take n).getD 0 0=s.getD i 0:=by
  obtain⟨k,rfl⟩:∃k,n=k+1:=⟨n-1,by omega⟩;rw[hh];rfl
 rw[aj,e1,aj,e2];by_cases hw:n<m
 ·obtain⟨c,hc,hl⟩:=hlt.1 hw;rw[T_]at hc;have hlt2:i+n<s.length:=(aoT.1 hc).1;have e4:s.getD (i+n) 0=c:=by rw[aos,hc];rfl
  rw[anN (Or.inr hw)];by_cases h1:1<n
  ·by_cases h2:(s.getD i 0).toNat=48
   ·simp (disch:=omega) only[e3,dflt,bg,anN,aj,anZ,aoi,an1,Int.reduceToNat,anX];rfl
   ·simp (disch:=omega) only[e3,dflt,letter_eq,e4,hl,bg,anN,anG,aj,anZ,aoi,an1,Int.reduceToNat,anX];rfl
  ·simp (disch:=omega) only[dflt,letter_eq,e4,hl,bg,anN,anG,aj,anZ,an1,anL,anX,anW];rfl
 ·by_cases hz:1<n∧(s.getD i 0).toNat=48
  ·rw[anN (Or.inl hz)];simp (disch:=omega) only[e3,dflt,bg,anN,aj,anZ,aoi,an1,Int.reduceToNat,anX];rfl
  ·rw[anG (show ¬((1<n∧(s.getD i 0).toNat=48)∨n<m)from by omega)]
   have hb2:(if decide (((i+n:Nat):Int)<(s.length:Int))then av (idx s ((i+n:Nat):Int)) fun x2=>qL x2 else some false)=some false:=by
    by_cases h4:i+n<s.length
    ·simp (disch:=omega) only[letter_eq,dflt,bg,anN,aj,anZ,an1];cases hl:nW (s.getD (i+n) 0)with
     | false=>rfl
     | true=>
      exact absurd (hlt.2 ⟨_,by rw[T_,an6 h4],by rw[aos,an6 h4]at hl;exact hl⟩) hw
    ·simp (disch:=omega) only[anG,anZ]
   have hb1:(if decide (1<(n:Int))then av (idx ((s.drop i).take n) 0) fun x1=>some ((x1.toNat:Int)==48)else some false)=some false:=by
    by_cases h1:1<n
    ·simp (disch:=omega) only[e3,dflt,bg,anN,aj,anZ,Int.reduceToNat];simp only[aoq,an7];omega
    ·simp (disch:=omega) only[anG,anZ]
   rw[hb1,aj,anG (by simp),hb2];simp (disch:=omega) only[aeN (s:=(s.drop i).take n) (by rw[e2];omega) htk,aj,anZ,anL,anW];by_cases h6:DN<val ((s.drop i).take n)
   ·simp (disch:=omega) only[h6,anX];rfl
   ·simp (disch:=omega) only[h6,anW];rfl
theorem TQ{s:Str}(hs:s.length≤2147483648){i:Nat}(h:i<s.length):z8 s (i:Int)=some (ltk i (nK (s.drop i))):=by
 have hh:(s.drop i)=s.getD i 0::s.drop (i+1):=getD_drop h;unfold z8;simp (disch:=omega) only[dflt,letter_eq,digit_eq,bg,aj,aoi,an1];cases hl:nW (s.getD i 0)with
 | true=>
  have hd:isDigit (s.getD i 0)=false:=by
   rw[Bn]at hl;cases hd:isDigit (s.getD i 0)with
   | false=>rfl
   | true=>rw[oZ]at hd;omega
  have Vl:¬(s.getD i 0).toNat=34:=by rw[Bn]at hl;omega
  rw[anN rfl,aeH hs h,hh];simp only[nK,hd,hl,Vl,anW,anX,anL]
 | false=>
  rw[anG (by simp)];cases hd:isDigit (s.getD i 0)with
  | true=>rw[anN rfl,Zh hs h hd]
  | false=>
   rw[anG (by simp)];by_cases Vl:(s.getD i 0).toNat=34
   ·simp (disch:=omega) only[aeD hs h,anN];rw[hh];simp only[nK,hd,Vl,anW,anX,anL,Zg,ltk];split<;>simp_all
   ·simp (disch:=omega) only[aj2 hs h,anG];rw[hh];simp only[nK,hd,hl,Vl,anW,anL,ltk];generalize opn (s.getD i 0::s.drop (i+1))=n;by_cases ho:n=0
    ·simp (disch:=omega) only[ho,anG,anX]
    ·simp (disch:=omega) only[ho,anX,anW]
theorem Y2{s:Str}(hs:s.length≤2147483648){i:Nat}(h:i<s.length)(hd:isDigit (s.getD i 0)=true):JF s (i:Int)=some (rtk (nK (s.drop i))):=by
 have hle:=AL isDigit (s.drop i);rw[qw]at hle;have htk:=L6 isDigit (s.drop i);have hpos:0<span isDigit (s.drop i):=by rw[getD_drop h,kH,hd];simp
 have hh:(s.drop i)=s.getD i 0::s.drop (i+1):=getD_drop h
 have ht:nK (s.drop i)=if (1<span isDigit (s.drop i)∧(s.getD i 0).toNat=48)∨span isDigit (s.drop i)<span isWord (s.drop i)then (0,[],0,5)
   else if DN<val ((s.drop i).take (span isDigit (s.drop i)))then (0,[],0,2)else (2,(s.drop i).take (span isDigit (s.drop i)),span isDigit (s.drop i),0):=by
  rw[hh];simp only[nK,hd,anX]
 rw[ht]
 have hsl:∀n,i+n≤s.length→sl s (i:Int) (bq ((i:Int)+(n:Int)))=some ((s.drop i).take n):=by
  intro n hn;simp (disch:=omega) only[aW,bG,aoy,an1];rw[wO]
 unfold JF;rw[acF (by omega) (by omega),aad (by omega) (by omega)];have hsn:=hsl (span isDigit (s.drop i)) (by omega);generalize span isDigit (s.drop i)=n at hle htk hpos hsn⊢;generalize span isWord (s.drop i)=m at⊢;have e2:((s.drop i).take n).length=n:=by simp;omega
 have e3:((s.drop i).take n).getD 0 0=s.getD i 0:=by
  obtain⟨k,rfl⟩:∃k,n=k+1:=⟨n-1,by omega⟩;rw[hh];rfl
 have hne:(s.drop i).take n≠[]:=fun h0=>by rw[h0]at e2;simp at e2;omega
 rw[aj,aj];by_cases hw:n<m
 ·rw[anN (show (1<n∧(s.getD i 0).toNat=48)∨n<m from .inr hw)];simp (disch:=omega) only[anN,aj,anZ,anX];rfl
 ·by_cases hz:1<n∧(s.getD i 0).toNat=48
  ·rw[anN (show (1<n∧(s.getD i 0).toNat=48)∨n<m from .inl hz)];simp (disch:=omega) only[dflt,aW,bg,bG,anN,anG,aj,anZ,aoi,aoR,aoy,an1];rfl
  ·rw[anG (show ¬((1<n∧(s.getD i 0).toNat=48)∨n<m)from by omega)]
   have hb:(if decide ((n:Int)<(m:Int))then some true else if decide (1<(n:Int))then av (idx s (i:Int)) fun x2=>some ((x2.toNat:Int)==48)else some false)=some false:=by
    by_cases h1:1<n
    ·simp (disch:=omega) only[dflt,bg,anN,anG,aj,anZ,an1];simp only[aoq,an7];omega
    ·simp (disch:=omega) only[anG,anZ]
   rw[hb,aj,hsn];rw[anG (by simp),aj,ahf htk hne,e2,e3];by_cases h16:16<n
   ·have hv:DN<val ((s.drop i).take n):=by
     obtain⟨k,rfl⟩:∃k,n=k+1:=⟨n-1,by omega⟩;rw[hh,List.take_succ_cons];refine adw hd (by omega) ?_;simp[List.length_take];omega
    rw[anN (show 16<n∨(1<n∧(s.getD i 0).toNat=48)from .inl h16),anN hv];simp (disch:=omega) only[aj,aB,aoR,anX];rfl
   ·rw[anG (show ¬(16<n∨(1<n∧(s.getD i 0).toNat=48))from by omega)];by_cases h6:DN<val ((s.drop i).take n)
    ·simp (disch:=omega) only[h6,anN,aj,aB,aoR,aoz,anX];rfl
    ·have h7:val ((s.drop i).take n)≤DN:=by omega
     simp (disch:=omega) only[h6,h7,aj,aB,aot,anL,anW,ao8];rfl
theorem LZ{c:UInt8}{l:Str}:span isWord (c::l)=0↔isWord c=false:=by
 rw[kH];cases isWord c<;>simp
end Go.Ft
