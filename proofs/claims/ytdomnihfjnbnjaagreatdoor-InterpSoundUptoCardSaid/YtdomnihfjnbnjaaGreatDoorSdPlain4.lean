/- Proved here: plain facts on the functional texts. -/
import Derived.Test.YtdomnihfjnbnjaaGreatDoorSdPlain3
set_option linter.unusedVariables false
set_option linter.unusedSimpArgs false
set_option linter.defProp false
set_option linter.unusedSectionVars false
set_option maxHeartbeats 2000000
namespace Go.Ft
open Go
attribute [local congr] eO
theorem aiH(s:Str){vars:List aF}(hE:(vars.map aF.bulk).sum≤1048576)(hv:Ct vars=0):(au (tL s (vars.map aa2)) fun x4=>if x4 !=0 then yY else fD (uw s vars) fun x6 e3=>if ((((e3 !=10)&&(e3 !=5))&&(e3 !=4))&&(e3 !=2))&&(e3 !=7)then yY else some false)=some true:=by
 obtain⟨s1,s2⟩:=Es hE;obtain⟨w1,w2,w3⟩:=OJ hv;have hD:DC vars (vars.map aa2):=aex fun x hx=>⟨(w1 x hx).1,by have:=(s2 x hx).2;omega⟩
 have hn:∀d∈vars.map aa2,d.name.length≤1048576:=fun d hd=>by
  obtain⟨x,hx,rfl⟩:=atn.1 hd;exact(s2 x hx).1
 have hl:(vars.map aa2).length≤1048576:=by rw[List.length_map];omega
 obtain⟨v1,_,_⟩:=ai4 (env:=vars.map aa2) (by omega) (fun d hdm=>by have:=hn d hdm;omega);obtain⟨e1,_⟩:=YR (env:=vars) (by omega) (fun d hd=>by have:=s2 d hd;omega);obtain⟨l,a,c,h1,h2,h3,h4,_⟩:=parts_eq s;unfold tL;rw[h1,aD,v1];by_cases hc:c=0
 ·subst hc;simp only[Od,arG,arN,aj];by_cases hw:aaW (vars.map aa2)=0
  ·rw[arF (by simp[hw])];have hB:=gX;obtain⟨o,o1,o2⟩:=afS hl hn h3 h4 (l.length+1) 0 BIG (by omega) (by omega) (atH _);unfold pR;rw[show ((0:Nat):Int)=0 from rfl]at o1;rw[o1,aj,aj];by_cases h0:o.getD 0=0
   ·rw[arF (by simp[h0])];obtain⟨t,c,t1,t2⟩:=afR hE hv hD h3 h4 (o2 h0) (l.length+1) 0 BIG [] (by omega) (by omega) (atH _) (by simp);rw[show ((0:Nat):Int)=0 from rfl]at t1;unfold uw;rw[h1,aD,e1,hv];simp only[Od,arG,arN,aj];rw[t1,aC,arK]
    ·exact Ls
    ·simp only[arV,asL,atD];rcases t2 with rfl|t2
     ·decide
     ·unfold qm at t2;omega
   ·rw[arK (by simpa using h0)];exact Ls
  ·rw[arK (by simpa using hw),aj,arK (by simpa using hw)];exact Ls
 ·rw[arK (by simpa using hc),aj,arK (by simpa using hc)];exact Ls
theorem afN(s:Str){vars:List aF}(hE:(vars.map aF.bulk).sum≤1048576)(hv:Ct vars=0):∀(n i k:Nat),vars.length+1≤n+i→n<k→i≤vars.length→mR s vars k ((vars.take i).map aa2) (i:Int)=some true:=by
 obtain⟨s1,s2⟩:=Es hE;obtain⟨w1,w2,w3⟩:=OJ hv;intro n
 induction n with
 | zero=>intro i k h1 h2 h3;omega
 | succ n ih=>
  intro i k h1 h2 h3;obtain⟨k,rfl⟩:∃m,k=m+1:=⟨k-1,by omega⟩;have hL:wX=4294967296:=rfl;rw[mR];by_cases hi:i<vars.length
  ·have hm:=asv hi;obtain⟨o1,o2,o3,o4⟩:=aeT (v:=vars[i].value) (by have:=(s2 _ hm).2;omega) ((KU _).2 (w1 _ hm).1);rw[arK (by simpa using hi),mF hi,aj,aj,o2,aj,aU (by simp;omega),aj,mD (by omega)];have:=ih (i+1) k (by omega) (by omega) (by omega);rw[List.take_succ_eq_append_getElem hi,atF]at this;exact this
  ·rw[arF (by simpa using hi),List.take_of_length_le (by omega)];exact aiH s hE hv
theorem Rv(s1:Str)(gZ:List aF)(h:(s1.length+1)+((List.map (fun z:aF=>(aF.bulk z)) gZ).sum+1)≤1048576):ug s1 gZ=some true:=by
 have hE:(gZ.map aF.bulk).sum≤1048576:=by
  have h':(List.map (fun z:aF=>(aF.bulk z)) gZ).sum≤1048576:=by omega
  exact h'
 obtain⟨s1',s2⟩:=Es hE;obtain⟨_,v2⟩:=YR (env:=gZ) (by omega) (fun d hd=>by have:=s2 d hd;omega);unfold ug;rw[v2];split
 ·rw[aj,arK rfl];exact Ls
 ·rw[aj,aj];by_cases hv:Ct gZ=0
  ·rw[arF (by simp[hv])];have:=afN s1 hE hv (gZ.length+1) 0 BIG (by omega) (by have:=gX;omega) (atH _);simpa using this
  ·rw[arK (by simpa using hv)];exact Ls
end Go.Ft
