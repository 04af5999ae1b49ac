/- Proved here: plain facts on the functional texts. -/
import Derived.Test.YtdomnihfjnbnjaaGreatDoorSdPlain2
set_option linter.unusedVariables false
set_option linter.unusedSimpArgs false
set_option linter.defProp false
set_option linter.unusedSectionVars false
set_option maxHeartbeats 2000000
namespace Go.Ft
open Go
attribute [local congr] eO
theorem adR{s:Str}(hs:s.length≤16)(hd:∀c∈s,isDigit c=true):∀(k i n:Nat),s.length<k+i→i≤s.length→n<10 ^ i→
  AQ s k (n:Int) (i:Int)=some ((((s.drop i).foldl (fun n (c:UInt8)=>10*n+(c.toNat-48)) n:Nat):Int),decide ((s.drop i).foldl (fun n (c:UInt8)=>10*n+(c.toNat-48)) n≤Gp))
 | 0,i,n,h,h',_=>by omega
 | k+1,i,n,h,h',hn=>by
  have h16:10 ^ i≤10 ^ 16:=aty (by omega) (by omega);have hp:10 ^ 16=10000000000000000:=by decide
  rw[AQ];by_cases hi:i<s.length
  ·have hdi:=hd s[i] (asv hi);have hdj:=hdi;rw[qK]at hdj;have e:=getD_drop hi;have e0:s.getD i 0=s[i]:=by rw[asD,asb hi,atC]
   rw[e,e0];simp (disch:=omega) only[dflt,e0,Gw,hdi,aX,bn,arK,aj,arP,as3,ar7,Bool.true_eq_false,arN];rw[show 10*(n:Int)+(s[i].toNat:Int)-48=((10*n+(s[i].toNat-48):Nat):Int)from by omega,show (i:Int)+1=((i+1:Nat):Int)from rfl];rw[adR hs hd k (i+1) _ (by omega) (by omega) (by rw[atx];omega)];rw[atP]
  ·have e:i=s.length:=by omega
   rw[e];simp (disch:=omega) only[arF,arP];simp[Gp];omega
theorem alg{s:Str}(hd:∀c∈s,isDigit c=true)(hne:s≠[]):Bz s=if 16<s.length∨(1<s.length∧(s.getD 0 0).toNat=48)then some (0,false)else some ((val s:Int),decide (val s≤Gp)):=by
 unfold Bz;have hb:(s==([]:Str))=false:=by simpa using hne
 by_cases h1:16<s.length
 ·have:decide ((16:Int)<(s.length:Int))=true:=by simp;omega
  rw[arK (show 16<s.length∨(1<s.length∧(s.getD 0 0).toNat=48)from .inl h1),hb,this];rfl
 ·have h1':decide ((16:Int)<(s.length:Int))=false:=by simp;omega
  have hz:=adR (s:=s) (by omega) hd BIG 0 0 (by unfold BIG;omega) (by omega) (by simp);by_cases h2:1<s.length
  ·by_cases h3:(s.getD 0 0).toNat=48
   ·rw[arK (show 16<s.length∨(1<s.length∧(s.getD 0 0).toNat=48)from .inr ⟨h2,h3⟩),hb,h1'];simp (disch:=omega) only[dflt,bn,arK,aj,arP,ar4,Int.reduceToNat,atM,arG,arN]
   ·rw[arF (show ¬(16<s.length∨(1<s.length∧(s.getD 0 0).toNat=48))from by omega),hb,h1'];simp (disch:=omega) only[dflt,bn,arK,arF,aj,arP,ar4,Int.reduceToNat,atM,arG,arN];exact hz
  ·rw[arF (show ¬(16<s.length∨(1<s.length∧(s.getD 0 0).toNat=48))from by omega),hb,h1'];simp (disch:=omega) only[arF,aj,arP,atM,arG,arN];exact hz
end Go.Ft
namespace Go.Ft
open Go
def Fu(s:Str):Bool:=((s==([124,124]:Str))||((s==([38,38]:Str))||((s==([61,61]:Str))||((s==([33,61]:Str))||((s==([60,61]:Str))||((s==([62,61]:Str))||((s==([60]:Str))||((s==([62]:Str))||((s==([43]:Str))||((s==([45]:Str))||((s==([42]:Str))||((s==([47]:Str))||((s==([37]:Str))||((s==([33]:Str))||((s==([63]:Str))||((s==([58]:Str))||((s==([46]:Str))||((s==([44]:Str))||((s==([61]:Str))||((s==([40]:Str))||((s==([41]:Str))||((s==([91]:Str))||((s==([93]:Str))||((s==([123]:Str))||(s==([125]:Str))))))))))))))))))))))))))
theorem acg{α:Type}(p q:Bool)(x y:α):(if (p||q)=true then x else y)=if p=true then x else if q=true then x else y:=by cases p<;>simp
theorem T9(s:Str)(a:Int)(k:Nat)(x:Int):jI s a (k+1) x=if decide (x<(([2,1]:List Int).length:Int))then
   au (idx ([2,1]:List Int) x) fun n1=>
   if decide ((s.length:Int)<(bF (a+n1)))then jI s a k (bF (x+1))
   else au (sl s a (bF (a+n1))) fun s1=>if Fu s1 then some ((aA.mk 4 s1 a),(bF (a+n1)),0)else jI s a k (bF (x+1))
  else some ((aA.mk 0 ([]:Str) 0),0,5):=by
 have key:∀(s1:Str) (x y:Option (aA × Int × Int)),(if Fu s1=true then x else y)=_:=fun s1 x y=>by unfold Fu;simp only[acg];rfl
 rw[jI];congr 1;congr 1;funext n1;congr 1;congr 1;funext s1;exact(key s1 _ _).symm
attribute [local congr] eO
def opn:Str→Nat
 | a::b::_=>if Fu [a,b]then 2 else if Fu [a]then 1 else 0
 | [a]=>if Fu [a]then 1 else 0
 | []=>0
theorem SH{s:Str}{i:Nat}(h:i+1<s.length):(s.take (i+2)).drop i=[s.getD i 0,s.getD (i+1) 0]:=by
 rw[atz,getD_drop (by omega),getD_drop h];rw[show i+2-i=2 from by omega];rfl
theorem SI{s:Str}{i:Nat}(h:i<s.length):(s.take (i+1)).drop i=[s.getD i 0]:=by
 rw[atz,getD_drop h];rw[show i+1-i=1 from by omega];rfl
theorem aoi{s:Str}(hs:s.length≤2147483648){i:Nat}(h:i<s.length):vC s (i:Int)=
  some (if opn (s.drop i)=0 then (⟨0,[],0⟩,0,5)else (⟨4,(s.drop i).take (opn (s.drop i)),i⟩,((i+opn (s.drop i):Nat):Int),0)):=by
 unfold vC;obtain⟨m,hm⟩:∃m,BIG=m+3:=⟨BIG-3,rfl⟩;rw[hm,T9,T9,T9];have e0:idx ([2,1]:List Int) 0=some 2:=rfl;have e1:idx ([2,1]:List Int) 1=some 1:=rfl;have el:(([2,1]:List Int).length:Int)=2:=rfl;rw[el];by_cases h2:i+1<s.length
 ·rw[getD_drop h,getD_drop h2];simp (disch:=omega) only[e0,e1,aX,bI,arK,arF,aj,arP,asE,ar7,Int.reduceToNat,Int.zero_add];rw[SH h2];unfold opn;cases h3:Fu [s.getD i 0,s.getD (i+1) 0]with
  | true=>simp (disch:=omega) only[h3,reduceCtorEq,arO,arN];rfl
  | false=>
   simp (disch:=omega) only[h3,arG,arN];rw[SI h];cases h4:Fu [s.getD i 0]with
   | true=>simp (disch:=omega) only[reduceCtorEq,arO,arN];rfl
   | false=>simp (disch:=omega) only[arG,arO,arN]
 ·rw[getD_drop h,asw (by omega:s.length≤i+1)];simp (disch:=omega) only[e0,e1,aX,bI,arK,arF,aj,arP,asE,ar7,Int.reduceToNat,Int.zero_add];rw[SI h];unfold opn;cases h4:Fu [s.getD i 0]with
  | true=>simp (disch:=omega) only[h4,reduceCtorEq,arO,arN];rfl
  | false=>simp (disch:=omega) only[h4,arG,arO,arN]
theorem apI(s:Str)(a:Int):∀k:Nat,iJ s a (k+20) 0=au (idx s a) fun c=>if Fu [c]then some 1 else some 0:=by
 intro k;have d0:idx ([60,62,43,45,42,47,37,33,63,58,46,44,61,40,41,91,93,123,125]:Str) 0=some 60:=rfl;have d1:idx ([60,62,43,45,42,47,37,33,63,58,46,44,61,40,41,91,93,123,125]:Str) 1=some 62:=rfl;have d2:idx ([60,62,43,45,42,47,37,33,63,58,46,44,61,40,41,91,93,123,125]:Str) 2=some 43:=rfl;have d3:idx ([60,62,43,45,42,47,37,33,63,58,46,44,61,40,41,91,93,123,125]:Str) 3=some 45:=rfl;have d4:idx ([60,62,43,45,42,47,37,33,63,58,46,44,61,40,41,91,93,123,125]:Str) 4=some 42:=rfl;have d5:idx ([60,62,43,45,42,47,37,33,63,58,46,44,61,40,41,91,93,123,125]:Str) 5=some 47:=rfl;have d6:idx ([60,62,43,45,42,47,37,33,63,58,46,44,61,40,41,91,93,123,125]:Str) 6=some 37:=rfl;have d7:idx ([60,62,43,45,42,47,37,33,63,58,46,44,61,40,41,91,93,123,125]:Str) 7=some 33:=rfl;have d8:idx ([60,62,43,45,42,47,37,33,63,58,46,44,61,40,41,91,93,123,125]:Str) 8=some 63:=rfl;have d9:idx ([60,62,43,45,42,47,37,33,63,58,46,44,61,40,41,91,93,123,125]:Str) 9=some 58:=rfl;have d10:idx ([60,62,43,45,42,47,37,33,63,58,46,44,61,40,41,91,93,123,125]:Str) 10=some 46:=rfl;have d11:idx ([60,62,43,45,42,47,37,33,63,58,46,44,61,40,41,91,93,123,125]:Str) 11=some 44:=rfl;have d12:idx ([60,62,43,45,42,47,37,33,63,58,46,44,61,40,41,91,93,123,125]:Str) 12=some 61:=rfl;have d13:idx ([60,62,43,45,42,47,37,33,63,58,46,44,61,40,41,91,93,123,125]:Str) 13=some 40:=rfl;have d14:idx ([60,62,43,45,42,47,37,33,63,58,46,44,61,40,41,91,93,123,125]:Str) 14=some 41:=rfl;have d15:idx ([60,62,43,45,42,47,37,33,63,58,46,44,61,40,41,91,93,123,125]:Str) 15=some 91:=rfl
 have d16:idx ([60,62,43,45,42,47,37,33,63,58,46,44,61,40,41,91,93,123,125]:Str) 16=some 93:=rfl;have d17:idx ([60,62,43,45,42,47,37,33,63,58,46,44,61,40,41,91,93,123,125]:Str) 17=some 123:=rfl;have d18:idx ([60,62,43,45,42,47,37,33,63,58,46,44,61,40,41,91,93,123,125]:Str) 18=some 125:=rfl;cases hc:idx s a with
 | none=>rw[iJ];simp[hc]
 | some c=>
  have f:∀n:Nat,((c.toNat:Int)==((UInt8.ofNat n).toNat:Int))=(c==UInt8.ofNat n):=by
   intro n;by_cases h:c=UInt8.ofNat n
   ·subst h;simp
   ·have h':¬c.toNat=(UInt8.ofNat n).toNat:=fun h2=>h (as0.1 h2);have h3:¬((c.toNat:Int)=((UInt8.ofNat n).toNat:Int)):=by omega
    simp only[asr.2 h,asr.2 h3]
  have g:∀i:Int,0≤i→i<19→∀m:Nat,∀d:UInt8,idx ([60,62,43,45,42,47,37,33,63,58,46,44,61,40,41,91,93,123,125]:Str) i=some d→iJ s a (m+1) i=if c==d then some 1 else iJ s a m (i+1):=by
   intro i h0 h1 m d hd;rw[iJ];simp (disch:=omega) only[hc,hd,aX,arK,aj,arP,ar4];have:=f d.toNat;rw[UInt8.ofNat_toNat]at this;by_cases h:c=d
   ·subst h;simp
   ·have h':¬(c.toNat:Int)=(d.toNat:Int):=fun h2=>h (as0.1 (by omega));simp[h,h']
  have z:∀m:Nat,iJ s a (m+1) 19=some 0:=by intro m;rw[iJ];simp
  simp only[aj];rw[g 0 (by omega) (by omega) (k+19) 60 d0];simp only[Int.reduceAdd];rw[g 1 (by omega) (by omega) (k+18) 62 d1];simp only[Int.reduceAdd];rw[g 2 (by omega) (by omega) (k+17) 43 d2];simp only[Int.reduceAdd];rw[g 3 (by omega) (by omega) (k+16) 45 d3];simp only[Int.reduceAdd];rw[g 4 (by omega) (by omega) (k+15) 42 d4];simp only[Int.reduceAdd];rw[g 5 (by omega) (by omega) (k+14) 47 d5];simp only[Int.reduceAdd];rw[g 6 (by omega) (by omega) (k+13) 37 d6];simp only[Int.reduceAdd];rw[g 7 (by omega) (by omega) (k+12) 33 d7];simp only[Int.reduceAdd];rw[g 8 (by omega) (by omega) (k+11) 63 d8];simp only[Int.reduceAdd];rw[g 9 (by omega) (by omega) (k+10) 58 d9];simp only[Int.reduceAdd];rw[g 10 (by omega) (by omega) (k+9) 46 d10];simp only[Int.reduceAdd];rw[g 11 (by omega) (by omega) (k+8) 44 d11];simp only[Int.reduceAdd];rw[g 12 (by omega) (by omega) (k+7) 61 d12];simp only[Int.reduceAdd];rw[g 13 (by omega) (by omega) (k+6) 40 d13];simp only[Int.reduceAdd];rw[g 14 (by omega) (by omega) (k+5) 41 d14];simp only[Int.reduceAdd];rw[g 15 (by omega) (by omega) (k+4) 91 d15];simp only[Int.reduceAdd];rw[g 16 (by omega) (by omega) (k+3) 93 d16];simp only[Int.reduceAdd];rw[g 17 (by omega) (by omega) (k+2) 123 d17];simp only[Int.reduceAdd];rw[g 18 (by omega) (by omega) (k+1) 125 d18];simp only[Int.reduceAdd];rw[z]
  have key:Fu [c]=((c==60)||((c==62)||((c==43)||((c==45)||((c==42)||((c==47)||((c==37)||((c==33)||((c==63)||((c==58)||((c==46)||((c==44)||((c==61)||((c==40)||((c==41)||((c==91)||((c==93)||((c==123)||(c==125))))))))))))))))))):=by
   simp[Fu,List.cons_beq_cons]
  rw[key];simp only[acg]
theorem arQ(s:Str)(a:Int)(k:Nat)(b:Str)(hb:sl s a (bF (a+2))=some b)(hl:b.length=2)(h0:bF (a+2)≤s.length):
  iq s a (k+7) 0=if Fu b then some 2 else iJ s a BIG 0:=by
 have g:∀i:Int,0≤i→i<12→∀m:Nat,∀d:Str,sl ([124,124,38,38,61,61,33,61,60,61,62,61]:Str) i (i+2)=some d→iq s a (m+1) i=if b==d then some 2 else iq s a m (i+2):=by
  intro i h1 h2 m d hd;rw[iq];simp only[h0,aug,arO,hb,aj];rw[aX (by omega) (by omega),hd];have h3:decide (i<12)=true:=by simpa using h2
  simp only[h3,arO,aj]
 have z:∀m:Nat,iq s a (m+1) 12=iJ s a BIG 0:=by intro m;rw[iq];simp
 rw[g 0 (by omega) (by omega) (k+6) [124,124] rfl,g _ (by omega) (by omega) (k+5) [38,38] rfl,g _ (by omega) (by omega) (k+4) [61,61] rfl,g _ (by omega) (by omega) (k+3) [33,61] rfl,g _ (by omega) (by omega) (k+2) [60,61] rfl,g _ (by omega) (by omega) (k+1) [62,61] rfl];rw[show (0:Int)+2+2+2+2+2+2=12 from rfl,z]
 have key:Fu b=((b==[124,124])||((b==[38,38])||((b==[61,61])||((b==[33,61])||((b==[60,61])||(b==[62,61])))))):=by
  match b,hl with
  | [x,y],_=>simp[Fu]
 rw[key];simp only[acg]
theorem anX{s:Str}(hs:s.length≤2147483648){i:Nat}(h:i<s.length):Ie s (i:Int)=some ((opn (s.drop i):Nat):Int):=by
 unfold Ie;obtain⟨m,hm⟩:∃m,BIG=m+20:=⟨BIG-20,rfl⟩;have hc:idx s (i:Int)=some (s.getD i 0):=by simp (disch:=omega) only[dflt,bn,ar7]
 by_cases h2:i+1<s.length
 ·have hb:sl s (i:Int) (bF ((i:Int)+2))=some [s.getD i 0,s.getD (i+1) 0]:=by
   simp (disch:=omega) only[aX,bI,asE,ar7,Int.reduceToNat];rw[SH h2]
  rw[hm,show m+20=(m+13)+7 from rfl,arQ s _ _ _ hb rfl (by rw[aX (by omega) (by omega)];omega),hm,apI,hc];rw[getD_drop h,getD_drop h2];unfold opn;cases h3:Fu [s.getD i 0,s.getD (i+1) 0]with
  | true=>simp (disch:=omega) only[h3,arO];rfl
  | false=>
   simp (disch:=omega) only[h3,aj,arG,arN];cases h4:Fu [s.getD i 0]with
   | true=>simp (disch:=omega) only[arO];rfl
   | false=>simp (disch:=omega) only[arG,arN];rfl
 ·have g:∀m:Nat,∀j:Int,0≤j→j<12→iq s (i:Int) (m+1) j=iq s (i:Int) m (j+2):=by
   intro m j h0 h1;rw[iq];simp (disch:=omega) only[aX,arK,arF,aj,arP,arG,arN]
  have z:∀m:Nat,iq s (i:Int) (m+1) 12=iJ s (i:Int) BIG 0:=by intro m;rw[iq];simp
  rw[hm,show m+20=(m+13+1+6)from rfl,g _ _ (by omega) (by omega),g _ _ (by omega) (by omega),g _ _ (by omega) (by omega),g _ _ (by omega) (by omega),g _ _ (by omega) (by omega),g _ _ (by omega) (by omega)];rw[show (0:Int)+2+2+2+2+2+2=12 from rfl,z,hm,apI,hc];rw[getD_drop h,asw (by omega:s.length≤i+1)];unfold opn;cases h4:Fu [s.getD i 0]with
  | true=>simp (disch:=omega) only[h4,aj,arO];rfl
  | false=>simp (disch:=omega) only[h4,aj,arG,arN];rfl
theorem Ya(l:Str):span isDigit l<span isWord l↔∃c,l[span isDigit l]?=some c∧pQ c=true:=by
 induction l with
 | nil=>simp
 | cons c l ih=>
  rw[lW,lW];cases h:isDigit c with
  | false=>cases h2:pQ c<;>simp[isWord,h,h2]
  | true=>simp[isWord,h,ih]
theorem Pm(p:UInt8→Bool)(l:Str):∀c∈l.take (span p l),p c=true:=by
 induction l with
 | nil=>simp
 | cons c l ih=>
  rw[lW];split
  ·rename_i h;intro x hx;simp only[List.take_succ_cons,asG]at hx;rcases hx with rfl|hx
   ·exact h
   ·exact ih x hx
  ·simp
def oZ:Str→Int × Str × Nat × Int
 | []=>(0,[],0,5)
 | c::r=>
  if isDigit c then
   let n:=span isDigit (c::r)
   if (1<n∧c.toNat=48)∨n<span isWord (c::r)then (0,[],0,5)
   else if Gp<val ((c::r).take n)then (0,[],0,2)else (2,(c::r).take n,n,0)
  else if c.toNat=34 then
   let x:=txt 0 [] 1 r
   if x.2.2=0 then (3,x.1,x.2.1,0)else (0,[],0,x.2.2)
  else if pQ c then
   let n:=span isWord (c::r)
   if 64<n then (0,[],0,3)else (1,(c::r).take n,n,0)
  else
   let n:=opn (c::r)
   if n=0 then (0,[],0,5)else (4,(c::r).take n,n,0)
def ltk(a:Nat)(x:Int × Str × Nat × Int):aA × Int × Int:=if x.2.2.2=0 then (⟨x.1,x.2.1,a⟩,((a+x.2.2.1:Nat):Int),0)else (⟨0,[],0⟩,0,x.2.2.2)
def rtk(x:Int × Str × Nat × Int):aA × Int × Int:=if x.2.2.2=0 then (⟨x.1,x.2.1,0⟩,(x.2.2.1:Int),0)else (⟨0,[],0⟩,0,x.2.2.2)
end Go.Ft
namespace Go.Ft
open Go
attribute [local congr] eO
theorem sF(s:Str)(i:Nat):(s.drop i).length=s.length-i:=atB
theorem yO(s:Str)(i n:Nat):(s.take (i+n)).drop i=(s.drop i).take n:=by
 rw[atz,atW]
theorem Xp{s:Str}{i n:Nat}(c:UInt8):(s.drop i)[n]?=some c↔s[i+n]?=some c:=by rw[atQ]
theorem aiv{s:Str}(hs:s.length≤2147483648){i:Nat}(h:i<s.length):EP s (i:Int)=
  some (ltk i (if 64<span isWord (s.drop i)then (0,[],0,3)else (1,(s.drop i).take (span isWord (s.drop i)),span isWord (s.drop i),0))):=by
 have hle:=Dh isWord (s.drop i);rw[sF]at hle;unfold EP;rw[Sv air (by omega) (by omega)];generalize span isWord (s.drop i)=n at hle⊢;simp (disch:=omega) only[aX,bI,aj,arP,ar7];by_cases h1:64<n
 ·simp (disch:=omega) only[arK];rfl
 ·simp (disch:=omega) only[arF];rw[yO];rfl
theorem acw{s:Str}(hs:s.length≤2147483648){i:Nat}(h:i<s.length)(hd:isDigit (s.getD i 0)=true):zQ s (i:Int)=some (ltk i (oZ (s.drop i))):=by
 have hle:=Dh isDigit (s.drop i);rw[sF]at hle;have hlt:=Ya (s.drop i);have htk:=Pm isDigit (s.drop i);have hpos:0<span isDigit (s.drop i):=by rw[getD_drop h,lW,hd];simp
 have hh:(s.drop i)=s.getD i 0::s.drop (i+1):=getD_drop h
 have ht:oZ (s.drop i)=if (1<span isDigit (s.drop i)∧(s.getD i 0).toNat=48)∨span isDigit (s.drop i)<span isWord (s.drop i)then (0,[],0,5)
   else if Gp<val ((s.drop i).take (span isDigit (s.drop i)))then (0,[],0,2)else (2,(s.drop i).take (span isDigit (s.drop i)),span isDigit (s.drop i),0):=by
  rw[hh];simp only[oZ,hd,arO]
 rw[ht];unfold zQ;rw[Sv digit_eq (by omega) (by omega)];generalize span isDigit (s.drop i)=n at hle hlt htk hpos⊢;generalize span isWord (s.drop i)=m at hlt⊢
 have e1:sl s (i:Int) ((i+n:Nat):Int)=some ((s.drop i).take n):=by
  simp (disch:=omega) only[bI,ar7];rw[yO]
 have e2:((s.drop i).take n).length=n:=by simp;omega
 have e3:((s.drop i).take n).getD 0 0=s.getD i 0:=by
  obtain⟨k,rfl⟩:∃k,n=k+1:=⟨n-1,by omega⟩;rw[hh];rfl
 rw[aj,e1,aj,e2];by_cases hw:n<m
 ·obtain⟨c,hc,hl⟩:=hlt.1 hw;rw[Xp]at hc;have hlt2:i+n<s.length:=(ate.1 hc).1;have e4:s.getD (i+n) 0=c:=by rw[asD,hc];rfl
  rw[arK (Or.inr hw)];by_cases h1:1<n
  ·by_cases h2:(s.getD i 0).toNat=48
   ·simp (disch:=omega) only[e3,dflt,bn,arK,aj,arP,ar4,ar7,Int.reduceToNat,arO];rfl
   ·simp (disch:=omega) only[e3,dflt,letter_eq,e4,hl,bn,arK,arF,aj,arP,ar4,ar7,Int.reduceToNat,arO];rfl
  ·simp (disch:=omega) only[dflt,letter_eq,e4,hl,bn,arK,arF,aj,arP,ar7,arG,arO,arN];rfl
 ·by_cases hz:1<n∧(s.getD i 0).toNat=48
  ·rw[arK (Or.inl hz)];simp (disch:=omega) only[e3,dflt,bn,arK,aj,arP,ar4,ar7,Int.reduceToNat,arO];rfl
  ·rw[arF (show ¬((1<n∧(s.getD i 0).toNat=48)∨n<m)from by omega)]
   have hb2:(if decide (((i+n:Nat):Int)<(s.length:Int))then au (idx s ((i+n:Nat):Int)) fun x2=>tJ x2 else some false)=some false:=by
    by_cases h4:i+n<s.length
    ·simp (disch:=omega) only[letter_eq,dflt,bn,arK,aj,arP,ar7];cases hl:pQ (s.getD (i+n) 0)with
     | false=>rfl
     | true=>
      exact absurd (hlt.2 ⟨_,by rw[Xp,asb h4],by rw[asD,asb h4]at hl;exact hl⟩) hw
    ·simp (disch:=omega) only[arF,arP]
   have hb1:(if decide (1<(n:Int))then au (idx ((s.drop i).take n) 0) fun x1=>some ((x1.toNat:Int)==48)else some false)=some false:=by
    by_cases h1:1<n
    ·simp (disch:=omega) only[e3,dflt,bn,arK,aj,arP,Int.reduceToNat];simp only[asB,asr];omega
    ·simp (disch:=omega) only[arF,arP]
   rw[hb1,aj,arF (by simp),hb2];simp (disch:=omega) only[aiA (s:=(s.drop i).take n) (by rw[e2];omega) htk,aj,arP,arG,arN];by_cases h6:Gp<val ((s.drop i).take n)
   ·simp (disch:=omega) only[h6,arO];rfl
   ·simp (disch:=omega) only[h6,arN];rfl
theorem Xf{s:Str}(hs:s.length≤2147483648){i:Nat}(h:i<s.length):Cj s (i:Int)=some (ltk i (oZ (s.drop i))):=by
 have hh:(s.drop i)=s.getD i 0::s.drop (i+1):=getD_drop h;unfold Cj;simp (disch:=omega) only[dflt,letter_eq,digit_eq,bn,aj,ar4,ar7];cases hl:pQ (s.getD i 0)with
 | true=>
  have hd:isDigit (s.getD i 0)=false:=by
   rw[Dy]at hl;cases hd:isDigit (s.getD i 0)with
   | false=>rfl
   | true=>rw[qK]at hd;omega
  have O6:¬(s.getD i 0).toNat=34:=by rw[Dy]at hl;omega
  rw[arK rfl,aiv hs h,hh];simp only[oZ,hd,hl,O6,arN,arO,arG]
 | false=>
  rw[arF (by simp)];cases hd:isDigit (s.getD i 0)with
  | true=>rw[arK rfl,acw hs h hd]
  | false=>
   rw[arF (by simp)];by_cases O6:(s.getD i 0).toNat=34
   ·simp (disch:=omega) only[ait hs h,arK];rw[hh];simp only[oZ,hd,O6,arN,arO,arG,acu,ltk];split<;>simp_all
   ·simp (disch:=omega) only[aoi hs h,arF];rw[hh];simp only[oZ,hd,hl,O6,arN,arG,ltk];generalize opn (s.getD i 0::s.drop (i+1))=n;by_cases ho:n=0
    ·simp (disch:=omega) only[ho,arF,arO]
    ·simp (disch:=omega) only[ho,arO,arN]
theorem ab4{s:Str}(hs:s.length≤2147483648){i:Nat}(h:i<s.length)(hd:isDigit (s.getD i 0)=true):MG s (i:Int)=some (rtk (oZ (s.drop i))):=by
 have hle:=Dh isDigit (s.drop i);rw[sF]at hle;have htk:=Pm isDigit (s.drop i);have hpos:0<span isDigit (s.drop i):=by rw[getD_drop h,lW,hd];simp
 have hh:(s.drop i)=s.getD i 0::s.drop (i+1):=getD_drop h
 have ht:oZ (s.drop i)=if (1<span isDigit (s.drop i)∧(s.getD i 0).toNat=48)∨span isDigit (s.drop i)<span isWord (s.drop i)then (0,[],0,5)
   else if Gp<val ((s.drop i).take (span isDigit (s.drop i)))then (0,[],0,2)else (2,(s.drop i).take (span isDigit (s.drop i)),span isDigit (s.drop i),0):=by
  rw[hh];simp only[oZ,hd,arO]
 rw[ht]
 have hsl:∀n,i+n≤s.length→sl s (i:Int) (bF ((i:Int)+(n:Int)))=some ((s.drop i).take n):=by
  intro n hn;simp (disch:=omega) only[aX,bI,asE,ar7];rw[yO]
 unfold MG;rw[af8 (by omega) (by omega),adt (by omega) (by omega)];have hsn:=hsl (span isDigit (s.drop i)) (by omega);generalize span isDigit (s.drop i)=n at hle htk hpos hsn⊢;generalize span isWord (s.drop i)=m at⊢;have e2:((s.drop i).take n).length=n:=by simp;omega
 have e3:((s.drop i).take n).getD 0 0=s.getD i 0:=by
  obtain⟨k,rfl⟩:∃k,n=k+1:=⟨n-1,by omega⟩;rw[hh];rfl
 have hne:(s.drop i).take n≠[]:=fun h0=>by rw[h0]at e2;simp at e2;omega
 rw[aj,aj];by_cases hw:n<m
 ·rw[arK (show (1<n∧(s.getD i 0).toNat=48)∨n<m from .inr hw)];simp (disch:=omega) only[arK,aj,arP,arO];rfl
 ·by_cases hz:1<n∧(s.getD i 0).toNat=48
  ·rw[arK (show (1<n∧(s.getD i 0).toNat=48)∨n<m from .inl hz)];simp (disch:=omega) only[dflt,aX,bn,bI,arK,arF,aj,arP,ar4,as3,asE,ar7];rfl
  ·rw[arF (show ¬((1<n∧(s.getD i 0).toNat=48)∨n<m)from by omega)]
   have hb:(if decide ((n:Int)<(m:Int))then some true else if decide (1<(n:Int))then au (idx s (i:Int)) fun x2=>some ((x2.toNat:Int)==48)else some false)=some false:=by
    by_cases h1:1<n
    ·simp (disch:=omega) only[dflt,bn,arK,arF,aj,arP,ar7];simp only[asB,asr];omega
    ·simp (disch:=omega) only[arF,arP]
   rw[hb,aj,hsn];rw[arF (by simp),aj,alg htk hne,e2,e3];by_cases h16:16<n
   ·have hv:Gp<val ((s.drop i).take n):=by
     obtain⟨k,rfl⟩:∃k,n=k+1:=⟨n-1,by omega⟩;rw[hh,List.take_succ_cons];refine ahc hd (by omega) ?_;simp[List.length_take];omega
    rw[arK (show 16<n∨(1<n∧(s.getD i 0).toNat=48)from .inl h16),arK hv];simp (disch:=omega) only[aj,aC,as3,arO];rfl
   ·rw[arF (show ¬(16<n∨(1<n∧(s.getD i 0).toNat=48))from by omega)];by_cases h6:Gp<val ((s.drop i).take n)
    ·simp (disch:=omega) only[h6,arK,aj,aC,as3,asI,arO];rfl
    ·have h7:val ((s.drop i).take n)≤Gp:=by omega
     simp (disch:=omega) only[h6,h7,aj,aC,asC,arG,arN,aug];rfl
theorem Pk{c:UInt8}{l:Str}:span isWord (c::l)=0↔isWord c=false:=by
 rw[lW];cases isWord c<;>simp
theorem afg{s:Str}(hs:s.length≤2147483648){i:Nat}(h:i<s.length):PD s (i:Int)=some (rtk (oZ (s.drop i))):=by
 have hh:(s.drop i)=s.getD i 0::s.drop (i+1):=getD_drop h;unfold PD;simp (disch:=omega) only[dflt,Gw,aX,bn,aj,arP,ar4,ar7];cases hd:isDigit (s.getD i 0)with
 | true=>rw[arK rfl,ab4 hs h hd]
 | false=>
  rw[arF (by simp)];by_cases O6:(s.getD i 0).toNat=34
  ·simp (disch:=omega) only[ahN hs h,aX,bI,arK,aj,asE,ar7];rw[hh];simp only[oZ,hd,O6,arN,arO,arG,afh,rtk];split<;>simp_all
  ·have hwl:=Dh isWord (s.drop i);rw[sF]at hwl;simp (disch:=omega) only[adt (s:=s) (by omega) (Nat.le_of_lt h),bI,arF,aj,asE,ar7]
   have hsl:∀n,i+n≤s.length→sl s (i:Int) (bF ((i:Int)+(n:Int)))=some ((s.drop i).take n):=by
    intro n hn;simp (disch:=omega) only[aX,bI,asE,ar7];rw[yO]
   cases hl:pQ (s.getD i 0)with
   | true=>
    have hpos:0<span isWord (s.drop i):=by rw[hh,lW,isWord,hl];simp
    have hsn:=hsl _ (show i+span isWord (s.drop i)≤s.length from by omega)
    have ht:oZ (s.drop i)=if 64<span isWord (s.drop i)then (0,[],0,3)else (1,(s.drop i).take (span isWord (s.drop i)),span isWord (s.drop i),0):=by
     rw[hh];simp only[oZ,hd,hl,O6,arN,arO,arG]
    rw[ht];generalize span isWord (s.drop i)=n at *;by_cases h64:64<n
    ·simp (disch:=omega) only[aX,bI,arK,aj,asE,ar7];rfl
    ·simp (disch:=omega) only[aX,bI,arK,arF,aj,asE,ar7];rw[yO];rfl
   | false=>
    have h0:span isWord (s.drop i)=0:=by rw[hh,Pk,isWord,hl,hd];rfl
    have hol:opn (s.drop i)≤(s.drop i).length:=by
     rw[hh];cases s.drop (i+1)with
     | nil=>simp only[opn];split<;>simp
     | cons b r=>simp only[opn];(repeat' split)<;>simp
    rw[sF]at hol;have hsn:=hsl _ (show i+opn (s.drop i)≤s.length from by omega)
    have ht:oZ (s.drop i)=if opn (s.drop i)=0 then (0,[],0,5)else (4,(s.drop i).take (opn (s.drop i)),opn (s.drop i),0):=by
     rw[hh];simp only[oZ,hd,hl,O6,arN,arG]
    rw[ht,h0];simp (disch:=omega) only[anX hs h,aX,bI,arK,arF,aj,asE,ar7,atS];generalize opn (s.drop i)=n at *;by_cases ho:n=0
    ·simp (disch:=omega) only[arK];rfl
    ·simp (disch:=omega) only[arF];rw[yO];rfl
end Go.Ft
namespace Go.Ft
open Go
attribute [local congr] eO
theorem aiS(s:Str)(i:Nat):(ByteArray.mk s.toArray).get! i=s.getD i 0:=by
 unfold ByteArray.get!;simp[getElem!_def];rfl
theorem size_mk'(s:Str):(ByteArray.mk s.toArray).size=s.length:=by simp[ByteArray.size]
theorem dec_lt{s:Str}{p:Nat}(hc:(s.getD p 0).toNat<128):dec s p=((s.getD p 0).toNat,1):=by
 unfold dec Utf8.decode;simp only[aiS,atS];rw[arK hc]
theorem acR{s:Str}{p:Nat}(h:p<s.length)(hc:128≤(s.getD p 0).toNat):
  128≤(dec s p).1∧1≤(dec s p).2∧p+(dec s p).2≤s.length∧∀j,1≤j→j<(dec s p).2→128≤(s.getD (p+j) 0).toNat:=by
 unfold dec Utf8.decode;simp only[aiS,atS,size_mk',Utf8.runeError];rw[arF (by omega)]
 repeat' split
 all_goals (rename_i h1;simp only[arV,arP,ar4]at *)
 all_goals refine⟨by (try simp only);omega,by (try simp only);omega,by (try simp only);omega,fun j h2 h3=>?_⟩
 all_goals (try simp only at h3)
 all_goals try (exfalso;omega)
 all_goals
  rcases asQ j 2 with g1|g1
  ·have e:j=1:=Nat.le_antisymm (Nat.le_of_lt_succ g1) h2;subst e;omega
  ·rcases asQ j 3 with g2|g2
   ·have e:j=2:=Nat.le_antisymm (Nat.le_of_lt_succ g2) g1;subst e;omega
   ·have e:j=3∨4≤j:=by omega
    rcases e with e|e
    ·subst e;omega
    ·omega
def Bd(s:Str)(n:Nat):Prop:=n=s.length∨(s.getD n 0).toNat<128∨(0<n∧(s.getD (n-1) 0).toNat<128)
theorem ai_{s:Str}{p n:Nat}(h:p<n)(hn:n≤s.length)(hb:Bd s n):p+(dec s p).2≤n:=by
 rcases asQ (s.getD p 0).toNat 128 with hc|hc
 ·rw[dec_lt hc];omega
 ·obtain⟨_,h1,h2,h3⟩:=acR (by omega:p<s.length) hc;rcases asQ n (p+(dec s p).2)with hlt|hge
  ·exfalso;have a1:=h3 (n-p) (by omega) (by omega);rw[show p+(n-p)=n from by omega]at a1;rcases hb with hb|hb|⟨hb0,hb⟩
   ·omega
   ·omega
   ·by_cases e:n-1=p
    ·rw[e]at hb;omega
    ·have a2:=h3 (n-1-p) (by omega) (by omega);rw[show p+(n-1-p)=n-1 from by omega]at a2;omega
  ·exact hge
def uH(c:UInt8):Bool:=(c.toNat:Int) !=10
@[simp] theorem aqh(c:UInt8):r9 c=some (uH c):=rfl
@[simp] theorem abj(r:Int):zR r=some ((r==32)||(r==9)):=rfl
def opb(t:Str)(o:Nat):Nat:=if t=[40]∨t=[91]then o+1 else if t=[41]∨t=[93]then o-1 else o
theorem abf(t:Str)(o:Nat)(h:o<4611686018427387904):vD t (o:Int)=some ((opb t o:Nat):Int):=by
 unfold vD opb;by_cases h1:t=[40]
 ·subst h1;simp (disch:=omega) only[aX,ar4,arO];simp
 ·by_cases h2:t=[91]
  ·subst h2;simp (disch:=omega) only[aX,arF,ar4,arO];simp
  ·by_cases h3:t=[41]
   ·subst h3;simp (disch:=omega) only[aX,arF,ar4,arO];by_cases h4:1<o
    ·rw[arK (by omega)];simp;omega
    ·rw[arF (by omega)];simp;omega
   ·by_cases h4:t=[93]
    ·subst h4;simp (disch:=omega) only[aX,arF,ar4,arO];by_cases h4:1<o
     ·rw[arK (by omega)];simp;omega
     ·rw[arF (by omega)];simp;omega
    ·simp[h1,h2,h3,h4]
theorem Xc(k:aA)(o:Nat)(h:o<4611686018427387904):yw (o:Int) k=some (((if k.kind=4 then opb k.text o else o:Nat)):Int):=by
 unfold yw opb;by_cases hk:k.kind=4
 ·rw[hk];by_cases h1:k.text=[40]
  ·rw[h1];simp (disch:=omega) only[aX,arP,ar4,arV,asq,arO];simp
  ·by_cases h2:k.text=[91]
   ·rw[h2];simp (disch:=omega) only[aX,arP,ar4,arV,asq,arO];simp
   ·by_cases h3:k.text=[41]
    ·rw[h3];by_cases h4:0<o
     ·have:decide ((0:Int)<(o:Int))=true:=by simp;omega
      rw[this];simp (disch:=omega) only[aX,ar4,arV,asq,Bool.and_true,arO];simp;omega
     ·have:decide ((0:Int)<(o:Int))=false:=by simp;omega
      rw[this];simp;omega
    ·by_cases h4:k.text=[93]
     ·rw[h4];by_cases h5:0<o
      ·have:decide ((0:Int)<(o:Int))=true:=by simp;omega
       rw[this];simp (disch:=omega) only[aX,ar4,arV,asq,Bool.and_true,arO];simp;omega
      ·have:decide ((0:Int)<(o:Int))=false:=by simp;omega
       rw[this];simp;omega
     ·simp[h1,h2,h3,h4]
 ·simp[hk]
def scan:Nat→Nat→Nat→Bool→Str→List aA × Option (Nat × Int)
 | _,_,_,_,[]=>([],none)
 | k+1,p,o,nl,_::r=>scan k (p+1) o nl r
 | 0,p,o,nl,c::r=>
  if c.toNat=32∨c.toNat=9 then scan 0 (p+1) o nl r
  else if c.toNat=35 then scan (span uH r) (p+1) o nl r
  else if c.toNat=10 then (if o=0∧nl=false then (⟨5,[],p⟩::(scan 0 (p+1) o true r).1,(scan 0 (p+1) o true r).2)else scan 0 (p+1) o nl r)
  else if (oZ (c::r)).2.2.2=0 then
   (⟨(oZ (c::r)).1,(oZ (c::r)).2.1,p⟩::(scan ((oZ (c::r)).2.2.1-1) (p+1) (if (oZ (c::r)).1=4 then opb (oZ (c::r)).2.1 o else o) false r).1,
    (scan ((oZ (c::r)).2.2.1-1) (p+1) (if (oZ (c::r)).1=4 then opb (oZ (c::r)).2.1 o else o) false r).2)
  else ([],some (p,(oZ (c::r)).2.2.2))
theorem KZ:∀(j a p o:Nat) (nl:Bool) (r:Str),j≤r.length→scan (a+j) p o nl r=scan a (p+j) o nl (r.drop j)
 | 0,a,p,o,nl,r,_=>rfl
 | j+1,a,p,o,nl,[],h=>by simp at h
 | j+1,a,p,o,nl,c::r,h=>by
  rw[show a+(j+1)=(a+j)+1 from rfl,scan,KZ j a (p+1) o nl r (by simpa using h),atr];rw[show p+1+j=p+(j+1)from by omega]
def fin(out:List aA)(x:List aA × Option (Nat × Int)):List aA × Int × Int:=
 match x.2 with
 | none=>(out++x.1,0,0)
 | some (p,e)=>([],(p:Int),e)
def MR(out:List aA):Bool:=match out.getLast? with|some t=>t.kind==5|none=>false
theorem J6(out:List aA)(t:aA):MR (out++[t])=(t.kind==5):=by simp[MR]
theorem Kq(out:List aA)(t:aA)(x:List aA × Option (Nat × Int)):fin out (t::x.1,x.2)=fin (out++[t]) x:=by
 unfold fin;cases x.2<;>simp
theorem ZB:∀(N:Nat) (r b:Str) (m:Nat),r.length≤N→(txt 0 b m r).2.2=0→m<(txt 0 b m r).2.1∧(txt 0 b m r).2.1≤m+r.length∧(r.getD ((txt 0 b m r).2.1-m-1) 0).toNat=34
 | N,[],b,m,_,h=>by simp[txt]at h
 | 0,c::r,b,m,hN,h=>by simp at hN
 | N+1,c::r,b,m,hN,h=>by
  rw[SC]at h⊢;by_cases O6:c.toNat=34
  ·rw[arK O6]at h⊢;by_cases hl:4096<b.length
   ·rw[arK hl]at h;simp at h
   ·rw[arF hl];simp only[ase];refine⟨by omega,by omega,?_⟩;rw[show m+1-m-1=0 from by omega];exact O6
  ·rw[arF O6]at h⊢;by_cases he:(chr (c::r)).2.2=0
   ·rw[arK he]at h⊢;obtain⟨n1,n2⟩:=aeD he;generalize (chr (c::r)).2.1=n at n1 n2 h⊢;have hlen:((c::r).drop n).length=r.length+1-n:=by simp
    have ih:=ZB N ((c::r).drop n) (b++[(chr (c::r)).1]) (m+n) (by rw[hlen];simp at hN n2;omega) h;rw[hlen]at ih;simp only[ase]at n2⊢;refine⟨by omega,by omega,?_⟩;have h3:=ih.2.2;rw[asD,atQ]at h3;rw[asD];rw[show n+((txt 0 (b++[(chr (c::r)).1]) (m+n) ((c::r).drop n)).2.1-(m+n)-1)=(txt 0 (b++[(chr (c::r)).1]) (m+n) ((c::r).drop n)).2.1-m-1 from by omega]at h3;exact h3
   ·rw[arF he]at h;exact absurd h he
theorem WK(p:UInt8→Bool)(l:Str){i:Nat}(h:i<span p l):p (l.getD i 0)=true:=by
 have h2:=Dh p l
 have:=Pm p l (l.getD i 0) (by
  rw[List.mem_take_iff_getElem]
  exact⟨i,by omega,by rw[asD,asb (by omega),atC]⟩)
 exact this
theorem aof(l:Str):opn l≤l.length:=by
 match l with
 | []=>simp[opn]
 | [a]=>simp only[opn];split<;>simp
 | a::b::r=>simp only[opn];(repeat' split)<;>simp
theorem Iw{a:UInt8}(h:Fu [a]=true):a.toNat<128:=by
 simp only[Fu,asq,ar4,as8,aue,reduceCtorEq,and_false,false_or]at h;have:a=60∨a=62∨a=43∨a=45∨a=42∨a=47∨a=37∨a=33∨a=63∨a=58∨a=46∨a=44∨a=61∨a=40∨a=41∨a=91∨a=93∨a=123∨a=125:=h;rcases this with rfl|rfl|rfl|rfl|rfl|rfl|rfl|rfl|rfl|rfl|rfl|rfl|rfl|rfl|rfl|rfl|rfl|rfl|rfl<;>decide
theorem Rc{a b:UInt8}(h:Fu [a,b]=true):a.toNat<128∧b.toNat<128:=by
 simp only[Fu,asq,ar4,as8,aue,reduceCtorEq,and_false,or_false]at h;rcases h with⟨rfl,rfl⟩|⟨rfl,rfl⟩|⟨rfl,rfl⟩|⟨rfl,rfl⟩|⟨rfl,rfl⟩|⟨rfl,rfl⟩<;>decide
theorem Pg{c:UInt8}{r:Str}(h:(oZ (c::r)).2.2.2=0):1≤(oZ (c::r)).2.2.1∧(oZ (c::r)).2.2.1≤r.length+1∧((c::r).getD ((oZ (c::r)).2.2.1-1) 0).toNat<128∧c.toNat<128:=by
 simp only[oZ]at h⊢;by_cases hd:isDigit c=true
 ·rw[arK hd]at h⊢;have hpos:0<span isDigit (c::r):=by rw[lW,hd];simp
  have hle:=Dh isDigit (c::r);have hg:=WK isDigit (c::r) (i:=span isDigit (c::r)-1) (by omega);rw[qK]at hd hg;by_cases h1:(1<span isDigit (c::r)∧c.toNat=48)∨span isDigit (c::r)<span isWord (c::r)
  ·rw[arK h1]at h;simp at h
  ·rw[arF h1]at h⊢;by_cases h2:Gp<val ((c::r).take (span isDigit (c::r)))
   ·rw[arK h2]at h;simp at h
   ·rw[arF h2];simp only[ase]at hle;have hg2:((c::r).getD (span isDigit (c::r)-1) 0).toNat<128:=by omega
    exact⟨hpos,hle,hg2,by omega⟩
 ·rw[arF hd]at h⊢;by_cases O6:c.toNat=34
  ·rw[arK O6]at h⊢;by_cases he:(txt 0 [] 1 r).2.2=0
   ·rw[arK he];obtain⟨a1,a2,a3⟩:=ZB r.length r [] 1 (asx _) he;refine⟨by simp only;omega,by simp only;omega,?_,by omega⟩;simp only;obtain⟨q,hq⟩:∃q,(txt 0 [] 1 r).2.1=q+2:=⟨(txt 0 [] 1 r).2.1-2,by omega⟩;rw[hq]at a3⊢;have a3:(r.getD q 0).toNat=34:=a3;show ((c::r).getD (q+1) 0).toNat<128;rw[auc];omega
   ·rw[arF he]at h;exact absurd h he
  ·rw[arF O6]at h⊢;by_cases hl:pQ c=true
   ·rw[arK hl]at h⊢;have hpos:0<span isWord (c::r):=by rw[lW,isWord,hl];simp
    have hle:=Dh isWord (c::r);have hg:=WK isWord (c::r) (i:=span isWord (c::r)-1) (by omega);rw[Dy]at hl;simp only[isWord,asq,Dy,qK]at hg;by_cases h2:64<span isWord (c::r)
    ·rw[arK h2]at h;simp at h
    ·rw[arF h2];simp only[ase]at hle;have hg2:((c::r).getD (span isWord (c::r)-1) 0).toNat<128:=by omega
     exact⟨hpos,hle,hg2,by omega⟩
   ·rw[arF hl]at h⊢;have hle:=aof (c::r);by_cases h2:opn (c::r)=0
    ·rw[arK h2]at h;simp at h
    ·rw[arF h2];simp only[ase]at hle;refine⟨by simp only;omega,hle,?_⟩;cases r with
     | nil=>
      simp only[opn]at h2⊢;split
      ·rename_i ho;exact⟨Iw ho,Iw ho⟩
      ·rename_i ho;simp[ho]at h2
     | cons b r=>
      simp only[opn]at h2⊢;split
      ·rename_i ho;exact⟨(Rc ho).2,(Rc ho).1⟩
      ·rename_i ho2;split
       ·rename_i ho;exact⟨Iw ho,Iw ho⟩
       ·rename_i ho;simp[ho,ho2]at h2
end Go.Ft
namespace Go.Ft
open Go
attribute [local congr] eO
theorem Xi(out:List aA)(h:out≠[]):idx out (bF ((out.length:Int)-1))=if h2:out.length<4611686018427387904 then some (out.getLast h)else idx out (bF ((out.length:Int)-1)):=by
 split
 ·rename_i h2;have hl:0<out.length:=as_.2 h;rw[aX (by omega) (by omega),show (out.length:Int)-1=((out.length-1:Nat):Int)from by omega,P6 (by omega)];congr 1;exact(List.getLast_eq_getElem h).symm
 ·rfl
theorem Yw(out:List aA)(o:Nat)(h:out.length<4611686018427387904):
  (if (o:Int)=0 then if (out.length:Int)=0 then some true else au (idx out ((out.length:Int)-1)) fun e1=>some (e1.kind !=5)else some false)=some (decide (o=0∧MR out=false)):=by
 by_cases ho:o=0
 ·subst ho;by_cases he:out=[]
  ·subst he;simp[MR]
  ·have hl:0<out.length:=as_.2 he;have hl2:¬((out.length:Int)=0):=by omega
   have h1:=Xi out he;rw[dif_pos h,aX (by omega) (by omega)]at h1;rw[h1];simp[MR,List.getLast?_eq_some_getLast he];cases hk:(out.getLast he).kind==5<;>simp_all
 ·have:¬(o:Int)=0:=by omega
  simp[ho]
theorem aq4{s:Str}{p:Nat}(h:p<s.length)(hc:(s.getD p 0).toNat≠10):p+1+span uH (s.drop (p+1))≤s.length∧Bd s (p+1+span uH (s.drop (p+1))):=by
 have hl:=Dh uH (s.drop (p+1));rw[sF]at hl;refine⟨by omega,?_⟩;rcases asQ (p+1+span uH (s.drop (p+1))) s.length with h1|h1
 ·right;left
  have key:∀l:Str,span uH l<l.length→(l.getD (span uH l) 0).toNat=10:=by
   intro l
   induction l with
   | nil=>simp
   | cons c l ih=>
    rw[lW];cases hn:uH c with
    | true=>simp only[arO,ase];intro h2;rw[auc];exact ih (by omega)
    | false=>simp only[arG,arN,ase];intro _;simp[uH]at hn;rw[List.getD_cons_zero];omega
  have:=key (s.drop (p+1)) (by rw[sF];omega);rw[asD,atQ]at this;rw[asD];omega
 ·left;omega
theorem akW{c:UInt8}(r:Str)(h:c.toNat≠10):span uH (c::r)=span uH r+1:=by
 rw[lW,arK];simp[uH];omega
theorem Wy(c:UInt8)(r:Str):(oZ (c::r)).1≠5:=by
 simp only[oZ]
 repeat' split
 all_goals simp
theorem vw{s:Str}(hs:s.length≤2147483648):∀(k p nx o:Nat) (out:List aA),s.length<k+p→p≤s.length→nx≤s.length→(p<nx→Bd s nx)→out.length≤p→o≤p→
  ji s k out (nx:Int) (o:Int) p=some (fin out (scan (nx-p) p o (MR out) (s.drop p)))
 | 0,p,nx,o,out,h,h',_,_,_,_=>by omega
 | k+1,p,nx,o,out,h,hp,hnx,hb,hout,ho=>by
  rw[ji];by_cases hi:p<s.length
  ·rw[arK (by simpa using hi)];by_cases hlt:p<nx
   ·
    have hst:=ai_ hlt hnx (hb hlt)
    have hpos:1≤(dec s p).2:=by
     rcases asQ (s.getD p 0).toNat 128 with hc|hc
     ·rw[dec_lt hc];exact asx _
     ·exact(acR hi hc).2.1
    simp (disch:=omega) only[arK,aj,arP,arO];rw[vw hs k (p+(dec s p).2) nx o out (by omega) (by omega) hnx (fun _=>hb hlt) (by omega) (by omega)];rw[show nx-p=(nx-(p+(dec s p).2))+(dec s p).2 from by omega,KZ _ _ _ _ _ _ (by rw[sF];omega),ato]
   ·have e0:nx-p=0:=by omega
    rw[e0];have hh:=getD_drop hi;rcases asQ (s.getD p 0).toNat 128 with hc|hc
    ·rw[dec_lt hc];simp (disch:=omega) only[abj,aX,arF,aj,arP,ar4,asL,atD,asq];by_cases hbl:(s.getD p 0).toNat=32∨(s.getD p 0).toNat=9
     ·have e1:(((s.getD p 0).toNat:Int)==32||((s.getD p 0).toNat:Int)==9)=true:=by simp only[asq,ar4];omega
      simp (disch:=omega) only[aU,arK,aj];rw[vw hs k (p+1) nx o out (by omega) (by omega) hnx (fun h=>by omega) (by omega) (by omega),hh,show nx-(p+1)=0 from by omega];rw[scan,arK hbl]
     ·have e1:(((s.getD p 0).toNat:Int)==32||((s.getD p 0).toNat:Int)==9)=false:=by simp only[asN,asr];omega
      simp (disch:=omega) only[arF];by_cases h35:(s.getD p 0).toNat=35
      ·simp (disch:=omega) only[Sv aqh (s:=s) (by omega) hp,aU,arK,arF,aj];obtain⟨b1,b2⟩:=aq4 hi (by omega);rw[hh,akW _ (by omega)];rw[show p+(span uH (s.drop (p+1))+1)=p+1+span uH (s.drop (p+1))from by omega];rw[vw hs k (p+1) _ o out (by omega) (by omega) b1 (fun _=>b2) (by omega) (by omega)];rw[show p+1+span uH (s.drop (p+1))-(p+1)=span uH (s.drop (p+1))from by omega];rw[scan,arF hbl,arK h35]
      ·by_cases h10:(s.getD p 0).toNat=10
       ·simp (disch:=omega) only[aU,arK,arF,aj];rw[Yw out o (by omega),hh,scan,arF hbl,arF h35,arK h10];by_cases hn:o=0∧MR out=false
        ·have happ:app out [(⟨5,[],(p:Int)⟩:aA)]=some (out++[⟨5,[],(p:Int)⟩]):=aU (by simp[wX];omega);have hd:decide (o=0∧MR out=false)=true:=asU hn;simp (disch:=omega) only[hd,happ,arK,aj,arO];rw[vw hs k (p+1) nx o _ (by omega) (by omega) hnx (fun h=>by omega) (by simp;omega) (by omega),show nx-(p+1)=0 from by omega,J6];rw[Kq];rfl
        ·have hd:decide (o=0∧MR out=false)=false:=atc hn;simp (disch:=omega) only[hd,arF,aj,arG,arN];rw[vw hs k (p+1) nx o out (by omega) (by omega) hnx (fun h=>by omega) (by omega) (by omega),show nx-(p+1)=0 from by omega]
       ·simp (disch:=omega) only[Xf hs hi,aU,arK,arF,aj];rw[hh,scan,arF hbl,arF h35,arF h10];by_cases he:(oZ (s.getD p 0::s.drop (p+1))).2.2.2=0
        ·obtain⟨n1,n2,n3,n4⟩:=Pg he;rw[sF]at n2;rw[arK he]
         have hbd:Bd s (p+(oZ (s.getD p 0::s.drop (p+1))).2.2.1):=by
          right;right;refine⟨by omega,?_⟩;rw[←hh,asD,atQ]at n3;rw[asD,←hh];rw[←hh]at n1;rw[show p+(oZ (s.drop p)).2.2.1-1=p+((oZ (s.drop p)).2.2.1-1)from by omega];exact n3
         have h5:=Wy (s.getD p 0) (s.drop (p+1));generalize oZ (s.getD p 0::s.drop (p+1))=t at he n1 n2 hbd h5⊢;have happ:app out [(⟨t.1,t.2.1,(p:Int)⟩:aA)]=some (out++[⟨t.1,t.2.1,(p:Int)⟩]):=aU (by simp[wX];omega);have ash:opb t.2.1 o≤o+1:=by unfold opb;(repeat' split)<;>omega
         have ek:((t.1:Int)==5)=false:=asr.2 h5;simp only[ltk,he,arO];simp (disch:=omega) only[aD,not_true_eq_false,arN];by_cases hk:t.1=4
         ·simp (disch:=omega) only[hk,abf _ _ (by omega:o<4611686018427387904),aj,arO];rw[hk]at happ;simp (disch:=omega) only[happ,aj];rw[vw hs k (p+1) _ (opb t.2.1 o) _ (by omega) (by omega) (by omega) (fun _=>hbd) (by simp;omega) (by omega),J6,Kq];rw[show p+t.2.2.1-(p+1)=t.2.2.1-1 from by omega]
          rfl
         ·simp (disch:=omega) only[hk,happ,aj,arN];rw[vw hs k (p+1) _ o _ (by omega) (by omega) (by omega) (fun _=>hbd) (by simp;omega) (by omega),J6,Kq];rw[show p+t.2.2.1-(p+1)=t.2.2.1-1 from by omega];rw[ek]
        ·rw[arF he];simp only[ltk,he,arN];simp (disch:=omega) only[he,aD,atJ,arO];rfl
    ·
     obtain⟨g1,_⟩:=acR hi hc;have e1:(((dec s p).1:Int)==32||((dec s p).1:Int)==9)=false:=by simp only[asN,asr];omega
     have he:(oZ (s.getD p 0::s.drop (p+1))).2.2.2≠0:=fun he=>by have:=(Pg he).2.2.2;omega
     simp (disch:=omega) only[abj,e1,Xf hs hi,arF,aj,arP,ar4,asL,atD,arG,arN];rw[hh,scan,arF (by omega),arF (by omega),arF (by omega),arF he];simp only[ltk,he,arN];simp (disch:=omega) only[he,aD,atJ,arO];rfl
  ·have e:p=s.length:=by omega
   subst e;rw[arF (by simp)];rw[asw (asx _)];cases hz:nx-s.length<;>simp[scan,fin]
end Go.Ft
namespace Go.Ft
open Go
attribute [local congr] eO
theorem TV{s:Str}(hs:s.length≤65536):oD s=some (fin [] (scan 0 0 0 false s)):=by
 unfold oD;rw[arF (by simp;omega)];have:=vw (s:=s) (by omega) BIG 0 0 0 [] (by simp only[BIG];omega) (by omega) (by omega) (fun h=>by omega) (by simp) (by omega);exact this
def Vm:Bool→Str→Nat
 | _,[]=>0
 | cm,c::r=>if c.toNat≠10∧(cm=true∨c.toNat=32∨c.toNat=9∨c.toNat=35)then Vm (cm||c.toNat==35) r+1 else 0
theorem acE:∀(cm:Bool) (l:Str),Vm cm l≤l.length
 | _,[]=>asx 0
 | cm,c::r=>by
  rw[Vm];split
  ·have:=acE (cm||c.toNat==35) r;simp only[ase];omega
  ·exact atH _
theorem Uk{s:Str}(hs:s.length≤2147483648):∀(k i:Nat) (cm:Bool),s.length<k+i→i≤s.length→
  u7 s k (i:Int) cm=some ((i+Vm cm (s.drop i):Nat):Int)
 | 0,i,cm,h,h'=>by omega
 | k+1,i,cm,h,h'=>by
  rw[u7];by_cases hi:i<s.length
  ·have hh:=getD_drop hi
   have hx:idx s (i:Int)=some (s.getD i 0):=by
    rw[P6 hi,asD,asb hi];rfl
   rw[hh,Vm];have hc:(decide ((i:Int)<(s.length:Int)))=true:=by simp;omega
   simp only[hc,arO,hx,aj];generalize s.getD i 0=c;by_cases h10:c.toNat=10
   ·have e:((c.toNat:Int) !=10)=false:=by simp;omega
    simp[h10]
   ·have e:((c.toNat:Int) !=10)=true:=by simp;omega
    have e35:((c.toNat:Int)==35)=(c.toNat==35):=by
     by_cases h:c.toNat=35
     ·simp[h]
     ·have h2:¬(c.toNat:Int)=35:=by omega
      rw[asr.2 h,asr.2 h2]
    have go:∀cm',u7 s k (bF ((i:Int)+1)) cm'=some ((i+(Vm cm' (s.drop (i+1))+1):Nat):Int):=by
     intro cm';rw[aX (by omega) (by omega)];have:=Uk hs k (i+1) cm' (by omega) (by omega);rw[show (i:Int)+1=((i+1:Nat):Int)from by omega,this];congr 2;omega
    simp only[e,arO,e35,h10,atD,atJ,true_and];cases cm with
    | true=>simp[go]
    | false=>
     by_cases h32:c.toNat=32
     ·have h2:(c.toNat==35)=false:=by simp[h32]
      simp[h32,go]
     ·have asF:((c.toNat:Int)==32)=false:=by simp;omega
      by_cases h9:c.toNat=9
      ·simp[h9,go]
      ·have h9':((c.toNat:Int)==9)=false:=by simp;omega
       simp only[asF,h9',arG,arN,aj,h32,h9,false_or,asT];cases hb:(c.toNat==35)with
       | true=>simp[go];simp at hb;simp[hb]
       | false=>simp at hb;simp[hb]
  ·have hc:(decide ((i:Int)<(s.length:Int)))=false:=by simp;omega
   rw[asw (by omega)];simp only[hc,arG,arN,aj,Vm,atS]
theorem Uj{s:Str}(hs:s.length≤65536){i:Nat}(h:i≤s.length):u_ s (i:Int)=some ((i+Vm false (s.drop i):Nat):Int):=
 Uk (by omega) BIG i false (by simp only[BIG];omega) h
theorem aiI(l:Str):Vm true l=span uH l:=by
 induction l with
 | nil=>rfl
 | cons c r ih=>
  rw[Vm,lW];by_cases h:c.toNat=10
  ·simp[h,uH]
  ·have:¬(c.toNat:Int)=10:=by omega
   simp[h,uH,this,ih]
theorem Ul:∀(l:Str) (cm:Bool),Vm false (l.drop (Vm cm l))=0
 | [],cm=>by cases cm<;>rfl
 | c::r,cm=>by
  rw[Vm];split
  ·rw[atr];exact Ul r _
  ·rename_i h;rw[atl,Vm,arF];intro h2;apply h;exact⟨h2.1,by cases h2.2 with|inl h=>cases h|inr h=>exact Or.inr h⟩
theorem SX:∀(l:Str) (p o:Nat) (nl:Bool),scan 0 p o nl l=scan 0 (p+Vm false l) o nl (l.drop (Vm false l))
 | [],p,o,nl=>rfl
 | c::r,p,o,nl=>by
  rw[Vm];split
  ·rename_i h;by_cases h35:c.toNat=35
   ·rw[scan,arF (by omega),arK h35,atr];simp only[h35,atd,Bool.or_true];rw[aiI];have:=KZ (span uH r) 0 (p+1) o nl r (Dh _ _);rw[Nat.zero_add]at this;rw[this];rw[show p+1+span uH r=p+(span uH r+1)from by omega]
   ·have hb:(c.toNat==35)=false:=by simp[h35]
    rw[scan,arK (by obtain⟨_,h⟩:=h;rcases h with h|h|h|h<;>simp_all),atr,hb];rw[SX r];simp only[atM];rw[show p+1+Vm false r=p+(Vm false r+1)from by omega]
  ·rfl
theorem VB(out:List aA)(o:Nat)(h:out.length<4611686018427387904):
  (if ((o:Int)==0)=true then if ((out.length:Int)==0)=true then some true else au (idx out (bF ((out.length:Int)-1))) fun e1=>some (e1.kind !=5)else some false)=some (decide (o=0∧MR out=false)):=by
 by_cases ho:o=0
 ·subst ho;by_cases he:out=[]
  ·subst he;simp[MR]
  ·have hl:0<out.length:=as_.2 he;have hl2:¬((out.length:Int)=0):=by omega
   have h1:=Xi out he;rw[dif_pos h]at h1;rw[h1];simp[MR,List.getLast?_eq_some_getLast he];cases hk:(out.getLast he).kind==5<;>simp_all
 ·have:¬(o:Int)=0:=by omega
  simp[ho]
theorem S9{s:Str}(hs:s.length≤65536):∀(k p o:Nat) (out:List aA),s.length<k+p→p≤s.length→Vm false (s.drop p)=0→out.length≤p→o≤p→
  oO s k out (o:Int) (p:Int)=some (fin out (scan 0 p o (MR out) (s.drop p)))
 | 0,p,o,out,h,h',_,_,_=>by omega
 | k+1,p,o,out,h,hp,hg,hout,ho=>by
  rw[oO];by_cases hi:p<s.length
  ·have hh:=getD_drop hi
   have hx:idx s (p:Int)=some (s.getD p 0):=by
    rw[P6 hi,asD,asb hi];rfl
   have hc:(decide ((p:Int)<(s.length:Int)))=true:=by simp;omega
   have step:∀(q:Nat) (o':Nat) (out':List aA),p<q→q≤s.length→out'.length≤q→o'≤q→
     au (u_ s (q:Int)) (fun at3=>oO s k out' (o':Int) at3)=some (fin out' (scan 0 q o' (MR out') (s.drop q))):=by
    intro q o' out' h1 h2 h3 h4;have hle:=acE false (s.drop q);rw[sF]at hle;rw[Uj hs h2,aj];rw[S9 hs k (q+Vm false (s.drop q)) o' out' (by omega) (by omega) (by rw[←ato];exact Ul _ _) (by omega) (by omega)];rw[SX (s.drop q),ato]
   rw[hh,Vm]at hg;simp only[hc,arO,hx,aj];by_cases h10:(s.getD p 0).toNat=10
   ·have e:(((s.getD p 0).toNat:Int) !=10)=false:=bne_eq_false_iff_eq.2 (by omega);have e5:((5:Int) !=5)=false:=rfl
    have eop:yw (o:Int) (⟨5,[],(p:Int)⟩:aA)=some (o:Int):=by
     rw[Xc _ _ (by omega)];simp
    simp only[e,e5,arG,arN,eop,aj];rw[VB out o (by omega),aj]
    conv=>rhs;rw[hh,scan,arF (by omega),arF (by omega),arK h10]
    have w1:bF ((p:Int)+1)=((p+1:Nat):Int):=by rw[aX (by omega) (by omega)];omega
    by_cases hn:o=0∧MR out=false
    ·have happ:app out [(⟨5,[],(p:Int)⟩:aA)]=some (out++[⟨5,[],(p:Int)⟩]):=aU (by simp[wX];omega);rw[asU hn,arK rfl,happ,aj,w1];rw[step (p+1) o _ (by omega) (by omega) (by simp;omega) (by omega),J6,arK hn,Kq];rfl
    ·rw[atc hn,arF Bool.false_ne_true,w1];rw[step (p+1) o _ (by omega) (by omega) (by omega) (by omega),arF hn]
   ·have e:(((s.getD p 0).toNat:Int) !=10)=true:=asL.2 (by omega);simp only[e,arO]
    have hbl:¬((s.getD p 0).toNat=32∨(s.getD p 0).toNat=9):=fun h=>by
     rw[arK ⟨h10,by omega⟩]at hg;omega
    have h35:¬(s.getD p 0).toNat=35:=fun h=>by
     rw[arK ⟨h10,by omega⟩]at hg;omega
    rw[afg (by omega) hi,hh,scan,arF hbl,arF h35,arF h10];by_cases he:(oZ (s.getD p 0::s.drop (p+1))).2.2.2=0
    ·obtain⟨n1,n2,n3,n4⟩:=Pg he;have h5:=Wy (s.getD p 0) (s.drop (p+1));rw[sF]at n2;rw[arK he];generalize oZ (s.getD p 0::s.drop (p+1))=t at he n1 n2 h5⊢;have happ:app out [(⟨t.1,t.2.1,(p:Int)⟩:aA)]=some (out++[⟨t.1,t.2.1,(p:Int)⟩]):=aU (by simp[wX];omega);have ash:opb t.2.1 o≤o+1:=by unfold opb;(repeat' split)<;>omega
     have ek:((t.1:Int)==5)=false:=asr.2 h5;have ek2:((t.1:Int) !=5)=true:=asL.2 h5;have w1:bF ((p:Int)+(t.2.2.1:Int))=((p+t.2.2.1:Nat):Int):=by rw[aX (by omega) (by omega)];omega
     simp only[rtk,he,arO,aD,ek2,aj,happ,Xc _ _ (by omega:o<4611686018427387904),w1];have e00:((0:Int) !=0)=false:=rfl;simp only[e00,arG,arN];rw[step (p+t.2.2.1) _ _ (by omega) (by omega) (by simp;omega) (by split<;>omega),J6,Kq,ek];have hsk:=KZ (t.2.2.1-1) 0 (p+1) (if t.1=4 then opb t.2.1 o else o) false (s.drop (p+1)) (by rw[sF];omega);rw[Nat.zero_add]at hsk;rw[hsk,ato,show p+1+(t.2.2.1-1)=p+t.2.2.1 from by omega]
    ·rw[arF he];have e00:((oZ (s.getD p 0::s.drop (p+1))).2.2.2 !=0)=true:=asL.2 he;simp only[rtk,he,arN,aD,e00,arO];rfl
  ·have e:p=s.length:=by omega
   subst e;rw[asw (asx _)];simp[scan,fin]
theorem ab3{s:Str}(hs:s.length≤65536):AP s=some (fin [] (scan 0 0 0 false s)):=by
 unfold AP;rw[arF (by simp;omega),show (0:Int)=((0:Nat):Int)from rfl,Uj hs (atH _),aj];have hle:=acE false (s.drop 0);rw[sF]at hle;rw[S9 hs BIG _ 0 [] (by simp only[BIG];omega) (by omega) (by rw[←ato];exact Ul _ _) (by simp) (by omega)];rw[←ato,atl];have:=SX s 0 0 false;rw[this];rfl
theorem ZG(s:Str):AP s=oD s:=by
 rcases asQ 65536 s.length with h|h
 ·unfold AP oD;rw[arK (by simp;omega),arK (by simp;omega)]
 ·rw[TV h,ab3 h]
theorem SV:∀(l:Str) (k p o:Nat) (nl:Bool),(scan k p o nl l).1.length≤l.length
 | [],k,p,o,nl=>by cases k<;>simp[scan]
 | c::r,k+1,p,o,nl=>by rw[scan];have:=SV r k (p+1) o nl;simp only[ase];omega
 | c::r,0,p,o,nl=>by
  have h1:=SV r;rw[scan]
  repeat' split
  all_goals simp only[ase,atq]
  all_goals first|omega|(have:=h1 0 (p+1) o nl;omega)|(have:=h1 0 (p+1) o true;omega)|(have:=h1 (span uH r) (p+1) o nl;omega)|skip
  all_goals (have:=h1 ((oZ (c::r)).2.2.1-1) (p+1) (if (oZ (c::r)).1=4 then opb (oZ (c::r)).2.1 o else o) false;simp_all)
theorem alR(l:Str):(fin [] (scan 0 0 0 false l)).1.length≤l.length:=by
 have:=SV l 0 0 0 false;unfold fin;split<;>simp_all
end Go.Ft
namespace Go.Ft
open Go
attribute [local congr] eO
theorem abU:∀(r:Str) (k:Nat) (b:Str) (n:Nat),(txt k b n r).1.length≤4096
 | [],k,b,n=>by cases k<;>simp[txt]
 | c::r,k+1,b,n=>by rw[txt];exact abU r k b n
 | c::r,0,b,n=>by
  rw[txt];split
  ·split
   ·simp
   ·simp only;omega
  ·split
   ·exact abU r _ _ _
   ·simp
theorem akJ:∀l:Str,(oZ l).2.1.length≤l.length+4096
 | []=>by simp[oZ]
 | c::r=>by
  have:=abU r 0 [] 1;unfold oZ;simp only
  repeat' split
  all_goals simp only[atq,List.length_take]
  all_goals omega
theorem Pq:∀(l:Str) (k p o:Nat) (nl:Bool),∀t∈(scan k p o nl l).1,t.text.length≤l.length+4096
 | [],k,p,o,nl,t,ht=>by cases k<;>simp[scan]at ht
 | c::r,k+1,p,o,nl,t,ht=>by rw[scan]at ht;have:=Pq r k (p+1) o nl t ht;simp only[ase];omega
 | c::r,0,p,o,nl,t,ht=>by
  have h1:=Pq r;have h2:=akJ (c::r);simp only[ase]at h2⊢;rw[scan]at ht;split at ht
  ·have:=h1 _ _ _ _ t ht;omega
  ·split at ht
   ·have:=h1 _ _ _ _ t ht;omega
   ·split at ht
    ·split at ht
     ·simp only[asG]at ht;rcases ht with rfl|ht
      ·simp
      ·have:=h1 _ _ _ _ t ht;omega
     ·have:=h1 _ _ _ _ t ht;omega
    ·split at ht
     ·simp only[asG]at ht;rcases ht with rfl|ht
      ·exact h2
      ·have:=h1 _ _ _ _ t ht;omega
     ·simp at ht
theorem toks(s:Str):∃ts a e,oD s=some (ts,a,e)∧AP s=some (ts,a,e)∧DY ts:=by
 rw[ZG];rcases asQ 65536 s.length with h|h
 ·unfold oD;rw[arK (by simp;omega)];exact⟨_,_,_,rfl,rfl,by simp[DY]⟩
 ·rw[TV h];have hl:=alR s;refine⟨(fin [] (scan 0 0 0 false s)).1,(fin [] (scan 0 0 0 false s)).2.1,(fin [] (scan 0 0 0 false s)).2.2,rfl,rfl,by omega,fun t ht=>?_⟩
  have hm:t∈(scan 0 0 0 false s).1:=by
   unfold fin at ht;split at ht
   ·simpa using ht
   ·simp at ht
  have:=Pq s 0 0 0 false t hm;omega
def zeroE:ak:=ak.mk 0 ([]:Str) (ah.mk 0 false 0 ([]:Str) [] []) [] []
theorem akL{ts:List aA}(h:DY ts):∃(e:ak) (j:Nat) (c:Int),Cg ts=some (e,(j:Int),c)∧Tt ts=some (e,(j:Int),c)∧j≤ts.length∧(c=0→xval e=0∧e.bulk≤137438953472)∧(c≠0→e=zeroE):=by
 have hN:=h.1;unfold Cg Tt FM;rcases ajf h with⟨e,j,g1,g2,gb,gP,gR⟩|⟨j,c,x,g1,g2,gc,gP,gR⟩
 ·have hbk:e.bulk≤137438953472:=by omega
  obtain⟨v1,v2⟩:=RN (e:=e) (by omega);rw[gP,gR,gW,aD,aD];simp only[Od,arG,arN];rw[v1,v2,aj];by_cases hv:xval e=0
  ·rw[arF (by simpa using hv)];exact⟨e,j,0,rfl,rfl,g2,fun _=>⟨hv,hbk⟩,fun h=>absurd rfl h⟩
  ·rw[arK (by simpa using hv)];exact⟨zeroE,0,xval e,rfl,rfl,atH _,fun h=>absurd h hv,fun _=>rfl⟩
 ·rw[gP,gR,fO,aD,aD];simp only[TN gc,arO];exact⟨zeroE,j,c,rfl,rfl,g2,fun h=>absurd h gc,fun _=>rfl⟩
theorem ah8(s:Str):∃(e:ak) (a c:Int),zI s=some (e,a,c)∧Py s=some (e,a,c)∧(c=0→xval e=0∧e.bulk≤137438953472):=by
 obtain⟨ts,a,c,l1,l2,hts⟩:=toks s;unfold zI Py;rw[l1,l2,aD,aD];by_cases hc:c=0
 ·subst hc;simp only[Od,arG,arN];obtain⟨e,j,c,t1,t2,hj,t3,t4⟩:=akL hts;rw[t1,t2,aD,aD];by_cases hc:c=0
  ·subst hc;have e0:((0:Int)==0)=true:=rfl;simp only[Od,e0,as6,arG,arN,arO];by_cases hlt:j<ts.length
   ·have e1:decide ((j:Int)<(ts.length:Int))=true:=asU (by omega);have e2:((j:Int)==(ts.length:Int))=false:=by rw[asr];omega
    simp only[e1,e2,arO,arG,arN,mF hlt,aj];exact⟨_,_,_,rfl,rfl,fun h=>by cases h⟩
   ·have e1:decide ((j:Int)<(ts.length:Int))=false:=atc (by omega);have e2:((j:Int)==(ts.length:Int))=true:=by rw[ar4];omega
    simp only[e1,e2,arO,arG,arN];exact⟨e,0,0,rfl,rfl,t3⟩
  ·have e0:(c==0)=false:=by simpa using hc
   simp only[TN hc,e0,ati,arG,arN,arO,Dr];by_cases hlt:j<ts.length
   ·have e1:decide ((j:Int)<(ts.length:Int))=true:=asU (by omega);simp only[e1,arO,mF hlt,aj];exact⟨_,_,_,rfl,rfl,fun h=>absurd h hc⟩
   ·have e1:decide ((j:Int)<(ts.length:Int))=false:=atc (by omega);simp only[e1,arG,arN,aj];exact⟨_,_,_,rfl,rfl,fun h=>absurd h hc⟩
 ·simp only[TN hc,arO];exact⟨_,_,_,rfl,rfl,fun h=>absurd h hc⟩
end Go.Ft
namespace Go.Ft
open Go
attribute [local congr] eO
theorem arH{i:Nat}(h:i<4611686018427387000):bF (bF ((i:Int)+1)+1)=((i+2:Nat):Int):=by rw[mD (by omega)];exact mD (i:=i+1) (by omega)
theorem Ym{s:Str}(hs:s.length≤65536):∀(n i k k':Nat),s.length+2≤n+i→i≤s.length+1→n<k→n<k'→
  ∃a b:Nat,mU s k (i:Int)=some (a:Int)∧w9 s k' (i:Int)=some (b:Int)∧((a=b∧i<a∧a≤s.length)∨(a=s.length∧s.length<b∧b≤s.length+3))
 | n,i,0,k',_,_,h,_=>by omega
 | n,i,k+1,0,_,_,_,h=>by omega
 | 0,i,k+1,k'+1,h1,h2,_,_=>by omega
 | n+1,i,k+1,k'+1,h1,h2,h3,h4=>by
  rw[mU,w9];by_cases hi:i<s.length
  ·have e1:decide ((i:Int)<(s.length:Int))=true:=asU (by omega);simp only[e1,arO,mF hi,aj];generalize s[i]=c;by_cases c92:c.toNat=92
   ·have e2:((c.toNat:Int)==92)=true:=by rw[ar4];omega
    have e3:((c.toNat:Int) !=34)=true:=by rw[asL];omega
    simp only[e2,e3,arO];rw[arH (by omega)];obtain⟨a,b,q1,q2,q3⟩:=Ym hs n (i+2) k k' (by omega) (by omega) (by omega) (by omega);exact⟨a,b,q1,q2,by omega⟩
   ·have e2:((c.toNat:Int)==92)=false:=by rw[asr];omega
    by_cases c34:c.toNat=34
    ·have e3:((c.toNat:Int)==34)=true:=by rw[ar4];omega
     have e4:((c.toNat:Int) !=34)=false:=by rw[bne_eq_false_iff_eq];omega
     simp only[e2,e3,e4,arO,arG,arN];exact⟨i+1,i+1,by rw[mD (by omega)],by rw[mD (by omega)],.inl ⟨rfl,by omega,by omega⟩⟩
    ·have e3:((c.toNat:Int)==34)=false:=by rw[asr];omega
     have e4:((c.toNat:Int) !=34)=true:=by rw[asL];omega
     simp only[e2,e3,e4,arO,arG,arN];rw[mD (by omega)];obtain⟨a,b,q1,q2,q3⟩:=Ym hs n (i+1) k k' (by omega) (by omega) (by omega) (by omega);exact⟨a,b,q1,q2,by omega⟩
  ·have e1:decide ((i:Int)<(s.length:Int))=false:=atc (by omega);simp only[e1,arG,arN,aj];exact⟨s.length,i+1,rfl,by rw[mD (by omega)],.inr ⟨rfl,by omega,by omega⟩⟩
theorem Qh{s:Str}(hs:s.length≤65536):∀(n i k k':Nat) (o:Int),s.length+1≤n+i→n<k→n<k'→i≤s.length+4→
  ∃r:Int,iy s k (i:Int) o=some r∧lI s k' (i:Int) o=some r∧(r=-1∨∃j:Nat,r=j∧i≤j∧j<s.length)
 | n,i,0,k',o,_,h,_,_=>by omega
 | n,i,k+1,0,o,_,_,h,_=>by omega
 | n,i,k+1,k'+1,o,h1,h3,h4,h5=>by
  rw[iy,lI];by_cases hi:i<s.length
  ·obtain⟨n,rfl⟩:∃m,n=m+1:=⟨n-1,by omega⟩;have e1:decide ((i:Int)<(s.length:Int))=true:=asU (by omega);simp only[e1,arO,mF hi,aj];generalize s[i]=c;have w1:bF ((i:Int)+1)=((i+1:Nat):Int):=mD (by omega)
   have next:∀o:Int,∃r:Int,iy s k (bF ((i:Int)+1)) o=some r∧lI s k' (bF ((i:Int)+1)) o=some r∧(r=-1∨∃j:Nat,r=j∧i≤j∧j<s.length):=fun o=>by
    rw[w1];obtain⟨r,q1,q2,q3⟩:=Qh hs n (i+1) k k' o (by omega) (by omega) (by omega) (by omega);refine⟨r,q1,q2,?_⟩;rcases q3 with q3|⟨j,q3,q4,q5⟩
    ·exact .inl q3
    ·exact .inr ⟨j,q3,by omega,q5⟩
   by_cases c34:((c.toNat:Int)==34)=true
   ·simp only[c34,arO,BF,Tn];rw[w1];have hB:=gX;obtain⟨a,b,q1,q2,q3⟩:=Ym hs (s.length+2) (i+1) BIG BIG (by omega) (by omega) (by omega) (by omega);rw[q1,q2,aj,aj];rcases q3 with⟨q3,q4,q5⟩|⟨q3,q4,q5⟩
    ·subst q3;obtain⟨r,p1,p2,p3⟩:=Qh hs n a k k' o (by omega) (by omega) (by omega) (by omega);refine⟨r,p1,p2,?_⟩;rcases p3 with p3|⟨j,p3,p4,p5⟩
     ·exact .inl p3
     ·exact .inr ⟨j,p3,by omega,p5⟩
    ·obtain⟨k,rfl⟩:∃q,k=q+1:=⟨k-1,by omega⟩;obtain⟨k',rfl⟩:∃q,k'=q+1:=⟨k'-1,by omega⟩;rw[iy,lI,arF (by simp;omega),arF (by simp;omega)];exact⟨-1,rfl,rfl,.inl rfl⟩
   ·have c34:((c.toNat:Int)==34)=false:=by simpa using c34
    simp only[c34,arG,arN];by_cases al0:((c.toNat:Int)==123)=true
    ·simp only[al0,arO];exact next _
    ·have al0:((c.toNat:Int)==123)=false:=by simpa using al0
     simp only[al0,arG,arN];by_cases alZ:((c.toNat:Int)==125)=true
     ·simp only[alZ,arO];by_cases ho:(o==0)=true
      ·simp only[ho,arO];exact⟨i,rfl,rfl,.inr ⟨i,rfl,asx _,hi⟩⟩
      ·have ho:(o==0)=false:=by simpa using ho
       simp only[ho,arG,arN];exact next _
     ·have alZ:((c.toNat:Int)==125)=false:=by simpa using alZ
      simp only[alZ,arG,arN];exact next _
  ·have e1:decide ((i:Int)<(s.length:Int))=false:=atc (by omega);simp only[e1,arG,arN];exact⟨-1,rfl,rfl,.inl rfl⟩
theorem ajm{s:Str}(hs:s.length≤65536){i:Nat}(hi:i≤s.length+4):∃r:Int,zS s (i:Int)=some r∧QS s (i:Int)=some r∧(r=-1∨∃j:Nat,r=j∧i≤j∧j<s.length):=by
 have hB:=gX;exact Qh hs (s.length+1) i BIG BIG 0 (by omega) (by omega) (by omega) hi
end Go.Ft
namespace Go.Ft
open Go
attribute [local congr] eO
def ZE(t:Str):aS:=aS.mk t false zeroE
def JJ(ps:List aS)(t:Str):List aS:=if t=[]then ps else ps++[ZE t]
def aeB(ps:List aS):Prop:=ps=[]∨∃l p,ps=l++[p]∧p.VG=true
theorem aaQ{ps:List aS}{t:Str}(hp:ps.length≤1048576):kY ps t=some (JJ ps t):=by
 have hL:wX=4294967296:=rfl;unfold kY JJ;cases t with
 | nil=>rfl
 | cons c r=>
  rw[arK (asU (by simp only[ase];omega)),arF (by simp),aU (by simp;omega)];rfl
theorem ag7{ps:List aS}{t:Str}(hc:aeB ps)(hp:ps.length≤1048576)(ht:t.length≤1048576)(c:UInt8):JK (JJ ps t) c=some (JJ ps (t++[c])):=by
 have hL:wX=4294967296:=rfl;unfold JK;cases t with
 | nil=>
  have hr:JJ ps []=ps:=rfl;rw[hr,arK (by omega)]
  have h1:(((ps.length:Int)==0)||H9 ps)=true:=by
   rcases hc with rfl|⟨l,p,rfl,hpi⟩
   ·rfl
   ·simp[H9,hpi]
  rw[arK h1,aU (by simp;omega)];rfl
 | cons d r=>
  have hr:JJ ps (d::r)=ps++[ZE (d::r)]:=rfl;have hr2:JJ ps ((d::r)++[c])=ps++[ZE ((d::r)++[c])]:=rfl;simp only[ase]at ht;rw[hr,hr2,arK (by simp;omega),arF (by simp[H9,ZE];omega)];have e1:H8 (ps++[ZE (d::r)])=d::r:=by simp[H8,ZE]
  rw[e1,aU (by simp;omega),aj];simp[QO,ZE]
theorem apK(s:Str)(i:Nat)(hi:i<s.length)(hs:s.length≤1048576)(a b:UInt8):strings_HasPrefix (s.drop i) [a,b]=some ((s[i]==a)&&(s[i+1]?==some b)):=by
 unfold strings_HasPrefix nJ;rw[ar0 hi];by_cases h1:i+1<s.length
 ·rw[ar0 h1,asb h1];rw[arK (asU (by simp only[ase,atq];omega))]
  have e:sl (s[i]::s[i+1]::s.drop (i+1+1)) 0 ((([a,b]:Str).length:Nat):Int)=some [s[i],s[i+1]]:=by
   rw[bI (by omega) (by simp) (by simp only[ase,atq];omega)];rfl
  rw[e,aj];generalize s[i]=x;generalize s[i+1]=y;by_cases hx:x=a<;>by_cases hy:y=b<;>simp[hx,hy]
 ·rw[List.drop_of_length_le (by omega),ata (by omega),arF (by simp)];simp
theorem Z9(ps:List aS)(t:Str):(JJ ps t).length≤ps.length+1:=by unfold JJ;split<;>simp
def Mj(p:aS):Prop:=(p.VG=true→p.text=[]∧xval p.expr=0∧p.expr.bulk≤137438953472)∧(p.VG=false→p.text≠[]∧p.expr=zeroE∧p.text.length≤4096)
theorem WY{ps:List aS}{t:Str}(htl:t.length≤4096)(h:∀p∈ps,Mj p):∀p∈JJ ps t,Mj p:=by
 intro p hp;unfold JJ at hp;split at hp
 ·exact h p hp
 ·rename_i ht;rcases atG.1 hp with hp|hp
  ·exact h p hp
  ·cases atw.1 hp;exact⟨fun h=>by simp[ZE]at h,fun _=>⟨ht,rfl,htl⟩⟩
theorem MK{s:Str}(hs:s.length≤4096):∀(n i k k':Nat) (ps:List aS) (t:Str),s.length+1≤n+i→n<k→n<k'→i≤s.length→aeB ps→ps.length≤2*i→t.length≤i→(∀p∈ps,Mj p)→
  ∃(l:List aS) (a c:Int),kR s k (i:Int) ps t=some (l,a,c)∧tu s k' (JJ ps t) (i:Int)=some (l,a,c)∧(∀p∈l,Mj p)∧l.length≤10000∧(c≠0→l=[])
 | n,i,0,k',ps,t,_,h,_,_,_,_,_,_=>by omega
 | n,i,k+1,0,ps,t,_,_,h,_,_,_,_,_=>by omega
 | n,i,k+1,k'+1,ps,t,h1,h2,h3,hi,hcl,hps,ht,hg=>by
  have hL:wX=4294967296:=rfl;rw[kR,tu];by_cases hlt:i<s.length
  ·obtain⟨n,rfl⟩:∃m,n=m+1:=⟨n-1,by omega⟩;have e1:decide ((i:Int)<(s.length:Int))=true:=asU (by omega);have w1:bF ((i:Int)+1)=((i+1:Nat):Int):=mD (by omega);have w2:bF ((i:Int)+2)=((i+2:Nat):Int):=by rw[aX (by omega) (by omega)];omega
   simp only[e1,arO,mF hlt,aj];rw[sZ (by omega),aj,apK s i hlt (by omega),aj]
   have ZQ:∀(c:UInt8) (j:Nat),i<j→j≤i+2→j≤s.length→∃(l:List aS) (a c1:Int),(au (app t [c]) fun ZJ=>kR s k (j:Int) ps ZJ)=some (l,a,c1)∧(au (JK (JJ ps t) c) fun l2=>tu s k' l2 (j:Int))=some (l,a,c1)∧(∀p∈l,Mj p)∧l.length≤10000∧(c1≠0→l=[]):=fun c j hj1 hj2 hj3=>by
    rw[aU (by simp;omega),aj,ag7 hcl (by omega) (by omega) c,aj];exact MK hs n j k k' ps (t++[c]) (by omega) (by omega) (by omega) hj3 hcl (by omega) (by simp;omega) hg
   by_cases hA:s[i]=36∧s[i+1]?=some 36
   ·obtain⟨a1,a2⟩:=hA;obtain⟨hlt1,a3⟩:=ate.1 a2
    have c1:(((s[i].toNat:Int) !=36)||(decide ((s.length:Int)≤bF ((i:Int)+1))))=false:=by
     rw[w1,a1];simp;omega
    rw[arK (by simp[a1,a2]),arF (by rw[c1];simp),w1,w2];simp only[mF hlt1,aj,a3];have e36:(((36:UInt8).toNat:Int) !=36)=false:=by decide
    have asM:(((36:UInt8).toNat:Int)==36)=true:=by decide
    simp only[e36,asM,arG,arN,arO,aj];exact ZQ 36 (i+2) (by omega) (by omega) (by omega)
   ·have p36:((s[i]==36)&&(s[i+1]?==some 36))=false:=by
     cases hx:((s[i]==36)&&(s[i+1]?==some 36))with
     | false=>rfl
     | true=>simp only[arV,ar4]at hx;exact absurd hx hA
    rw[p36,arF (by simp),apK s i hlt (by omega),aj];by_cases hB:s[i]=36∧s[i+1]?=some 123
    ·obtain⟨a1,a2⟩:=hB;obtain⟨hlt1,a3⟩:=ate.1 a2
     have c1:(((s[i].toNat:Int) !=36)||(decide ((s.length:Int)≤bF ((i:Int)+1))))=false:=by
      rw[w1,a1];simp;omega
     rw[arK (by simp[a1,a2]),arF (by rw[c1];simp),w1,w2];simp only[mF hlt1,aj,a3];have e1:(((123:UInt8).toNat:Int) !=36)=true:=by decide
     have e2:(((123:UInt8).toNat:Int)==36)=false:=by decide
     have e3:(((123:UInt8).toNat:Int) !=123)=false:=by decide
     simp only[e1,e2,e3,arG,arN,arO,aj];obtain⟨r,q1,q2,q3⟩:=ajm (s:=s) (by omega) (i:=i+2) (by omega);rw[q1,q2,aj,aj];rcases q3 with q3|⟨j,q3,q4,q5⟩
     ·subst q3;exact⟨[],(i:Int),4,rfl,rfl,by simp,by simp,fun _=>rfl⟩
     ·subst q3;have d0:decide ((j:Int)<0)=false:=atc (by omega);have hsl:sl s ((i+2:Nat):Int) (j:Int)=some ((s.take j).drop (i+2)):=by rw[bI (by omega) (by omega) (by omega)];rfl
      simp only[d0,arG,arN,hsl,aj];obtain⟨e,a,c,p1,p2,p3⟩:=ah8 ((s.take j).drop (i+2));rw[p1,p2,aD,aD];by_cases hc:c=0
      ·subst hc;have hr:=Z9 ps t;have wj:bF ((j:Int)+1)=((j+1:Nat):Int):=mD (by omega);simp only[Od,arG,arN];rw[aaQ (by omega),aj,aU (by simp;omega),aj,aj,wj];have hrp:JJ (JJ ps t++[aS.mk ([]:Str) true e]) []=JJ ps t++[aS.mk ([]:Str) true e]:=rfl
       have:=MK hs n (j+1) k k' (JJ ps t++[aS.mk ([]:Str) true e]) [] (by omega) (by omega) (by omega) (by omega) (.inr ⟨_,_,rfl,rfl⟩) (by simp;omega) (by simp) (by
        intro p hp;rcases atG.1 hp with hp|hp
        ·exact WY (by omega) hg p hp
        ·cases atw.1 hp
         exact⟨fun _=>⟨rfl,p3 rfl⟩,fun h=>by cases h⟩)
       rw[hrp]at this;exact this
      ·simp only[TN hc,arO];exact⟨[],_,c,rfl,rfl,by simp,by simp,fun _=>rfl⟩
    ·have arT:((s[i]==36)&&(s[i+1]?==some 123))=false:=by
      cases hx:((s[i]==36)&&(s[i+1]?==some 123))with
      | false=>rfl
      | true=>simp only[arV,ar4]at hx;exact absurd hx hB
     have hb1:(if (((s[i].toNat:Int) !=36)||(decide ((s.length:Int)≤bF ((i:Int)+1))))=true then some true else au (idx s (bF ((i:Int)+1))) fun x2=>if ((x2.toNat:Int) !=36)=true then au (idx s (bF ((i:Int)+1))) fun x3=>some ((x3.toNat:Int) !=123)else some false)=some true:=by
      rw[w1];by_cases a1:s[i]=36
      ·by_cases hlt1:i+1<s.length
       ·have n36:¬s[i+1]=36:=fun h=>hA ⟨a1,by rw[asb hlt1,h]⟩;have n123:¬s[i+1]=123:=fun h=>hB ⟨a1,by rw[asb hlt1,h]⟩
        have m36:((s[i+1].toNat:Int) !=36)=true:=by
         rw[asL];intro h;exact n36 (as0.1 (show s[i+1].toNat=36 by omega))
        have ar1:((s[i+1].toNat:Int) !=123)=true:=by
         rw[asL];intro h;exact n123 (as0.1 (show s[i+1].toNat=123 by omega))
        rw[arF (by rw[a1];simp;omega)];simp only[mF hlt1,aj,m36,ar1,arO]
       ·rw[arK (by simp;right;omega)]
      ·have m36:((s[i].toNat:Int) !=36)=true:=by
        rw[asL];intro h;exact a1 (as0.1 (show s[i].toNat=36 by omega))
       rw[arK (by rw[m36];simp)]
     rw[arT,arF (by simp),hb1,aj,arK rfl,w1];exact ZQ s[i] (i+1) (by omega) (by omega) (by omega)
  ·have e1:decide ((i:Int)<(s.length:Int))=false:=atc (by omega);have hr:=Z9 ps t;simp only[e1,arG,arN];rw[aaQ (by omega),aj];exact⟨_,_,_,rfl,rfl,WY (by omega) hg,by omega,fun h=>absurd rfl h⟩
end Go.Ft
namespace Go.Ft
open Go
attribute [local congr] eO
theorem parts_eq(s:Str):∃(l:List aS) (a c:Int),oF s=some (l,a,c)∧W_ s=some (l,a,c)∧(∀p∈l,Mj p)∧l.length≤10000∧(c≠0→l=[]):=by
 unfold oF W_;rcases asQ 4096 s.length with h|h
 ·rw[arK (asU (by omega)),arK (asU (by omega))];exact⟨[],0,3,rfl,rfl,by simp,by simp,fun _=>rfl⟩
 ·rw[arF (by simp;omega),arF (by simp;omega)];have hB:=gX;exact MK h (s.length+1) 0 BIG BIG [] [] (by omega) (by omega) (by omega) (atH _) (.inl rfl) (by simp) (by simp) (by simp)
end Go.Ft
namespace Go.Ft
open Go
attribute [local congr] eO
theorem arh{a:ah}(h:VV a):(ae3 a).length≤4096:=by
 have l:=mJ h.1;unfold ae3;split
 ·simp
 ·split
  ·omega
  ·split
   ·split<;>simp
   ·have:=aiG (n:=a.eB) ⟨by omega,by omega⟩;omega
end Go.Ft
namespace Go.Ft
open Go
attribute [local congr] eO
def kH:Ty→Ty→Bool
 | .leaf a,.leaf b=>((a==7)||(b==0))||(a==b)
 | .leaf a,.nest _ _=>a==7
 | .nest _ _,.leaf b=>b==0
 | .nest a x,.nest b y=>(a==b)&&kH x y
theorem adJ(a:Ty):kH a (sc 0)=true:=by cases a<;>simp[kH,sc]
theorem BS(b:Ty):kH (sc 7) b=true:=by cases b<;>simp[kH,sc]
theorem EA:∀a:Ty,kH a a=true
 | .leaf x=>by simp[kH]
 | .nest x s=>by simp[kH,EA s]
theorem WE:∀ {a b c:Ty},a.wf→b.wf→c.wf→kH a b=true→kH b c=true→kH a c=true
 | .leaf x,.leaf y,.leaf z,ha,hb,hc,h1,h2=>by
  simp only[kH,asq,ar4]at *;omega
 | .leaf x,.leaf y,.nest z t,ha,hb,hc,h1,h2=>by
  simp only[kH,asq,ar4]at *;omega
 | .leaf x,.nest y s,.leaf z,ha,hb,hc,h1,h2=>by
  simp only[kH,asq,ar4]at *;omega
 | .leaf x,.nest y s,.nest z t,ha,hb,hc,h1,h2=>by
  simp only[kH,ar4,arV]at *;omega
 | .nest x r,.leaf y,.leaf z,ha,hb,hc,h1,h2=>by
  simp only[kH,asq,ar4]at *;omega
 | .nest x r,.leaf y,.nest z t,ha,hb,hc,h1,h2=>by
  simp only[kH,ar4]at *;omega
 | .nest x r,.nest y s,.leaf z,ha,hb,hc,h1,h2=>by
  simp only[kH,ar4]at *;exact h2
 | .nest x r,.nest y s,.nest z t,ha,hb,hc,h1,h2=>by
  simp only[kH,arV,ar4]at *;exact⟨h1.1.trans h2.1,WE ha.2 hb.2 hc.2 h1.2 h2.2⟩
theorem JG:∀(a b c:Ty),a.wf→b.wf→c.wf→kH (jy a b) c=(kH a c&&kH b c)
 | .leaf x,.leaf y,c,ha,hb,hc=>by
  rw[jy];by_cases h1:x=7
  ·subst h1;simp[show kH (.leaf 7) c=true from BS c]
  ·by_cases h2:y=7
   ·subst h2;simp[h1,show kH (.leaf 7) c=true from BS c]
   ·by_cases h3:x=y
    ·subst h3;simp[h1]
    ·simp only[h1,h2,h3,arN];cases c with
     | leaf z=>
      rw[asZ];simp only[kH,asq,ar4,arV];omega
     | nest z t=>
      rw[asZ];simp only[kH,ar4,arV];omega
 | .leaf x,.nest y t,c,ha,hb,hc=>by
  rw[jy];have hy:=hb.1;by_cases h1:x=7
  ·subst h1;simp[show kH (.leaf 7) c=true from BS c]
  ·simp only[h1,arN];cases c with
   | leaf z=>
    rw[asZ];simp only[kH,asq,ar4,arV];omega
   | nest z u=>
    rw[asZ];simp only[kH,ar4,arV];omega
 | .nest x s,.leaf y,c,ha,hb,hc=>by
  rw[jy];by_cases h1:y=7
  ·subst h1;simp[show kH (.leaf 7) c=true from BS c]
  ·simp only[h1,arN];cases c with
   | leaf z=>
    rw[asZ];simp only[kH,asq,ar4,arV];omega
   | nest z u=>
    rw[asZ];simp only[kH,ar4,arV];omega
 | .nest x s,.nest y t,c,ha,hb,hc=>by
  rw[jy];by_cases h1:x=y
  ·subst h1;simp only[arO];cases c with
   | leaf z=>simp[kH]
   | nest z u=>
    rw[kH,kH,kH,JG s t u ha.2 hb.2 hc.2];cases (x==z)<;>simp
  ·simp only[h1,arN];cases c with
   | leaf z=>
    rw[asZ];have:=ha.1;simp only[kH,asq,ar4,arV];omega
   | nest z u=>
    rw[asZ];simp only[kH,ar4,arV];omega
def iI:Ty→Bool
 | .leaf k=>k !=0
 | .nest _ t=>iI t
theorem aiT:∀(n:Nat) (a:Ty),a.wf→a.dep≤n→EF n a.api=some (iI a)
 | 0,a,_,h=>by have:=a.OQ;omega
 | n+1,.leaf x,ha,h=>by
  rw[EF,MB,iI];simp only[Ty.api];by_cases hx:x=0
  ·subst hx;rfl
  ·simp[hx]
 | n+1,.nest x s,ha,h=>by
  have k1:(x !=0)=true:=by simp only[asL];rcases ha.1 with h|h<;>omega
  simp only[Ty.dep]at h;rw[EF,MB,iI];simp only[Ty.api,k1,arO];simp[idx,aiT n s ha.2 (by omega)]
theorem Oz:∀ {a b:Ty},a.wf→b.wf→iI a=true→dA a b=true→kH a b=true
 | .leaf x,.leaf y,ha,hb,h1,h2=>by
  simp only[iI,dA,kH,asq,ar4,asL]at *;omega
 | .leaf x,.nest y t,ha,hb,h1,h2=>by
  simp only[iI,dA,kH,asq,ar4,asL]at *;omega
 | .nest x s,.leaf y,ha,hb,h1,h2=>by
  simp only[dA,kH]at *;exact h2
 | .nest x s,.nest y t,ha,hb,h1,h2=>by
  simp only[iI,dA,kH,arV,ar4]at *;exact⟨h2.1,Oz ha.2 hb.2 h1 h2.2⟩
end Go.Ft
namespace Go.Ft
open Go
attribute [local congr] eO
theorem Yd{k:Int}(h:0≤k∧k≤7∧k≠5∧k≠6):(sc k).wf:=h
theorem ad5:∀(l:List ah) (t:Ty),t.wf→(∀x∈l,(Nn x).wf)→(PO l t).wf
 | [],t,h,_=>by rw[PO];exact h
 | x::r,t,h,hl=>by
  rw[PO];exact ad5 r _ (nY t (Nn x) h (hl x (by simp))) fun y hy=>hl y (by simp[hy])
theorem ad4:∀(n:Nat) (v:ah),v.bulk≤n→(Nn v).wf
 | 0,v,h=>by have:=v.jV;omega
 | n+1,v,h=>by
  have ih:∀x∈v.aO,(Nn x).wf:=fun x hx=>ad4 n x (by have:=h_ hx;omega);rw[EM]
  repeat' split
  all_goals first
   | exact Yd (by omega)
   | exact⟨by simp,ad5 _ _ (Yd (by omega)) ih⟩
theorem acj(v:ah):(Nn v).wf:=ad4 v.bulk v (asx _)
theorem SK:∀(l:List ah) (t c:Ty),t.wf→c.wf→kH (PO l t) c=(kH t c&&l.all fun x=>kH (Nn x) c)
 | [],t,c,_,_=>by rw[PO];simp
 | x::r,t,c,ht,hc=>by
  rw[PO,SK r _ c (nY t (Nn x) ht (acj x)) hc,JG t (Nn x) c ht (acj x) hc,atZ,aud]
def jL(v:ah)(t:Ty):Prop:=kH (Nn v) t=true
theorem OE(v:ah):jL v (sc 0):=adJ _
theorem MZ{v:ah}{a b:Ty}(ha:a.wf)(hb:b.wf)(h:jL v a)(hs:kH a b=true):jL v b:=WE (acj v) ha hb h hs
theorem OC{v:ah}(h:jL v (sc 7)):False:=by
 unfold jL at h;rw[EM]at h;revert h
 repeat' split
 all_goals simp[kH,sc]
theorem rC{v:ah}{k:Int}(hk:1≤k∧k≤4)(h:jL v (sc k)):v.kind=k-1:=by
 unfold jL at h;rw[EM]at h;revert h
 repeat' split
 all_goals simp only[kH,sc,asq,ar4]
 all_goals omega
theorem xD{v:ah}(h:v.kind=1):jL v (sc 2):=by unfold jL;rw[EM];simp[h,kH,sc]
theorem OD{v:ah}(h:v.kind=2):jL v (sc 3):=by unfold jL;rw[EM];simp[h,kH,sc]
theorem GZ{v:ah}(h:v.kind=3):jL v (sc 4):=by unfold jL;rw[EM];simp[h,kH,sc]
theorem G5{v:ah}(h:v.kind=4){t:Ty}(ht:t.wf):jL v (.nest 5 t)↔∀x∈v.aO,jL x t:=by
 unfold jL;rw[EM,arF (by omega),arF (by omega),arF (by omega),arF (by omega),arK h,kH,SK _ _ _ (Yd (by omega)) ht,BS];simp
theorem aem{v:ah}(h:v.kind=5){t:Ty}(ht:t.wf):jL v (.nest 6 t)↔∀x∈v.aO,jL x t:=by
 unfold jL;rw[EM,arF (by omega),arF (by omega),arF (by omega),arF (by omega),arF (by omega),kH,SK _ _ _ (Yd (by omega)) ht,BS];simp
theorem EW{v:ah}{k:Int}{t:Ty}(h0:0≤v.kind∧v.kind≤5)(hk:k=5∨k=6)(h:jL v (.nest k t)):v.kind=k-1:=by
 unfold jL at h;rw[EM]at h;revert h
 repeat' split
 all_goals simp only[kH,sc,arV,ar4]
 all_goals omega
end Go.Ft
namespace Go.Ft
open Go
attribute [local congr] eO
def qm(c:Int):Prop:=c=1∨c=3∨c=8∨c=9∨c=11∨c=12∨c=13
def lu(p:ah × Int)(T:Ty)(free:Prop):Prop:=(p.2=0→jL p.1 T)∧(p.2≠0→qm p.2)∧(p.2=9→¬free)
theorem lu.ok{v:ah}{T:Ty}{F:Prop}(h:jL v T):lu (okV v) T F:=⟨fun _=>h,fun h=>absurd rfl h,fun h=>by cases h⟩
theorem lu.er{c:Int}{T:Ty}{F:Prop}(h0:c≠0)(h:qm c)(h9:c=9→¬F):lu (ze c) T F:=⟨fun h=>absurd h h0,fun _=>h,h9⟩
theorem lu.nine{T:Ty}{F:Prop}(h:¬F):lu (ze 9) T F:=lu.er (by decide) (by unfold qm;omega) fun _=>h
theorem lu.code{c:Int}{T:Ty}{F:Prop}(h0:c≠0)(h:qm c)(h9:c≠9):lu (ze c) T F:=lu.er h0 h fun e=>absurd e h9
theorem jN{v:ah}{t:Ty}{k:Int}(ht:t.wf)(hv:jL v t)(hc:dA t (sc k)=true)(hk:1≤k∧k≤4)(hf:iI t=true):v.kind=k-1:=
 rC hk (MZ ht (Yd (by omega)) hv (Oz ht (Yd (by omega)) hf hc))
theorem ak1{v:ah}{t:Ty}(ht:t.wf)(hv:jL v t)(hc:dA t (sc 2)=true):lu (unS [33] v) (sc 2) (iI t=true):=by
 unfold unS;rw[arK rfl];by_cases h:v.kind=1
 ·rw[arK h];exact lu.ok (xD rfl)
 ·rw[arF h];exact lu.nine fun hf=>h (by have:=jN ht hv hc (by omega) hf;omega)
theorem ak2{v:ah}{t:Ty}(ht:t.wf)(hv:jL v t)(hc:dA t (sc 3)=true):lu (unS [45] v) (sc 3) (iI t=true):=by
 unfold unS;rw[arF (by decide)];by_cases h:v.kind=2
 ·rw[arK h];exact lu.ok (OD rfl)
 ·rw[arF h];exact lu.nine fun hf=>h (by have:=jN ht hv hc (by omega) hf;omega)
theorem NG{n:Int}{F:Prop}:lu (Oq n) (sc 3) F:=by
 unfold Oq;split
 ·exact lu.ok (OD rfl)
 ·exact lu.code (by decide) (by unfold qm;omega) (by decide)
theorem ak5{a b:ah}{s t:Ty}{op:Str}(hs:s.wf)(ht:t.wf)(ha:jL a s)(hb:jL b t)(h1:dA s (sc 3)=true)(h2:dA t (sc 3)=true):lu (RD op a b) (sc 3) (iI s=true∧iI t=true):=by
 unfold RD;by_cases h:a.kind=2∧b.kind=2
 ·rw[arK h];split
  ·exact NG
  ·split
   ·exact NG
   ·split
    ·exact lu.code (by decide) (by unfold qm;omega) (by decide)
    ·split
     ·exact NG
     ·exact lu.ok (OD rfl)
 ·rw[arF h];exact lu.nine fun hf=>h ⟨by have:=jN hs ha h1 (by omega) hf.1;omega,by have:=jN ht hb h2 (by omega) hf.2;omega⟩
end Go.Ft
namespace Go.Ft
open Go
attribute [local congr] eO
theorem Ir{t:Ty}{k:Int}(h:t.wf)(hk:t.kind=k)(h5:k≠5∧k≠6):t=sc k:=by
 cases t with
 | leaf x=>simp only[Ty.kind]at hk;subst hk;rfl
 | nest x s=>simp only[Ty.kind]at hk;have:=h.1;omega
theorem yD{v:ah}{t:Ty}(hv:jL v t)(h:t.wf)(hf:iI t=true):dw t=false:=by
 cases hl:dw t with
 | false=>rfl
 | true=>
  exfalso;obtain⟨e,h07⟩:=A8 h hl;rcases h07 with h0|h7
  ·rw[e,h0]at hf;cases hf
  ·rw[e,h7]at hv;exact OC hv
theorem Ue{a b:Ty}(ha:dw a=false)(hb:dw b=false){k:Int}(hk:0≤k)(h:MV a b=k):a.kind=k∧b.kind=k:=by
 unfold MV at h;rw[ha,hb]at h;simp only[arG,arN,asT,ar4]at h;split at h
 ·rename_i e;exact⟨h,e ▸ h⟩
 ·omega
theorem akZ{a b:ah}{s t:Ty}{r:Bool}(hs:s.wf)(ht:t.wf)(ha:jL a s)(hb:jL b t)(hc:(((dw s&&dw t)||(MV s t==3))||(MV s t==4))=true):lu (Mx a b r) (sc 2) (iI s=true∧iI t=true):=by
 unfold Mx;by_cases h:(a.kind=2∧b.kind=2)∨(a.kind=3∧b.kind=3)
 ·rw[arK h];exact lu.ok (xD rfl)
 ·rw[arF h];refine lu.nine fun hf=>h ?_;have l1:=yD ha hs hf.1;have l2:=yD hb ht hf.2;rw[l1,l2]at hc;simp only[Bool.and_self,asT,asq,ar4]at hc;rcases hc with hc|hc
  ·obtain⟨k1,k2⟩:=Ue l1 l2 (by omega) hc;rw[Ir hs k1 (by omega)]at ha;rw[Ir ht k2 (by omega)]at hb;exact .inl ⟨rC (by omega) ha,rC (by omega) hb⟩
  ·obtain⟨k1,k2⟩:=Ue l1 l2 (by omega) hc;rw[Ir hs k1 (by omega)]at ha;rw[Ir ht k2 (by omega)]at hb;exact .inr ⟨rC (by omega) ha,rC (by omega) hb⟩
end Go.Ft
namespace Go.Ft
open Go
attribute [local congr] eO
theorem Xj{a b:Ty}(ha:a.wf)(hb:b.wf):kH a (jy a b)=true:=by
 have h:=JG a b (jy a b) ha hb (nY a b ha hb);rw[EA]at h;exact(arV _ _ ▸ h.symm).1
theorem Ug{a b:Ty}(ha:a.wf)(hb:b.wf):kH b (jy a b)=true:=by
 have h:=JG a b (jy a b) ha hb (nY a b ha hb);rw[EA]at h;exact(arV _ _ ▸ h.symm).2
theorem aiV{v:ah}{t:Ty}(hv:jL v t)(h4:v.kind=4)(ht:t.wf)(hk:dw t=true∨t.kind=5):(Uw t).wf∧∀x∈v.aO,jL x (Uw t):=by
 cases t with
 | leaf k=>
  have hl:dw (.leaf k)=true:=by
   rcases hk with h|h
   ·exact h
   ·simp only[Ty.kind]at h;exact absurd h ht.2.2.1
  obtain⟨e,h07⟩:=A8 ht hl;rcases h07 with h0|h7
  ·simp only[Ty.kind]at h0;subst h0;exact⟨by simpa[Uw]using ht,fun x _=>OE x⟩
  ·rw[e,h7]at hv;exact(OC hv).elim
 | nest k s=>
  have h5:k=5:=by
   rcases hk with h|h
   ·unfold dw at h;simp[Ty.kind]at h;have:=ht.1;omega
   ·exact h
  subst h5;exact⟨by simpa[Uw]using ht.2,by simpa[Uw]using (G5 h4 ht.2).1 hv⟩
theorem acA{a b:Ty}(h:(dw a&&dw b)=false){k:Int}(hk:0≤k)(hx:MV a b=k):a.kind=k∧(dw b=true∨b.kind=k)∨b.kind=k∧(dw a=true∨a.kind=k):=by
 unfold MV at hx;cases ha:dw a with
 | true=>rw[ha]at hx;exact .inr ⟨by simpa using hx,.inl rfl⟩
 | false=>
  rw[ha]at hx;simp only[arG,arN]at hx;cases hb:dw b with
  | true=>rw[hb]at hx;exact .inl ⟨by simpa using hx,.inl rfl⟩
  | false=>
   rw[hb]at hx;simp only[asT,ar4]at hx;split at hx
   ·rename_i e;exact .inl ⟨hx,.inr (e ▸ hx)⟩
   ·omega
theorem akY{a b:ah}{s t:Ty}(hs:s.wf)(ht:t.wf)(ha:jL a s)(hb:jL b t)(ka:0≤a.kind∧a.kind≤5)(kb:0≤b.kind∧b.kind≤5)(hl:(dw s&&dw t)=false){k:Int}(hk:k=3∨k=4∨k=5)(hx:MV s t=k):
  lu (Vw a b) (if k=5 then .nest 5 (jy (Uw s) (Uw t))else sc k) (iI s=true∧iI t=true):=by
 have one:=acA hl (by omega) hx
 have kind:∀ {v:ah} {u:Ty},u.wf→jL v u→(0≤v.kind∧v.kind≤5)→u.kind=k→v.kind=k-1:=by
  intro v u hu hv kv hk2;rcases hk with h|h|h
  ·rw[Ir hu hk2 (by omega)]at hv;exact rC (by omega) hv
  ·rw[Ir hu hk2 (by omega)]at hv;exact rC (by omega) hv
  ·cases u with
   | leaf x=>simp only[Ty.kind]at hk2;have:=hu.2.2.1;omega
   | nest x w=>simp only[Ty.kind]at hk2;exact(EW kv hu.1 hv).trans (by rw[hk2])
 have hab:a.kind=k-1∨b.kind=k-1:=by
  rcases one with⟨h,_⟩|⟨h,_⟩
  ·exact .inl (kind hs ha ka h)
  ·exact .inr (kind ht hb kb h)
 unfold Vw;by_cases c1:a.kind=2∧b.kind=2
 ·have:k=3:=by omega
  subst this;rw[arK c1,arF (by omega)];exact NG
 ·rw[arF c1];by_cases c2:a.kind=3∧b.kind=3
  ·have:k=4:=by omega
   subst this;rw[arK c2,arF (c:=(4:Int)=5) (by omega)];split
   ·exact lu.ok (GZ rfl)
   ·exact lu.code (by decide) (by unfold qm;omega) (by decide)
  ·rw[arF c2];by_cases c3:a.kind=4∧b.kind=4
   ·have:k=5:=by omega
    subst this;rw[arK c3,arK (c:=(5:Int)=5) rfl];split
    ·have hks:dw s=true∨s.kind=5:=by rcases one with⟨h,_⟩|⟨_,h⟩;exact .inr h;exact h
     have hkt:dw t=true∨t.kind=5:=by rcases one with⟨_,h⟩|⟨h,_⟩;exact h;exact .inr h
     obtain⟨w1,e1⟩:=aiV ha c3.1 hs hks;obtain⟨w2,e2⟩:=aiV hb c3.2 ht hkt;have wj:=nY _ _ w1 w2;refine lu.ok ((G5 (v:=Jo (a.aO++b.aO)) rfl wj).2 fun x hx'=>?_);rcases atG.1 hx' with h|h
     ·exact MZ w1 wj (e1 x h) (Xj w1 w2)
     ·exact MZ w2 wj (e2 x h) (Ug w1 w2)
    ·exact lu.code (by decide) (by unfold qm;omega) (by decide)
   ·rw[arF c3];refine lu.nine fun hf=>?_;have l1:=yD ha hs hf.1;have l2:=yD hb ht hf.2;obtain⟨k1,k2⟩:=Ue l1 l2 (by omega) hx;have m1:=kind hs ha ka k1;have m2:=kind ht hb kb k2;omega
end Go.Ft
namespace Go.Ft
open Go
attribute [local congr] eO
theorem alQ{v:ah}{k:Int}{t:Ty}(h0:0≤v.kind∧v.kind≤5)(hk:k=5∨k=6)(ht:t.wf)(hv:jL v (.nest k t)):∀x∈v.aO,jL x t:=by
 have hkk:=EW h0 hk hv;rcases hk with h|h
 ·subst h;exact(G5 (by omega) ht).1 hv
 ·subst h;exact(aem (by omega) ht).1 hv
def partT:Ty→Ty
 | .leaf k=>.leaf k
 | .nest _ t=>t
theorem ah7{v:ah}{t:Ty}(ht:t.wf)(hv:jL v t)(h0:0≤v.kind∧v.kind≤5)(hk:dw t=true∨t.kind=5∨t.kind=6):∀x∈v.aO,jL x (partT t):=by
 cases t with
 | leaf k=>
  have hl:dw (.leaf k)=true:=by
   rcases hk with h|h|h
   ·exact h
   ·simp only[Ty.kind]at h;exact absurd h ht.2.2.1
   ·simp only[Ty.kind]at h;exact absurd h ht.2.2.2
  obtain⟨e,h07⟩:=A8 ht hl;rcases h07 with h|h
  ·simp only[Ty.kind]at h;subst h;exact fun x _=>OE x
  ·rw[e,h]at hv;exact(OC hv).elim
 | nest k s=>exact alQ h0 ht.1 ht.2 hv
theorem ad3{o:Option ah}{T:Ty}{F:Prop}(h:∀x,o=some x→jL x T):lu (okO o 8) T F:=by
 cases o with
 | none=>exact lu.code (by decide) (by unfold qm;omega) (by decide)
 | some x=>exact lu.ok (h x rfl)
theorem adO{a b:ah}{s:Ty}{F:Prop}(hs:s.wf)(ha:jL a s)(ka:0≤a.kind∧a.kind≤5)(hk:dw s=true∨s.kind=5∨s.kind=6)(h9:F→(a.kind=4∧b.kind=2)∨(a.kind=5∧b.kind=3)):lu (Ry a b) (partT s) F:=by
 have hp:=ah7 hs ha ka hk;unfold Ry;by_cases c1:a.kind=4∧b.kind=2
 ·rw[arK c1];split
  ·exact ad3 fun x hx=>hp x (List.mem_of_getElem? hx)
  ·exact lu.code (by decide) (by unfold qm;omega) (by decide)
 ·rw[arF c1];by_cases c2:a.kind=5∧b.kind=3
  ·rw[arK c2];refine ad3 fun x hx=>hp x ?_;unfold Uo at hx;rw[arK c2.1]at hx;exact Uq hx
  ·rw[arF c2];exact lu.nine fun hF=>by rcases h9 hF with h|h;exact c1 h;exact c2 h
end Go.Ft
namespace Go.Ft
open Go
attribute [local congr] eO
theorem WG:∀(l:List Ty) (t c:Ty),t.wf→c.wf→(∀x∈l,x.wf)→kH (yZ t l) c=(kH t c&&l.all fun x=>kH x c)
 | [],t,c,_,_,_=>by rw[yZ];simp
 | x::r,t,c,ht,hc,h=>by
  have hx:=h x (by simp);rw[yZ,WG r _ c (nY t x ht hx) hc (fun y hy=>h y (by simp[hy])),JG t x c ht hx hc,atZ,aud]
theorem GY:∀(l:List Ty) (t:Ty),t.wf→(∀x∈l,x.wf)→(yZ t l).wf
 | [],t,h,_=>by rw[yZ];exact h
 | x::r,t,h,hl=>by rw[yZ];exact GY r _ (nY t x h (hl x (by simp))) fun y hy=>hl y (by simp[hy])
theorem abm{l:List Ty}(h:∀x∈l,x.wf):∀x∈l,kH x (yZ (sc 7) l)=true:=by
 have w:=GY l (sc 7) (Yd (by omega)) h;have e:=WG l (sc 7) (yZ (sc 7) l) (Yd (by omega)) w h;rw[EA,BS]at e;simp only[as6]at e;exact atK.1 e.symm
def fits(vs:List ah)(ts:List Ty):Prop:=vs.length=ts.length∧∀i (h1:i<vs.length) (h2:i<ts.length),jL vs[i] ts[i]
theorem Xr{vs:List ah}{ts:List Ty}(h:fits vs ts)(hw:∀x∈ts,x.wf):∀v∈vs,jL v (yZ (sc 7) ts):=by
 intro v hv;obtain⟨i,hi,rfl⟩:=List.getElem_of_mem hv;have h2:i<ts.length:=by rw[←h.1];exact hi
 exact MZ (hw _ (asv h2)) (GY ts (sc 7) (Yd (by omega)) hw) (h.2 i hi h2) (abm hw _ (asv h2))
theorem ahG{vs:List ah}{ts:List Ty}{F:Prop}(h:fits vs ts)(hw:∀x∈ts,x.wf):lu (if Al (Jo vs)≤16 then okV (Jo vs)else ze 13) (.nest 5 (yZ (sc 7) ts)) F:=by
 split
 ·exact lu.ok ((G5 (v:=Jo vs) rfl (GY ts (sc 7) (Yd (by omega)) hw)).2 (Xr h hw))
 ·exact lu.code (by decide) (by unfold qm;omega) (by decide)
theorem lu.up{p:ah × Int}{S T:Ty}{F G:Prop}(hs:S.wf)(ht:T.wf)(h:lu p S F)(hst:kH S T=true)(hF:G→F):lu p T G:=
 ⟨fun h0=>MZ hs ht (h.1 h0) hst,h.2.1,fun h9 hg=>h.2.2 h9 (hF hg)⟩
theorem lu.err{p:ah × Int}{S T:Ty}{F G:Prop}(h:lu p S F)(h0:p.2≠0)(hF:G→F):lu (ze p.2) T G:=
 lu.er h0 (h.2.1 h0) fun h9 hg=>h.2.2 h9 (hF hg)
theorem ahK{a b c:ah × Int}{s t u:Ty}{F1 F2 F3:Prop}(hs:s.wf)(ht:t.wf)(hu:u.wf)(ha:lu a s F1)(hb:lu b t F2)(hc:lu c u F3)(hk:dA s (sc 2)=true):
  lu (aa4 a b c) (jy t u) ((F1∧iI s=true)∧F2∧F3):=by
 unfold aa4;by_cases h0:a.2=0
 ·rw[arF (by simpa using h0)];by_cases h1:a.1.kind=1
  ·rw[arF (by simpa using h1)];split
   ·exact hb.up ht (nY t u ht hu) (Xj ht hu) fun h=>h.2.1
   ·exact hc.up hu (nY t u ht hu) (Ug ht hu) fun h=>h.2.2
  ·rw[arK (by simpa using h1)];exact lu.nine fun hf=>h1 (by have:=jN hs (ha.1 h0) hk (by omega) hf.1.2;omega)
 ·rw[arK (by simpa using h0)];exact ha.err h0 fun h=>h.1.1
theorem ahL{b:ah × Int}{t:Ty}{F:Prop}(ht:t.wf)(hb:lu b t F)(hk:dA t (sc 2)=true):lu (XH b) (sc 2) (F∧iI t=true):=by
 unfold XH;by_cases h0:b.2=0
 ·rw[arF (by simpa using h0)];by_cases h1:b.1.kind=1
  ·rw[arF (by simpa using h1)];exact⟨fun _=>xD h1,fun h=>absurd h0 h,fun h=>by rw[h0]at h;cases h⟩
  ·rw[arK (by simpa using h1)];exact lu.nine fun hf=>h1 (by have:=jN ht (hb.1 h0) hk (by omega) hf.2;omega)
 ·rw[arK (by simpa using h0)];exact hb.err h0 fun h=>h.1
theorem afb{n:Str}{a b:ah × Int}{s t:Ty}{F1 F2:Prop}(hs:s.wf)(ht:t.wf)(ha:lu a s F1)(hb:lu b t F2)(h1:dA s (sc 2)=true)(h2:dA t (sc 2)=true):
  lu (rR n a b) (sc 2) ((F1∧iI s=true)∧F2∧iI t=true):=by
 unfold rR;by_cases h0:a.2=0
 ·rw[arF (by simpa using h0)];by_cases hk:a.1.kind=1
  ·rw[arF (by simpa using hk)];split
   ·exact⟨fun _=>xD hk,fun h=>absurd h0 h,fun h=>by rw[h0]at h;cases h⟩
   ·exact(ahL ht hb h2).up (Yd (by omega)) (Yd (by omega)) (EA _) fun h=>h.2
  ·rw[arK (by simpa using hk)];exact lu.nine fun hf=>hk (by have:=jN hs (ha.1 h0) h1 (by omega) hf.1.2;omega)
 ·rw[arK (by simpa using h0)];exact ha.err h0 fun h=>h.1.1
end Go.Ft
namespace Go.Ft
open Go
attribute [local congr] eO
theorem GX{v:ah}{t:Ty}{k:Int}(ht:t.wf)(hv:jL v t)(kv:0≤v.kind∧v.kind≤5)(hk:k=5∨k=6)(hc:dA t (.nest k (sc 0))=true)(hf:iI t=true):v.kind=k-1:=by
 have w:(Ty.nest k (sc 0)).wf:=⟨hk,Yd (by omega)⟩;exact EW kv hk (MZ ht w hv (Oz ht w hf hc))
theorem ak4{v:ah}{t:Ty}(ht:t.wf)(hv:jL v t)(kv:0≤v.kind∧v.kind≤5)(hc:dA t (sc 4)=true∨dA t (.nest 5 (sc 0))=true∨dA t (.nest 6 (sc 0))=true):lu (LG [108,101,110] v) (sc 3) (iI t=true):=by
 unfold LG;rw[arK rfl];by_cases h:v.kind=3∨v.kind=4∨v.kind=5
 ·rw[arK h];exact lu.ok (OD rfl)
 ·rw[arF h];refine lu.nine fun hf=>h ?_;rcases hc with hc|hc|hc
  ·have:=jN ht hv hc (by omega) hf;omega
  ·have:=GX ht hv kv (.inl rfl) hc hf;omega
  ·have:=GX ht hv kv (.inr rfl) hc hf;omega
theorem Xt(l:List Str):jL (Jo (l.map mkS)) (.nest 5 (sc 4)):=by
 refine(G5 (v:=Jo (l.map mkS)) rfl (Yd (by omega))).2 fun x hx=>?_;obtain⟨s,_,rfl⟩:=atn.1 hx;exact GZ rfl
theorem ahH{v:ah}{t:Ty}(ht:t.wf)(hv:jL v t)(kv:0≤v.kind∧v.kind≤5)(hc:dA t (.nest 6 (sc 0))=true):lu (LG [107,101,121,115] v) (.nest 5 (sc 4)) (iI t=true):=by
 unfold LG;rw[arF (by decide),arK rfl];by_cases h:v.kind=5
 ·rw[arK h];exact lu.ok (Xt _)
 ·rw[arF h];exact lu.nine fun hf=>h (by have:=GX ht hv kv (.inr rfl) hc hf;omega)
theorem abZ{v:ah}{t:Ty}(ht:t.wf)(hv:jL v t)(hc:t.kind≠5∧t.kind≠6):lu (LG [115,116,114,105,110,103] v) (sc 4) (iI t=true):=by
 unfold LG;rw[arF (by decide),arF (by decide),arK rfl];by_cases h:v.kind=4∨v.kind=5
 ·rw[arK h];refine lu.nine fun hf=>?_;have hl:=yD hv ht hf;cases t with
  | leaf k=>
   unfold dw at hl;simp only[Ty.kind,asN,asr]at hl;have:=rC (v:=v) (k:=k) (by have:=ht.1;have:=ht.2.1;have:=ht.2.2;omega) hv;have:=ht.2;omega
  | nest k s=>have:=ht.1;simp only[Ty.kind]at hc;omega
 ·rw[arF h];exact lu.ok (GZ rfl)
theorem ZY{n:Str}{v:ah}{t:Ty}(ht:t.wf)(hv:jL v t)(hc:dA t (sc 4)=true)(hn:n=[108,111,119,101,114]∨n=[117,112,112,101,114]):lu (LG n v) (sc 4) (iI t=true):=by
 unfold LG;have n1:n≠[108,101,110]:=by rcases hn with rfl|rfl<;>decide
 have n2:n≠[107,101,121,115]:=by rcases hn with rfl|rfl<;>decide
 have n3:n≠[115,116,114,105,110,103]:=by rcases hn with rfl|rfl<;>decide
 rw[arF n1,arF n2,arF n3];by_cases h:v.kind=3
 ·rw[arF (by simpa using h)];rcases hn with rfl|rfl
  ·rw[arK rfl];exact lu.ok (GZ rfl)
  ·rw[arF (by decide),arK rfl];exact lu.ok (GZ rfl)
 ·rw[arK h];exact lu.nine fun hf=>h (by have:=jN ht hv hc (by omega) hf;omega)
theorem ab0{v:ah}{t:Ty}(ht:t.wf)(hv:jL v t)(hc:dA t (sc 4)=true):lu (LG [105,110,116] v) (sc 3) (iI t=true):=by
 unfold LG;rw[arF (by decide),arF (by decide),arF (by decide)];by_cases h:v.kind=3
 ·rw[arF (by simpa using h),arF (by decide),arF (by decide)];unfold afA;split
  ·exact lu.ok (OD rfl)
  ·exact lu.code (by decide) (by unfold qm;omega) (by decide)
 ·rw[arK h];exact lu.nine fun hf=>h (by have:=jN ht hv hc (by omega) hf;omega)
end Go.Ft
namespace Go.Ft
open Go
attribute [local congr] eO
theorem Yb{a b:ah}{s t:Ty}(hs:s.wf)(ht:t.wf)(ha:jL a s)(hb:jL b t)(ka:0≤a.kind∧a.kind≤5)
  (hc:dA s (.nest 5 (sc 0))=true∨(dA t (sc 4)=true∧(dA s (sc 4)=true∨dA s (.nest 6 (sc 0))=true))):lu (OU a b) (sc 2) (iI s=true∧iI t=true):=by
 unfold OU;by_cases c1:a.kind=4
 ·rw[arK c1];exact lu.ok (xD rfl)
 ·rw[arF c1];by_cases c2:a.kind=3∧b.kind=3
  ·rw[arK c2];exact lu.ok (xD rfl)
  ·rw[arF c2];by_cases c3:a.kind=5∧b.kind=3
   ·rw[arK c3];exact lu.ok (xD rfl)
   ·rw[arF c3];refine lu.nine fun hf=>?_;rcases hc with hc|⟨h1,hc|hc⟩
    ·have:=GX hs ha ka (.inl rfl) hc hf.1;omega
    ·have:=jN hs ha hc (by omega) hf.1;have:=jN ht hb h1 (by omega) hf.2;omega
    ·have:=GX hs ha ka (.inr rfl) hc hf.1;have:=jN ht hb h1 (by omega) hf.2;omega
theorem ahI{a b:ah}{s t:Ty}(hs:s.wf)(ht:t.wf)(ha:jL a s)(hb:jL b t)(ka:0≤a.kind∧a.kind≤5)(h1:dA s (.nest 5 (sc 4))=true)(h2:dA t (sc 4)=true):lu (Oo a b) (sc 4) (iI s=true∧iI t=true):=by
 have w:(Ty.nest 5 (sc 4)).wf:=⟨.inl rfl,Yd (by omega)⟩
 have key:iI s=true∧iI t=true→a.kind=4∧b.kind=3∧(a.aO.all fun x=>x.kind==3)=true:=by
  intro hf;have hfit:=MZ hs w ha (Oz hs w hf.1 h1);have k4:a.kind=4:=EW ka (.inl rfl) hfit;refine⟨k4,by have:=jN ht hb h2 (by omega) hf.2;omega,atK.2 fun x hx=>?_⟩;have:=rC (by omega) ((G5 k4 (Yd (by omega))).1 hfit x hx);simpa using this
 unfold Oo;by_cases c1:a.kind=4∧b.kind=3
 ·rw[arK c1];by_cases c2:(a.aO.all fun x=>x.kind==3)=true
  ·rw[arK c2];split
   ·exact lu.ok (GZ rfl)
   ·exact lu.code (by decide) (by unfold qm;omega) (by decide)
  ·rw[arF c2];exact lu.nine fun hf=>c2 (key hf).2.2
 ·rw[arF c1];exact lu.nine fun hf=>c1 ⟨(key hf).1,(key hf).2.1⟩
theorem afa{s t:Str}{F:Prop}:lu (X_ s t) (.nest 5 (sc 4)) F:=by
 unfold X_;split
 ·exact lu.code (by decide) (by unfold qm;omega) (by decide)
 ·split
  ·exact lu.ok (Xt _)
  ·exact lu.code (by decide) (by unfold qm;omega) (by decide)
theorem ZX{a b:ah}{s t:Ty}{F:Prop}(hs:s.wf)(ha:jL a s)(hb:jL b t):lu (if a.kind=0 then okV b else okV a) (if s.kind=1 then t else s) F:=by
 by_cases h0:a.kind=0
 ·rw[arK h0];by_cases h1:s.kind=1
  ·rw[arK h1];exact lu.ok hb
  ·rw[arF h1];have e:Nn a=sc 1:=by rw[EM,arK h0]
   have hsub:kH (sc 1) s=true:=by have:=ha;unfold jL at this;rwa [e]at this
   have:s=sc 0:=by
    cases s with
    | leaf k=>
     simp only[sc,kH,asq,ar4]at hsub;simp only[Ty.kind]at h1;have:k=0:=by omega
     subst this;rfl
    | nest k u=>simp only[sc,kH,ar4]at hsub;omega
   rw[this];exact lu.ok (OE b)
 ·rw[arF h0];by_cases h1:s.kind=1
  ·rw[Ir hs h1 (by omega)]at ha;have:=rC (by omega) ha;omega
  ·rw[arF h1];exact lu.ok ha
end Go.Ft
namespace Go.Ft
open Go
attribute [local congr] eO
theorem Wj:∀ {ks:List Str} {vs:List ah} {x:aF},x∈List.zipWith aF.mk ks vs→x.value∈vs
 | [],_,_,h=>by simp at h
 | _::_,[],_,h=>by simp at h
 | k::ks,v::vs,x,h=>by
  rw[atv,asG]at h;rcases h with rfl|h
  ·simp
  ·exact List.mem_cons_of_mem _ (Wj h)
theorem ak3{keys:List Str}{vs:List ah}{ts:List Ty}{F:Prop}(h:fits vs ts)(hw:∀x∈ts,x.wf):lu (aat (List.zipWith aF.mk keys vs)) (.nest 6 (yZ (sc 7) ts)) F:=by
 unfold aat;split
 ·exact lu.code (c:=13) (by decide) (by unfold qm;omega) (by decide)
 ·refine lu.ok ((aem (v:=Qo (kC (List.zipWith aF.mk keys vs))) rfl (GY ts (sc 7) (Yd (by omega)) hw)).2 fun x hx=>?_);obtain⟨y,hy,rfl⟩:=atn.1 hx;exact Xr h hw _ (Wj ((vX _).mem_iff.1 hy))
theorem ahJ{a b:ah}{op:Str}{F:Prop}(h:op=[61,61]∨op=[33,61]):lu (CG op a b) (sc 2) F:=by
 unfold CG;rcases h with rfl|rfl
 ·rw[arK rfl];exact lu.ok (xD rfl)
 ·rw[arF (by decide),arK rfl];exact lu.ok (xD rfl)
theorem ZW{a b:ah}{s t:Ty}{r:Bool}(hs:s.wf)(ht:t.wf)(ha:jL a s)(hb:jL b t)(h1:dA s (sc 4)=true)(h2:dA t (sc 4)=true):lu (if ¬(a.kind=3∧b.kind=3)then ze 9 else okV (Zf r)) (sc 2) (iI s=true∧iI t=true):=by
 by_cases c:a.kind=3∧b.kind=3
 ·rw[arF (by simpa using c)];exact lu.ok (xD rfl)
 ·rw[arK c];exact lu.nine fun hf=>c ⟨by have:=jN hs ha h1 (by omega) hf.1;omega,by have:=jN ht hb h2 (by omega) hf.2;omega⟩
end Go.Ft
namespace Go.Ft
open Go
attribute [local congr] eO
theorem Sd:∀ {a b:Ty},a.api=b.api→a=b
 | .leaf a,.leaf b,h=>by simp only[Ty.api,ay.mk.injEq]at h;rw[h.1]
 | .leaf a,.nest b t,h=>by simp[Ty.api]at h
 | .nest a s,.leaf b,h=>by simp[Ty.api]at h
 | .nest a s,.nest b t,h=>by
  simp only[Ty.api,ay.mk.injEq,as8,aue]at h;rw[h.1,Sd h.2]
theorem xq{a b:Ty}{p:Bool}{x:Option (ay × Bool)}(h:x=some (a.api,p))(hx:x=some (b.api,true)):b=a∧p=true:=by
 rw[h]at hx;simp only[asB,aul]at hx;exact⟨Sd hx.1.symm,hx.2⟩
theorem arZ{t T:Ty}(h:t.wf){e:ak}(he:e.kind=3)(hn:fQ e [t.api]=some (T.api,true)):T=partT t∧(dw t=true∨t.kind=6):=by
 have i0:idx [t.api] 0=some t.api:=rfl;unfold fQ at hn;simp only[he,i0,aj,(jH t).2,Ty.nD]at hn;cases t with
 | leaf k=>
  have h6:(k==6)=false:=by simp;exact h.2.2.2
  obtain⟨q1,q2⟩:=xq (a:=.leaf k) (p:=dw (.leaf k)) (by simp[Ty.kind,h6]) hn;exact⟨q1,.inl q2⟩
 | nest k s=>
  have hl:dw (.nest k s)=false:=by unfold dw;simp[Ty.kind];rcases h.1 with h|h<;>omega
  by_cases h6:k=6
  ·subst h6;obtain⟨q1,q2⟩:=xq (a:=s) (p:=true) (by simp[Ty.kind,Ty.api,idx]) hn;exact⟨q1,.inr rfl⟩
  ·obtain⟨q1,q2⟩:=xq (a:=.nest k s) (p:=false) (by simp[Ty.kind,h6,hl]) hn;cases q2
theorem arY{t i T:Ty}(h:t.wf)(hi:i.wf)(hid:i.dep≤16){e:ak}(he:e.kind=4)(hn:fQ e [t.api,i.api]=some (T.api,true)):
  T=partT t∧((t.kind=5∧dA i (sc 3)=true)∨(t.kind=6∧dA i (sc 4)=true)∨dw t=true):=by
 have i0:idx [t.api,i.api] 0=some t.api:=rfl;have i1:idx [t.api,i.api] 1=some i.api:=rfl;unfold fQ Pt at hn;simp only[he,i0,i1,aj,(jH t).2,Ty.nD,oQ hi (by omega) (tN (k:=3) (by omega)),oQ hi (by omega) (tN (k:=4) (by omega))]at hn;generalize dA i (sc 3)=n3 at *;generalize dA i (sc 4)=n4 at *;cases t with
 | leaf k=>
  have h5:(k==5)=false:=by simp;exact h.2.2.1
  have h6:(k==6)=false:=by simp;exact h.2.2.2
  obtain⟨q1,q2⟩:=xq (a:=.leaf k) (p:=dw (.leaf k)&&(n3||n4)) (by
   simp only[Ty.kind,h5,h6,arG,arN]
   cases dw (.leaf k)<;>cases n3<;>cases n4<;>simp) hn
  simp only[arV]at q2;exact⟨q1,.inr (.inr q2.1)⟩
 | nest k s=>
  rcases h.1 with h5|h6
  ·subst h5;obtain⟨q1,q2⟩:=xq (a:=s) (p:=n3) (by simp[Ty.kind,Ty.api,idx]) hn;exact⟨q1,.inl ⟨rfl,q2⟩⟩
  ·subst h6;obtain⟨q1,q2⟩:=xq (a:=s) (p:=n4) (by simp[Ty.kind,Ty.api,idx]) hn;exact⟨q1,.inr (.inl ⟨rfl,q2⟩)⟩
theorem arX{t T:Ty}(h:t.wf)(hd:t.dep≤16){e:ak}(he:e.kind=6)(hn:fQ e [t.api]=some (T.api,true)):T=(if e.name=[33]then sc 2 else sc 3)∧dA t T=true:=by
 have i0:idx [t.api] 0=some t.api:=rfl;unfold fQ at hn;simp only[he,i0,aj,(of_eq _).2.1,oQ h (by omega) (tN (k:=3) (by omega)),oQ h (by omega) (tN (k:=2) (by omega))]at hn;by_cases hop:e.name=[33]
 ·obtain⟨q1,q2⟩:=xq (a:=sc 2) (p:=dA t (sc 2)) (by simp[hop]) hn;rw[arK hop,q1];exact⟨rfl,q2⟩
 ·obtain⟨q1,q2⟩:=xq (a:=sc 3) (p:=dA t (sc 3)) (by simp[hop]) hn;rw[arF hop,q1];exact⟨rfl,q2⟩
theorem arW{a b c T:Ty}(ha:a.wf)(had:a.dep≤16)(hb:b.wf)(hbd:b.dep≤16)(hc:c.wf)(hcd:c.dep≤16){e:ak}(he:e.kind=8)(hn:fQ e [a.api,b.api,c.api]=some (T.api,true)):T=jy b c∧dA a (sc 2)=true:=by
 have i0:idx [a.api,b.api,c.api] 0=some a.api:=rfl;have i1:idx [a.api,b.api,c.api] 1=some b.api:=rfl;have i2:idx [a.api,b.api,c.api] 2=some c.api:=rfl;have j:=I4 hb hc hbd hcd;refine xq (a:=jy b c) (p:=dA a (sc 2)) ?_ hn;unfold fQ;simp[he,i0,i1,i2,j.2,oQ ha (by omega) (tN (k:=2) (by omega))]
theorem aqg{a b T:Ty}{e:ak}(he:e.kind=7)(hn:fQ e [a.api,b.api]=some (T.api,true)):nT e.name a.api b.api=some (T.api,true):=by
 have Un:fQ e [a.api,b.api]=nT e.name a.api b.api:=by unfold fQ;simp[he,idx]
 rwa [Un]at hn
theorem aoO{a b:Ty}(ha:a.wf)(had:a.dep≤16)(hb:b.wf)(hbd:b.dep≤16){op:Str}(h:op=[38,38]∨op=[124,124]):nT op a.api b.api=some ((sc 2).api,dA a (sc 2)&&dA b (sc 2)):=by
 have e:nT op a.api b.api=(au (fM 2) fun x1=>au (gG a.api 2) fun x2=>au (if x2 then gG b.api 2 else some false) fun b2=>some (x1,b2)):=by rcases h with rfl|rfl<;>rfl
 rw[e,oQ ha (by omega) (tN (k:=2) (by omega)),oQ hb (by omega) (tN (k:=2) (by omega)),(of_eq 2).2.1];simp only[aj,xP]
theorem aoP{a b:Ty}(ha:a.wf)(had:a.dep≤16)(hb:b.wf)(hbd:b.dep≤16){op:Str}(h:op=[45]∨op=[42]∨op=[47]∨op=[37]):nT op a.api b.api=some ((sc 3).api,dA a (sc 3)&&dA b (sc 3)):=by
 have e:nT op a.api b.api=(au (fM 3) fun x1=>au (gG a.api 3) fun x2=>au (if x2 then gG b.api 3 else some false) fun b2=>some (x1,b2)):=by rcases h with rfl|rfl|rfl|rfl<;>rfl
 rw[e,oQ ha (by omega) (tN (k:=3) (by omega)),oQ hb (by omega) (tN (k:=3) (by omega)),(of_eq 3).2.1];simp only[aj,xP]
theorem ajv{a b:Ty}{op:Str}(h:op=[61,61]∨op=[33,61]):nT op a.api b.api=some ((sc 2).api,true):=by rcases h with rfl|rfl<;>rfl
theorem al8{a b:Ty}{op:Str}(h:op=[60]∨op=[60,61]∨op=[62]∨op=[62,61]):nT op a.api b.api=some ((sc 2).api,((dw a&&dw b)||(MV a b==3))||(MV a b==4)):=by
 have e:nT op a.api b.api=(au (tC a.api b.api) fun Ak=>au (fM 2) fun x9=>au (gV a.api) fun Fh=>au (if Fh then gV b.api else some false) fun b4=>some (x9,((b4||(Ak==3))||(Ak==4)))):=by rcases h with rfl|rfl|rfl|rfl<;>rfl
 rw[e,(jH a).2,(jH b).2,H7,(of_eq 2).2.1];simp only[aj,xP]
theorem akR{a b T:Ty}(ha:a.wf)(had:a.dep≤16)(hb:b.wf)(hbd:b.dep≤16)(hn:K6 a.api b.api=some (T.api,true)):
  ((dw a&&dw b)=true∧T=(if a.kind=0 then a else b))∨((dw a&&dw b)=false∧∃k,(k=3∨k=4∨k=5)∧MV a b=k∧T=if k=5 then .nest 5 (jy (Uw a) (Uw b))else sc k):=by
 unfold K6 at hn;rw[(jH a).2,(jH b).2,Ty.nD]at hn;simp only[aj,xP]at hn;cases hl:(dw a&&dw b)with
 | true=>
  left;refine⟨rfl,?_⟩;rw[hl]at hn;by_cases h0:a.kind=0
  ·rw[arK h0];exact(xq (a:=a) (p:=true) (by simp[h0]) hn).1
  ·rw[arF h0];exact(xq (a:=b) (p:=true) (by simp[h0]) hn).1
 | false=>
  right;refine⟨rfl,?_⟩;rw[hl]at hn;simp only[arG,arN,H7,aj]at hn;by_cases k5:MV a b=5
  ·have ea:dw a=true∨a.kind=5:=by
    rcases acA hl (by omega) k5 with⟨h,_⟩|⟨_,h⟩
    ·exact .inr h
    ·exact h
   have eb:dw b=true∨b.kind=5:=by
    rcases acA hl (by omega) k5 with⟨_,h⟩|⟨h,_⟩
    ·exact h
    ·exact .inr h
   obtain⟨x1,x2,x3,x4⟩:=aeu ea ha had;obtain⟨y1,y2,y3,y4⟩:=aeu eb hb hbd;have j:=I4 x3 y3 (by omega) (by omega);obtain⟨q1,q2⟩:=xq (a:=.nest 5 (jy (Uw a) (Uw b))) (p:=true) (by simp[k5,x2,y2,j.2,jG,Ty.api]) hn;exact⟨5,by omega,k5,by rw[arK rfl];exact q1⟩
  ·obtain⟨q1,q2⟩:=xq (a:=sc (MV a b)) (p:=(MV a b==3)||(MV a b==4)) (by simp[k5,fM,jY,sc,Ty.api]) hn;simp only[asq,ar4]at q2;exact⟨MV a b,by omega,rfl,by rw[arF k5];exact q1⟩
theorem anZ{a:Ty}(h:a.wf)(hd:a.dep≤16):gu [108,101,110] [a.api]=some ((sc 3).api,dA a (sc 4)||dA a (.nest 5 (sc 0))||dA a (.nest 6 (sc 0))):=by
 have i4:=oQ h (by omega) (tN (k:=4) (by omega));have l5:=(lT h (uI (k:=5) (j:=0) (by omega) (by omega)).1 (by omega)).2;have l6:=(lT h (uI (k:=6) (j:=0) (by omega) (by omega)).1 (by omega)).2;rw[show gu [108,101,110] [a.api]=au (gG a.api 4) fun x3=>au (if x3 then some true else eX a.api (Ty.nest 5 (sc 0)).api) fun b1=>au (if b1 then some true else eX a.api (Ty.nest 6 (sc 0)).api) fun b2=>some ((sc 3).api,b2)from rfl,i4,l5,l6];simp only[aj,YB]
theorem Tj{name:Str}{X a:Ty}(h:a.wf)(hd:a.dep≤16)(hr:gu name [a.api]=au (gG a.api 4) fun b=>some (X.api,b)):gu name [a.api]=some (X.api,dA a (sc 4)):=by
 rw[hr,oQ h (by omega) (tN (k:=4) (by omega))];rfl
theorem afn(a:Ty):gu [115,116,114,105,110,103] [a.api]=some ((sc 4).api,(a.kind !=5)&&(a.kind !=6)):=by
 rw[show gu [115,116,114,105,110,103] [a.api]=au (if a.api.kind !=5 then some (a.api.kind !=6)else some false) fun b10=>some ((sc 4).api,b10)from rfl,Ty.nD];cases (a.kind !=5)<;>rfl
theorem ald{a:Ty}(h:a.wf)(hd:a.dep≤16):gu [107,101,121,115] [a.api]=some ((Ty.nest 5 (sc 4)).api,dA a (.nest 6 (sc 0))):=by
 have l6:=(lT h (uI (k:=6) (j:=0) (by omega) (by omega)).1 (by omega)).2;rw[show gu [107,101,121,115] [a.api]=au (eX a.api (Ty.nest 6 (sc 0)).api) fun x33=>some ((Ty.nest 5 (sc 4)).api,x33)from rfl,l6];rfl
theorem aad{a b:Ty}(h:a.wf)(hd:a.dep≤16)(hb:b.wf)(hbd:b.dep≤16):gu [99,111,110,116,97,105,110,115] [a.api,b.api]=some ((sc 2).api,dA a (.nest 5 (sc 0))||(dA b (sc 4)&&(dA a (sc 4)||dA a (.nest 6 (sc 0))))):=by
 have ia:=oQ h (by omega) (tN (k:=4) (by omega));have ib:=oQ hb (by omega) (tN (k:=4) (by omega));have l5:=(lT h (uI (k:=5) (j:=0) (by omega) (by omega)).1 (by omega)).2;have l6:=(lT h (uI (k:=6) (j:=0) (by omega) (by omega)).1 (by omega)).2
 rw[show gu [99,111,110,116,97,105,110,115] [a.api,b.api]=au (eX a.api (Ty.nest 5 (sc 0)).api) fun Fh=>au (if Fh then some true else au (gG b.api 4) fun Jj=>if Jj then
   (au (gG a.api 4) fun LA=>if LA then some true else eX a.api (Ty.nest 6 (sc 0)).api)else some false) fun b3=>some ((sc 2).api,b3)from rfl,l5,l6,ia,ib]
 simp only[aj];cases dA a (Ty.nest 5 (sc 0))<;>cases dA b (sc 4)<;>cases dA a (sc 4)<;>cases dA a (Ty.nest 6 (sc 0))<;>rfl
theorem ale{a b:Ty}(h:a.wf)(hd:a.dep≤16)(hb:b.wf)(hbd:b.dep≤16):gu [106,111,105,110] [a.api,b.api]=some ((sc 4).api,dA a (.nest 5 (sc 4))&&dA b (sc 4)):=by
 have ib:=oQ hb (by omega) (tN (k:=4) (by omega));have l5:=(lT h (uI (k:=5) (j:=4) (by omega) (by omega)).1 (by omega)).2;rw[show gu [106,111,105,110] [a.api,b.api]=au (eX a.api (Ty.nest 5 (sc 4)).api) fun Lx=>au (if Lx then gG b.api 4 else some false) fun b6=>some ((sc 4).api,b6)from rfl,l5,ib];simp only[aj,xP]
theorem Ti{name:Str}{X a b:Ty}(h:a.wf)(hd:a.dep≤16)(hb:b.wf)(hbd:b.dep≤16)(hr:gu name [a.api,b.api]=au (gG a.api 4) fun x=>au (if x then gG b.api 4 else some false) fun b=>some (X.api,b)):
  gu name [a.api,b.api]=some (X.api,dA a (sc 4)&&dA b (sc 4)):=by
 rw[hr,oQ h (by omega) (tN (k:=4) (by omega)),oQ hb (by omega) (tN (k:=4) (by omega))];simp only[aj,xP]
theorem ab6(a b:Ty):gu [100,101,102,97,117,108,116] [a.api,b.api]=some ((if a.kind=1 then b else a).api,true):=by
 rw[show gu [100,101,102,97,117,108,116] [a.api,b.api]=(if a.api.kind==1 then some (b.api,true)else some (a.api,true))from rfl,Ty.nD];by_cases h:a.kind=1<;>simp[h]
theorem ak0{n:Str}{v:ah}{t T:Ty}(hc:Bc n=1)(ht:t.wf)(hd:t.dep≤16)(hv:jL v t)(kv:0≤v.kind∧v.kind≤5)(hn:gu n [t.api]=some (T.api,true)):lu (LG n v) T (iI t=true):=by
 by_cases h1:n=[108,101,110]
 ·subst h1;obtain⟨rfl,h⟩:=xq (anZ ht hd) hn;simp only[asq]at h;exact ak4 ht hv kv (by rcases h with (h|h)|h;exact .inl h;exact .inr (.inl h);exact .inr (.inr h))
 by_cases h2:n=[108,111,119,101,114]
 ·subst h2;obtain⟨rfl,h⟩:=xq (Tj (X:=sc 4) ht hd rfl) hn;exact ZY ht hv h (.inl rfl)
 by_cases h3:n=[117,112,112,101,114]
 ·subst h3;obtain⟨rfl,h⟩:=xq (Tj (X:=sc 4) ht hd rfl) hn;exact ZY ht hv h (.inr rfl)
 by_cases h4:n=[115,116,114,105,110,103]
 ·subst h4;obtain⟨rfl,h⟩:=xq (afn t) hn;simp only[arV,asL]at h;exact abZ ht hv h
 by_cases h5:n=[105,110,116]
 ·subst h5;obtain⟨rfl,h⟩:=xq (Tj (X:=sc 3) ht hd rfl) hn;exact ab0 ht hv h
 by_cases h6:n=[107,101,121,115]
 ·subst h6;obtain⟨rfl,h⟩:=xq (ald ht hd) hn;exact ahH ht hv kv h
 exfalso;unfold Bc yG at hc;by_cases h7:n=[99,111,110,116,97,105,110,115]
 ·simp[h7]at hc
 by_cases h8:n=[106,111,105,110]
 ·simp[h8]at hc
 by_cases h9:n=[115,112,108,105,116]
 ·simp[h9]at hc
 by_cases h10:n=[115,116,97,114,116,115,119,105,116,104]
 ·simp[h10]at hc
 by_cases h11:n=[101,110,100,115,119,105,116,104]
 ·simp[h11]at hc
 by_cases h12:n=[100,101,102,97,117,108,116]
 ·simp[h12]at hc
 simp[h1,h2,h3,h4,h5,h6,h7,h8,h9,h10,h11,h12]at hc
theorem ahE{a b:ah}{s t:Ty}(hs:s.wf)(ht:t.wf)(ha:jL a s)(hb:jL b t)(h1:dA s (sc 4)=true)(h2:dA t (sc 4)=true):lu (if ¬(a.kind=3∧b.kind=3)then ze 9 else X_ a.bV b.bV) (.nest 5 (sc 4)) (iI s=true∧iI t=true):=by
 by_cases c:a.kind=3∧b.kind=3
 ·rw[arF (by simpa using c)];exact afa
 ·rw[arK c];exact lu.nine fun hf=>c ⟨by have:=jN hs ha h1 (by omega) hf.1;omega,by have:=jN ht hb h2 (by omega) hf.2;omega⟩
theorem akX{n:Str}{a b:ah}{s t T:Ty}(hc:n∈akI)(hs:s.wf)(hsd:s.dep≤16)(ht:t.wf)(htd:t.dep≤16)(ha:jL a s)(hb:jL b t)(ka:0≤a.kind∧a.kind≤5)
  (hn:gu n [s.api,t.api]=some (T.api,true)):lu (Jk n a b) T (iI s=true∧iI t=true):=by
 simp only[akI,asG,List.not_mem_nil,or_false]at hc;rcases hc with rfl|rfl|rfl|rfl|rfl|rfl
 ·obtain⟨rfl,h⟩:=xq (aad hs hsd ht htd) hn;simp only[asq,arV]at h;have e:Jk [99,111,110,116,97,105,110,115] a b=OU a b:=by unfold Jk;rw[arF (by decide),arK rfl]
  rw[e];exact Yb hs ht ha hb ka h
 ·obtain⟨rfl,h⟩:=xq (ale hs hsd ht htd) hn;simp only[arV]at h;have e:Jk [106,111,105,110] a b=Oo a b:=by unfold Jk;rw[arF (by decide),arF (by decide),arK rfl]
  rw[e];exact ahI hs ht ha hb ka h.1 h.2
 ·obtain⟨rfl,h⟩:=xq (Ti (X:=.nest 5 (sc 4)) hs hsd ht htd rfl) hn;simp only[arV]at h
  have e:Jk [115,112,108,105,116] a b=(if ¬(a.kind=3∧b.kind=3)then ze 9 else X_ a.bV b.bV):=by
   unfold Jk;rw[arF (by decide),arF (by decide),arF (by decide),arF (c:=([115,112,108,105,116]:Str)=[115,116,97,114,116,115,119,105,116,104]) (by decide),arF (c:=([115,112,108,105,116]:Str)=[101,110,100,115,119,105,116,104]) (by decide)]
  rw[e];exact ahE hs ht ha hb h.1 h.2
 ·obtain⟨rfl,h⟩:=xq (Ti (X:=sc 2) hs hsd ht htd rfl) hn;simp only[arV]at h
  have e:Jk [115,116,97,114,116,115,119,105,116,104] a b=(if ¬(a.kind=3∧b.kind=3)then ze 9 else okV (Zf (preS a.bV b.bV))):=by
   unfold Jk;rw[arF (by decide),arF (by decide),arF (by decide),arK (c:=([115,116,97,114,116,115,119,105,116,104]:Str)=[115,116,97,114,116,115,119,105,116,104]) rfl]
  rw[e];exact ZW hs ht ha hb h.1 h.2
 ·obtain⟨rfl,h⟩:=xq (Ti (X:=sc 2) hs hsd ht htd rfl) hn;simp only[arV]at h
  have e:Jk [101,110,100,115,119,105,116,104] a b=(if ¬(a.kind=3∧b.kind=3)then ze 9 else okV (Zf (ahx a.bV b.bV))):=by
   unfold Jk;rw[arF (by decide),arF (by decide),arF (by decide),arF (c:=([101,110,100,115,119,105,116,104]:Str)=[115,116,97,114,116,115,119,105,116,104]) (by decide),arK (c:=([101,110,100,115,119,105,116,104]:Str)=[101,110,100,115,119,105,116,104]) rfl]
  rw[e];exact ZW hs ht ha hb h.1 h.2
 ·obtain⟨rfl,h⟩:=xq (ab6 s t) hn;have e:Jk [100,101,102,97,117,108,116] a b=(if a.kind=0 then okV b else okV a):=by unfold Jk;rw[arK rfl]
  rw[e];exact ZX hs ha hb
end Go.Ft
namespace Go.Ft
open Go
attribute [local congr] eO
theorem ane{go:ak→Option (ay × Int)}{K:List ay→Option (ay × Int)}:∀(l:List ak) (out:List Ty) (i:Nat),(∀x∈l,∃(T:Ty) (c:Int),T.wf∧T.dep≤16∧go x=some (T.api,c))→out.length+l.length≤4000→
  (∃c,c≠0∧dD (Rh go) K i l (out.map Ty.api)=some (ZT,c))∨
  (∃Ts:List Ty,Ts.length=l.length∧(∀t∈Ts,t.wf∧t.dep≤16)∧(∀j (h1:j<l.length) (h2:j<Ts.length),go l[j]=some (Ts[j].api,0))∧dD (Rh go) K i l (out.map Ty.api)=K ((out++Ts).map Ty.api))
 | [],out,i,_,_=>.inr ⟨[],rfl,fun t ht=>(by cases ht),fun j h1=>by simp at h1,by simp[dD]⟩
 | x::r,out,i,h,hn=>by
  simp only[ase]at hn;obtain⟨T,c,w,d,e1⟩:=h x (by simp);rw[dD,Rh];simp only[e1,aC];by_cases hc:c=0
  ·subst hc
   have ha:app (out.map Ty.api) [T.api]=some ((out++[T]).map Ty.api):=by
    rw[aU (by simp[wX];omega)];simp
   simp only[as2,arG,arN,ha,aj];rcases ane (K:=K) r (out++[T]) (i+1) (fun y hy=>h y (by simp[hy])) (by simp;omega)with⟨c,c1,c2⟩|⟨Ts,c1,c2,c3,c4⟩
   ·exact .inl ⟨c,c1,c2⟩
   ·refine .inr ⟨T::Ts,by simp[c1],?_,?_,?_⟩
    ·intro t ht;rcases asG.1 ht with rfl|ht
     ·exact⟨w,d⟩
     ·exact c2 t ht
    ·intro j h1 h2;cases j with
     | zero=>simpa using e1
     | succ j=>simpa using c3 j (by simpa using h1) (by simpa using h2)
    ·have:=c4;rw[atI]at this;exact this
  ·exact .inl ⟨c,hc,by simp[hc]⟩
theorem alS{x:Option (ay × Bool)}{t:ay}(h:Fv x=some (t,0)):x=some (t,true):=by
 unfold Fv at h;cases x with
 | none=>cases h
 | some p=>
  obtain⟨a,b⟩:=p;simp only[aC]at h;cases b with
  | false=>simp at h
  | true=>
   simp only[asC,arG,arN,(Bq a).2.1,aj]at h;split at h
   ·simp at h
   ·simp at h;rw[h]
theorem aen{env:List aT}(hW:adf env)(hl:env.length<4611686018427387904){e:ak}{level m:Nat}(hB:e.bulk≤1099511627776)(hx:Fp e level=0)(hm:e.bulk+1≤m):
  ∃(T:Ty) (c:Int),T.wf∧T.dep≤16∧jO m e env=some (T.api,c)∧nW e env=some (T.api,c):=by
 have hb:=gX;obtain⟨T,c,w,d,z,r1,r2⟩:=OG hW hl e.bulk e level BIG m (asx _) (by omega) hx (by omega) hm;obtain⟨T',c',w',d',z',r1',r2'⟩:=OG hW hl e.bulk e level BIG BIG (asx _) (by omega) hx (by omega) (by omega);rw[r1]at r1';refine⟨T,c,w,d,r2,?_⟩;unfold nW;rw[r2',←r1']
theorem ai1{env:List aT}(hW:adf env)(hl:env.length<4611686018427387904){e:ak}{level:Nat}(hB:e.bulk≤1099511627776)(hx:Fp e level=0)(hk:e.kind≠1∧e.kind≠2){T:Ty}(ht:nW e env=some (T.api,0)):
  ∃Ts:List Ty,Ts.length=e.args.length∧(∀t∈Ts,t.wf∧t.dep≤16)∧(∀j (h1:j<e.args.length) (h2:j<Ts.length),nW e.args[j] env=some (Ts[j].api,0))∧fQ e (Ts.map Ty.api)=some (T.api,true)∧
   (e.kind=5→Bc e.name≠0∧Bc e.name=e.args.length):=by
 obtain⟨n,hn,hn2⟩:=qY;obtain⟨F,x2⟩:=aeU hx;have hal:=Li e;have hlen:=F.len;unfold nW at ht;rw[hn,jO,EG]at ht;have k12:((e.kind==1)||(e.kind==2))=false:=by simp[hk.1,hk.2]
 rw[k12]at ht;simp only[arG,arN]at ht;have s2:=dI (F:=fun k s i=>uY (jO n) e env k s i) (l:=e.args) (body:=Rh fun x=>jO n x env) (fin:=fun l1=>Fv (fQ e l1)) (by omega) (fun k s i=>rfl) []
 have key:=ane (K:=fun l1=>Fv (fQ e l1)) (go:=fun x=>jO n x env) e.args [] 0 (fun x hx'=>by
  have:=jq hx';obtain⟨T,c,w,d,r,_⟩:=aen hW hl (m:=n) (by omega) (x2 x hx') (by omega)
  exact⟨T,c,w,d,r⟩) (by simp;omega)
 rw[atf]at key;rw[←s2]at key
 have fin:uY (jO n) e env BIG [] 0=some (T.api,0)→∃Ts:List Ty,Ts.length=e.args.length∧(∀t∈Ts,t.wf∧t.dep≤16)∧(∀j (h1:j<e.args.length) (h2:j<Ts.length),nW e.args[j] env=some (Ts[j].api,0))∧fQ e (Ts.map Ty.api)=some (T.api,true):=by
  intro h;rcases key with⟨c,c1,c2⟩|⟨Ts,c1,c2,c3,c4⟩
  ·rw[c2]at h;simp only[asB,aul]at h;exact absurd h.2 c1
  ·refine⟨Ts,c1,c2,fun j h1 h2=>?_,?_⟩
   ·have hm:=asv h1;have:=jq hm;obtain⟨T',c',w,d,r,r'⟩:=aen hW hl (m:=n) (by omega) (x2 _ hm) (by omega);rw[r',←r];exact c3 j h1 h2
   ·rw[c4,List.nil_append]at h;exact alS h
 by_cases h5:e.kind=5
 ·have n5:(e.kind==5)=true:=by simpa using h5
  obtain⟨c1,c2,c3⟩:=acV e.name;rw[n5,c2]at ht;simp only[arO,aj]at ht;by_cases hc0:Bc e.name=0
  ·rw[hc0]at ht;simp at ht
  ·by_cases hcl:Bc e.name=(e.args.length:Int)
   ·have e1:decide ((if Bc e.name=0 then -1 else Bc e.name)<0)=false:=by rw[arF hc0];simp;omega
    have e2:((if Bc e.name=0 then -1 else Bc e.name) !=(e.args.length:Int))=false:=by rw[arF hc0];simp[hcl]
    rw[e1,e2]at ht;simp only[arG,arN]at ht;obtain⟨Ts,t1,t2,t3,t4⟩:=fin ht;exact⟨Ts,t1,t2,t3,t4,fun _=>⟨hc0,hcl⟩⟩
   ·have e1:decide ((if Bc e.name=0 then -1 else Bc e.name)<0)=false:=by rw[arF hc0];simp;omega
    have e2:((if Bc e.name=0 then -1 else Bc e.name) !=(e.args.length:Int))=true:=by rw[arF hc0];simpa using hcl
    rw[e1,e2]at ht;simp at ht
 ·have n5:(e.kind==5)=false:=by simpa using h5
  rw[n5]at ht;simp only[arG,arN,aj]at ht;obtain⟨Ts,t1,t2,t3,t4⟩:=fin ht;exact⟨Ts,t1,t2,t3,t4,fun h=>absurd h h5⟩
def okF(o:Option (ay × Int)):Bool:=match o with
 | some (t,c)=>(c==0)&&(aaf t).getD false
 | none=>false
mutual
def NC(env:List aT):ak→Bool
 | ⟨k,n,v,args,keys⟩=>okF (nW ⟨k,n,v,args,keys⟩ env)&&akT env args
def akT(env:List aT):List ak→Bool
 | []=>true
 | x::r=>NC env x&&akT env r
end
theorem ZP(env:List aT):∀l:List ak,akT env l=l.all (NC env)
 | []=>rfl
 | x::r=>by rw[akT,ZP env r,atZ]
theorem adL(env:List aT)(e:ak):NC env e=(okF (nW e env)&&e.args.all (NC env)):=by
 cases e;rw[NC,ZP]
theorem free_eq{T:Ty}(h:T.wf)(hd:T.dep≤1000):aaf T.api=some (iI T):=aiT BIG T h (by have:=gX;omega)
theorem ahy{env:List aT}{e:ak}{T:Ty}{c:Int}(h:T.wf)(hd:T.dep≤1000)(hr:nW e env=some (T.api,c))(hs:NC env e=true):iI T=true:=by
 rw[adL,arV]at hs;have:=hs.1;rw[hr]at this;simp only[okF,free_eq h hd,atC,arV]at this;exact this.2
theorem RS{env:List aT}{e:ak}(hs:NC env e=true):∀x∈e.args,NC env x=true:=by
 rw[adL,arV]at hs;exact atK.1 hs.2
inductive DC :List aF→List aT→Prop
 | nil:DC [] []
 | cons {x:aF} {d:aT} {xs:List aF} {ds:List aT} (T:Ty) (hn:d.name=x.name) (ht:d.oM=T.api) (hw:T.wf) (hd:T.dep≤16) (hf:jL x.value T) (h:DC xs ds):DC (x::xs) (d::ds)
theorem DC.W:∀ {vars:List aF} {env:List aT},DC vars env→adf env
 | _,_,.nil=>fun d hd=>by cases hd
 | _,_,.cons T hn ht hw hd hf h=>fun d hm=>by
  rcases asG.1 hm with rfl|hm
  ·exact⟨T,hw,hd,ht⟩
  ·exact h.W d hm
theorem DC.len:∀ {vars:List aF} {env:List aT},DC vars env→env.length=vars.length
 | _,_,.nil=>rfl
 | _,_,.cons T hn ht hw hd hf h=>by simp[h.len]
theorem DC.leaf{Kw:List aT}{n:Str}{T:Ty}:∀ {vars:List aF} {env:List aT} (i:Nat),DC vars env→env=Kw.drop i→
  dD (R:=ay × Int) (fun(i:Nat) e1 (_:Unit) r=>if e1.name==n then au (idx Kw (i:Int)) fun e3=>some (e3.oM,0)else r ()) (fun _=>some (ZT,10)) i env ()=some (T.api,0)→∃v,Kn vars n=okV v∧jL v T
 | _,_,i,.nil,_,h=>by simp[dD]at h
 | x::xs,d::ds,i,.cons S hn ht hw hd hf hr,he,h=>by
  have hi:i<Kw.length:=by
   rcases asQ i Kw.length with h|h
   ·exact h
   ·rw[asw h]at he;cases he
  have hc:=ar0 hi;rw[←he]at hc;have e1:d=Kw[i]:=(atb hc).1;have e2:=(atb hc).2;rw[dD,mF hi,←e1]at h;simp only[aj]at h;rw[Kn];by_cases hx:d.name=n
  ·rw[arK (by simpa using hx)]at h;rw[arK (by rw[←hn];exact hx)];simp only[asB,aul,aue]at h;rw[ht]at h;exact⟨x.value,rfl,(Sd h) ▸ hf⟩
  ·rw[arF (by simpa using hx)]at h;rw[arF (by rw[←hn];exact hx)];exact DC.leaf (i+1) hr e2 h
theorem acy{vars:List aF}{env:List aT}(hD:DC vars env)(hl:env.length<4611686018427387904){e:ak}{T:Ty}(he:e.kind=2)(h:ED e env=some (T.api,0)):∃v,Kn vars e.name=okV v∧jL v T:=by
 unfold ED at h;have h1:(e.kind==1)=false:=by simp[he]
 rw[h1]at h;simp only[arG,arN]at h;rw[dI (F:=fun k (_:Unit) i=>FC e env k i) (l:=env) (body:=fun(i:Nat) e1 (_:Unit) r=>if e1.name==e.name then au (idx env (i:Int)) fun e3=>some (e3.oM,0)else r ()) (fin:=fun _=>some (ZT,10)) hl (fun k s i=>rfl) ()]at h;exact DC.leaf 0 hD rfl h
theorem abp:∀ {rs:List (ah × Int)},(pY rs).2≠0→∃(i:Nat) (h:i<rs.length),rs[i].2=(pY rs).2
 | [],h=>absurd rfl h
 | p::r,h=>by
  by_cases hp:p.2=0
  ·by_cases hr:(pY r).2=0
   ·rw[pY,arF (by simpa using hp),arF (by simpa using hr)]at h;exact absurd rfl h
   ·obtain⟨i,hi,e⟩:=abp hr;rw[pY,arF (by simpa using hp),arK hr];exact⟨i+1,by simpa using hi,by simpa using e⟩
  ·rw[pY,arK hp];exact⟨0,by simp,rfl⟩
theorem lu.mono{p:ah × Int}{T:Ty}{F G:Prop}(h:lu p T F)(hF:G→F):lu p T G:=⟨h.1,h.2.1,fun h9 hg=>h.2.2 h9 (hF hg)⟩
theorem Lv{v:ah}(h:VV v):0≤v.kind∧v.kind≤5:=(Ep ((wS v).1 h.1).1).2.1 |> fun a=>⟨a,(Ep ((wS v).1 h.1).1).2.2.1⟩
theorem fits1{v:ah}{t:Ty}(h:fits [v] [t]):jL v t:=h.2 0 (by simp) (by simp)
theorem aiU{a b:ah}{s t:Ty}(h:fits [a,b] [s,t]):jL a s∧jL b t:=⟨h.2 0 (by simp) (by simp),h.2 1 (by simp) (by simp)⟩
theorem afc{a b:ah}{s t:Ty}(hs:s.wf)(ht:t.wf)(ha:jL a s)(hb:jL b t)(hl:(dw s&&dw t)=true):lu (Vw a b) (if s.kind=0 then s else t) (iI s=true∧iI t=true):=by
 simp only[arV]at hl;obtain⟨e1,h1⟩:=A8 hs hl.1
 have hs0:s=sc 0:=by
  rcases h1 with h1|h1
  ·rw[e1,h1]
  ·rw[e1,h1]at ha;exact(OC ha).elim
 subst hs0;have hnf:¬(iI (sc 0)=true∧iI t=true):=fun h=>by cases h.1
 rw[arK (show (sc 0).kind=0 from rfl)];unfold Vw;split
 ·exact(NG (F:=iI (sc 0)=true∧iI t=true)).up (Yd (by omega)) (Yd (by omega)) (adJ _) id
 ·split
  ·split
   ·exact lu.ok (OE _)
   ·exact lu.code (by decide) (by unfold qm;omega) (by decide)
  ·split
   ·split
    ·exact lu.ok (OE _)
    ·exact lu.code (by decide) (by unfold qm;omega) (by decide)
   ·exact lu.nine hnf
theorem ahF{e:ak}(F:Fm e){vs:List ah}{Ts:List Ty}{T:Ty}(hl:vs.length=e.args.length)(hf:fits vs Ts)(hw:∀t∈Ts,t.wf∧t.dep≤16)(hv:∀v∈vs,VV v)(h8:e.kind≠8)(hk:e.kind≠1∧e.kind≠2)
  (h7:¬(e.kind=7∧(e.name=[38,38]∨e.name=[124,124]))) (h5:e.kind=5→Bc e.name≠0∧Bc e.name=e.args.length) (hn:fQ e (Ts.map Ty.api)=some (T.api,true)):lu (GI e.kind e.name e.keys vs) T (∀t∈Ts,iI t=true):=by
 have hTl:Ts.length=e.args.length:=by rw[←hf.1,hl]
 have hlen:=F.len;have hkind:=F.kind;have aoK:e.kind=3∨e.kind=4∨e.kind=5∨e.kind=6∨e.kind=7∨e.kind=9∨e.kind=10:=by omega
 unfold GI;rcases aoK with k|k|k|k|k|k|k
 ·obtain⟨a,ha⟩:=F.k3 k;rw[ha]at hl hTl;obtain⟨v,rfl⟩:=len1 hl;obtain⟨t,rfl⟩:=len1 hTl;obtain⟨w,d⟩:=hw t (by simp);have ft:=fits1 hf;have kv:=Lv (hv v (by simp));obtain⟨rfl,q⟩:=arZ w k hn;rw[arF (by omega),arF (by omega)];simp only[k,arO];refine adO w ft kv (by rcases q with q|q;exact .inl q;exact .inr (.inr q)) fun hF=>.inr ⟨?_,rfl⟩;have hl:=yD ft w (hF t (by simp));rcases q with q|q
  ·rw[hl]at q;cases q
  ·cases t with
   | leaf j=>simp only[Ty.kind]at q;exact absurd q w.2.2.2
   | nest j s=>simp only[Ty.kind]at q;subst q;have:=EW kv (.inr rfl) ft;omega
 ·obtain⟨a,b,ha⟩:=F.k4 k;rw[ha]at hl hTl;obtain⟨v,x,rfl⟩:=len2 hl;obtain⟨t,u,rfl⟩:=len2 hTl;obtain⟨w,d⟩:=hw t (by simp);obtain⟨w',d'⟩:=hw u (by simp);obtain⟨ft,fu⟩:=aiU hf;have kv:=Lv (hv v (by simp));obtain⟨rfl,q⟩:=arY w w' d' k hn;rw[arF (by omega),arF (by omega)];simp only[k,arO];refine adO w ft kv (by rcases q with q|q|q;exact .inr (.inl q.1);exact .inr (.inr q.1);exact .inl q) fun hF=>?_;have hl:=yD ft w (hF t (by simp));have hu:=hF u (by simp);rcases q with q|q|q
  ·left;cases t with
   | leaf j=>have:=q.1;simp only[Ty.kind]at this;exact absurd this w.2.2.1
   | nest j s=>
    have h5':=q.1;simp only[Ty.kind]at h5';subst h5';have h1:=EW kv (.inl rfl) ft;have h2:=jN w' fu q.2 (by omega) hu;exact⟨by omega,by omega⟩
  ·right;cases t with
   | leaf j=>have:=q.1;simp only[Ty.kind]at this;exact absurd this w.2.2.2
   | nest j s=>
    have h5':=q.1;simp only[Ty.kind]at h5';subst h5';have h1:=EW kv (.inr rfl) ft;have h2:=jN w' fu q.2 (by omega) hu;exact⟨by omega,by omega⟩
  ·rw[hl]at q;cases q
 ·obtain⟨c0,c1⟩:=h5 k;have Un:∀l,fQ e l=gu e.name l:=by intro l;unfold fQ;simp[k]
  rw[Un]at hn;rw[arF (by omega),arF (by omega)];rcases (acV e.name).2.2 with c|c|⟨c,c'⟩
  ·exact absurd c c0
  ·have:e.args.length=1:=by omega
   rw[this]at hl hTl;obtain⟨v,rfl⟩:=len1 hl;obtain⟨t,rfl⟩:=len1 hTl;obtain⟨w,d⟩:=hw t (by simp);simp only[k];exact(ak0 c w d (fits1 hf) (Lv (hv v (by simp))) hn).mono fun h=>h t (by simp)
  ·have:e.args.length=2:=by omega
   rw[this]at hl hTl;obtain⟨v,x,rfl⟩:=len2 hl;obtain⟨t,u,rfl⟩:=len2 hTl;obtain⟨w,d⟩:=hw t (by simp);obtain⟨w',d'⟩:=hw u (by simp);obtain⟨ft,fu⟩:=aiU hf;simp only[k];exact(akX c' w d w' d' ft fu (Lv (hv v (by simp))) hn).mono fun h=>⟨h t (by simp),h u (by simp)⟩
 ·obtain⟨⟨a,ha⟩,hop⟩:=F.k6 k;rw[ha]at hl hTl;obtain⟨v,rfl⟩:=len1 hl;obtain⟨t,rfl⟩:=len1 hTl;obtain⟨w,d⟩:=hw t (by simp);have ft:=fits1 hf;obtain⟨rfl,q⟩:=arX w d k hn;rw[arF (by omega),arF (by omega)];simp only[k];rcases hop with h|h
  ·rw[h]at q⊢;exact(ak1 w ft (by simpa using q)).mono fun h=>h t (by simp)
  ·rw[h]at q⊢;exact(ak2 w ft (by simpa using q)).mono fun h=>h t (by simp)
 ·obtain⟨⟨a,b,ha⟩,hop⟩:=F.k7 k;rw[ha]at hl hTl;obtain⟨v,x,rfl⟩:=len2 hl;obtain⟨t,u,rfl⟩:=len2 hTl;obtain⟨w,d⟩:=hw t (by simp);obtain⟨w',d'⟩:=hw u (by simp);obtain⟨ft,fu⟩:=aiU hf;have kv:=Lv (hv v (by simp));have kx:=Lv (hv x (by simp));have hb:=aqg k hn;rw[arF (by omega),arF (by omega)];simp only[k];show lu (CG e.name v x) T _;generalize e.name=op at hop hb h7⊢;have free:(∀y∈[t,u],iI y=true)→iI t=true∧iI u=true:=fun h=>⟨h t (by simp),h u (by simp)⟩;simp only[opsL,asG,List.not_mem_nil,or_false]at hop
  have rel:∀r:Bool,(op=[60]∨op=[60,61]∨op=[62]∨op=[62,61])→lu (Mx v x r) T (∀y∈[t,u],iI y=true):=fun r ho=>by
   obtain⟨rfl,q⟩:=xq (al8 ho) hb;exact(akZ w w' ft fu q).mono free
  have ar:(op=[45]∨op=[42]∨op=[47]∨op=[37])→lu (RD op v x) T (∀y∈[t,u],iI y=true):=fun ho=>by
   obtain⟨rfl,q⟩:=xq (aoP w d w' d' ho) hb;simp only[arV]at q;exact(ak5 w w' ft fu q.1 q.2).mono free
  rcases hop with rfl|rfl|rfl|rfl|rfl|rfl|rfl|rfl|rfl|rfl|rfl|rfl|rfl
  ·exact absurd ⟨k,.inl rfl⟩ h7
  ·exact absurd ⟨k,.inr rfl⟩ h7
  ·obtain⟨rfl,q⟩:=xq (ajv (.inl rfl)) hb;exact ahJ (.inl rfl)
  ·obtain⟨rfl,q⟩:=xq (ajv (.inr rfl)) hb;exact ahJ (.inr rfl)
  ·have e1:CG [60] v x=Mx v x (decide (uz v x<0)):=by unfold CG;rw[arF (by decide),arF (by decide),arK rfl]
   rw[e1];exact rel _ (by simp)
  ·have e1:CG [60,61] v x=Mx v x (decide (uz v x≤0)):=by unfold CG;rw[arF (by decide),arF (by decide),arF (by decide),arK rfl]
   rw[e1];exact rel _ (by simp)
  ·have e1:CG [62] v x=Mx v x (decide (0<uz v x)):=by unfold CG;rw[arF (by decide),arF (by decide),arF (by decide),arF (by decide),arK rfl]
   rw[e1];exact rel _ (by simp)
  ·have e1:CG [62,61] v x=Mx v x (decide (0≤uz v x)):=by unfold CG;rw[arF (by decide),arF (by decide),arF (by decide),arF (by decide),arF (by decide),arK rfl]
   rw[e1];exact rel _ (by simp)
  ·have e1:CG [45] v x=RD [45] v x:=by unfold CG;rw[arF (by decide),arF (by decide),arF (by decide),arF (by decide),arF (by decide),arF (by decide),arF (by decide)]
   rw[e1];exact ar (by simp)
  ·have e1:CG [42] v x=RD [42] v x:=by unfold CG;rw[arF (by decide),arF (by decide),arF (by decide),arF (by decide),arF (by decide),arF (by decide),arF (by decide)]
   rw[e1];exact ar (by simp)
  ·have e1:CG [47] v x=RD [47] v x:=by unfold CG;rw[arF (by decide),arF (by decide),arF (by decide),arF (by decide),arF (by decide),arF (by decide),arF (by decide)]
   rw[e1];exact ar (by simp)
  ·have e1:CG [37] v x=RD [37] v x:=by unfold CG;rw[arF (by decide),arF (by decide),arF (by decide),arF (by decide),arF (by decide),arF (by decide),arF (by decide)]
   rw[e1];exact ar (by simp)
  ·have e1:CG [43] v x=Vw v x:=by unfold CG;rw[arF (by decide),arF (by decide),arF (by decide),arF (by decide),arF (by decide),arF (by decide),arK rfl]
   rw[e1];have hb':K6 t.api u.api=some (T.api,true):=hb;rcases akR w d w' d' hb' with⟨q1,rfl⟩|⟨q1,j,q2,q3,rfl⟩
   ·exact(afc w w' ft fu q1).mono free
   ·exact(akY w w' ft fu kv kx q1 q2 q3).mono free
 ·rw[arK k];have hnl:=K9 hw (by omega) (e:=e) (.inl k);obtain⟨rfl,q⟩:=xq hnl hn;rw[arF (c:=e.kind=10) (by omega)];exact ahG hf fun t ht=>(hw t ht).1
 ·rw[arF (by omega),arK k];have hnl:=K9 hw (by omega) (e:=e) (.inr k);obtain⟨rfl,q⟩:=xq hnl hn;rw[arK k];exact ak3 hf fun t ht=>(hw t ht).1
end Go.Ft
namespace Go.Ft
open Go
attribute [local congr] eO
theorem adN{vars:List aF}{env:List aT}(hE:∀x∈vars,VV x.value∧x.value.bulk≤1048576)(hD:DC vars env)(hl:env.length<4611686018427387904):∀(b:Nat) (e:ak) (level:Nat) (T:Ty),e.bulk≤b→SE e→Fp e level=0→
  nW e env=some (T.api,0)→T.wf→T.dep≤16→lu (sD vars e) T (NC env e=true)
 | 0,e,_,_,h,_,_,_,_,_=>by have:=e.jV;omega
 | b+1,e,level,T,h,hS,hx,hr,hw,hd=>by
  have hB:e.bulk≤1099511627776:=hS.1;have hWe:=hD.W;obtain⟨F,x2⟩:=aeU hx;have hkind:=F.kind;rw[acN];obtain⟨n,hn,hn2⟩:=qY;by_cases k1:e.kind=1
  ·rw[arK k1];unfold nW at hr;rw[hn,jO,EG]at hr;have k12:((e.kind==1)||(e.kind==2))=true:=by simp[k1]
   rw[arK k12]at hr;unfold ED at hr;obtain⟨o1,o2,o3,o4⟩:=aeT (v:=e.value) (by have:=Cn e;omega) ((KU _).2 (F.lit k1));simp only[k1,atd,arO,o2,aj,asB,aul,aue]at hr;rw[←Sd hr];exact lu.ok (EA _)
  rw[arF k1];by_cases k2:e.kind=2
  ·rw[arK k2];unfold nW at hr;rw[hn,jO,EG]at hr;have k12:((e.kind==1)||(e.kind==2))=true:=by simp[k2]
   rw[arK k12]at hr;obtain⟨v,v1,v2⟩:=acy hD hl k2 hr;rw[v1];exact lu.ok v2
  rw[arF k2];obtain⟨Ts,t1,t2,t3,t4,t5⟩:=ai1 hWe hl hB hx ⟨k1,k2⟩ hr
  have ih:∀j (h1:j<e.args.length) (h2:j<Ts.length),lu (sD vars e.args[j]) Ts[j] (NC env e.args[j]=true):=fun j h1 h2=>by
   have hm:=asv h1;obtain⟨w,d⟩:=t2 _ (asv h2);exact adN hE hD hl b _ (level+1) _ (by have:=jq hm;omega) (hS.arg hm) (x2 _ hm) (t3 j h1 h2) w d
  have fr:NC env e=true→∀t∈Ts,iI t=true:=fun hs t ht=>by
   obtain⟨j,hj,rfl⟩:=List.getElem_of_mem ht;have h1:j<e.args.length:=by omega
   obtain⟨w,d⟩:=t2 _ ht;exact ahy w (by omega) (t3 j h1 hj) (RS hs _ (asv h1))
  unfold Jd;by_cases h8:e.kind=8
  ·rw[arK h8];obtain⟨a,b',c,ha⟩:=F.k8 h8;have hl3:Ts.length=3:=by rw[t1,ha];rfl
   obtain⟨s,t,u,rfl⟩:=aol hl3;have sa:=RS (env:=env) (e:=e);rw[ha]at sa;have i0:=ih 0 (by rw[ha];simp) (by simp);have i1:=ih 1 (by rw[ha];simp) (by simp);have i2:=ih 2 (by rw[ha];simp) (by simp);simp only[ha,atX,List.getElem_cons_succ]at i0 i1 i2;obtain⟨w0,d0⟩:=t2 s (by simp);obtain⟨w1,d1⟩:=t2 t (by simp);obtain⟨w2,d2⟩:=t2 u (by simp);obtain⟨rfl,q⟩:=arW w0 d0 w1 d1 w2 d2 h8 t4;rw[ha];exact(ahK w0 w1 w2 i0 i1 i2 q).mono fun hs=>⟨⟨sa hs a (by simp),fr hs s (by simp)⟩,sa hs b' (by simp),sa hs c (by simp)⟩
  rw[arF h8];by_cases h7:e.kind=7∧(e.name=[38,38]∨e.name=[124,124])
  ·rw[arK h7];obtain⟨⟨a,b',ha⟩,hop⟩:=F.k7 h7.1;have hl2:Ts.length=2:=by rw[t1,ha];rfl
   obtain⟨s,t,rfl⟩:=len2 hl2;have sa:=RS (env:=env) (e:=e);rw[ha]at sa;have i0:=ih 0 (by rw[ha];simp) (by simp);have i1:=ih 1 (by rw[ha];simp) (by simp);simp only[ha,atX,List.getElem_cons_succ]at i0 i1;obtain⟨w0,d0⟩:=t2 s (by simp);obtain⟨w1,d1⟩:=t2 t (by simp);obtain⟨rfl,q⟩:=xq (aoO w0 d0 w1 d1 h7.2) (aqg h7.1 t4);simp only[arV]at q;rw[ha];exact(afb w0 w1 i0 i1 q.1 q.2).mono fun hs=>⟨⟨sa hs a (by simp),fr hs s (by simp)⟩,sa hs b' (by simp),fr hs t (by simp)⟩
  rw[arF h7,arF (c:=e.kind=5∧Bc e.name=0) (fun hh=>(t5 hh.1).1 hh.2),arF (c:=e.kind=5∧Bc e.name≠((e.args.map (sD vars)).length:Int)) (fun hh=>hh.2 (by rw[List.length_map];exact(t5 hh.1).2))];by_cases h0:(pY (e.args.map (sD vars))).2=0
  ·rw[arF (by simpa using h0)];obtain⟨o1,o2⟩:=OX (N:=0) h0;have z:∀j (h1:j<e.args.length),(sD vars e.args[j]).2=0:=fun j h1=>o1 _ (att (asv h1));refine(ahF F (by rw[o2];simp) ⟨by rw[o2];simp[t1],fun j h1 h2=>?_⟩ t2 (fun v hv=>?_) h8 ⟨k1,k2⟩ h7 t5 t4).mono fr
   ·have h1':j<e.args.length:=by omega
    have:=(ih j h1' h2).1 (z j h1');simp only[o2,List.getElem_map];exact this
   ·rw[o2,atg]at hv;obtain⟨x,hx',rfl⟩:=atn.1 hv;have hm:=jq hx';exact((YP hE x.bulk x (level+1) (asx _) (hS.arg hx') (x2 x hx')).1 (o1 _ (att hx'))).1
  ·rw[arK h0];obtain⟨i,hi,he⟩:=abp h0;have hi':i<e.args.length:=by simpa using hi
   rw[←he];simp only[List.getElem_map]at he⊢;exact(ih i hi' (by omega)).err (by rw[he];exact h0) fun hs=>RS hs _ (asv hi')
end Go.Ft
namespace Go.Ft
open Go
attribute [local congr] eO
def aa2(x:aF):aT:=aT.mk x.name (Nn x.value).api
theorem aex:∀ {vars:List aF},(∀x∈vars,VV x.value∧x.value.bulk<4611686018427387904)→DC vars (vars.map aa2)
 | [],_=>.nil
 | x::r,h=>by
  obtain⟨v1,v2⟩:=h x (by simp);obtain⟨o1,o2,o3,o4⟩:=aeT v2 ((KU _).2 v1);rw[asy];exact .cons (Nn x.value) rfl rfl o3 o4 (EA _) (aex fun y hy=>h y (by simp[hy]))
def okX(env:List aT)(e:ak):Prop:=∃T:Ty,T.wf∧T.dep≤16∧nW e env=some (T.api,0)∧xval e=0
theorem Q5{p:aS}(hp:Mj p)(h:p.VG=true):p.expr.bulk≤137438953472:=(hp.1 h).2.2
theorem acH{e:ak}{env:List aT}(h:e.bulk≤137438953472)(hl:env.length≤1048576)(hd:∀d∈env,d.name.length≤1048576):
  ∃c:Int,pU env none e=some (if c=0 then (true,none)else (false,some c))∧(c=0→okX env e):=by
 unfold pU;rcases acW (e:=e) (env:=env) (by omega) (by omega) (fun d hx=>by have:=hd d hx;omega)with⟨c,h0,h1,h2⟩|⟨T,w,d,h1,h2,h3,h4,_⟩
 ·refine⟨c,?_,fun h=>absurd h h0⟩;simp only[h1,aC];rw[arK (c:=(c !=0)=true) (by simpa using h0),arF h0]
 ·by_cases hk:((T.api.kind==5)||(T.api.kind==6))=true
  ·refine⟨9,?_,fun h=>absurd h (by decide)⟩;simp only[h1,aC,hk,arO,Od,arG,arN];rfl
  ·rw[atA]at hk;refine⟨0,?_,fun _=>⟨T,w,d,h3,h4⟩⟩;simp only[h1,aC,hk,arO,Od,arG,arN]
theorem afS{env:List aT}{l:List aS}(hl:env.length≤1048576)(hd:∀d∈env,d.name.length≤1048576)(hg:∀p∈l,Mj p)(hll:l.length≤10000):∀(n i k:Nat),l.length+1≤n+i→n<k→i≤l.length→
  ∃s:Option Int,jD (pU env) l k none (i:Int)=some s∧(s.getD 0=0→∀p∈l.drop i,p.VG=true→okX env p.expr):=by
 intro n
 induction n with
 | zero=>intro i k h1 h2 h3;omega
 | succ n ih=>
  intro i k h1 h2 h3;obtain⟨k,rfl⟩:∃m,k=m+1:=⟨k-1,by omega⟩;rw[jD];by_cases hi:i<l.length
  ·have hp:=hg l[i] (asv hi);rw[arK (by simpa using hi),mF hi,aj,mD (by omega),ar0 hi];obtain⟨s,s1,s2⟩:=ih (i+1) k (by omega) (by omega) (by omega);cases hx:l[i].VG with
   | false=>
    rw[arF (by simp)];refine⟨s,s1,fun h0 p hp hpi=>?_⟩;rcases asG.1 hp with rfl|hp
    ·rw[hx]at hpi;cases hpi
    ·exact s2 h0 p hp hpi
   | true=>
    rw[arK rfl];obtain⟨c,c1,c2⟩:=acH (env:=env) (Q5 hp hx) hl hd;rw[c1];by_cases h0:c=0
    ·rw[arK h0,aC,arF (by simp)];refine⟨s,s1,fun h0' p hp hpi=>?_⟩;rcases asG.1 hp with rfl|hp
     ·exact c2 h0
     ·exact s2 h0' p hp hpi
    ·rw[arF h0,aC,arK (by simp)];exact⟨some c,rfl,fun h=>absurd h h0⟩
  ·rw[arF (by simpa using hi),List.drop_of_length_le (by omega)];exact⟨none,rfl,fun _ p hp=>by cases hp⟩
def am8(c:Int):Prop:=c=0∨qm c
theorem acF{vars:List aF}{env:List aT}{p:aS}(hE:(vars.map aF.bulk).sum≤1048576)(hv:Ct vars=0)(hD:DC vars env)(hp:Mj p)(hx:p.VG=true→okX env p.expr):
  ∃(t:Str) (c:Int),uh p vars=some (t,c)∧am8 c∧t.length≤4096:=by
 obtain⟨s1,s2⟩:=Es hE;obtain⟨w1,w2,w3⟩:=OJ hv;unfold uh;cases hi:p.VG with
 | false=>
  rw[arK (by simp)];exact⟨_,_,rfl,.inl rfl,(hp.2 hi).2.2⟩
 | true=>
  rw[arF (by simp)];obtain⟨T,w,d,r,x0⟩:=hx hi;have hb:=Q5 hp hi;obtain⟨q,g⟩:=adl (e:=p.expr) (env:=vars) (by omega) (adz hE).1 (adz hE).2;have el:=hD.len;have e2:Xv p.expr vars=sD vars p.expr:=by unfold Xv;rw[arF (by simpa using hv),arF (by simpa using x0)]
  have hEv:∀x∈vars,VV x.value∧x.value.bulk≤1048576:=fun x hx=>⟨(w1 x hx).1,(s2 x hx).2⟩;obtain⟨q1,q2,q3⟩:=adN hEv hD (by omega) p.expr.bulk p.expr 1 T (asx _) (adq (by omega) x0) (O8 x0) r w d;rw[q,agt];obtain⟨v,vb⟩:=ai0 g;rw[←e2]at q2;by_cases h0:(Xv p.expr vars).2=0
  ·rw[arF (by simp[h0]),(Wz v (by omega)).1];split
   ·exact⟨_,_,rfl,.inr (by unfold qm;omega),by simp⟩
   ·exact⟨_,_,rfl,.inl rfl,arh v⟩
  ·rw[arK (by simpa using h0)];exact⟨_,_,rfl,.inr (q2 h0),by simp⟩
theorem afR{vars:List aF}{env:List aT}{l:List aS}(hE:(vars.map aF.bulk).sum≤1048576)(hv:Ct vars=0)(hD:DC vars env)(hg:∀p∈l,Mj p)(hll:l.length≤10000)(hx:∀p∈l,p.VG=true→okX env p.expr):∀(n i k:Nat) (out:Str),l.length+1≤n+i→n<k→i≤l.length→out.length≤4096*i→
  ∃(t:Str) (c:Int),o9 vars l k (i:Int) out=some (t,c)∧am8 c:=by
 intro n
 induction n with
 | zero=>intro i k out h1 h2 h3;omega
 | succ n ih=>
  intro i k out h1 h2 h3 h4;obtain⟨k,rfl⟩:∃m,k=m+1:=⟨k-1,by omega⟩;have hL:wX=4294967296:=rfl;rw[o9];by_cases hi:i<l.length
  ·have hm:=asv hi;obtain⟨t,c,q1,q2,q3⟩:=acF hE hv hD (hg _ hm) (hx _ hm);rw[arK (by simpa using hi),mF hi,aj,q1,aC];by_cases h0:c=0
   ·rw[arF (by simp[h0]),aU (by omega),aj,mD (by omega)];exact ih (i+1) k (out++t) (by omega) (by omega) (by omega) (by simp;omega)
   ·rw[arK (by simpa using h0)];exact⟨_,_,rfl,q2⟩
  ·rw[arF (by simpa using hi)];split
   ·exact⟨_,_,rfl,.inr (by unfold qm;omega)⟩
   ·exact⟨_,_,rfl,.inl rfl⟩
end Go.Ft
