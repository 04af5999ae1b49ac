/- Proved here: plain facts on the functional texts. -/
import Derived.Test.YtpbjbkhfpjckoaaGreatDoorIePlain2
set_option linter.unusedVariables false
set_option linter.unusedSimpArgs false
set_option linter.defProp false
set_option linter.unusedSectionVars false
set_option maxHeartbeats 2000000
namespace Go.Ft
open Go
attribute [local congr] gq
theorem aoB(s:Str)(a:Int):∀k:Nat,gM s a (k+20) 0=av (idx s a) fun c=>if EI [c]then some 1 else some 0:=by
 intro k;have d0:idx ([60,62,43,45,42,47,37,33,63,58,46,44,61,40,41,91,93,123,125]:Str) 0=some 60:=rfl;have d1:idx ([60,62,43,45,42,47,37,33,63,58,46,44,61,40,41,91,93,123,125]:Str) 1=some 62:=rfl;have d2:idx ([60,62,43,45,42,47,37,33,63,58,46,44,61,40,41,91,93,123,125]:Str) 2=some 43:=rfl;have d3:idx ([60,62,43,45,42,47,37,33,63,58,46,44,61,40,41,91,93,123,125]:Str) 3=some 45:=rfl;have d4:idx ([60,62,43,45,42,47,37,33,63,58,46,44,61,40,41,91,93,123,125]:Str) 4=some 42:=rfl;have d5:idx ([60,62,43,45,42,47,37,33,63,58,46,44,61,40,41,91,93,123,125]:Str) 5=some 47:=rfl;have d6:idx ([60,62,43,45,42,47,37,33,63,58,46,44,61,40,41,91,93,123,125]:Str) 6=some 37:=rfl;have d7:idx ([60,62,43,45,42,47,37,33,63,58,46,44,61,40,41,91,93,123,125]:Str) 7=some 33:=rfl;have d8:idx ([60,62,43,45,42,47,37,33,63,58,46,44,61,40,41,91,93,123,125]:Str) 8=some 63:=rfl;have d9:idx ([60,62,43,45,42,47,37,33,63,58,46,44,61,40,41,91,93,123,125]:Str) 9=some 58:=rfl;have d10:idx ([60,62,43,45,42,47,37,33,63,58,46,44,61,40,41,91,93,123,125]:Str) 10=some 46:=rfl;have d11:idx ([60,62,43,45,42,47,37,33,63,58,46,44,61,40,41,91,93,123,125]:Str) 11=some 44:=rfl;have d12:idx ([60,62,43,45,42,47,37,33,63,58,46,44,61,40,41,91,93,123,125]:Str) 12=some 61:=rfl;have d13:idx ([60,62,43,45,42,47,37,33,63,58,46,44,61,40,41,91,93,123,125]:Str) 13=some 40:=rfl;have d14:idx ([60,62,43,45,42,47,37,33,63,58,46,44,61,40,41,91,93,123,125]:Str) 14=some 41:=rfl;have d15:idx ([60,62,43,45,42,47,37,33,63,58,46,44,61,40,41,91,93,123,125]:Str) 15=some 91:=rfl
 have d16:idx ([60,62,43,45,42,47,37,33,63,58,46,44,61,40,41,91,93,123,125]:Str) 16=some 93:=rfl;have d17:idx ([60,62,43,45,42,47,37,33,63,58,46,44,61,40,41,91,93,123,125]:Str) 17=some 123:=rfl;have d18:idx ([60,62,43,45,42,47,37,33,63,58,46,44,61,40,41,91,93,123,125]:Str) 18=some 125:=rfl;cases hc:idx s a with
 | none=>rw[gM];simp[hc]
 | some c=>
  have f:∀n:Nat,((c.toNat:Int)==((UInt8.ofNat n).toNat:Int))=(c==UInt8.ofNat n):=by
   intro n;by_cases h:c=UInt8.ofNat n
   ·subst h;simp
   ·have h':¬c.toNat=(UInt8.ofNat n).toNat:=fun h2=>h (arD.1 h2);have h3:¬((c.toNat:Int)=((UInt8.ofNat n).toNat:Int)):=by omega
    simp only[aq4.2 h,aq4.2 h3]
  have g:∀i:Int,0≤i→i<19→∀m:Nat,∀d:UInt8,idx ([60,62,43,45,42,47,37,33,63,58,46,44,61,40,41,91,93,123,125]:Str) i=some d→gM s a (m+1) i=if c==d then some 1 else gM s a m (i+1):=by
   intro i h0 h1 m d hd;rw[gM];simp (disch:=omega) only[hc,hd,aW,aqJ,ak,aqW,aq7];have:=f d.toNat;rw[UInt8.ofNat_toNat]at this;by_cases h:c=d
   ·subst h;simp
   ·have h':¬(c.toNat:Int)=(d.toNat:Int):=fun h2=>h (arD.1 (by omega));simp[h,h']
  have z:∀m:Nat,gM s a (m+1) 19=some 0:=by intro m;rw[gM];simp
  simp only[ak];rw[g 0 (by omega) (by omega) (k+19) 60 d0];simp only[Int.reduceAdd];rw[g 1 (by omega) (by omega) (k+18) 62 d1];simp only[Int.reduceAdd];rw[g 2 (by omega) (by omega) (k+17) 43 d2];simp only[Int.reduceAdd];rw[g 3 (by omega) (by omega) (k+16) 45 d3];simp only[Int.reduceAdd];rw[g 4 (by omega) (by omega) (k+15) 42 d4];simp only[Int.reduceAdd];rw[g 5 (by omega) (by omega) (k+14) 47 d5];simp only[Int.reduceAdd];rw[g 6 (by omega) (by omega) (k+13) 37 d6];simp only[Int.reduceAdd];rw[g 7 (by omega) (by omega) (k+12) 33 d7];simp only[Int.reduceAdd];rw[g 8 (by omega) (by omega) (k+11) 63 d8];simp only[Int.reduceAdd];rw[g 9 (by omega) (by omega) (k+10) 58 d9];simp only[Int.reduceAdd];rw[g 10 (by omega) (by omega) (k+9) 46 d10];simp only[Int.reduceAdd];rw[g 11 (by omega) (by omega) (k+8) 44 d11];simp only[Int.reduceAdd];rw[g 12 (by omega) (by omega) (k+7) 61 d12];simp only[Int.reduceAdd];rw[g 13 (by omega) (by omega) (k+6) 40 d13];simp only[Int.reduceAdd];rw[g 14 (by omega) (by omega) (k+5) 41 d14];simp only[Int.reduceAdd];rw[g 15 (by omega) (by omega) (k+4) 91 d15];simp only[Int.reduceAdd];rw[g 16 (by omega) (by omega) (k+3) 93 d16];simp only[Int.reduceAdd];rw[g 17 (by omega) (by omega) (k+2) 123 d17];simp only[Int.reduceAdd];rw[g 18 (by omega) (by omega) (k+1) 125 d18];simp only[Int.reduceAdd];rw[z]
  have key:EI [c]=((c==60)||((c==62)||((c==43)||((c==45)||((c==42)||((c==47)||((c==37)||((c==33)||((c==63)||((c==58)||((c==46)||((c==44)||((c==61)||((c==40)||((c==41)||((c==91)||((c==93)||((c==123)||(c==125))))))))))))))))))):=by
   simp[EI,List.cons_beq_cons]
  rw[key];simp only[aaN]
theorem aqr(s:Str)(a:Int)(k:Nat)(b:Str)(hb:sl s a (bq (a+2))=some b)(hl:b.length=2)(h0:bq (a+2)≤s.length):
  gy s a (k+7) 0=if EI b then some 2 else gM s a BIG 0:=by
 have g:∀i:Int,0≤i→i<12→∀m:Nat,∀d:Str,sl ([124,124,38,38,61,61,33,61,60,61,62,61]:Str) i (i+2)=some d→gy s a (m+1) i=if b==d then some 2 else gy s a m (i+2):=by
  intro i h1 h2 m d hd;rw[gy];simp only[h0,asB,aqV,hb,ak];rw[aW (by omega) (by omega),hd];have h3:decide (i<12)=true:=by simpa using h2
  simp only[h3,aqV,ak]
 have z:∀m:Nat,gy s a (m+1) 12=gM s a BIG 0:=by intro m;rw[gy];simp
 rw[g 0 (by omega) (by omega) (k+6) [124,124] rfl,g _ (by omega) (by omega) (k+5) [38,38] rfl,g _ (by omega) (by omega) (k+4) [61,61] rfl,g _ (by omega) (by omega) (k+3) [33,61] rfl,g _ (by omega) (by omega) (k+2) [60,61] rfl,g _ (by omega) (by omega) (k+1) [62,61] rfl];rw[show (0:Int)+2+2+2+2+2+2=12 from rfl,z]
 have key:EI b=((b==[124,124])||((b==[38,38])||((b==[61,61])||((b==[33,61])||((b==[60,61])||(b==[62,61])))))):=by
  match b,hl with
  | [x,y],_=>simp[EI]
 rw[key];simp only[aaN]
theorem amu{s:Str}(hs:s.length≤2147483648){i:Nat}(h:i<s.length):zn s (i:Int)=some ((opn (s.drop i):Nat):Int):=by
 unfold zn;obtain⟨m,hm⟩:∃m,BIG=m+20:=⟨BIG-20,rfl⟩;have hc:idx s (i:Int)=some (s.getD i 0):=by simp (disch:=omega) only[dflt,bg,aq0]
 by_cases h2:i+1<s.length
 ·have hb:sl s (i:Int) (bq ((i:Int)+2))=some [s.getD i 0,s.getD (i+1) 0]:=by
   simp (disch:=omega) only[aW,bL,arv,aq0,Int.reduceToNat];rw[Rc h2]
  rw[hm,show m+20=(m+13)+7 from rfl,aqr s _ _ _ hb rfl (by rw[aW (by omega) (by omega)];omega),hm,aoB,hc];rw[getD_drop h,getD_drop h2];unfold opn;cases h3:EI [s.getD i 0,s.getD (i+1) 0]with
  | true=>simp (disch:=omega) only[h3,aqV];rfl
  | false=>
   simp (disch:=omega) only[h3,ak,aqS,aqT];cases h4:EI [s.getD i 0]with
   | true=>simp (disch:=omega) only[aqV];rfl
   | false=>simp (disch:=omega) only[aqS,aqT];rfl
 ·have g:∀m:Nat,∀j:Int,0≤j→j<12→gy s (i:Int) (m+1) j=gy s (i:Int) m (j+2):=by
   intro m j h0 h1;rw[gy];simp (disch:=omega) only[aW,aqJ,aqH,ak,aqW,aqS,aqT]
  have z:∀m:Nat,gy s (i:Int) (m+1) 12=gM s (i:Int) BIG 0:=by intro m;rw[gy];simp
  rw[hm,show m+20=(m+13+1+6)from rfl,g _ _ (by omega) (by omega),g _ _ (by omega) (by omega),g _ _ (by omega) (by omega),g _ _ (by omega) (by omega),g _ _ (by omega) (by omega),g _ _ (by omega) (by omega)];rw[show (0:Int)+2+2+2+2+2+2=12 from rfl,z,hm,aoB,hc];rw[getD_drop h,ara (by omega:s.length≤i+1)];unfold opn;cases h4:EI [s.getD i 0]with
  | true=>simp (disch:=omega) only[h4,ak,aqV];rfl
  | false=>simp (disch:=omega) only[h4,ak,aqS,aqT];rfl
theorem WA(l:Str):span isDigit l<span isWord l↔∃c,l[span isDigit l]?=some c∧pq c=true:=by
 induction l with
 | nil=>simp
 | cons c l ih=>
  rw[lQ,lQ];cases h:isDigit c with
  | false=>cases h2:pq c<;>simp[isWord,h,h2]
  | true=>simp[isWord,h,ih]
theorem N_(p:UInt8→Bool)(l:Str):∀c∈l.take (span p l),p c=true:=by
 induction l with
 | nil=>simp
 | cons c l ih=>
  rw[lQ];split
  ·rename_i h;intro x hx;simp only[List.take_succ_cons,arB]at hx;rcases hx with rfl|hx
   ·exact h
   ·exact ih x hx
  ·simp
def oL:Str→Int × Str × Nat × Int
 | []=>(0,[],0,5)
 | c::r=>
  if isDigit c then
   let n:=span isDigit (c::r)
   if (1<n∧c.toNat=48)∨n<span isWord (c::r)then (0,[],0,5)
   else if FU<val ((c::r).take n)then (0,[],0,2)else (2,(c::r).take n,n,0)
  else if c.toNat=34 then
   let x:=txt 0 [] 1 r
   if x.2.2=0 then (3,x.1,x.2.1,0)else (0,[],0,x.2.2)
  else if pq c then
   let n:=span isWord (c::r)
   if 64<n then (0,[],0,3)else (1,(c::r).take n,n,0)
  else
   let n:=opn (c::r)
   if n=0 then (0,[],0,5)else (4,(c::r).take n,n,0)
def ltk(a:Nat)(x:Int × Str × Nat × Int):ay × Int × Int:=if x.2.2.2=0 then (⟨x.1,x.2.1,a⟩,((a+x.2.2.1:Nat):Int),0)else (⟨0,[],0⟩,0,x.2.2.2)
def rtk(x:Int × Str × Nat × Int):ay × Int × Int:=if x.2.2.2=0 then (⟨x.1,x.2.1,0⟩,(x.2.2.1:Int),0)else (⟨0,[],0⟩,0,x.2.2.2)
end Go.Ft
namespace Go.Ft
open Go
attribute [local congr] gq
theorem rG(s:Str)(i:Nat):(s.drop i).length=s.length-i:=asg
theorem yC(s:Str)(i n:Nat):(s.take (i+n)).drop i=(s.drop i).take n:=by
 rw[asf,asA]
theorem VI{s:Str}{i n:Nat}(c:UInt8):(s.drop i)[n]?=some c↔s[i+n]?=some c:=by rw[asx]
theorem agL{s:Str}(hs:s.length≤2147483648){i:Nat}(h:i<s.length):El s (i:Int)=
  some (ltk i (if 64<span isWord (s.drop i)then (0,[],0,3)else (1,(s.drop i).take (span isWord (s.drop i)),span isWord (s.drop i),0))):=by
 have hle:=Cv isWord (s.drop i);rw[rG]at hle;unfold El;rw[QZ agJ (by omega) (by omega)];generalize span isWord (s.drop i)=n at hle⊢;simp (disch:=omega) only[aW,bL,ak,aqW,aq0];by_cases h1:64<n
 ·simp (disch:=omega) only[aqJ];rfl
 ·simp (disch:=omega) only[aqH];rw[yC];rfl
theorem aaY{s:Str}(hs:s.length≤2147483648){i:Nat}(h:i<s.length)(hd:isDigit (s.getD i 0)=true):zJ s (i:Int)=some (ltk i (oL (s.drop i))):=by
 have hle:=Cv isDigit (s.drop i);rw[rG]at hle;have hlt:=WA (s.drop i);have htk:=N_ isDigit (s.drop i);have hpos:0<span isDigit (s.drop i):=by rw[getD_drop h,lQ,hd];simp
 have hh:(s.drop i)=s.getD i 0::s.drop (i+1):=getD_drop h
 have ht:oL (s.drop i)=if (1<span isDigit (s.drop i)∧(s.getD i 0).toNat=48)∨span isDigit (s.drop i)<span isWord (s.drop i)then (0,[],0,5)
   else if FU<val ((s.drop i).take (span isDigit (s.drop i)))then (0,[],0,2)else (2,(s.drop i).take (span isDigit (s.drop i)),span isDigit (s.drop i),0):=by
  rw[hh];simp only[oL,hd,aqV]
 rw[ht];unfold zJ;rw[QZ digit_eq (by omega) (by omega)];generalize span isDigit (s.drop i)=n at hle hlt htk hpos⊢;generalize span isWord (s.drop i)=m at hlt⊢
 have e1:sl s (i:Int) ((i+n:Nat):Int)=some ((s.drop i).take n):=by
  simp (disch:=omega) only[bL,aq0];rw[yC]
 have e2:((s.drop i).take n).length=n:=by simp;omega
 have e3:((s.drop i).take n).getD 0 0=s.getD i 0:=by
  obtain⟨k,rfl⟩:∃k,n=k+1:=⟨n-1,by omega⟩;rw[hh];rfl
 rw[ak,e1,ak,e2];by_cases hw:n<m
 ·obtain⟨c,hc,hl⟩:=hlt.1 hw;rw[VI]at hc;have hlt2:i+n<s.length:=(arP.1 hc).1;have e4:s.getD (i+n) 0=c:=by rw[arp,hc];rfl
  rw[aqJ (Or.inr hw)];by_cases h1:1<n
  ·by_cases h2:(s.getD i 0).toNat=48
   ·simp (disch:=omega) only[e3,dflt,bg,aqJ,ak,aqW,aq7,aq0,Int.reduceToNat,aqV];rfl
   ·simp (disch:=omega) only[e3,dflt,letter_eq,e4,hl,bg,aqJ,aqH,ak,aqW,aq7,aq0,Int.reduceToNat,aqV];rfl
  ·simp (disch:=omega) only[dflt,letter_eq,e4,hl,bg,aqJ,aqH,ak,aqW,aq0,aqS,aqV,aqT];rfl
 ·by_cases hz:1<n∧(s.getD i 0).toNat=48
  ·rw[aqJ (Or.inl hz)];simp (disch:=omega) only[e3,dflt,bg,aqJ,ak,aqW,aq7,aq0,Int.reduceToNat,aqV];rfl
  ·rw[aqH (show ¬((1<n∧(s.getD i 0).toNat=48)∨n<m)from by omega)]
   have hb2:(if decide (((i+n:Nat):Int)<(s.length:Int))then av (idx s ((i+n:Nat):Int)) fun x2=>sI x2 else some false)=some false:=by
    by_cases h4:i+n<s.length
    ·simp (disch:=omega) only[letter_eq,dflt,bg,aqJ,ak,aqW,aq0];cases hl:pq (s.getD (i+n) 0)with
     | false=>rfl
     | true=>
      exact absurd (hlt.2 ⟨_,by rw[VI,aq1 h4],by rw[arp,aq1 h4]at hl;exact hl⟩) hw
    ·simp (disch:=omega) only[aqH,aqW]
   have hb1:(if decide (1<(n:Int))then av (idx ((s.drop i).take n) 0) fun x1=>some ((x1.toNat:Int)==48)else some false)=some false:=by
    by_cases h1:1<n
    ·simp (disch:=omega) only[e3,dflt,bg,aqJ,ak,aqW,Int.reduceToNat];simp only[aro,aq4];omega
    ·simp (disch:=omega) only[aqH,aqW]
   rw[hb1,ak,aqH (by simp),hb2];simp (disch:=omega) only[agP (s:=(s.drop i).take n) (by rw[e2];omega) htk,ak,aqW,aqS,aqT];by_cases h6:FU<val ((s.drop i).take n)
   ·simp (disch:=omega) only[h6,aqV];rfl
   ·simp (disch:=omega) only[h6,aqT];rfl
theorem Vv{s:Str}(hs:s.length≤2147483648){i:Nat}(h:i<s.length):BO s (i:Int)=some (ltk i (oL (s.drop i))):=by
 have hh:(s.drop i)=s.getD i 0::s.drop (i+1):=getD_drop h;unfold BO;simp (disch:=omega) only[dflt,letter_eq,digit_eq,bg,ak,aq7,aq0];cases hl:pq (s.getD i 0)with
 | true=>
  have hd:isDigit (s.getD i 0)=false:=by
   rw[CQ]at hl;cases hd:isDigit (s.getD i 0)with
   | false=>rfl
   | true=>rw[qp]at hd;omega
  have NR:¬(s.getD i 0).toNat=34:=by rw[CQ]at hl;omega
  rw[aqJ rfl,agL hs h,hh];simp only[oL,hd,hl,NR,aqT,aqV,aqS]
 | false=>
  rw[aqH (by simp)];cases hd:isDigit (s.getD i 0)with
  | true=>rw[aqJ rfl,aaY hs h hd]
  | false=>
   rw[aqH (by simp)];by_cases NR:(s.getD i 0).toNat=34
   ·simp (disch:=omega) only[agK hs h,aqJ];rw[hh];simp only[oL,hd,NR,aqT,aqV,aqS,aaV,ltk];split<;>simp_all
   ·simp (disch:=omega) only[amW hs h,aqH];rw[hh];simp only[oL,hd,hl,NR,aqT,aqS,ltk];generalize opn (s.getD i 0::s.drop (i+1))=n;by_cases ho:n=0
    ·simp (disch:=omega) only[ho,aqH,aqV]
    ·simp (disch:=omega) only[ho,aqV,aqT]
theorem aaC{s:Str}(hs:s.length≤2147483648){i:Nat}(h:i<s.length)(hd:isDigit (s.getD i 0)=true):Ea s (i:Int)=some (rtk (oL (s.drop i))):=by
 have hle:=Cv isDigit (s.drop i);rw[rG]at hle;have htk:=N_ isDigit (s.drop i);have hpos:0<span isDigit (s.drop i):=by rw[getD_drop h,lQ,hd];simp
 have hh:(s.drop i)=s.getD i 0::s.drop (i+1):=getD_drop h
 have ht:oL (s.drop i)=if (1<span isDigit (s.drop i)∧(s.getD i 0).toNat=48)∨span isDigit (s.drop i)<span isWord (s.drop i)then (0,[],0,5)
   else if FU<val ((s.drop i).take (span isDigit (s.drop i)))then (0,[],0,2)else (2,(s.drop i).take (span isDigit (s.drop i)),span isDigit (s.drop i),0):=by
  rw[hh];simp only[oL,hd,aqV]
 rw[ht]
 have hsl:∀n,i+n≤s.length→sl s (i:Int) (bq ((i:Int)+(n:Int)))=some ((s.drop i).take n):=by
  intro n hn;simp (disch:=omega) only[aW,bL,arv,aq0];rw[yC]
 unfold Ea;rw[aeg (by omega) (by omega),abP (by omega) (by omega)];have hsn:=hsl (span isDigit (s.drop i)) (by omega);generalize span isDigit (s.drop i)=n at hle htk hpos hsn⊢;generalize span isWord (s.drop i)=m at⊢;have e2:((s.drop i).take n).length=n:=by simp;omega
 have e3:((s.drop i).take n).getD 0 0=s.getD i 0:=by
  obtain⟨k,rfl⟩:∃k,n=k+1:=⟨n-1,by omega⟩;rw[hh];rfl
 have hne:(s.drop i).take n≠[]:=fun h0=>by rw[h0]at e2;simp at e2;omega
 rw[ak,ak];by_cases hw:n<m
 ·rw[aqJ (show (1<n∧(s.getD i 0).toNat=48)∨n<m from .inr hw)];simp (disch:=omega) only[aqJ,ak,aqW,aqV];rfl
 ·by_cases hz:1<n∧(s.getD i 0).toNat=48
  ·rw[aqJ (show (1<n∧(s.getD i 0).toNat=48)∨n<m from .inl hz)];simp (disch:=omega) only[dflt,aW,bg,bL,aqJ,aqH,ak,aqW,aq7,arH,arv,aq0];rfl
  ·rw[aqH (show ¬((1<n∧(s.getD i 0).toNat=48)∨n<m)from by omega)]
   have hb:(if decide ((n:Int)<(m:Int))then some true else if decide (1<(n:Int))then av (idx s (i:Int)) fun x2=>some ((x2.toNat:Int)==48)else some false)=some false:=by
    by_cases h1:1<n
    ·simp (disch:=omega) only[dflt,bg,aqJ,aqH,ak,aqW,aq0];simp only[aro,aq4];omega
    ·simp (disch:=omega) only[aqH,aqW]
   rw[hb,ak,hsn];rw[aqH (by simp),ak,ajC htk hne,e2,e3];by_cases h16:16<n
   ·have hv:FU<val ((s.drop i).take n):=by
     obtain⟨k,rfl⟩:∃k,n=k+1:=⟨n-1,by omega⟩;rw[hh,List.take_succ_cons];refine afq hd (by omega) ?_;simp[asE];omega
    rw[aqJ (show 16<n∨(1<n∧(s.getD i 0).toNat=48)from .inl h16),aqJ hv];simp (disch:=omega) only[ak,aC,arH,aqV];rfl
   ·rw[aqH (show ¬(16<n∨(1<n∧(s.getD i 0).toNat=48))from by omega)];by_cases h6:FU<val ((s.drop i).take n)
    ·simp (disch:=omega) only[h6,aqJ,ak,aC,arH,aru,aqV];rfl
    ·have h7:val ((s.drop i).take n)≤FU:=by omega
     simp (disch:=omega) only[h6,h7,ak,aC,arf,aqS,aqT,asB];rfl
theorem N9{c:UInt8}{l:Str}:span isWord (c::l)=0↔isWord c=false:=by
 rw[lQ];cases isWord c<;>simp
theorem ads{s:Str}(hs:s.length≤2147483648){i:Nat}(h:i<s.length):Gi s (i:Int)=some (rtk (oL (s.drop i))):=by
 have hh:(s.drop i)=s.getD i 0::s.drop (i+1):=getD_drop h;unfold Gi;simp (disch:=omega) only[dflt,F7,aW,bg,ak,aqW,aq7,aq0];cases hd:isDigit (s.getD i 0)with
 | true=>rw[aqJ rfl,aaC hs h hd]
 | false=>
  rw[aqH (by simp)];by_cases NR:(s.getD i 0).toNat=34
  ·simp (disch:=omega) only[afU hs h,aW,bL,aqJ,ak,arv,aq0];rw[hh];simp only[oL,hd,NR,aqT,aqV,aqS,adt,rtk];split<;>simp_all
  ·have hwl:=Cv isWord (s.drop i);rw[rG]at hwl;simp (disch:=omega) only[abP (s:=s) (by omega) (Nat.le_of_lt h),bL,aqH,ak,arv,aq0]
   have hsl:∀n,i+n≤s.length→sl s (i:Int) (bq ((i:Int)+(n:Int)))=some ((s.drop i).take n):=by
    intro n hn;simp (disch:=omega) only[aW,bL,arv,aq0];rw[yC]
   cases hl:pq (s.getD i 0)with
   | true=>
    have hpos:0<span isWord (s.drop i):=by rw[hh,lQ,isWord,hl];simp
    have hsn:=hsl _ (show i+span isWord (s.drop i)≤s.length from by omega)
    have ht:oL (s.drop i)=if 64<span isWord (s.drop i)then (0,[],0,3)else (1,(s.drop i).take (span isWord (s.drop i)),span isWord (s.drop i),0):=by
     rw[hh];simp only[oL,hd,hl,NR,aqT,aqV,aqS]
    rw[ht];generalize span isWord (s.drop i)=n at *;by_cases h64:64<n
    ·simp (disch:=omega) only[aW,bL,aqJ,ak,arv,aq0];rfl
    ·simp (disch:=omega) only[aW,bL,aqJ,aqH,ak,arv,aq0];rw[yC];rfl
   | false=>
    have h0:span isWord (s.drop i)=0:=by rw[hh,N9,isWord,hl,hd];rfl
    have hol:opn (s.drop i)≤(s.drop i).length:=by
     rw[hh];cases s.drop (i+1)with
     | nil=>simp only[opn];split<;>simp
     | cons b r=>simp only[opn];(repeat' split)<;>simp
    rw[rG]at hol;have hsn:=hsl _ (show i+opn (s.drop i)≤s.length from by omega)
    have ht:oL (s.drop i)=if opn (s.drop i)=0 then (0,[],0,5)else (4,(s.drop i).take (opn (s.drop i)),opn (s.drop i),0):=by
     rw[hh];simp only[oL,hd,hl,NR,aqT,aqS]
    rw[ht,h0];simp (disch:=omega) only[amu hs h,aW,bL,aqJ,aqH,ak,arv,aq0,asy];generalize opn (s.drop i)=n at *;by_cases ho:n=0
    ·simp (disch:=omega) only[aqJ];rfl
    ·simp (disch:=omega) only[aqH];rw[yC];rfl
end Go.Ft
namespace Go.Ft
open Go
attribute [local congr] gq
theorem ag6(s:Str)(i:Nat):(ByteArray.mk s.toArray).get! i=s.getD i 0:=by
 unfold ByteArray.get!;simp[getElem!_def];rfl
theorem size_mk'(s:Str):(ByteArray.mk s.toArray).size=s.length:=by simp[ByteArray.size]
theorem dec_lt{s:Str}{p:Nat}(hc:(s.getD p 0).toNat<128):dec s p=((s.getD p 0).toNat,1):=by
 unfold dec Utf8.decode;simp only[ag6,asy];rw[aqJ hc]
theorem abh{s:Str}{p:Nat}(h:p<s.length)(hc:128≤(s.getD p 0).toNat):
  128≤(dec s p).1∧1≤(dec s p).2∧p+(dec s p).2≤s.length∧∀j,1≤j→j<(dec s p).2→128≤(s.getD (p+j) 0).toNat:=by
 unfold dec Utf8.decode;simp only[ag6,asy,size_mk',Utf8.runeError];rw[aqH (by omega)]
 repeat' split
 all_goals (rename_i h1;simp only[aq5,aqW,aq7]at *)
 all_goals refine⟨by (try simp only);omega,by (try simp only);omega,by (try simp only);omega,fun j h2 h3=>?_⟩
 all_goals (try simp only at h3)
 all_goals try (exfalso;omega)
 all_goals
  rcases arE j 2 with g1|g1
  ·have e:j=1:=Nat.le_antisymm (Nat.le_of_lt_succ g1) h2;subst e;omega
  ·rcases arE j 3 with g2|g2
   ·have e:j=2:=Nat.le_antisymm (Nat.le_of_lt_succ g2) g1;subst e;omega
   ·have e:j=3∨4≤j:=by omega
    rcases e with e|e
    ·subst e;omega
    ·omega
def Bd(s:Str)(n:Nat):Prop:=n=s.length∨(s.getD n 0).toNat<128∨(0<n∧(s.getD (n-1) 0).toNat<128)
theorem ahi{s:Str}{p n:Nat}(h:p<n)(hn:n≤s.length)(hb:Bd s n):p+(dec s p).2≤n:=by
 rcases arE (s.getD p 0).toNat 128 with hc|hc
 ·rw[dec_lt hc];omega
 ·obtain⟨_,h1,h2,h3⟩:=abh (by omega:p<s.length) hc;rcases arE n (p+(dec s p).2)with hlt|hge
  ·exfalso;have a1:=h3 (n-p) (by omega) (by omega);rw[show p+(n-p)=n from by omega]at a1;rcases hb with hb|hb|⟨hb0,hb⟩
   ·omega
   ·omega
   ·by_cases e:n-1=p
    ·rw[e]at hb;omega
    ·have a2:=h3 (n-1-p) (by omega) (by omega);rw[show p+(n-1-p)=n-1 from by omega]at a2;omega
  ·exact hge
def uj(c:UInt8):Bool:=(c.toNat:Int) !=10
@[simp] theorem ao0(c:UInt8):rA c=some (uj c):=rfl
@[simp] theorem ZE(r:Int):zK r=some ((r==32)||(r==9)):=rfl
def opb(t:Str)(o:Nat):Nat:=if t=[40]∨t=[91]then o+1 else if t=[41]∨t=[93]then o-1 else o
theorem ZB(t:Str)(o:Nat)(h:o<4611686018427387904):uX t (o:Int)=some ((opb t o:Nat):Int):=by
 unfold uX opb;by_cases h1:t=[40]
 ·subst h1;simp (disch:=omega) only[aW,aq7,aqV];simp
 ·by_cases h2:t=[91]
  ·subst h2;simp (disch:=omega) only[aW,aqH,aq7,aqV];simp
  ·by_cases h3:t=[41]
   ·subst h3;simp (disch:=omega) only[aW,aqH,aq7,aqV];by_cases h4:1<o
    ·rw[aqJ (by omega)];simp;omega
    ·rw[aqH (by omega)];simp;omega
   ·by_cases h4:t=[93]
    ·subst h4;simp (disch:=omega) only[aW,aqH,aq7,aqV];by_cases h4:1<o
     ·rw[aqJ (by omega)];simp;omega
     ·rw[aqH (by omega)];simp;omega
    ·simp[h1,h2,h3,h4]
theorem Vt(k:ay)(o:Nat)(h:o<4611686018427387904):sD (o:Int) k=some (((if k.kind=4 then opb k.text o else o:Nat)):Int):=by
 unfold sD opb;by_cases hk:k.kind=4
 ·rw[hk];by_cases h1:k.text=[40]
  ·rw[h1];simp (disch:=omega) only[aW,aqW,aq7,aq5,ars,aqV];simp
  ·by_cases h2:k.text=[91]
   ·rw[h2];simp (disch:=omega) only[aW,aqW,aq7,aq5,ars,aqV];simp
   ·by_cases h3:k.text=[41]
    ·rw[h3];by_cases h4:0<o
     ·have:decide ((0:Int)<(o:Int))=true:=by simp;omega
      rw[this];simp (disch:=omega) only[aW,aq7,aq5,ars,asC,aqV];simp;omega
     ·have:decide ((0:Int)<(o:Int))=false:=by simp;omega
      rw[this];simp;omega
    ·by_cases h4:k.text=[93]
     ·rw[h4];by_cases h5:0<o
      ·have:decide ((0:Int)<(o:Int))=true:=by simp;omega
       rw[this];simp (disch:=omega) only[aW,aq7,aq5,ars,asC,aqV];simp;omega
      ·have:decide ((0:Int)<(o:Int))=false:=by simp;omega
       rw[this];simp;omega
     ·simp[h1,h2,h3,h4]
 ·simp[hk]
def scan:Nat→Nat→Nat→Bool→Str→List ay × Option (Nat × Int)
 | _,_,_,_,[]=>([],none)
 | k+1,p,o,nl,_::r=>scan k (p+1) o nl r
 | 0,p,o,nl,c::r=>
  if c.toNat=32∨c.toNat=9 then scan 0 (p+1) o nl r
  else if c.toNat=35 then scan (span uj r) (p+1) o nl r
  else if c.toNat=10 then (if o=0∧nl=false then (⟨5,[],p⟩::(scan 0 (p+1) o true r).1,(scan 0 (p+1) o true r).2)else scan 0 (p+1) o nl r)
  else if (oL (c::r)).2.2.2=0 then
   (⟨(oL (c::r)).1,(oL (c::r)).2.1,p⟩::(scan ((oL (c::r)).2.2.1-1) (p+1) (if (oL (c::r)).1=4 then opb (oL (c::r)).2.1 o else o) false r).1,
    (scan ((oL (c::r)).2.2.1-1) (p+1) (if (oL (c::r)).1=4 then opb (oL (c::r)).2.1 o else o) false r).2)
  else ([],some (p,(oL (c::r)).2.2.2))
theorem Kr:∀(j a p o:Nat) (nl:Bool) (r:Str),j≤r.length→scan (a+j) p o nl r=scan a (p+j) o nl (r.drop j)
 | 0,a,p,o,nl,r,_=>rfl
 | j+1,a,p,o,nl,[],h=>by simp at h
 | j+1,a,p,o,nl,c::r,h=>by
  rw[show a+(j+1)=(a+j)+1 from rfl,scan,Kr j a (p+1) o nl r (by simpa using h),ar5];rw[show p+1+j=p+(j+1)from by omega]
def fin(out:List ay)(x:List ay × Option (Nat × Int)):List ay × Int × Int:=
 match x.2 with
 | none=>(out++x.1,0,0)
 | some (p,e)=>([],(p:Int),e)
def LM(out:List ay):Bool:=match out.getLast? with|some t=>t.kind==5|none=>false
theorem JB(out:List ay)(t:ay):LM (out++[t])=(t.kind==5):=by simp[LM]
theorem JR(out:List ay)(t:ay)(x:List ay × Option (Nat × Int)):fin out (t::x.1,x.2)=fin (out++[t]) x:=by
 unfold fin;cases x.2<;>simp
theorem Yj:∀(N:Nat) (r b:Str) (m:Nat),r.length≤N→(txt 0 b m r).2.2=0→m<(txt 0 b m r).2.1∧(txt 0 b m r).2.1≤m+r.length∧(r.getD ((txt 0 b m r).2.1-m-1) 0).toNat=34
 | N,[],b,m,_,h=>by simp[txt]at h
 | 0,c::r,b,m,hN,h=>by simp at hN
 | N+1,c::r,b,m,hN,h=>by
  rw[Q_]at h⊢;by_cases NR:c.toNat=34
  ·rw[aqJ NR]at h⊢;by_cases hl:4096<b.length
   ·rw[aqJ hl]at h;simp at h
   ·rw[aqH hl];simp only[aq2];refine⟨by omega,by omega,?_⟩;rw[show m+1-m-1=0 from by omega];exact NR
  ·rw[aqH NR]at h⊢;by_cases he:(chr (c::r)).2.2=0
   ·rw[aqJ he]at h⊢;obtain⟨n1,n2⟩:=acS he;generalize (chr (c::r)).2.1=n at n1 n2 h⊢;have hlen:((c::r).drop n).length=r.length+1-n:=by simp
    have ih:=Yj N ((c::r).drop n) (b++[(chr (c::r)).1]) (m+n) (by rw[hlen];simp at hN n2;omega) h;rw[hlen]at ih;simp only[aq2]at n2⊢;refine⟨by omega,by omega,?_⟩;have h3:=ih.2.2;rw[arp,asx]at h3;rw[arp];rw[show n+((txt 0 (b++[(chr (c::r)).1]) (m+n) ((c::r).drop n)).2.1-(m+n)-1)=(txt 0 (b++[(chr (c::r)).1]) (m+n) ((c::r).drop n)).2.1-m-1 from by omega]at h3;exact h3
   ·rw[aqH he]at h;exact absurd h he
theorem Vg(p:UInt8→Bool)(l:Str){i:Nat}(h:i<span p l):p (l.getD i 0)=true:=by
 have h2:=Cv p l
 have:=N_ p l (l.getD i 0) (by
  rw[List.mem_take_iff_getElem]
  exact⟨i,by omega,by rw[arp,aq1 (by omega),aso]⟩)
 exact this
theorem amT(l:Str):opn l≤l.length:=by
 match l with
 | []=>simp[opn]
 | [a]=>simp only[opn];split<;>simp
 | a::b::r=>simp only[opn];(repeat' split)<;>simp
theorem Ia{a:UInt8}(h:EI [a]=true):a.toNat<128:=by
 simp only[EI,ars,aq7,arS,and_true,reduceCtorEq,and_false,false_or]at h;have:a=60∨a=62∨a=43∨a=45∨a=42∨a=47∨a=37∨a=33∨a=63∨a=58∨a=46∨a=44∨a=61∨a=40∨a=41∨a=91∨a=93∨a=123∨a=125:=h;rcases this with rfl|rfl|rfl|rfl|rfl|rfl|rfl|rfl|rfl|rfl|rfl|rfl|rfl|rfl|rfl|rfl|rfl|rfl|rfl<;>decide
theorem PW{a b:UInt8}(h:EI [a,b]=true):a.toNat<128∧b.toNat<128:=by
 simp only[EI,ars,aq7,arS,and_true,reduceCtorEq,and_false,or_false]at h;rcases h with⟨rfl,rfl⟩|⟨rfl,rfl⟩|⟨rfl,rfl⟩|⟨rfl,rfl⟩|⟨rfl,rfl⟩|⟨rfl,rfl⟩<;>decide
theorem NZ{c:UInt8}{r:Str}(h:(oL (c::r)).2.2.2=0):1≤(oL (c::r)).2.2.1∧(oL (c::r)).2.2.1≤r.length+1∧((c::r).getD ((oL (c::r)).2.2.1-1) 0).toNat<128∧c.toNat<128:=by
 simp only[oL]at h⊢;by_cases hd:isDigit c=true
 ·rw[aqJ hd]at h⊢;have hpos:0<span isDigit (c::r):=by rw[lQ,hd];simp
  have hle:=Cv isDigit (c::r);have hg:=Vg isDigit (c::r) (i:=span isDigit (c::r)-1) (by omega);rw[qp]at hd hg;by_cases h1:(1<span isDigit (c::r)∧c.toNat=48)∨span isDigit (c::r)<span isWord (c::r)
  ·rw[aqJ h1]at h;simp at h
  ·rw[aqH h1]at h⊢;by_cases h2:FU<val ((c::r).take (span isDigit (c::r)))
   ·rw[aqJ h2]at h;simp at h
   ·rw[aqH h2];simp only[aq2]at hle;have hg2:((c::r).getD (span isDigit (c::r)-1) 0).toNat<128:=by omega
    exact⟨hpos,hle,hg2,by omega⟩
 ·rw[aqH hd]at h⊢;by_cases NR:c.toNat=34
  ·rw[aqJ NR]at h⊢;by_cases he:(txt 0 [] 1 r).2.2=0
   ·rw[aqJ he];obtain⟨a1,a2,a3⟩:=Yj r.length r [] 1 (aq9 _) he;refine⟨by simp only;omega,by simp only;omega,?_,by omega⟩;simp only;obtain⟨q,hq⟩:∃q,(txt 0 [] 1 r).2.1=q+2:=⟨(txt 0 [] 1 r).2.1-2,by omega⟩;rw[hq]at a3⊢;have a3:(r.getD q 0).toNat=34:=a3;show ((c::r).getD (q+1) 0).toNat<128;rw[asN];omega
   ·rw[aqH he]at h;exact absurd h he
  ·rw[aqH NR]at h⊢;by_cases hl:pq c=true
   ·rw[aqJ hl]at h⊢;have hpos:0<span isWord (c::r):=by rw[lQ,isWord,hl];simp
    have hle:=Cv isWord (c::r);have hg:=Vg isWord (c::r) (i:=span isWord (c::r)-1) (by omega);rw[CQ]at hl;simp only[isWord,ars,CQ,qp]at hg;by_cases h2:64<span isWord (c::r)
    ·rw[aqJ h2]at h;simp at h
    ·rw[aqH h2];simp only[aq2]at hle;have hg2:((c::r).getD (span isWord (c::r)-1) 0).toNat<128:=by omega
     exact⟨hpos,hle,hg2,by omega⟩
   ·rw[aqH hl]at h⊢;have hle:=amT (c::r);by_cases h2:opn (c::r)=0
    ·rw[aqJ h2]at h;simp at h
    ·rw[aqH h2];simp only[aq2]at hle;refine⟨by simp only;omega,hle,?_⟩;cases r with
     | nil=>
      simp only[opn]at h2⊢;split
      ·rename_i ho;exact⟨Ia ho,Ia ho⟩
      ·rename_i ho;simp[ho]at h2
     | cons b r=>
      simp only[opn]at h2⊢;split
      ·rename_i ho;exact⟨(PW ho).2,(PW ho).1⟩
      ·rename_i ho2;split
       ·rename_i ho;exact⟨Ia ho,Ia ho⟩
       ·rename_i ho;simp[ho,ho2]at h2
end Go.Ft
namespace Go.Ft
open Go
attribute [local congr] gq
theorem Vz(out:List ay)(h:out≠[]):idx out (bq ((out.length:Int)-1))=if h2:out.length<4611686018427387904 then some (out.getLast h)else idx out (bq ((out.length:Int)-1)):=by
 split
 ·rename_i h2;have hl:0<out.length:=arM.2 h;rw[aW (by omega) (by omega),show (out.length:Int)-1=((out.length-1:Nat):Int)from by omega,OA (by omega)];congr 1;exact(List.getLast_eq_getElem h).symm
 ·rfl
theorem W_(out:List ay)(o:Nat)(h:out.length<4611686018427387904):
  (if (o:Int)=0 then if (out.length:Int)=0 then some true else av (idx out ((out.length:Int)-1)) fun e1=>some (e1.kind !=5)else some false)=some (decide (o=0∧LM out=false)):=by
 by_cases ho:o=0
 ·subst ho;by_cases he:out=[]
  ·subst he;simp[LM]
  ·have hl:0<out.length:=arM.2 he;have hl2:¬((out.length:Int)=0):=by omega
   have h1:=Vz out he;rw[dif_pos h,aW (by omega) (by omega)]at h1;rw[h1];simp[LM,List.getLast?_eq_some_getLast he];cases hk:(out.getLast he).kind==5<;>simp_all
 ·have:¬(o:Int)=0:=by omega
  simp[ho]
theorem apN{s:Str}{p:Nat}(h:p<s.length)(hc:(s.getD p 0).toNat≠10):p+1+span uj (s.drop (p+1))≤s.length∧Bd s (p+1+span uj (s.drop (p+1))):=by
 have hl:=Cv uj (s.drop (p+1));rw[rG]at hl;refine⟨by omega,?_⟩;rcases arE (p+1+span uj (s.drop (p+1))) s.length with h1|h1
 ·right;left
  have key:∀l:Str,span uj l<l.length→(l.getD (span uj l) 0).toNat=10:=by
   intro l
   induction l with
   | nil=>simp
   | cons c l ih=>
    rw[lQ];cases hn:uj c with
    | true=>simp only[aqV,aq2];intro h2;rw[asN];exact ih (by omega)
    | false=>simp only[aqS,aqT,aq2];intro _;simp[uj]at hn;rw[List.getD_cons_zero];omega
  have:=key (s.drop (p+1)) (by rw[rG];omega);rw[arp,asx]at this;rw[arp];omega
 ·left;omega
theorem ajr{c:UInt8}(r:Str)(h:c.toNat≠10):span uj (c::r)=span uj r+1:=by
 rw[lQ,aqJ];simp[uj];omega
theorem U_(c:UInt8)(r:Str):(oL (c::r)).1≠5:=by
 simp only[oL]
 repeat' split
 all_goals simp
theorem uU{s:Str}(hs:s.length≤2147483648):∀(k p nx o:Nat) (out:List ay),s.length<k+p→p≤s.length→nx≤s.length→(p<nx→Bd s nx)→out.length≤p→o≤p→
  je s k out (nx:Int) (o:Int) p=some (fin out (scan (nx-p) p o (LM out) (s.drop p)))
 | 0,p,nx,o,out,h,h',_,_,_,_=>by omega
 | k+1,p,nx,o,out,h,hp,hnx,hb,hout,ho=>by
  rw[je];by_cases hi:p<s.length
  ·rw[aqJ (by simpa using hi)];by_cases hlt:p<nx
   ·
    have hst:=ahi hlt hnx (hb hlt)
    have hpos:1≤(dec s p).2:=by
     rcases arE (s.getD p 0).toNat 128 with hc|hc
     ·rw[dec_lt hc];exact aq9 _
     ·exact(abh hi hc).2.1
    simp (disch:=omega) only[aqJ,ak,aqW,aqV];rw[uU hs k (p+(dec s p).2) nx o out (by omega) (by omega) hnx (fun _=>hb hlt) (by omega) (by omega)];rw[show nx-p=(nx-(p+(dec s p).2))+(dec s p).2 from by omega,Kr _ _ _ _ _ _ (by rw[rG];omega),arW]
   ·have e0:nx-p=0:=by omega
    rw[e0];have hh:=getD_drop hi;rcases arE (s.getD p 0).toNat 128 with hc|hc
    ·rw[dec_lt hc];simp (disch:=omega) only[ZE,aW,aqH,ak,aqW,aq7,arA,ash,ars];by_cases hbl:(s.getD p 0).toNat=32∨(s.getD p 0).toNat=9
     ·have e1:(((s.getD p 0).toNat:Int)==32||((s.getD p 0).toNat:Int)==9)=true:=by simp only[ars,aq7];omega
      simp (disch:=omega) only[aV,aqJ,ak];rw[uU hs k (p+1) nx o out (by omega) (by omega) hnx (fun h=>by omega) (by omega) (by omega),hh,show nx-(p+1)=0 from by omega];rw[scan,aqJ hbl]
     ·have e1:(((s.getD p 0).toNat:Int)==32||((s.getD p 0).toNat:Int)==9)=false:=by simp only[arF,aq4];omega
      simp (disch:=omega) only[aqH];by_cases h35:(s.getD p 0).toNat=35
      ·simp (disch:=omega) only[QZ ao0 (s:=s) (by omega) hp,aV,aqJ,aqH,ak];obtain⟨b1,b2⟩:=apN hi (by omega);rw[hh,ajr _ (by omega)];rw[show p+(span uj (s.drop (p+1))+1)=p+1+span uj (s.drop (p+1))from by omega];rw[uU hs k (p+1) _ o out (by omega) (by omega) b1 (fun _=>b2) (by omega) (by omega)];rw[show p+1+span uj (s.drop (p+1))-(p+1)=span uj (s.drop (p+1))from by omega];rw[scan,aqH hbl,aqJ h35]
      ·by_cases h10:(s.getD p 0).toNat=10
       ·simp (disch:=omega) only[aV,aqJ,aqH,ak];rw[W_ out o (by omega),hh,scan,aqH hbl,aqH h35,aqJ h10];by_cases hn:o=0∧LM out=false
        ·have happ:app out [(⟨5,[],(p:Int)⟩:ay)]=some (out++[⟨5,[],(p:Int)⟩]):=aV (by simp[rM];omega);have hd:decide (o=0∧LM out=false)=true:=arC hn;simp (disch:=omega) only[hd,happ,aqJ,ak,aqV];rw[uU hs k (p+1) nx o _ (by omega) (by omega) hnx (fun h=>by omega) (by simp;omega) (by omega),show nx-(p+1)=0 from by omega,JB];rw[JR];rfl
        ·have hd:decide (o=0∧LM out=false)=false:=arL hn;simp (disch:=omega) only[hd,aqH,ak,aqS,aqT];rw[uU hs k (p+1) nx o out (by omega) (by omega) hnx (fun h=>by omega) (by omega) (by omega),show nx-(p+1)=0 from by omega]
       ·simp (disch:=omega) only[Vv hs hi,aV,aqJ,aqH,ak];rw[hh,scan,aqH hbl,aqH h35,aqH h10];by_cases he:(oL (s.getD p 0::s.drop (p+1))).2.2.2=0
        ·obtain⟨n1,n2,n3,n4⟩:=NZ he;rw[rG]at n2;rw[aqJ he]
         have hbd:Bd s (p+(oL (s.getD p 0::s.drop (p+1))).2.2.1):=by
          right;right;refine⟨by omega,?_⟩;rw[←hh,arp,asx]at n3;rw[arp,←hh];rw[←hh]at n1;rw[show p+(oL (s.drop p)).2.2.1-1=p+((oL (s.drop p)).2.2.1-1)from by omega];exact n3
         have h5:=U_ (s.getD p 0) (s.drop (p+1));generalize oL (s.getD p 0::s.drop (p+1))=t at he n1 n2 hbd h5⊢;have happ:app out [(⟨t.1,t.2.1,(p:Int)⟩:ay)]=some (out++[⟨t.1,t.2.1,(p:Int)⟩]):=aV (by simp[rM];omega);have aqM:opb t.2.1 o≤o+1:=by unfold opb;(repeat' split)<;>omega
         have ek:((t.1:Int)==5)=false:=aq4.2 h5;simp only[ltk,he,aqV];simp (disch:=omega) only[aD,asX,aqT];by_cases hk:t.1=4
         ·simp (disch:=omega) only[hk,ZB _ _ (by omega:o<4611686018427387904),ak,aqV];rw[hk]at happ;simp (disch:=omega) only[happ,ak];rw[uU hs k (p+1) _ (opb t.2.1 o) _ (by omega) (by omega) (by omega) (fun _=>hbd) (by simp;omega) (by omega),JB,JR];rw[show p+t.2.2.1-(p+1)=t.2.2.1-1 from by omega]
          rfl
         ·simp (disch:=omega) only[hk,happ,ak,aqT];rw[uU hs k (p+1) _ o _ (by omega) (by omega) (by omega) (fun _=>hbd) (by simp;omega) (by omega),JB,JR];rw[show p+t.2.2.1-(p+1)=t.2.2.1-1 from by omega];rw[ek]
        ·rw[aqH he];simp only[ltk,he,aqT];simp (disch:=omega) only[he,aD,asn,aqV];rfl
    ·
     obtain⟨g1,_⟩:=abh hi hc;have e1:(((dec s p).1:Int)==32||((dec s p).1:Int)==9)=false:=by simp only[arF,aq4];omega
     have he:(oL (s.getD p 0::s.drop (p+1))).2.2.2≠0:=fun he=>by have:=(NZ he).2.2.2;omega
     simp (disch:=omega) only[ZE,e1,Vv hs hi,aqH,ak,aqW,aq7,arA,ash,aqS,aqT];rw[hh,scan,aqH (by omega),aqH (by omega),aqH (by omega),aqH he];simp only[ltk,he,aqT];simp (disch:=omega) only[he,aD,asn,aqV];rfl
  ·have e:p=s.length:=by omega
   subst e;rw[aqH (by simp)];rw[ara (aq9 _)];cases hz:nx-s.length<;>simp[scan,fin]
end Go.Ft
namespace Go.Ft
open Go
attribute [local congr] gq
theorem R_{s:Str}(hs:s.length≤65536):om s=some (fin [] (scan 0 0 0 false s)):=by
 unfold om;rw[aqH (by simp;omega)];have:=uU (s:=s) (by omega) BIG 0 0 0 [] (by simp only[BIG];omega) (by omega) (by omega) (fun h=>by omega) (by simp) (by omega);exact this
def Ub:Bool→Str→Nat
 | _,[]=>0
 | cm,c::r=>if c.toNat≠10∧(cm=true∨c.toNat=32∨c.toNat=9∨c.toNat=35)then Ub (cm||c.toNat==35) r+1 else 0
theorem aa3:∀(cm:Bool) (l:Str),Ub cm l≤l.length
 | _,[]=>aq9 0
 | cm,c::r=>by
  rw[Ub];split
  ·have:=aa3 (cm||c.toNat==35) r;simp only[aq2];omega
  ·exact asQ _
theorem Sv{s:Str}(hs:s.length≤2147483648):∀(k i:Nat) (cm:Bool),s.length<k+i→i≤s.length→
  oZ s k (i:Int) cm=some ((i+Ub cm (s.drop i):Nat):Int)
 | 0,i,cm,h,h'=>by omega
 | k+1,i,cm,h,h'=>by
  rw[oZ];by_cases hi:i<s.length
  ·have hh:=getD_drop hi
   have hx:idx s (i:Int)=some (s.getD i 0):=by
    rw[OA hi,arp,aq1 hi];rfl
   rw[hh,Ub];have hc:(decide ((i:Int)<(s.length:Int)))=true:=by simp;omega
   simp only[hc,aqV,hx,ak];generalize s.getD i 0=c;by_cases h10:c.toNat=10
   ·have e:((c.toNat:Int) !=10)=false:=by simp;omega
    simp[h10]
   ·have e:((c.toNat:Int) !=10)=true:=by simp;omega
    have e35:((c.toNat:Int)==35)=(c.toNat==35):=by
     by_cases h:c.toNat=35
     ·simp[h]
     ·have h2:¬(c.toNat:Int)=35:=by omega
      rw[aq4.2 h,aq4.2 h2]
    have go:∀cm',oZ s k (bq ((i:Int)+1)) cm'=some ((i+(Ub cm' (s.drop (i+1))+1):Nat):Int):=by
     intro cm';rw[aW (by omega) (by omega)];have:=Sv hs k (i+1) cm' (by omega) (by omega);rw[show (i:Int)+1=((i+1:Nat):Int)from by omega,this];congr 2;omega
    simp only[e,aqV,e35,h10,ash,asn,true_and];cases cm with
    | true=>simp[go]
    | false=>
     by_cases h32:c.toNat=32
     ·have h2:(c.toNat==35)=false:=by simp[h32]
      simp[h32,go]
     ·have aq3:((c.toNat:Int)==32)=false:=by simp;omega
      by_cases h9:c.toNat=9
      ·simp[h9,go]
      ·have h9':((c.toNat:Int)==9)=false:=by simp;omega
       simp only[aq3,h9',aqS,aqT,ak,h32,h9,false_or,ar0];cases hb:(c.toNat==35)with
       | true=>simp[go];simp at hb;simp[hb]
       | false=>simp at hb;simp[hb]
  ·have hc:(decide ((i:Int)<(s.length:Int)))=false:=by simp;omega
   rw[ara (by omega)];simp only[hc,aqS,aqT,ak,Ub,asy]
theorem Sr{s:Str}(hs:s.length≤65536){i:Nat}(h:i≤s.length):qd s (i:Int)=some ((i+Ub false (s.drop i):Nat):Int):=
 Sv (by omega) BIG i false (by simp only[BIG];omega) h
theorem agV(l:Str):Ub true l=span uj l:=by
 induction l with
 | nil=>rfl
 | cons c r ih=>
  rw[Ub,lQ];by_cases h:c.toNat=10
  ·simp[h,uj]
  ·have:¬(c.toNat:Int)=10:=by omega
   simp[h,uj,this,ih]
theorem Sw:∀(l:Str) (cm:Bool),Ub false (l.drop (Ub cm l))=0
 | [],cm=>by cases cm<;>rfl
 | c::r,cm=>by
  rw[Ub];split
  ·rw[ar5];exact Sw r _
  ·rename_i h;rw[arU,Ub,aqH];intro h2;apply h;exact⟨h2.1,by cases h2.2 with|inl h=>cases h|inr h=>exact Or.inr h⟩
theorem Ro:∀(l:Str) (p o:Nat) (nl:Bool),scan 0 p o nl l=scan 0 (p+Ub false l) o nl (l.drop (Ub false l))
 | [],p,o,nl=>rfl
 | c::r,p,o,nl=>by
  rw[Ub];split
  ·rename_i h;by_cases h35:c.toNat=35
   ·rw[scan,aqH (by omega),aqJ h35,ar5];simp only[h35,arO,Bool.or_true];rw[agV];have:=Kr (span uj r) 0 (p+1) o nl r (Cv _ _);rw[Nat.zero_add]at this;rw[this];rw[show p+1+span uj r=p+(span uj r+1)from by omega]
   ·have hb:(c.toNat==35)=false:=by simp[h35]
    rw[scan,aqJ (by obtain⟨_,h⟩:=h;rcases h with h|h|h|h<;>simp_all),ar5,hb];rw[Ro r];simp only[asD];rw[show p+1+Ub false r=p+(Ub false r+1)from by omega]
  ·rfl
theorem Uq(out:List ay)(o:Nat)(h:out.length<4611686018427387904):
  (if ((o:Int)==0)=true then if ((out.length:Int)==0)=true then some true else av (idx out (bq ((out.length:Int)-1))) fun e1=>some (e1.kind !=5)else some false)=some (decide (o=0∧LM out=false)):=by
 by_cases ho:o=0
 ·subst ho;by_cases he:out=[]
  ·subst he;simp[LM]
  ·have hl:0<out.length:=arM.2 he;have hl2:¬((out.length:Int)=0):=by omega
   have h1:=Vz out he;rw[dif_pos h]at h1;rw[h1];simp[LM,List.getLast?_eq_some_getLast he];cases hk:(out.getLast he).kind==5<;>simp_all
 ·have:¬(o:Int)=0:=by omega
  simp[ho]
theorem Rq{s:Str}(hs:s.length≤65536):∀(k p o:Nat) (out:List ay),s.length<k+p→p≤s.length→Ub false (s.drop p)=0→out.length≤p→o≤p→
  lq s k out (o:Int) (p:Int)=some (fin out (scan 0 p o (LM out) (s.drop p)))
 | 0,p,o,out,h,h',_,_,_=>by omega
 | k+1,p,o,out,h,hp,hg,hout,ho=>by
  rw[lq];by_cases hi:p<s.length
  ·have hh:=getD_drop hi
   have hx:idx s (p:Int)=some (s.getD p 0):=by
    rw[OA hi,arp,aq1 hi];rfl
   have hc:(decide ((p:Int)<(s.length:Int)))=true:=by simp;omega
   have step:∀(q:Nat) (o':Nat) (out':List ay),p<q→q≤s.length→out'.length≤q→o'≤q→
     av (qd s (q:Int)) (fun at3=>lq s k out' (o':Int) at3)=some (fin out' (scan 0 q o' (LM out') (s.drop q))):=by
    intro q o' out' h1 h2 h3 h4;have hle:=aa3 false (s.drop q);rw[rG]at hle;rw[Sr hs h2,ak];rw[Rq hs k (q+Ub false (s.drop q)) o' out' (by omega) (by omega) (by rw[←arW];exact Sw _ _) (by omega) (by omega)];rw[Ro (s.drop q),arW]
   rw[hh,Ub]at hg;simp only[hc,aqV,hx,ak];by_cases h10:(s.getD p 0).toNat=10
   ·have e:(((s.getD p 0).toNat:Int) !=10)=false:=bne_eq_false_iff_eq.2 (by omega);have e5:((5:Int) !=5)=false:=rfl
    have eop:sD (o:Int) (⟨5,[],(p:Int)⟩:ay)=some (o:Int):=by
     rw[Vt _ _ (by omega)];simp
    simp only[e,e5,aqS,aqT,eop,ak];rw[Uq out o (by omega),ak]
    conv=>rhs;rw[hh,scan,aqH (by omega),aqH (by omega),aqJ h10]
    have w1:bq ((p:Int)+1)=((p+1:Nat):Int):=by rw[aW (by omega) (by omega)];omega
    by_cases hn:o=0∧LM out=false
    ·have happ:app out [(⟨5,[],(p:Int)⟩:ay)]=some (out++[⟨5,[],(p:Int)⟩]):=aV (by simp[rM];omega);rw[arC hn,aqJ rfl,happ,ak,w1];rw[step (p+1) o _ (by omega) (by omega) (by simp;omega) (by omega),JB,aqJ hn,JR];rfl
    ·rw[arL hn,aqH Bool.false_ne_true,w1];rw[step (p+1) o _ (by omega) (by omega) (by omega) (by omega),aqH hn]
   ·have e:(((s.getD p 0).toNat:Int) !=10)=true:=arA.2 (by omega);simp only[e,aqV]
    have hbl:¬((s.getD p 0).toNat=32∨(s.getD p 0).toNat=9):=fun h=>by
     rw[aqJ ⟨h10,by omega⟩]at hg;omega
    have h35:¬(s.getD p 0).toNat=35:=fun h=>by
     rw[aqJ ⟨h10,by omega⟩]at hg;omega
    rw[ads (by omega) hi,hh,scan,aqH hbl,aqH h35,aqH h10];by_cases he:(oL (s.getD p 0::s.drop (p+1))).2.2.2=0
    ·obtain⟨n1,n2,n3,n4⟩:=NZ he;have h5:=U_ (s.getD p 0) (s.drop (p+1));rw[rG]at n2;rw[aqJ he];generalize oL (s.getD p 0::s.drop (p+1))=t at he n1 n2 h5⊢;have happ:app out [(⟨t.1,t.2.1,(p:Int)⟩:ay)]=some (out++[⟨t.1,t.2.1,(p:Int)⟩]):=aV (by simp[rM];omega);have aqM:opb t.2.1 o≤o+1:=by unfold opb;(repeat' split)<;>omega
     have ek:((t.1:Int)==5)=false:=aq4.2 h5;have ek2:((t.1:Int) !=5)=true:=arA.2 h5;have w1:bq ((p:Int)+(t.2.2.1:Int))=((p+t.2.2.1:Nat):Int):=by rw[aW (by omega) (by omega)];omega
     simp only[rtk,he,aqV,aD,ek2,ak,happ,Vt _ _ (by omega:o<4611686018427387904),w1];have e00:((0:Int) !=0)=false:=rfl;simp only[e00,aqS,aqT];rw[step (p+t.2.2.1) _ _ (by omega) (by omega) (by simp;omega) (by split<;>omega),JB,JR,ek];have hsk:=Kr (t.2.2.1-1) 0 (p+1) (if t.1=4 then opb t.2.1 o else o) false (s.drop (p+1)) (by rw[rG];omega);rw[Nat.zero_add]at hsk;rw[hsk,arW,show p+1+(t.2.2.1-1)=p+t.2.2.1 from by omega]
    ·rw[aqH he];have e00:((oL (s.getD p 0::s.drop (p+1))).2.2.2 !=0)=true:=arA.2 he;simp only[rtk,he,aqT,aD,e00,aqV];rfl
  ·have e:p=s.length:=by omega
   subst e;rw[ara (aq9 _)];simp[scan,fin]
theorem aaB{s:Str}(hs:s.length≤65536):uP s=some (fin [] (scan 0 0 0 false s)):=by
 unfold uP;rw[aqH (by simp;omega),show (0:Int)=((0:Nat):Int)from rfl,Sr hs (asQ _),ak];have hle:=aa3 false (s.drop 0);rw[rG]at hle;rw[Rq hs BIG _ 0 [] (by simp only[BIG];omega) (by omega) (by rw[←arW];exact Sw _ _) (by simp) (by omega)];rw[←arW,arU];have:=Ro s 0 0 false;rw[this];rfl
theorem Ym(s:Str):uP s=om s:=by
 rcases arE 65536 s.length with h|h
 ·unfold uP om;rw[aqJ (by simp;omega),aqJ (by simp;omega)]
 ·rw[R_ h,aaB h]
theorem Rm:∀(l:Str) (k p o:Nat) (nl:Bool),(scan k p o nl l).1.length≤l.length
 | [],k,p,o,nl=>by cases k<;>simp[scan]
 | c::r,k+1,p,o,nl=>by rw[scan];have:=Rm r k (p+1) o nl;simp only[aq2];omega
 | c::r,0,p,o,nl=>by
  have h1:=Rm r;rw[scan]
  repeat' split
  all_goals simp only[aq2,arY]
  all_goals first|omega|(have:=h1 0 (p+1) o nl;omega)|(have:=h1 0 (p+1) o true;omega)|(have:=h1 (span uj r) (p+1) o nl;omega)|skip
  all_goals (have:=h1 ((oL (c::r)).2.2.1-1) (p+1) (if (oL (c::r)).1=4 then opb (oL (c::r)).2.1 o else o) false;simp_all)
theorem aj_(l:Str):(fin [] (scan 0 0 0 false l)).1.length≤l.length:=by
 have:=Rm l 0 0 0 false;unfold fin;split<;>simp_all
end Go.Ft
namespace Go.Ft
open Go
attribute [local congr] gq
theorem aas:∀(r:Str) (k:Nat) (b:Str) (n:Nat),(txt k b n r).1.length≤4096
 | [],k,b,n=>by cases k<;>simp[txt]
 | c::r,k+1,b,n=>by rw[txt];exact aas r k b n
 | c::r,0,b,n=>by
  rw[txt];split
  ·split
   ·simp
   ·simp only;omega
  ·split
   ·exact aas r _ _ _
   ·simp
theorem ajg:∀l:Str,(oL l).2.1.length≤l.length+4096
 | []=>by simp[oL]
 | c::r=>by
  have:=aas r 0 [] 1;unfold oL;simp only
  repeat' split
  all_goals simp only[arY,asE]
  all_goals omega
theorem Oe:∀(l:Str) (k p o:Nat) (nl:Bool),∀t∈(scan k p o nl l).1,t.text.length≤l.length+4096
 | [],k,p,o,nl,t,ht=>by cases k<;>simp[scan]at ht
 | c::r,k+1,p,o,nl,t,ht=>by rw[scan]at ht;have:=Oe r k (p+1) o nl t ht;simp only[aq2];omega
 | c::r,0,p,o,nl,t,ht=>by
  have h1:=Oe r;have h2:=ajg (c::r);simp only[aq2]at h2⊢;rw[scan]at ht;split at ht
  ·have:=h1 _ _ _ _ t ht;omega
  ·split at ht
   ·have:=h1 _ _ _ _ t ht;omega
   ·split at ht
    ·split at ht
     ·simp only[arB]at ht;rcases ht with rfl|ht
      ·simp
      ·have:=h1 _ _ _ _ t ht;omega
     ·have:=h1 _ _ _ _ t ht;omega
    ·split at ht
     ·simp only[arB]at ht;rcases ht with rfl|ht
      ·exact h2
      ·have:=h1 _ _ _ _ t ht;omega
     ·simp at ht
theorem toks(s:Str):∃ts a e,om s=some (ts,a,e)∧uP s=some (ts,a,e)∧Dg ts:=by
 rw[Ym];rcases arE 65536 s.length with h|h
 ·unfold om;rw[aqJ (by simp;omega)];exact⟨_,_,_,rfl,rfl,by simp[Dg]⟩
 ·rw[R_ h];have hl:=aj_ s;refine⟨(fin [] (scan 0 0 0 false s)).1,(fin [] (scan 0 0 0 false s)).2.1,(fin [] (scan 0 0 0 false s)).2.2,rfl,rfl,by omega,fun t ht=>?_⟩
  have hm:t∈(scan 0 0 0 false s).1:=by
   unfold fin at ht;split at ht
   ·simpa using ht
   ·simp at ht
  have:=Oe s 0 0 0 false t hm;omega
def zeroE:aj:=aj.mk 0 ([]:Str) (ah.mk 0 false 0 ([]:Str) [] []) [] []
theorem aji{ts:List ay}(h:Dg ts):∃(e:aj) (j:Nat) (c:Int),BM ts=some (e,(j:Int),c)∧Jp ts=some (e,(j:Int),c)∧j≤ts.length∧(c=0→xval e=0∧e.bulk≤137438953472)∧(c≠0→e=zeroE):=by
 have hN:=h.1;unfold BM Jp E8;rcases ahn h with⟨e,j,g1,g2,gb,gP,gR⟩|⟨j,c,x,g1,g2,gc,gP,gR⟩
 ·have hbk:e.bulk≤137438953472:=by omega
  obtain⟨v1,v2⟩:=Qn (e:=e) (by omega);rw[gP,gR,gY,aD,aD];simp only[Ot,aqS,aqT];rw[v1,v2,ak];by_cases hv:xval e=0
  ·rw[aqH (by simpa using hv)];exact⟨e,j,0,rfl,rfl,g2,fun _=>⟨hv,hbk⟩,fun h=>absurd rfl h⟩
  ·rw[aqJ (by simpa using hv)];exact⟨zeroE,0,xval e,rfl,rfl,asQ _,fun h=>absurd h hv,fun _=>rfl⟩
 ·rw[gP,gR,fM,aD,aD];simp only[R3 gc,aqV];exact⟨zeroE,j,c,rfl,rfl,g2,fun h=>absurd h gc,fun _=>rfl⟩
theorem agr(s:Str):∃(e:aj) (a c:Int),zA s=some (e,a,c)∧Gg s=some (e,a,c)∧(c=0→xval e=0∧e.bulk≤137438953472):=by
 obtain⟨ts,a,c,l1,l2,hts⟩:=toks s;unfold zA Gg;rw[l1,l2,aD,aD];by_cases hc:c=0
 ·subst hc;simp only[Ot,aqS,aqT];obtain⟨e,j,c,t1,t2,hj,t3,t4⟩:=aji hts;rw[t1,t2,aD,aD];by_cases hc:c=0
  ·subst hc;have e0:((0:Int)==0)=true:=rfl;simp only[Ot,e0,arQ,aqS,aqT,aqV];by_cases hlt:j<ts.length
   ·have e1:decide ((j:Int)<(ts.length:Int))=true:=arC (by omega);have e2:((j:Int)==(ts.length:Int))=false:=by rw[aq4];omega
    simp only[e1,e2,aqV,aqS,aqT,lX hlt,ak];exact⟨_,_,_,rfl,rfl,fun h=>by cases h⟩
   ·have e1:decide ((j:Int)<(ts.length:Int))=false:=arL (by omega);have e2:((j:Int)==(ts.length:Int))=true:=by rw[aq7];omega
    simp only[e1,e2,aqV,aqS,aqT];exact⟨e,0,0,rfl,rfl,t3⟩
  ·have e0:(c==0)=false:=by simpa using hc
   simp only[R3 hc,e0,arV,aqS,aqT,aqV,Cz];by_cases hlt:j<ts.length
   ·have e1:decide ((j:Int)<(ts.length:Int))=true:=arC (by omega);simp only[e1,aqV,lX hlt,ak];exact⟨_,_,_,rfl,rfl,fun h=>absurd h hc⟩
   ·have e1:decide ((j:Int)<(ts.length:Int))=false:=arL (by omega);simp only[e1,aqS,aqT,ak];exact⟨_,_,_,rfl,rfl,fun h=>absurd h hc⟩
 ·simp only[R3 hc,aqV];exact⟨_,_,_,rfl,rfl,fun h=>absurd h hc⟩
end Go.Ft
namespace Go.Ft
open Go
attribute [local congr] gq
theorem aqh{i:Nat}(h:i<4611686018427387000):bq (bq ((i:Int)+1)+1)=((i+2:Nat):Int):=by rw[mh (by omega)];exact mh (i:=i+1) (by omega)
theorem WR{s:Str}(hs:s.length≤65536):∀(n i k k':Nat),s.length+2≤n+i→i≤s.length+1→n<k→n<k'→
  ∃a b:Nat,mG s k (i:Int)=some (a:Int)∧qE s k' (i:Int)=some (b:Int)∧((a=b∧i<a∧a≤s.length)∨(a=s.length∧s.length<b∧b≤s.length+3))
 | n,i,0,k',_,_,h,_=>by omega
 | n,i,k+1,0,_,_,_,h=>by omega
 | 0,i,k+1,k'+1,h1,h2,_,_=>by omega
 | n+1,i,k+1,k'+1,h1,h2,h3,h4=>by
  rw[mG,qE];by_cases hi:i<s.length
  ·have e1:decide ((i:Int)<(s.length:Int))=true:=arC (by omega);simp only[e1,aqV,lX hi,ak];generalize s[i]=c;by_cases c92:c.toNat=92
   ·have e2:((c.toNat:Int)==92)=true:=by rw[aq7];omega
    have e3:((c.toNat:Int) !=34)=true:=by rw[arA];omega
    simp only[e2,e3,aqV];rw[aqh (by omega)];obtain⟨a,b,q1,q2,q3⟩:=WR hs n (i+2) k k' (by omega) (by omega) (by omega) (by omega);exact⟨a,b,q1,q2,by omega⟩
   ·have e2:((c.toNat:Int)==92)=false:=by rw[aq4];omega
    by_cases c34:c.toNat=34
    ·have e3:((c.toNat:Int)==34)=true:=by rw[aq7];omega
     have e4:((c.toNat:Int) !=34)=false:=by rw[bne_eq_false_iff_eq];omega
     simp only[e2,e3,e4,aqV,aqS,aqT];exact⟨i+1,i+1,by rw[mh (by omega)],by rw[mh (by omega)],.inl ⟨rfl,by omega,by omega⟩⟩
    ·have e3:((c.toNat:Int)==34)=false:=by rw[aq4];omega
     have e4:((c.toNat:Int) !=34)=true:=by rw[arA];omega
     simp only[e2,e3,e4,aqV,aqS,aqT];rw[mh (by omega)];obtain⟨a,b,q1,q2,q3⟩:=WR hs n (i+1) k k' (by omega) (by omega) (by omega) (by omega);exact⟨a,b,q1,q2,by omega⟩
  ·have e1:decide ((i:Int)<(s.length:Int))=false:=arL (by omega);simp only[e1,aqS,aqT,ak];exact⟨s.length,i+1,rfl,by rw[mh (by omega)],.inr ⟨rfl,by omega,by omega⟩⟩
theorem OT{s:Str}(hs:s.length≤65536):∀(n i k k':Nat) (o:Int),s.length+1≤n+i→n<k→n<k'→i≤s.length+4→
  ∃r:Int,ig s k (i:Int) o=some r∧jA s k' (i:Int) o=some r∧(r=-1∨∃j:Nat,r=j∧i≤j∧j<s.length)
 | n,i,0,k',o,_,h,_,_=>by omega
 | n,i,k+1,0,o,_,_,h,_=>by omega
 | n,i,k+1,k'+1,o,h1,h3,h4,h5=>by
  rw[ig,jA];by_cases hi:i<s.length
  ·obtain⟨n,rfl⟩:∃m,n=m+1:=⟨n-1,by omega⟩;have e1:decide ((i:Int)<(s.length:Int))=true:=arC (by omega);simp only[e1,aqV,lX hi,ak];generalize s[i]=c;have w1:bq ((i:Int)+1)=((i+1:Nat):Int):=mh (by omega)
   have next:∀o:Int,∃r:Int,ig s k (bq ((i:Int)+1)) o=some r∧jA s k' (bq ((i:Int)+1)) o=some r∧(r=-1∨∃j:Nat,r=j∧i≤j∧j<s.length):=fun o=>by
    rw[w1];obtain⟨r,q1,q2,q3⟩:=OT hs n (i+1) k k' o (by omega) (by omega) (by omega) (by omega);refine⟨r,q1,q2,?_⟩;rcases q3 with q3|⟨j,q3,q4,q5⟩
    ·exact .inl q3
    ·exact .inr ⟨j,q3,by omega,q5⟩
   by_cases c34:((c.toNat:Int)==34)=true
   ·simp only[c34,aqV,Bb,Ho];rw[w1];have hB:=iW;obtain⟨a,b,q1,q2,q3⟩:=WR hs (s.length+2) (i+1) BIG BIG (by omega) (by omega) (by omega) (by omega);rw[q1,q2,ak,ak];rcases q3 with⟨q3,q4,q5⟩|⟨q3,q4,q5⟩
    ·subst q3;obtain⟨r,p1,p2,p3⟩:=OT hs n a k k' o (by omega) (by omega) (by omega) (by omega);refine⟨r,p1,p2,?_⟩;rcases p3 with p3|⟨j,p3,p4,p5⟩
     ·exact .inl p3
     ·exact .inr ⟨j,p3,by omega,p5⟩
    ·obtain⟨k,rfl⟩:∃q,k=q+1:=⟨k-1,by omega⟩;obtain⟨k',rfl⟩:∃q,k'=q+1:=⟨k'-1,by omega⟩;rw[ig,jA,aqH (by simp;omega),aqH (by simp;omega)];exact⟨-1,rfl,rfl,.inl rfl⟩
   ·have c34:((c.toNat:Int)==34)=false:=by simpa using c34
    simp only[c34,aqS,aqT];by_cases akk:((c.toNat:Int)==123)=true
    ·simp only[akk,aqV];exact next _
    ·have akk:((c.toNat:Int)==123)=false:=by simpa using akk
     simp only[akk,aqS,aqT];by_cases akj:((c.toNat:Int)==125)=true
     ·simp only[akj,aqV];by_cases ho:(o==0)=true
      ·simp only[ho,aqV];exact⟨i,rfl,rfl,.inr ⟨i,rfl,aq9 _,hi⟩⟩
      ·have ho:(o==0)=false:=by simpa using ho
       simp only[ho,aqS,aqT];exact next _
     ·have akj:((c.toNat:Int)==125)=false:=by simpa using akj
      simp only[akj,aqS,aqT];exact next _
  ·have e1:decide ((i:Int)<(s.length:Int))=false:=arL (by omega);simp only[e1,aqS,aqT];exact⟨-1,rfl,rfl,.inl rfl⟩
theorem aht{s:Str}(hs:s.length≤65536){i:Nat}(hi:i≤s.length+4):∃r:Int,zL s (i:Int)=some r∧EO s (i:Int)=some r∧(r=-1∨∃j:Nat,r=j∧i≤j∧j<s.length):=by
 have hB:=iW;exact OT hs (s.length+1) i BIG BIG 0 (by omega) (by omega) (by omega) hi
end Go.Ft
namespace Go.Ft
open Go
attribute [local congr] gq
def Yk(t:Str):aO:=aO.mk t false zeroE
def Jl(ps:List aO)(t:Str):List aO:=if t=[]then ps else ps++[Yk t]
def acR(ps:List aO):Prop:=ps=[]∨∃l p,ps=l++[p]∧p.QE=true
theorem Zi{ps:List aO}{t:Str}(hp:ps.length≤1048576):kS ps t=some (Jl ps t):=by
 have hL:rM=4294967296:=rfl;unfold kS Jl;cases t with
 | nil=>rfl
 | cons c r=>
  rw[aqJ (arC (by simp only[aq2];omega)),aqH (by simp),aV (by simp;omega)];rfl
theorem afj{ps:List aO}{t:Str}(hc:acR ps)(hp:ps.length≤1048576)(ht:t.length≤1048576)(c:UInt8):D5 (Jl ps t) c=some (Jl ps (t++[c])):=by
 have hL:rM=4294967296:=rfl;unfold D5;cases t with
 | nil=>
  have hr:Jl ps []=ps:=rfl;rw[hr,aqJ (by omega)]
  have h1:(((ps.length:Int)==0)||xS ps)=true:=by
   rcases hc with rfl|⟨l,p,rfl,hpi⟩
   ·rfl
   ·simp[xS,hpi]
  rw[aqJ h1,aV (by simp;omega)];rfl
 | cons d r=>
  have hr:Jl ps (d::r)=ps++[Yk (d::r)]:=rfl;have hr2:Jl ps ((d::r)++[c])=ps++[Yk ((d::r)++[c])]:=rfl;simp only[aq2]at ht;rw[hr,hr2,aqJ (by simp;omega),aqH (by simp[xS,Yk];omega)];have e1:zh (ps++[Yk (d::r)])=d::r:=by simp[zh,Yk]
  rw[e1,aV (by simp;omega),ak];simp[EN,Yk]
theorem aoD(s:Str)(i:Nat)(hi:i<s.length)(hs:s.length≤1048576)(a b:UInt8):strings_HasPrefix (s.drop i) [a,b]=some ((s[i]==a)&&(s[i+1]?==some b)):=by
 unfold strings_HasPrefix nE;rw[aqZ hi];by_cases h1:i+1<s.length
 ·rw[aqZ h1,aq1 h1];rw[aqJ (arC (by simp only[aq2,arY];omega))]
  have e:sl (s[i]::s[i+1]::s.drop (i+1+1)) 0 ((([a,b]:Str).length:Nat):Int)=some [s[i],s[i+1]]:=by
   rw[bL (by omega) (by simp) (by simp only[aq2,arY];omega)];rfl
  rw[e,ak];generalize s[i]=x;generalize s[i+1]=y;by_cases hx:x=a<;>by_cases hy:y=b<;>simp[hx,hy]
 ·rw[List.drop_of_length_le (by omega),arN (by omega),aqH (by simp)];simp
theorem YG(ps:List aO)(t:Str):(Jl ps t).length≤ps.length+1:=by unfold Jl;split<;>simp
def NN(p:aO):Prop:=(p.QE=true→p.text=[]∧xval p.expr=0∧p.expr.bulk≤137438953472)∧(p.QE=false→p.text≠[]∧p.expr=zeroE∧p.text.length≤4096)
theorem Vo{ps:List aO}{t:Str}(htl:t.length≤4096)(h:∀p∈ps,NN p):∀p∈Jl ps t,NN p:=by
 intro p hp;unfold Jl at hp;split at hp
 ·exact h p hp
 ·rename_i ht;rcases asl.1 hp with hp|hp
  ·exact h p hp
  ·cases asa.1 hp;exact⟨fun h=>by simp[Yk]at h,fun _=>⟨ht,rfl,htl⟩⟩
theorem LD{s:Str}(hs:s.length≤4096):∀(n i k k':Nat) (ps:List aO) (t:Str),s.length+1≤n+i→n<k→n<k'→i≤s.length→acR ps→ps.length≤2*i→t.length≤i→(∀p∈ps,NN p)→
  ∃(l:List aO) (a c:Int),kK s k (i:Int) ps t=some (l,a,c)∧nW s k' (Jl ps t) (i:Int)=some (l,a,c)∧(∀p∈l,NN p)∧l.length≤10000∧(c≠0→l=[])
 | n,i,0,k',ps,t,_,h,_,_,_,_,_,_=>by omega
 | n,i,k+1,0,ps,t,_,_,h,_,_,_,_,_=>by omega
 | n,i,k+1,k'+1,ps,t,h1,h2,h3,hi,hcl,hps,ht,hg=>by
  have hL:rM=4294967296:=rfl;rw[kK,nW];by_cases hlt:i<s.length
  ·obtain⟨n,rfl⟩:∃m,n=m+1:=⟨n-1,by omega⟩;have e1:decide ((i:Int)<(s.length:Int))=true:=arC (by omega);have w1:bq ((i:Int)+1)=((i+1:Nat):Int):=mh (by omega);have w2:bq ((i:Int)+2)=((i+2:Nat):Int):=by rw[aW (by omega) (by omega)];omega
   simp only[e1,aqV,lX hlt,ak];rw[r9 (by omega),ak,aoD s i hlt (by omega),ak]
   have Yw:∀(c:UInt8) (j:Nat),i<j→j≤i+2→j≤s.length→∃(l:List aO) (a c1:Int),(av (app t [c]) fun Yp=>kK s k (j:Int) ps Yp)=some (l,a,c1)∧(av (D5 (Jl ps t) c) fun l2=>nW s k' l2 (j:Int))=some (l,a,c1)∧(∀p∈l,NN p)∧l.length≤10000∧(c1≠0→l=[]):=fun c j hj1 hj2 hj3=>by
    rw[aV (by simp;omega),ak,afj hcl (by omega) (by omega) c,ak];exact LD hs n j k k' ps (t++[c]) (by omega) (by omega) (by omega) hj3 hcl (by omega) (by simp;omega) hg
   by_cases hA:s[i]=36∧s[i+1]?=some 36
   ·obtain⟨a1,a2⟩:=hA;obtain⟨hlt1,a3⟩:=arP.1 a2
    have c1:(((s[i].toNat:Int) !=36)||(decide ((s.length:Int)≤bq ((i:Int)+1))))=false:=by
     rw[w1,a1];simp;omega
    rw[aqJ (by simp[a1,a2]),aqH (by rw[c1];simp),w1,w2];simp only[lX hlt1,ak,a3];have e36:(((36:UInt8).toNat:Int) !=36)=false:=by decide
    have aq_:(((36:UInt8).toNat:Int)==36)=true:=by decide
    simp only[e36,aq_,aqS,aqT,aqV,ak];exact Yw 36 (i+2) (by omega) (by omega) (by omega)
   ·have p36:((s[i]==36)&&(s[i+1]?==some 36))=false:=by
     cases hx:((s[i]==36)&&(s[i+1]?==some 36))with
     | false=>rfl
     | true=>simp only[aq5,aq7]at hx;exact absurd hx hA
    rw[p36,aqH (by simp),aoD s i hlt (by omega),ak];by_cases hB:s[i]=36∧s[i+1]?=some 123
    ·obtain⟨a1,a2⟩:=hB;obtain⟨hlt1,a3⟩:=arP.1 a2
     have c1:(((s[i].toNat:Int) !=36)||(decide ((s.length:Int)≤bq ((i:Int)+1))))=false:=by
      rw[w1,a1];simp;omega
     rw[aqJ (by simp[a1,a2]),aqH (by rw[c1];simp),w1,w2];simp only[lX hlt1,ak,a3];have e1:(((123:UInt8).toNat:Int) !=36)=true:=by decide
     have e2:(((123:UInt8).toNat:Int)==36)=false:=by decide
     have e3:(((123:UInt8).toNat:Int) !=123)=false:=by decide
     simp only[e1,e2,e3,aqS,aqT,aqV,ak];obtain⟨r,q1,q2,q3⟩:=aht (s:=s) (by omega) (i:=i+2) (by omega);rw[q1,q2,ak,ak];rcases q3 with q3|⟨j,q3,q4,q5⟩
     ·subst q3;exact⟨[],(i:Int),4,rfl,rfl,by simp,by simp,fun _=>rfl⟩
     ·subst q3;have d0:decide ((j:Int)<0)=false:=arL (by omega);have hsl:sl s ((i+2:Nat):Int) (j:Int)=some ((s.take j).drop (i+2)):=by rw[bL (by omega) (by omega) (by omega)];rfl
      simp only[d0,aqS,aqT,hsl,ak];obtain⟨e,a,c,p1,p2,p3⟩:=agr ((s.take j).drop (i+2));rw[p1,p2,aD,aD];by_cases hc:c=0
      ·subst hc;have hr:=YG ps t;have wj:bq ((j:Int)+1)=((j+1:Nat):Int):=mh (by omega);simp only[Ot,aqS,aqT];rw[Zi (by omega),ak,aV (by simp;omega),ak,ak,wj];have hrp:Jl (Jl ps t++[aO.mk ([]:Str) true e]) []=Jl ps t++[aO.mk ([]:Str) true e]:=rfl
       have:=LD hs n (j+1) k k' (Jl ps t++[aO.mk ([]:Str) true e]) [] (by omega) (by omega) (by omega) (by omega) (.inr ⟨_,_,rfl,rfl⟩) (by simp;omega) (by simp) (by
        intro p hp;rcases asl.1 hp with hp|hp
        ·exact Vo (by omega) hg p hp
        ·cases asa.1 hp
         exact⟨fun _=>⟨rfl,p3 rfl⟩,fun h=>by cases h⟩)
       rw[hrp]at this;exact this
      ·simp only[R3 hc,aqV];exact⟨[],_,c,rfl,rfl,by simp,by simp,fun _=>rfl⟩
    ·have aqv:((s[i]==36)&&(s[i+1]?==some 123))=false:=by
      cases hx:((s[i]==36)&&(s[i+1]?==some 123))with
      | false=>rfl
      | true=>simp only[aq5,aq7]at hx;exact absurd hx hB
     have hb1:(if (((s[i].toNat:Int) !=36)||(decide ((s.length:Int)≤bq ((i:Int)+1))))=true then some true else av (idx s (bq ((i:Int)+1))) fun x2=>if ((x2.toNat:Int) !=36)=true then av (idx s (bq ((i:Int)+1))) fun x3=>some ((x3.toNat:Int) !=123)else some false)=some true:=by
      rw[w1];by_cases a1:s[i]=36
      ·by_cases hlt1:i+1<s.length
       ·have n36:¬s[i+1]=36:=fun h=>hA ⟨a1,by rw[aq1 hlt1,h]⟩;have n123:¬s[i+1]=123:=fun h=>hB ⟨a1,by rw[aq1 hlt1,h]⟩
        have m36:((s[i+1].toNat:Int) !=36)=true:=by
         rw[arA];intro h;exact n36 (arD.1 (show s[i+1].toNat=36 by omega))
        have aqy:((s[i+1].toNat:Int) !=123)=true:=by
         rw[arA];intro h;exact n123 (arD.1 (show s[i+1].toNat=123 by omega))
        rw[aqH (by rw[a1];simp;omega)];simp only[lX hlt1,ak,m36,aqy,aqV]
       ·rw[aqJ (by simp;right;omega)]
      ·have m36:((s[i].toNat:Int) !=36)=true:=by
        rw[arA];intro h;exact a1 (arD.1 (show s[i].toNat=36 by omega))
       rw[aqJ (by rw[m36];simp)]
     rw[aqv,aqH (by simp),hb1,ak,aqJ rfl,w1];exact Yw s[i] (i+1) (by omega) (by omega) (by omega)
  ·have e1:decide ((i:Int)<(s.length:Int))=false:=arL (by omega);have hr:=YG ps t;simp only[e1,aqS,aqT];rw[Zi (by omega),ak];exact⟨_,_,_,rfl,rfl,Vo (by omega) hg,by omega,fun h=>absurd rfl h⟩
end Go.Ft
namespace Go.Ft
open Go
attribute [local congr] gq
theorem parts_eq(s:Str):∃(l:List aO) (a c:Int),oo s=some (l,a,c)∧F8 s=some (l,a,c)∧(∀p∈l,NN p)∧l.length≤10000∧(c≠0→l=[]):=by
 unfold oo F8;rcases arE 4096 s.length with h|h
 ·rw[aqJ (arC (by omega)),aqJ (arC (by omega))];exact⟨[],0,3,rfl,rfl,by simp,by simp,fun _=>rfl⟩
 ·rw[aqH (by simp;omega),aqH (by simp;omega)];have hB:=iW;exact LD h (s.length+1) 0 BIG BIG [] [] (by omega) (by omega) (by omega) (asQ _) (.inl rfl) (by simp) (by simp) (by simp)
end Go.Ft
namespace Go.Ft
open Go
attribute [local congr] gq
def RI(p:aO)(env:List aB):Str × Int:=
 if p.QE=false then (p.text,0)
 else if (wZ p.expr env).2≠0 then ([],(wZ p.expr env).2)
 else if (wZ p.expr env).1.kind=4∨(wZ p.expr env).1.kind=5 then ([],9)else (Ws (wZ p.expr env).1,0)
theorem ajc{a:ah}(h:VV a):(Ws a).length≤4096:=by
 have l:=iR h.1;unfold Ws;split
 ·simp
 ·split
  ·omega
  ·split
   ·split<;>simp
   ·have:=Y9 (n:=a.cu) ⟨by omega,by omega⟩;omega
theorem adE{p:aO}{env:List aB}(hp:NN p)(hE:(env.map aB.bulk).sum≤1048576):(RI p env).1.length≤4096:=by
 unfold RI;cases hi:p.QE with
 | false=>rw[aqJ rfl];exact(hp.2 hi).2.2
 | true=>
  rw[aqH (by simp)];obtain⟨a,b,g⟩:=Pf (e:=p.expr) (env:=env) (by have:=(hp.1 hi).2.2;omega) hE;split
  ·simp
  ·split
   ·simp
   ·exact ajc (SC g).1
theorem aaI{p:aO}{env:List aB}(hp:NN p)(hE:(env.map aB.bulk).sum≤1048576):tC p env=some (RI p env):=by
 unfold tC RI;cases hi:p.QE with
 | false=>simp only[arz,aqV]
 | true=>
  rw[aqH (by simp),aqH (by simp)];obtain⟨a,b,g⟩:=Pf (e:=p.expr) (env:=env) (by have:=(hp.1 hi).2.2;omega) hE;rw[a,DF];by_cases h0:(wZ p.expr env).2=0
  ·obtain⟨v,w⟩:=SC g;rw[aqH (by simp[h0]),aqH (by simp[h0]),(Ko v (by omega)).1]
  ·rw[aqJ (by simpa using h0),aqJ h0]
theorem Zl{env:List aB}{l:List aO}(hE:(env.map aB.bulk).sum≤1048576)(hg:∀p∈l,NN p)(hl:l.length≤10000):∀(n i k k':Nat) (out:Str),l.length+1≤n+i→n<k→n<k'→i≤l.length→out.length≤4096*i→
  ∃X:Str × Int,mH env l k (i:Int) out=some X∧oH env l k' out (i:Int)=some X:=by
 intro n
 induction n with
 | zero=>intro i k k' out h1 h2 h3 h4;omega
 | succ n ih=>
  intro i k k' out h1 h2 h3 h4 h5;obtain⟨k,rfl⟩:∃m,k=m+1:=⟨k-1,by omega⟩;obtain⟨k',rfl⟩:∃m,k'=m+1:=⟨k'-1,by omega⟩;have hL:rM=4294967296:=rfl;rw[mH,oH];by_cases hi:i<l.length
  ·have hp:=hg l[i] (arj hi);have hlen:=adE hp hE;rw[aqJ (by simpa using hi),aqJ (by simpa using hi)];simp only[lX hi,ak];rw[aaI hp hE,DF];have w1:bq ((i:Int)+1)=((i+1:Nat):Int):=mh (by omega)
   have go:∀t:Str,t.length≤4096→∃X:Str × Int,(av (app out t) fun b2=>mH env l k (bq ((i:Int)+1)) b2)=some X∧(av (app out t) fun b2=>oH env l k' b2 (bq ((i:Int)+1)))=some X:=by
    intro t ht;rw[aV (by omega),ak,ak,w1];exact ih (i+1) k k' (out++t) (by omega) (by omega) (by omega) (by omega) (by simp;omega)
   unfold RI at hlen⊢;cases hb:l[i].QE with
   | false=>
    simp only[hb,aqV]at hlen;simp only[aqV,arz,Ot,aqS,aqT];exact go _ hlen
   | true=>
    obtain⟨a,b,g⟩:=Pf (e:=l[i].expr) (env:=env) (by have:=(hp.1 hb).2.2;omega) hE;obtain⟨v,w⟩:=SC g;simp only[hb,asS,aqT]at hlen;simp only[asS,aqT,arf,aqS];rw[b,DF];by_cases h0:(wZ l[i].expr env).2=0
    ·rw[aqH (c:=(wZ l[i].expr env).2≠0) (by simp[h0])]at hlen⊢;rw[aqH (c:=((wZ l[i].expr env).2 !=0)=true) (by simp[h0]),(Ko v (by omega)).2];by_cases h45:(wZ l[i].expr env).1.kind=4∨(wZ l[i].expr env).1.kind=5
     ·rw[aqJ h45];exact⟨([],9),rfl,rfl⟩
     ·rw[aqH h45]at hlen⊢;rw[DF];simp only[Ot,aqS,aqT];exact go _ hlen
    ·rw[aqJ (c:=(wZ l[i].expr env).2≠0) h0,aqJ (c:=((wZ l[i].expr env).2 !=0)=true) (by simpa using h0)];rw[aqJ (by simpa using h0)];exact⟨_,rfl,rfl⟩
  ·have e1:decide ((i:Int)<(l.length:Int))=false:=arL (by omega);simp only[e1,aqS,aqT];split
   ·exact⟨_,rfl,rfl⟩
   ·exact⟨_,rfl,rfl⟩
theorem aeb(s:Str){env:List aB}(hE:(env.map aB.bulk).sum≤1048576):∃X:Str × Int,tZ s env=some X∧D6 s env=some X:=by
 obtain⟨s1,s2⟩:=Q7 hE;obtain⟨v1,v2⟩:=Xx (env:=env) (by omega) (fun d hd=>by have:=s2 d hd;omega);obtain⟨l,a,c,h1,h2,h3,h4,_⟩:=parts_eq s;unfold tZ D6;rw[h1,h2,aD,aD,v1,v2];by_cases hc:c=0
 ·subst hc;simp only[Ot,aqS,aqT,ak];by_cases hv:Af env=0
  ·rw[aqH (by simp[hv]),aqH (by simp[hv])];have hB:=iW;exact Zl hE h3 h4 (l.length+1) 0 BIG BIG [] (by omega) (by omega) (by omega) (by omega) (by simp)
  ·rw[aqJ (by simpa using hv),aqJ (by simpa using hv)];exact⟨_,rfl,rfl⟩
 ·rw[aqJ (by simpa using hc),aqJ (by simpa using hc)];exact⟨_,rfl,rfl⟩
theorem Nh(s1:Str)(bX:List aB)(h:(s1.length+1)+((List.map (fun z:aB=>(aB.bulk z)) bX).sum+1)≤1048576):qo s1 bX=some true:=by
 have hE:(bX.map aB.bulk).sum≤1048576:=by
  have h':(List.map (fun z:aB=>(aB.bulk z)) bX).sum≤1048576:=by omega
  exact h'
 unfold qo;split
 ·exact ac1
 ·obtain⟨X,h1,h2⟩:=aeb s1 hE;rw[h1,h2,DF,DF,aqJ (by simp)];exact ac1
end Go.Ft
