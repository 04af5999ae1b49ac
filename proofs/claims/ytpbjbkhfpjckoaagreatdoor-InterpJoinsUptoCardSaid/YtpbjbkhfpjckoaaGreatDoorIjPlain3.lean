/- Proved here: plain facts on the functional texts. -/
import Derived.Test.YtpbjbkhfpjckoaaGreatDoorIjPlain2
set_option linter.unusedVariables false
set_option linter.unusedSimpArgs false
set_option linter.defProp false
set_option linter.unusedSectionVars false
set_option maxHeartbeats 2000000
namespace Go.Ft
open Go
attribute [local congr] fH
theorem alF(s:Str)(a:Int):∀k:Nat,lD s a (k+20) 0=av (idx s a) fun c=>if Dx [c]then some 1 else some 0:=by
 intro k;have d0:idx ([60,62,43,45,42,47,37,33,63,58,46,44,61,40,41,91,93,123,125]:Str) 0=some 60:=rfl;have d1:idx ([60,62,43,45,42,47,37,33,63,58,46,44,61,40,41,91,93,123,125]:Str) 1=some 62:=rfl;have d2:idx ([60,62,43,45,42,47,37,33,63,58,46,44,61,40,41,91,93,123,125]:Str) 2=some 43:=rfl;have d3:idx ([60,62,43,45,42,47,37,33,63,58,46,44,61,40,41,91,93,123,125]:Str) 3=some 45:=rfl;have d4:idx ([60,62,43,45,42,47,37,33,63,58,46,44,61,40,41,91,93,123,125]:Str) 4=some 42:=rfl;have d5:idx ([60,62,43,45,42,47,37,33,63,58,46,44,61,40,41,91,93,123,125]:Str) 5=some 47:=rfl;have d6:idx ([60,62,43,45,42,47,37,33,63,58,46,44,61,40,41,91,93,123,125]:Str) 6=some 37:=rfl;have d7:idx ([60,62,43,45,42,47,37,33,63,58,46,44,61,40,41,91,93,123,125]:Str) 7=some 33:=rfl;have d8:idx ([60,62,43,45,42,47,37,33,63,58,46,44,61,40,41,91,93,123,125]:Str) 8=some 63:=rfl;have d9:idx ([60,62,43,45,42,47,37,33,63,58,46,44,61,40,41,91,93,123,125]:Str) 9=some 58:=rfl;have d10:idx ([60,62,43,45,42,47,37,33,63,58,46,44,61,40,41,91,93,123,125]:Str) 10=some 46:=rfl;have d11:idx ([60,62,43,45,42,47,37,33,63,58,46,44,61,40,41,91,93,123,125]:Str) 11=some 44:=rfl;have d12:idx ([60,62,43,45,42,47,37,33,63,58,46,44,61,40,41,91,93,123,125]:Str) 12=some 61:=rfl;have d13:idx ([60,62,43,45,42,47,37,33,63,58,46,44,61,40,41,91,93,123,125]:Str) 13=some 40:=rfl;have d14:idx ([60,62,43,45,42,47,37,33,63,58,46,44,61,40,41,91,93,123,125]:Str) 14=some 41:=rfl;have d15:idx ([60,62,43,45,42,47,37,33,63,58,46,44,61,40,41,91,93,123,125]:Str) 15=some 91:=rfl
 have d16:idx ([60,62,43,45,42,47,37,33,63,58,46,44,61,40,41,91,93,123,125]:Str) 16=some 93:=rfl;have d17:idx ([60,62,43,45,42,47,37,33,63,58,46,44,61,40,41,91,93,123,125]:Str) 17=some 123:=rfl;have d18:idx ([60,62,43,45,42,47,37,33,63,58,46,44,61,40,41,91,93,123,125]:Str) 18=some 125:=rfl;cases hc:idx s a with
 | none=>rw[lD];simp[hc]
 | some c=>
  have f:∀n:Nat,((c.toNat:Int)==((UInt8.ofNat n).toNat:Int))=(c==UInt8.ofNat n):=by
   intro n;by_cases h:c=UInt8.ofNat n
   ·subst h;simp
   ·have h':¬c.toNat=(UInt8.ofNat n).toNat:=fun h2=>h (aoD.1 h2);have h3:¬((c.toNat:Int)=((UInt8.ofNat n).toNat:Int)):=by omega
    simp only[aok.2 h,aok.2 h3]
  have g:∀i:Int,0≤i→i<19→∀m:Nat,∀d:UInt8,idx ([60,62,43,45,42,47,37,33,63,58,46,44,61,40,41,91,93,123,125]:Str) i=some d→lD s a (m+1) i=if c==d then some 1 else lD s a m (i+1):=by
   intro i h0 h1 m d hd;rw[lD];simp (disch:=omega) only[hc,hd,bB,aoa,aj,aod,aom];have:=f d.toNat;rw[UInt8.ofNat_toNat]at this;by_cases h:c=d
   ·subst h;simp
   ·have h':¬(c.toNat:Int)=(d.toNat:Int):=fun h2=>h (aoD.1 (by omega));simp[h,h']
  have z:∀m:Nat,lD s a (m+1) 19=some 0:=by intro m;rw[lD];simp
  simp only[aj];rw[g 0 (by omega) (by omega) (k+19) 60 d0];simp only[Int.reduceAdd];rw[g 1 (by omega) (by omega) (k+18) 62 d1];simp only[Int.reduceAdd];rw[g 2 (by omega) (by omega) (k+17) 43 d2];simp only[Int.reduceAdd];rw[g 3 (by omega) (by omega) (k+16) 45 d3];simp only[Int.reduceAdd];rw[g 4 (by omega) (by omega) (k+15) 42 d4];simp only[Int.reduceAdd];rw[g 5 (by omega) (by omega) (k+14) 47 d5];simp only[Int.reduceAdd];rw[g 6 (by omega) (by omega) (k+13) 37 d6];simp only[Int.reduceAdd];rw[g 7 (by omega) (by omega) (k+12) 33 d7];simp only[Int.reduceAdd];rw[g 8 (by omega) (by omega) (k+11) 63 d8];simp only[Int.reduceAdd];rw[g 9 (by omega) (by omega) (k+10) 58 d9];simp only[Int.reduceAdd];rw[g 10 (by omega) (by omega) (k+9) 46 d10];simp only[Int.reduceAdd];rw[g 11 (by omega) (by omega) (k+8) 44 d11];simp only[Int.reduceAdd];rw[g 12 (by omega) (by omega) (k+7) 61 d12];simp only[Int.reduceAdd];rw[g 13 (by omega) (by omega) (k+6) 40 d13];simp only[Int.reduceAdd];rw[g 14 (by omega) (by omega) (k+5) 41 d14];simp only[Int.reduceAdd];rw[g 15 (by omega) (by omega) (k+4) 91 d15];simp only[Int.reduceAdd];rw[g 16 (by omega) (by omega) (k+3) 93 d16];simp only[Int.reduceAdd];rw[g 17 (by omega) (by omega) (k+2) 123 d17];simp only[Int.reduceAdd];rw[g 18 (by omega) (by omega) (k+1) 125 d18];simp only[Int.reduceAdd];rw[z]
  have key:Dx [c]=((c==60)||((c==62)||((c==43)||((c==45)||((c==42)||((c==47)||((c==37)||((c==33)||((c==63)||((c==58)||((c==46)||((c==44)||((c==61)||((c==40)||((c==41)||((c==91)||((c==93)||((c==123)||(c==125))))))))))))))))))):=by
   simp[Dx,List.cons_beq_cons]
  rw[key];simp only[aaL]
theorem amX(s:Str)(a:Int)(k:Nat)(b:Str)(hb:sl s a (bV (a+2))=some b)(hl:b.length=2)(h0:bV (a+2)≤s.length):
  j5 s a (k+7) 0=if Dx b then some 2 else lD s a BIG 0:=by
 have g:∀i:Int,0≤i→i<12→∀m:Nat,∀d:Str,sl ([124,124,38,38,61,61,33,61,60,61,62,61]:Str) i (i+2)=some d→j5 s a (m+1) i=if b==d then some 2 else j5 s a m (i+2):=by
  intro i h1 h2 m d hd;rw[j5];simp only[h0,apC,aoc,hb,aj];rw[bB (by omega) (by omega),hd];have h3:decide (i<12)=true:=by simpa using h2
  simp only[h3,aoc,aj]
 have z:∀m:Nat,j5 s a (m+1) 12=lD s a BIG 0:=by intro m;rw[j5];simp
 rw[g 0 (by omega) (by omega) (k+6) [124,124] rfl,g _ (by omega) (by omega) (k+5) [38,38] rfl,g _ (by omega) (by omega) (k+4) [61,61] rfl,g _ (by omega) (by omega) (k+3) [33,61] rfl,g _ (by omega) (by omega) (k+2) [60,61] rfl,g _ (by omega) (by omega) (k+1) [62,61] rfl];rw[show (0:Int)+2+2+2+2+2+2=12 from rfl,z]
 have key:Dx b=((b==[124,124])||((b==[38,38])||((b==[61,61])||((b==[33,61])||((b==[60,61])||(b==[62,61])))))):=by
  match b,hl with
  | [x,y],_=>simp[Dx]
 rw[key];simp only[aaL]
theorem ajR{s:Str}(hs:s.length≤2147483648){i:Nat}(h:i<s.length):WI s (i:Int)=some ((opn (s.drop i):Nat):Int):=by
 unfold WI;obtain⟨m,hm⟩:∃m,BIG=m+20:=⟨BIG-20,rfl⟩;have hc:idx s (i:Int)=some (s.getD i 0):=by simp (disch:=omega) only[dflt,bG,aof]
 by_cases h2:i+1<s.length
 ·have hb:sl s (i:Int) (bV ((i:Int)+2))=some [s.getD i 0,s.getD (i+1) 0]:=by
   simp (disch:=omega) only[bB,bS,aox,aof,Int.reduceToNat];rw[Qw h2]
  rw[hm,show m+20=(m+13)+7 from rfl,amX s _ _ _ hb rfl (by rw[bB (by omega) (by omega)];omega),hm,alF,hc];rw[getD_drop h,getD_drop h2];unfold opn;cases h3:Dx [s.getD i 0,s.getD (i+1) 0]with
  | true=>simp (disch:=omega) only[h3,aoc];rfl
  | false=>
   simp (disch:=omega) only[h3,aj,an_,aob];cases h4:Dx [s.getD i 0]with
   | true=>simp (disch:=omega) only[aoc];rfl
   | false=>simp (disch:=omega) only[an_,aob];rfl
 ·have g:∀m:Nat,∀j:Int,0≤j→j<12→j5 s (i:Int) (m+1) j=j5 s (i:Int) m (j+2):=by
   intro m j h0 h1;rw[j5];simp (disch:=omega) only[bB,aoa,an9,aj,aod,an_,aob]
  have z:∀m:Nat,j5 s (i:Int) (m+1) 12=lD s (i:Int) BIG 0:=by intro m;rw[j5];simp
  rw[hm,show m+20=(m+13+1+6)from rfl,g _ _ (by omega) (by omega),g _ _ (by omega) (by omega),g _ _ (by omega) (by omega),g _ _ (by omega) (by omega),g _ _ (by omega) (by omega),g _ _ (by omega) (by omega)];rw[show (0:Int)+2+2+2+2+2+2=12 from rfl,z,hm,alF,hc];rw[getD_drop h,aop (by omega:s.length≤i+1)];unfold opn;cases h4:Dx [s.getD i 0]with
  | true=>simp (disch:=omega) only[h4,aj,aoc];rfl
  | false=>simp (disch:=omega) only[h4,aj,an_,aob];rfl
theorem Wp(l:Str):span isDigit l<span isWord l↔∃c,l[span isDigit l]?=some c∧oQ c=true:=by
 induction l with
 | nil=>simp
 | cons c l ih=>
  rw[l5,l5];cases h:isDigit c with
  | false=>cases h2:oQ c<;>simp[isWord,h,h2]
  | true=>simp[isWord,h,ih]
theorem M4(p:UInt8→Bool)(l:Str):∀c∈l.take (span p l),p c=true:=by
 induction l with
 | nil=>simp
 | cons c l ih=>
  rw[l5];split
  ·rename_i h;intro x hx;simp only[List.take_succ_cons,aoB]at hx;rcases hx with rfl|hx
   ·exact h
   ·exact ih x hx
  ·simp
def oG:Str→Int × Str × Nat × Int
 | []=>(0,[],0,5)
 | c::r=>
  if isDigit c then
   let n:=span isDigit (c::r)
   if (1<n∧c.toNat=48)∨n<span isWord (c::r)then (0,[],0,5)
   else if Ez<val ((c::r).take n)then (0,[],0,2)else (2,(c::r).take n,n,0)
  else if c.toNat=34 then
   let x:=txt 0 [] 1 r
   if x.2.2=0 then (3,x.1,x.2.1,0)else (0,[],0,x.2.2)
  else if oQ c then
   let n:=span isWord (c::r)
   if 64<n then (0,[],0,3)else (1,(c::r).take n,n,0)
  else
   let n:=opn (c::r)
   if n=0 then (0,[],0,5)else (4,(c::r).take n,n,0)
def ltk(a:Nat)(x:Int × Str × Nat × Int):aG × Int × Int:=if x.2.2.2=0 then (⟨x.1,x.2.1,a⟩,((a+x.2.2.1:Nat):Int),0)else (⟨0,[],0⟩,0,x.2.2.2)
def rtk(x:Int × Str × Nat × Int):aG × Int × Int:=if x.2.2.2=0 then (⟨x.1,x.2.1,0⟩,(x.2.2.1:Int),0)else (⟨0,[],0⟩,0,x.2.2.2)
end Go.Ft
namespace Go.Ft
open Go
attribute [local congr] fH
theorem qR(s:Str)(i:Nat):(s.drop i).length=s.length-i:=apg
theorem xg(s:Str)(i n:Nat):(s.take (i+n)).drop i=(s.drop i).take n:=by
 rw[ape,apz]
theorem Vx{s:Str}{i n:Nat}(c:UInt8):(s.drop i)[n]?=some c↔s[i+n]?=some c:=by rw[apw]
theorem afX{s:Str}(hs:s.length≤2147483648){i:Nat}(h:i<s.length):CS s (i:Int)=
  some (ltk i (if 64<span isWord (s.drop i)then (0,[],0,3)else (1,(s.drop i).take (span isWord (s.drop i)),span isWord (s.drop i),0))):=by
 have hle:=A_ isWord (s.drop i);rw[qR]at hle;unfold CS;rw[Qj afR (by omega) (by omega)];generalize span isWord (s.drop i)=n at hle⊢;simp (disch:=omega) only[bB,bS,aj,aod,aof];by_cases h1:64<n
 ·simp (disch:=omega) only[aoa];rfl
 ·simp (disch:=omega) only[an9];rw[xg];rfl
theorem aaU{s:Str}(hs:s.length≤2147483648){i:Nat}(h:i<s.length)(hd:isDigit (s.getD i 0)=true):yB s (i:Int)=some (ltk i (oG (s.drop i))):=by
 have hle:=A_ isDigit (s.drop i);rw[qR]at hle;have hlt:=Wp (s.drop i);have htk:=M4 isDigit (s.drop i);have hpos:0<span isDigit (s.drop i):=by rw[getD_drop h,l5,hd];simp
 have hh:(s.drop i)=s.getD i 0::s.drop (i+1):=getD_drop h
 have ht:oG (s.drop i)=if (1<span isDigit (s.drop i)∧(s.getD i 0).toNat=48)∨span isDigit (s.drop i)<span isWord (s.drop i)then (0,[],0,5)
   else if Ez<val ((s.drop i).take (span isDigit (s.drop i)))then (0,[],0,2)else (2,(s.drop i).take (span isDigit (s.drop i)),span isDigit (s.drop i),0):=by
  rw[hh];simp only[oG,hd,aoc]
 rw[ht];unfold yB;rw[Qj digit_eq (by omega) (by omega)];generalize span isDigit (s.drop i)=n at hle hlt htk hpos⊢;generalize span isWord (s.drop i)=m at hlt⊢
 have e1:sl s (i:Int) ((i+n:Nat):Int)=some ((s.drop i).take n):=by
  simp (disch:=omega) only[bS,aof];rw[xg]
 have e2:((s.drop i).take n).length=n:=by simp;omega
 have e3:((s.drop i).take n).getD 0 0=s.getD i 0:=by
  obtain⟨k,rfl⟩:∃k,n=k+1:=⟨n-1,by omega⟩;rw[hh];rfl
 rw[aj,e1,aj,e2];by_cases hw:n<m
 ·obtain⟨c,hc,hl⟩:=hlt.1 hw;rw[Vx]at hc;have hlt2:i+n<s.length:=(aoC.1 hc).1;have e4:s.getD (i+n) 0=c:=by rw[aou,hc];rfl
  rw[aoa (Or.inr hw)];by_cases h1:1<n
  ·by_cases h2:(s.getD i 0).toNat=48
   ·simp (disch:=omega) only[e3,dflt,bG,aoa,aj,aod,aom,aof,Int.reduceToNat,aoc];rfl
   ·simp (disch:=omega) only[e3,dflt,letter_eq,e4,hl,bG,aoa,an9,aj,aod,aom,aof,Int.reduceToNat,aoc];rfl
  ·simp (disch:=omega) only[dflt,letter_eq,e4,hl,bG,aoa,an9,aj,aod,aof,an_,aoc,aob];rfl
 ·by_cases hz:1<n∧(s.getD i 0).toNat=48
  ·rw[aoa (Or.inl hz)];simp (disch:=omega) only[e3,dflt,bG,aoa,aj,aod,aom,aof,Int.reduceToNat,aoc];rfl
  ·rw[an9 (show ¬((1<n∧(s.getD i 0).toNat=48)∨n<m)from by omega)]
   have hb2:(if decide (((i+n:Nat):Int)<(s.length:Int))then av (idx s ((i+n:Nat):Int)) fun x2=>rM x2 else some false)=some false:=by
    by_cases h4:i+n<s.length
    ·simp (disch:=omega) only[letter_eq,dflt,bG,aoa,aj,aod,aof];cases hl:oQ (s.getD (i+n) 0)with
     | false=>rfl
     | true=>
      exact absurd (hlt.2 ⟨_,by rw[Vx,aoh h4],by rw[aou,aoh h4]at hl;exact hl⟩) hw
    ·simp (disch:=omega) only[an9,aod]
   have hb1:(if decide (1<(n:Int))then av (idx ((s.drop i).take n) 0) fun x1=>some ((x1.toNat:Int)==48)else some false)=some false:=by
    by_cases h1:1<n
    ·simp (disch:=omega) only[e3,dflt,bG,aoa,aj,aod,Int.reduceToNat];simp only[aoi,aok];omega
    ·simp (disch:=omega) only[an9,aod]
   rw[hb1,aj,an9 (by simp),hb2];simp (disch:=omega) only[af0 (s:=(s.drop i).take n) (by rw[e2];omega) htk,aj,aod,an_,aob];by_cases h6:Ez<val ((s.drop i).take n)
   ·simp (disch:=omega) only[h6,aoc];rfl
   ·simp (disch:=omega) only[h6,aob];rfl
theorem Vo{s:Str}(hs:s.length≤2147483648){i:Nat}(h:i<s.length):Ai s (i:Int)=some (ltk i (oG (s.drop i))):=by
 have hh:(s.drop i)=s.getD i 0::s.drop (i+1):=getD_drop h;unfold Ai;simp (disch:=omega) only[dflt,letter_eq,digit_eq,bG,aj,aom,aof];cases hl:oQ (s.getD i 0)with
 | true=>
  have hd:isDigit (s.getD i 0)=false:=by
   rw[Bz]at hl;cases hd:isDigit (s.getD i 0)with
   | false=>rfl
   | true=>rw[pW]at hd;omega
  have GQ:¬(s.getD i 0).toNat=34:=by rw[Bz]at hl;omega
  rw[aoa rfl,afX hs h,hh];simp only[oG,hd,hl,GQ,aob,aoc,an_]
 | false=>
  rw[an9 (by simp)];cases hd:isDigit (s.getD i 0)with
  | true=>rw[aoa rfl,aaU hs h hd]
  | false=>
   rw[an9 (by simp)];by_cases GQ:(s.getD i 0).toNat=34
   ·simp (disch:=omega) only[afU hs h,aoa];rw[hh];simp only[oG,hd,GQ,aob,aoc,an_,aaS,ltk];split<;>simp_all
   ·simp (disch:=omega) only[akC hs h,an9];rw[hh];simp only[oG,hd,hl,GQ,aob,an_,ltk];generalize opn (s.getD i 0::s.drop (i+1))=n;by_cases ho:n=0
    ·simp (disch:=omega) only[ho,an9,aoc]
    ·simp (disch:=omega) only[ho,aoc,aob]
theorem aau{s:Str}(hs:s.length≤2147483648){i:Nat}(h:i<s.length)(hd:isDigit (s.getD i 0)=true):aaB s (i:Int)=some (rtk (oG (s.drop i))):=by
 have hle:=A_ isDigit (s.drop i);rw[qR]at hle;have htk:=M4 isDigit (s.drop i);have hpos:0<span isDigit (s.drop i):=by rw[getD_drop h,l5,hd];simp
 have hh:(s.drop i)=s.getD i 0::s.drop (i+1):=getD_drop h
 have ht:oG (s.drop i)=if (1<span isDigit (s.drop i)∧(s.getD i 0).toNat=48)∨span isDigit (s.drop i)<span isWord (s.drop i)then (0,[],0,5)
   else if Ez<val ((s.drop i).take (span isDigit (s.drop i)))then (0,[],0,2)else (2,(s.drop i).take (span isDigit (s.drop i)),span isDigit (s.drop i),0):=by
  rw[hh];simp only[oG,hd,aoc]
 rw[ht]
 have hsl:∀n,i+n≤s.length→sl s (i:Int) (bV ((i:Int)+(n:Int)))=some ((s.drop i).take n):=by
  intro n hn;simp (disch:=omega) only[bB,bS,aox,aof];rw[xg]
 unfold aaB;rw[adV (by omega) (by omega),abD (by omega) (by omega)];have hsn:=hsl (span isDigit (s.drop i)) (by omega);generalize span isDigit (s.drop i)=n at hle htk hpos hsn⊢;generalize span isWord (s.drop i)=m at⊢;have e2:((s.drop i).take n).length=n:=by simp;omega
 have e3:((s.drop i).take n).getD 0 0=s.getD i 0:=by
  obtain⟨k,rfl⟩:∃k,n=k+1:=⟨n-1,by omega⟩;rw[hh];rfl
 have hne:(s.drop i).take n≠[]:=fun h0=>by rw[h0]at e2;simp at e2;omega
 rw[aj,aj];by_cases hw:n<m
 ·rw[aoa (show (1<n∧(s.getD i 0).toNat=48)∨n<m from .inr hw)];simp (disch:=omega) only[aoa,aj,aod,aoc];rfl
 ·by_cases hz:1<n∧(s.getD i 0).toNat=48
  ·rw[aoa (show (1<n∧(s.getD i 0).toNat=48)∨n<m from .inl hz)];simp (disch:=omega) only[dflt,bB,bG,bS,aoa,an9,aj,aod,aom,aoG,aox,aof];rfl
  ·rw[an9 (show ¬((1<n∧(s.getD i 0).toNat=48)∨n<m)from by omega)]
   have hb:(if decide ((n:Int)<(m:Int))then some true else if decide (1<(n:Int))then av (idx s (i:Int)) fun x2=>some ((x2.toNat:Int)==48)else some false)=some false:=by
    by_cases h1:1<n
    ·simp (disch:=omega) only[dflt,bG,aoa,an9,aj,aod,aof];simp only[aoi,aok];omega
    ·simp (disch:=omega) only[an9,aod]
   rw[hb,aj,hsn];rw[an9 (by simp),aj,ahV htk hne,e2,e3];by_cases h16:16<n
   ·have hv:Ez<val ((s.drop i).take n):=by
     obtain⟨k,rfl⟩:∃k,n=k+1:=⟨n-1,by omega⟩;rw[hh,List.take_succ_cons];refine aeD hd (by omega) ?_;simp[apF];omega
    rw[aoa (show 16<n∨(1<n∧(s.getD i 0).toNat=48)from .inl h16),aoa hv];simp (disch:=omega) only[aj,aA,aoG,aoc];rfl
   ·rw[an9 (show ¬(16<n∨(1<n∧(s.getD i 0).toNat=48))from by omega)];by_cases h6:Ez<val ((s.drop i).take n)
    ·simp (disch:=omega) only[h6,aoa,aj,aA,aoG,aow,aoc];rfl
    ·have h7:val ((s.drop i).take n)≤Ez:=by omega
     simp (disch:=omega) only[h6,h7,aj,aA,aos,an_,aob,apC];rfl
theorem M0{c:UInt8}{l:Str}:span isWord (c::l)=0↔isWord c=false:=by
 rw[l5];cases isWord c<;>simp
theorem ac8{s:Str}(hs:s.length≤2147483648){i:Nat}(h:i<s.length):adj s (i:Int)=some (rtk (oG (s.drop i))):=by
 have hh:(s.drop i)=s.getD i 0::s.drop (i+1):=getD_drop h;unfold adj;simp (disch:=omega) only[dflt,EJ,bB,bG,aj,aod,aom,aof];cases hd:isDigit (s.getD i 0)with
 | true=>rw[aoa rfl,aau hs h hd]
 | false=>
  rw[an9 (by simp)];by_cases GQ:(s.getD i 0).toNat=34
  ·simp (disch:=omega) only[ae1 hs h,bB,bS,aoa,aj,aox,aof];rw[hh];simp only[oG,hd,GQ,aob,aoc,an_,ac9,rtk];split<;>simp_all
  ·have hwl:=A_ isWord (s.drop i);rw[qR]at hwl;simp (disch:=omega) only[abD (s:=s) (by omega) (Nat.le_of_lt h),bS,an9,aj,aox,aof]
   have hsl:∀n,i+n≤s.length→sl s (i:Int) (bV ((i:Int)+(n:Int)))=some ((s.drop i).take n):=by
    intro n hn;simp (disch:=omega) only[bB,bS,aox,aof];rw[xg]
   cases hl:oQ (s.getD i 0)with
   | true=>
    have hpos:0<span isWord (s.drop i):=by rw[hh,l5,isWord,hl];simp
    have hsn:=hsl _ (show i+span isWord (s.drop i)≤s.length from by omega)
    have ht:oG (s.drop i)=if 64<span isWord (s.drop i)then (0,[],0,3)else (1,(s.drop i).take (span isWord (s.drop i)),span isWord (s.drop i),0):=by
     rw[hh];simp only[oG,hd,hl,GQ,aob,aoc,an_]
    rw[ht];generalize span isWord (s.drop i)=n at *;by_cases h64:64<n
    ·simp (disch:=omega) only[bB,bS,aoa,aj,aox,aof];rfl
    ·simp (disch:=omega) only[bB,bS,aoa,an9,aj,aox,aof];rw[xg];rfl
   | false=>
    have h0:span isWord (s.drop i)=0:=by rw[hh,M0,isWord,hl,hd];rfl
    have hol:opn (s.drop i)≤(s.drop i).length:=by
     rw[hh];cases s.drop (i+1)with
     | nil=>simp only[opn];split<;>simp
     | cons b r=>simp only[opn];(repeat' split)<;>simp
    rw[qR]at hol;have hsn:=hsl _ (show i+opn (s.drop i)≤s.length from by omega)
    have ht:oG (s.drop i)=if opn (s.drop i)=0 then (0,[],0,5)else (4,(s.drop i).take (opn (s.drop i)),opn (s.drop i),0):=by
     rw[hh];simp only[oG,hd,hl,GQ,aob,an_]
    rw[ht,h0];simp (disch:=omega) only[ajR hs h,bB,bS,aoa,an9,aj,aox,aof,apx];generalize opn (s.drop i)=n at *;by_cases ho:n=0
    ·simp (disch:=omega) only[aoa];rfl
    ·simp (disch:=omega) only[an9];rw[xg];rfl
end Go.Ft
namespace Go.Ft
open Go
attribute [local congr] fH
theorem agi(s:Str)(i:Nat):(ByteArray.mk s.toArray).get! i=s.getD i 0:=by
 unfold ByteArray.get!;simp[getElem!_def];rfl
theorem size_mk'(s:Str):(ByteArray.mk s.toArray).size=s.length:=by simp[ByteArray.size]
theorem dec_lt{s:Str}{p:Nat}(hc:(s.getD p 0).toNat<128):dec s p=((s.getD p 0).toNat,1):=by
 unfold dec Utf8.decode;simp only[agi,apx];rw[aoa hc]
theorem abd{s:Str}{p:Nat}(h:p<s.length)(hc:128≤(s.getD p 0).toNat):
  128≤(dec s p).1∧1≤(dec s p).2∧p+(dec s p).2≤s.length∧∀j,1≤j→j<(dec s p).2→128≤(s.getD (p+j) 0).toNat:=by
 unfold dec Utf8.decode;simp only[agi,apx,size_mk',Utf8.runeError];rw[an9 (by omega)]
 repeat' split
 all_goals (rename_i h1;simp only[aoj,aod,aom]at *)
 all_goals refine⟨by (try simp only);omega,by (try simp only);omega,by (try simp only);omega,fun j h2 h3=>?_⟩
 all_goals (try simp only at h3)
 all_goals try (exfalso;omega)
 all_goals
  rcases aoE j 2 with g1|g1
  ·have e:j=1:=Nat.le_antisymm (Nat.le_of_lt_succ g1) h2;subst e;omega
  ·rcases aoE j 3 with g2|g2
   ·have e:j=2:=Nat.le_antisymm (Nat.le_of_lt_succ g2) g1;subst e;omega
   ·have e:j=3∨4≤j:=by omega
    rcases e with e|e
    ·subst e;omega
    ·omega
def Bd(s:Str)(n:Nat):Prop:=n=s.length∨(s.getD n 0).toNat<128∨(0<n∧(s.getD (n-1) 0).toNat<128)
theorem agx{s:Str}{p n:Nat}(h:p<n)(hn:n≤s.length)(hb:Bd s n):p+(dec s p).2≤n:=by
 rcases aoE (s.getD p 0).toNat 128 with hc|hc
 ·rw[dec_lt hc];omega
 ·obtain⟨_,h1,h2,h3⟩:=abd (by omega:p<s.length) hc;rcases aoE n (p+(dec s p).2)with hlt|hge
  ·exfalso;have a1:=h3 (n-p) (by omega) (by omega);rw[show p+(n-p)=n from by omega]at a1;rcases hb with hb|hb|⟨hb0,hb⟩
   ·omega
   ·omega
   ·by_cases e:n-1=p
    ·rw[e]at hb;omega
    ·have a2:=h3 (n-1-p) (by omega) (by omega);rw[show p+(n-1-p)=n-1 from by omega]at a2;omega
  ·exact hge
def sQ(c:UInt8):Bool:=(c.toNat:Int) !=10
@[simp] theorem al1(c:UInt8):ug c=some (sQ c):=rfl
@[simp] theorem ZI(r:Int):yC r=some ((r==32)||(r==9)):=rfl
def opb(t:Str)(o:Nat):Nat:=if t=[40]∨t=[91]then o+1 else if t=[41]∨t=[93]then o-1 else o
theorem ZH(t:Str)(o:Nat)(h:o<4611686018427387904):uf t (o:Int)=some ((opb t o:Nat):Int):=by
 unfold uf opb;by_cases h1:t=[40]
 ·subst h1;simp (disch:=omega) only[bB,aom,aoc];simp
 ·by_cases h2:t=[91]
  ·subst h2;simp (disch:=omega) only[bB,an9,aom,aoc];simp
  ·by_cases h3:t=[41]
   ·subst h3;simp (disch:=omega) only[bB,an9,aom,aoc];by_cases h4:1<o
    ·rw[aoa (by omega)];simp;omega
    ·rw[an9 (by omega)];simp;omega
   ·by_cases h4:t=[93]
    ·subst h4;simp (disch:=omega) only[bB,an9,aom,aoc];by_cases h4:1<o
     ·rw[aoa (by omega)];simp;omega
     ·rw[an9 (by omega)];simp;omega
    ·simp[h1,h2,h3,h4]
theorem Vl(k:aG)(o:Nat)(h:o<4611686018427387904):Q7 (o:Int) k=some (((if k.kind=4 then opb k.text o else o:Nat)):Int):=by
 unfold Q7 opb;by_cases hk:k.kind=4
 ·rw[hk];by_cases h1:k.text=[40]
  ·rw[h1];simp (disch:=omega) only[bB,aod,aom,aoj,aov,aoc];simp
  ·by_cases h2:k.text=[91]
   ·rw[h2];simp (disch:=omega) only[bB,aod,aom,aoj,aov,aoc];simp
   ·by_cases h3:k.text=[41]
    ·rw[h3];by_cases h4:0<o
     ·have:decide ((0:Int)<(o:Int))=true:=by simp;omega
      rw[this];simp (disch:=omega) only[bB,aom,aoj,aov,apD,aoc];simp;omega
     ·have:decide ((0:Int)<(o:Int))=false:=by simp;omega
      rw[this];simp;omega
    ·by_cases h4:k.text=[93]
     ·rw[h4];by_cases h5:0<o
      ·have:decide ((0:Int)<(o:Int))=true:=by simp;omega
       rw[this];simp (disch:=omega) only[bB,aom,aoj,aov,apD,aoc];simp;omega
      ·have:decide ((0:Int)<(o:Int))=false:=by simp;omega
       rw[this];simp;omega
     ·simp[h1,h2,h3,h4]
 ·simp[hk]
def scan:Nat→Nat→Nat→Bool→Str→List aG × Option (Nat × Int)
 | _,_,_,_,[]=>([],none)
 | k+1,p,o,nl,_::r=>scan k (p+1) o nl r
 | 0,p,o,nl,c::r=>
  if c.toNat=32∨c.toNat=9 then scan 0 (p+1) o nl r
  else if c.toNat=35 then scan (span sQ r) (p+1) o nl r
  else if c.toNat=10 then (if o=0∧nl=false then (⟨5,[],p⟩::(scan 0 (p+1) o true r).1,(scan 0 (p+1) o true r).2)else scan 0 (p+1) o nl r)
  else if (oG (c::r)).2.2.2=0 then
   (⟨(oG (c::r)).1,(oG (c::r)).2.1,p⟩::(scan ((oG (c::r)).2.2.1-1) (p+1) (if (oG (c::r)).1=4 then opb (oG (c::r)).2.1 o else o) false r).1,
    (scan ((oG (c::r)).2.2.1-1) (p+1) (if (oG (c::r)).1=4 then opb (oG (c::r)).2.1 o else o) false r).2)
  else ([],some (p,(oG (c::r)).2.2.2))
theorem Jv:∀(j a p o:Nat) (nl:Bool) (r:Str),j≤r.length→scan (a+j) p o nl r=scan a (p+j) o nl (r.drop j)
 | 0,a,p,o,nl,r,_=>rfl
 | j+1,a,p,o,nl,[],h=>by simp at h
 | j+1,a,p,o,nl,c::r,h=>by
  rw[show a+(j+1)=(a+j)+1 from rfl,scan,Jv j a (p+1) o nl r (by simpa using h),ao5];rw[show p+1+j=p+(j+1)from by omega]
def fin(out:List aG)(x:List aG × Option (Nat × Int)):List aG × Int × Int:=
 match x.2 with
 | none=>(out++x.1,0,0)
 | some (p,e)=>([],(p:Int),e)
def KN(out:List aG):Bool:=match out.getLast? with|some t=>t.kind==5|none=>false
theorem Im(out:List aG)(t:aG):KN (out++[t])=(t.kind==5):=by simp[KN]
theorem II(out:List aG)(t:aG)(x:List aG × Option (Nat × Int)):fin out (t::x.1,x.2)=fin (out++[t]) x:=by
 unfold fin;cases x.2<;>simp
theorem Ya:∀(N:Nat) (r b:Str) (m:Nat),r.length≤N→(txt 0 b m r).2.2=0→m<(txt 0 b m r).2.1∧(txt 0 b m r).2.1≤m+r.length∧(r.getD ((txt 0 b m r).2.1-m-1) 0).toNat=34
 | N,[],b,m,_,h=>by simp[txt]at h
 | 0,c::r,b,m,hN,h=>by simp at hN
 | N+1,c::r,b,m,hN,h=>by
  rw[Qt]at h⊢;by_cases GQ:c.toNat=34
  ·rw[aoa GQ]at h⊢;by_cases hl:4096<b.length
   ·rw[aoa hl]at h;simp at h
   ·rw[an9 hl];simp only[aog];refine⟨by omega,by omega,?_⟩;rw[show m+1-m-1=0 from by omega];exact GQ
  ·rw[an9 GQ]at h⊢;by_cases he:(chr (c::r)).2.2=0
   ·rw[aoa he]at h⊢;obtain⟨n1,n2⟩:=acD he;generalize (chr (c::r)).2.1=n at n1 n2 h⊢;have hlen:((c::r).drop n).length=r.length+1-n:=by simp
    have ih:=Ya N ((c::r).drop n) (b++[(chr (c::r)).1]) (m+n) (by rw[hlen];simp at hN n2;omega) h;rw[hlen]at ih;simp only[aog]at n2⊢;refine⟨by omega,by omega,?_⟩;have h3:=ih.2.2;rw[aou,apw]at h3;rw[aou];rw[show n+((txt 0 (b++[(chr (c::r)).1]) (m+n) ((c::r).drop n)).2.1-(m+n)-1)=(txt 0 (b++[(chr (c::r)).1]) (m+n) ((c::r).drop n)).2.1-m-1 from by omega]at h3;exact h3
   ·rw[an9 he]at h;exact absurd h he
theorem U6(p:UInt8→Bool)(l:Str){i:Nat}(h:i<span p l):p (l.getD i 0)=true:=by
 have h2:=A_ p l
 have:=M4 p l (l.getD i 0) (by
  rw[List.mem_take_iff_getElem]
  exact⟨i,by omega,by rw[aou,aoh (by omega),apo]⟩)
 exact this
theorem aky(l:Str):opn l≤l.length:=by
 match l with
 | []=>simp[opn]
 | [a]=>simp only[opn];split<;>simp
 | a::b::r=>simp only[opn];(repeat' split)<;>simp
theorem FT{a:UInt8}(h:Dx [a]=true):a.toNat<128:=by
 simp only[Dx,aov,aom,aoP,and_true,reduceCtorEq,and_false,false_or]at h;have:a=60∨a=62∨a=43∨a=45∨a=42∨a=47∨a=37∨a=33∨a=63∨a=58∨a=46∨a=44∨a=61∨a=40∨a=41∨a=91∨a=93∨a=123∨a=125:=h;rcases this with rfl|rfl|rfl|rfl|rfl|rfl|rfl|rfl|rfl|rfl|rfl|rfl|rfl|rfl|rfl|rfl|rfl|rfl|rfl<;>decide
theorem OM{a b:UInt8}(h:Dx [a,b]=true):a.toNat<128∧b.toNat<128:=by
 simp only[Dx,aov,aom,aoP,and_true,reduceCtorEq,and_false,or_false]at h;rcases h with⟨rfl,rfl⟩|⟨rfl,rfl⟩|⟨rfl,rfl⟩|⟨rfl,rfl⟩|⟨rfl,rfl⟩|⟨rfl,rfl⟩<;>decide
theorem MV{c:UInt8}{r:Str}(h:(oG (c::r)).2.2.2=0):1≤(oG (c::r)).2.2.1∧(oG (c::r)).2.2.1≤r.length+1∧((c::r).getD ((oG (c::r)).2.2.1-1) 0).toNat<128∧c.toNat<128:=by
 simp only[oG]at h⊢;by_cases hd:isDigit c=true
 ·rw[aoa hd]at h⊢;have hpos:0<span isDigit (c::r):=by rw[l5,hd];simp
  have hle:=A_ isDigit (c::r);have hg:=U6 isDigit (c::r) (i:=span isDigit (c::r)-1) (by omega);rw[pW]at hd hg;by_cases h1:(1<span isDigit (c::r)∧c.toNat=48)∨span isDigit (c::r)<span isWord (c::r)
  ·rw[aoa h1]at h;simp at h
  ·rw[an9 h1]at h⊢;by_cases h2:Ez<val ((c::r).take (span isDigit (c::r)))
   ·rw[aoa h2]at h;simp at h
   ·rw[an9 h2];simp only[aog]at hle;have hg2:((c::r).getD (span isDigit (c::r)-1) 0).toNat<128:=by omega
    exact⟨hpos,hle,hg2,by omega⟩
 ·rw[an9 hd]at h⊢;by_cases GQ:c.toNat=34
  ·rw[aoa GQ]at h⊢;by_cases he:(txt 0 [] 1 r).2.2=0
   ·rw[aoa he];obtain⟨a1,a2,a3⟩:=Ya r.length r [] 1 (aon _) he;refine⟨by simp only;omega,by simp only;omega,?_,by omega⟩;simp only;obtain⟨q,hq⟩:∃q,(txt 0 [] 1 r).2.1=q+2:=⟨(txt 0 [] 1 r).2.1-2,by omega⟩;rw[hq]at a3⊢;have a3:(r.getD q 0).toNat=34:=a3;show ((c::r).getD (q+1) 0).toNat<128;rw[apQ];omega
   ·rw[an9 he]at h;exact absurd h he
  ·rw[an9 GQ]at h⊢;by_cases hl:oQ c=true
   ·rw[aoa hl]at h⊢;have hpos:0<span isWord (c::r):=by rw[l5,isWord,hl];simp
    have hle:=A_ isWord (c::r);have hg:=U6 isWord (c::r) (i:=span isWord (c::r)-1) (by omega);rw[Bz]at hl;simp only[isWord,aov,Bz,pW]at hg;by_cases h2:64<span isWord (c::r)
    ·rw[aoa h2]at h;simp at h
    ·rw[an9 h2];simp only[aog]at hle;have hg2:((c::r).getD (span isWord (c::r)-1) 0).toNat<128:=by omega
     exact⟨hpos,hle,hg2,by omega⟩
   ·rw[an9 hl]at h⊢;have hle:=aky (c::r);by_cases h2:opn (c::r)=0
    ·rw[aoa h2]at h;simp at h
    ·rw[an9 h2];simp only[aog]at hle;refine⟨by simp only;omega,hle,?_⟩;cases r with
     | nil=>
      simp only[opn]at h2⊢;split
      ·rename_i ho;exact⟨FT ho,FT ho⟩
      ·rename_i ho;simp[ho]at h2
     | cons b r=>
      simp only[opn]at h2⊢;split
      ·rename_i ho;exact⟨(OM ho).2,(OM ho).1⟩
      ·rename_i ho2;split
       ·rename_i ho;exact⟨FT ho,FT ho⟩
       ·rename_i ho;simp[ho,ho2]at h2
end Go.Ft
namespace Go.Ft
open Go
attribute [local congr] fH
theorem Vr(out:List aG)(h:out≠[]):idx out (bV ((out.length:Int)-1))=if h2:out.length<4611686018427387904 then some (out.getLast h)else idx out (bV ((out.length:Int)-1)):=by
 split
 ·rename_i h2;have hl:0<out.length:=aoH.2 h;rw[bB (by omega) (by omega),show (out.length:Int)-1=((out.length-1:Nat):Int)from by omega,Ny (by omega)];congr 1;exact(List.getLast_eq_getElem h).symm
 ·rfl
theorem WX(out:List aG)(o:Nat)(h:out.length<4611686018427387904):
  (if (o:Int)=0 then if (out.length:Int)=0 then some true else av (idx out ((out.length:Int)-1)) fun e1=>some (e1.kind !=5)else some false)=some (decide (o=0∧KN out=false)):=by
 by_cases ho:o=0
 ·subst ho;by_cases he:out=[]
  ·subst he;simp[KN]
  ·have hl:0<out.length:=aoH.2 he;have hl2:¬((out.length:Int)=0):=by omega
   have h1:=Vr out he;rw[dif_pos h,bB (by omega) (by omega)]at h1;rw[h1];simp[KN,List.getLast?_eq_some_getLast he];cases hk:(out.getLast he).kind==5<;>simp_all
 ·have:¬(o:Int)=0:=by omega
  simp[ho]
theorem amx{s:Str}{p:Nat}(h:p<s.length)(hc:(s.getD p 0).toNat≠10):p+1+span sQ (s.drop (p+1))≤s.length∧Bd s (p+1+span sQ (s.drop (p+1))):=by
 have hl:=A_ sQ (s.drop (p+1));rw[qR]at hl;refine⟨by omega,?_⟩;rcases aoE (p+1+span sQ (s.drop (p+1))) s.length with h1|h1
 ·right;left
  have key:∀l:Str,span sQ l<l.length→(l.getD (span sQ l) 0).toNat=10:=by
   intro l
   induction l with
   | nil=>simp
   | cons c l ih=>
    rw[l5];cases hn:sQ c with
    | true=>simp only[aoc,aog];intro h2;rw[apQ];exact ih (by omega)
    | false=>simp only[an_,aob,aog];intro _;simp[sQ]at hn;rw[List.getD_cons_zero];omega
  have:=key (s.drop (p+1)) (by rw[qR];omega);rw[aou,apw]at this;rw[aou];omega
 ·left;omega
theorem ahJ{c:UInt8}(r:Str)(h:c.toNat≠10):span sQ (c::r)=span sQ r+1:=by
 rw[l5,aoa];simp[sQ];omega
theorem U1(c:UInt8)(r:Str):(oG (c::r)).1≠5:=by
 simp only[oG]
 repeat' split
 all_goals simp
theorem tZ{s:Str}(hs:s.length≤2147483648):∀(k p nx o:Nat) (out:List aG),s.length<k+p→p≤s.length→nx≤s.length→(p<nx→Bd s nx)→out.length≤p→o≤p→
  jy s k out (nx:Int) (o:Int) p=some (fin out (scan (nx-p) p o (KN out) (s.drop p)))
 | 0,p,nx,o,out,h,h',_,_,_,_=>by omega
 | k+1,p,nx,o,out,h,hp,hnx,hb,hout,ho=>by
  rw[jy];by_cases hi:p<s.length
  ·rw[aoa (by simpa using hi)];by_cases hlt:p<nx
   ·
    have hst:=agx hlt hnx (hb hlt)
    have hpos:1≤(dec s p).2:=by
     rcases aoE (s.getD p 0).toNat 128 with hc|hc
     ·rw[dec_lt hc];exact aon _
     ·exact(abd hi hc).2.1
    simp (disch:=omega) only[aoa,aj,aod,aoc];rw[tZ hs k (p+(dec s p).2) nx o out (by omega) (by omega) hnx (fun _=>hb hlt) (by omega) (by omega)];rw[show nx-p=(nx-(p+(dec s p).2))+(dec s p).2 from by omega,Jv _ _ _ _ _ _ (by rw[qR];omega),aoS]
   ·have e0:nx-p=0:=by omega
    rw[e0];have hh:=getD_drop hi;rcases aoE (s.getD p 0).toNat 128 with hc|hc
    ·rw[dec_lt hc];simp (disch:=omega) only[ZI,bB,an9,aj,aod,aom,aoA,apd,aov];by_cases hbl:(s.getD p 0).toNat=32∨(s.getD p 0).toNat=9
     ·have e1:(((s.getD p 0).toNat:Int)==32||((s.getD p 0).toNat:Int)==9)=true:=by simp only[aov,aom];omega
      simp (disch:=omega) only[bg,aoa,aj];rw[tZ hs k (p+1) nx o out (by omega) (by omega) hnx (fun h=>by omega) (by omega) (by omega),hh,show nx-(p+1)=0 from by omega];rw[scan,aoa hbl]
     ·have e1:(((s.getD p 0).toNat:Int)==32||((s.getD p 0).toNat:Int)==9)=false:=by simp only[aoF,aok];omega
      simp (disch:=omega) only[an9];by_cases P5:(s.getD p 0).toNat=35
      ·simp (disch:=omega) only[Qj al1 (s:=s) (by omega) hp,bg,aoa,an9,aj];obtain⟨b1,b2⟩:=amx hi (by omega);rw[hh,ahJ _ (by omega)];rw[show p+(span sQ (s.drop (p+1))+1)=p+1+span sQ (s.drop (p+1))from by omega];rw[tZ hs k (p+1) _ o out (by omega) (by omega) b1 (fun _=>b2) (by omega) (by omega)];rw[show p+1+span sQ (s.drop (p+1))-(p+1)=span sQ (s.drop (p+1))from by omega];rw[scan,an9 hbl,aoa P5]
      ·by_cases h10:(s.getD p 0).toNat=10
       ·simp (disch:=omega) only[bg,aoa,an9,aj];rw[WX out o (by omega),hh,scan,an9 hbl,an9 P5,aoa h10];by_cases hn:o=0∧KN out=false
        ·have happ:app out [(⟨5,[],(p:Int)⟩:aG)]=some (out++[⟨5,[],(p:Int)⟩]):=bg (by simp[sI];omega);have hd:decide (o=0∧KN out=false)=true:=aoo hn;simp (disch:=omega) only[hd,happ,aoa,aj,aoc];rw[tZ hs k (p+1) nx o _ (by omega) (by omega) hnx (fun h=>by omega) (by simp;omega) (by omega),show nx-(p+1)=0 from by omega,Im];rw[II];rfl
        ·have hd:decide (o=0∧KN out=false)=false:=aor hn;simp (disch:=omega) only[hd,an9,aj,an_,aob];rw[tZ hs k (p+1) nx o out (by omega) (by omega) hnx (fun h=>by omega) (by omega) (by omega),show nx-(p+1)=0 from by omega]
       ·simp (disch:=omega) only[Vo hs hi,bg,aoa,an9,aj];rw[hh,scan,an9 hbl,an9 P5,an9 h10];by_cases he:(oG (s.getD p 0::s.drop (p+1))).2.2.2=0
        ·obtain⟨n1,n2,n3,n4⟩:=MV he;rw[qR]at n2;rw[aoa he]
         have hbd:Bd s (p+(oG (s.getD p 0::s.drop (p+1))).2.2.1):=by
          right;right;refine⟨by omega,?_⟩;rw[←hh,aou,apw]at n3;rw[aou,←hh];rw[←hh]at n1;rw[show p+(oG (s.drop p)).2.2.1-1=p+((oG (s.drop p)).2.2.1-1)from by omega];exact n3
         have h5:=U1 (s.getD p 0) (s.drop (p+1));generalize oG (s.getD p 0::s.drop (p+1))=t at he n1 n2 hbd h5⊢;have happ:app out [(⟨t.1,t.2.1,(p:Int)⟩:aG)]=some (out++[⟨t.1,t.2.1,(p:Int)⟩]):=bg (by simp[sI];omega);have ang:opb t.2.1 o≤o+1:=by unfold opb;(repeat' split)<;>omega
         have ek:((t.1:Int)==5)=false:=aok.2 h5;simp only[ltk,he,aoc];simp (disch:=omega) only[aC,apY,aob];by_cases hk:t.1=4
         ·simp (disch:=omega) only[hk,ZH _ _ (by omega:o<4611686018427387904),aj,aoc];rw[hk]at happ;simp (disch:=omega) only[happ,aj];rw[tZ hs k (p+1) _ (opb t.2.1 o) _ (by omega) (by omega) (by omega) (fun _=>hbd) (by simp;omega) (by omega),Im,II];rw[show p+t.2.2.1-(p+1)=t.2.2.1-1 from by omega]
          rfl
         ·simp (disch:=omega) only[hk,happ,aj,aob];rw[tZ hs k (p+1) _ o _ (by omega) (by omega) (by omega) (fun _=>hbd) (by simp;omega) (by omega),Im,II];rw[show p+t.2.2.1-(p+1)=t.2.2.1-1 from by omega];rw[ek]
        ·rw[an9 he];simp only[ltk,he,aob];simp (disch:=omega) only[he,aC,apn,aoc];rfl
    ·
     obtain⟨g1,_⟩:=abd hi hc;have e1:(((dec s p).1:Int)==32||((dec s p).1:Int)==9)=false:=by simp only[aoF,aok];omega
     have he:(oG (s.getD p 0::s.drop (p+1))).2.2.2≠0:=fun he=>by have:=(MV he).2.2.2;omega
     simp (disch:=omega) only[ZI,e1,Vo hs hi,an9,aj,aod,aom,aoA,apd,an_,aob];rw[hh,scan,an9 (by omega),an9 (by omega),an9 (by omega),an9 he];simp only[ltk,he,aob];simp (disch:=omega) only[he,aC,apn,aoc];rfl
  ·have e:p=s.length:=by omega
   subst e;rw[an9 (by simp)];rw[aop (aon _)];cases hz:nx-s.length<;>simp[scan,fin]
end Go.Ft
namespace Go.Ft
open Go
attribute [local congr] fH
theorem RP{s:Str}(hs:s.length≤65536):oo s=some (fin [] (scan 0 0 0 false s)):=by
 unfold oo;rw[an9 (by simp;omega)];have:=tZ (s:=s) (by omega) BIG 0 0 0 [] (by simp only[BIG];omega) (by omega) (by omega) (fun h=>by omega) (by simp) (by omega);exact this
def TK:Bool→Str→Nat
 | _,[]=>0
 | cm,c::r=>if c.toNat≠10∧(cm=true∨c.toNat=32∨c.toNat=9∨c.toNat=35)then TK (cm||c.toNat==35) r+1 else 0
theorem aaY:∀(cm:Bool) (l:Str),TK cm l≤l.length
 | _,[]=>aon 0
 | cm,c::r=>by
  rw[TK];split
  ·have:=aaY (cm||c.toNat==35) r;simp only[aog];omega
  ·exact apm _
theorem R9{s:Str}(hs:s.length≤2147483648):∀(k i:Nat) (cm:Bool),s.length<k+i→i≤s.length→
  H7 s k (i:Int) cm=some ((i+TK cm (s.drop i):Nat):Int)
 | 0,i,cm,h,h'=>by omega
 | k+1,i,cm,h,h'=>by
  rw[H7];by_cases hi:i<s.length
  ·have hh:=getD_drop hi
   have hx:idx s (i:Int)=some (s.getD i 0):=by
    rw[Ny hi,aou,aoh hi];rfl
   rw[hh,TK];have hc:(decide ((i:Int)<(s.length:Int)))=true:=by simp;omega
   simp only[hc,aoc,hx,aj];generalize s.getD i 0=c;by_cases h10:c.toNat=10
   ·have e:((c.toNat:Int) !=10)=false:=by simp;omega
    simp[h10]
   ·have e:((c.toNat:Int) !=10)=true:=by simp;omega
    have e35:((c.toNat:Int)==35)=(c.toNat==35):=by
     by_cases h:c.toNat=35
     ·simp[h]
     ·have h2:¬(c.toNat:Int)=35:=by omega
      rw[aok.2 h,aok.2 h2]
    have go:∀cm',H7 s k (bV ((i:Int)+1)) cm'=some ((i+(TK cm' (s.drop (i+1))+1):Nat):Int):=by
     intro cm';rw[bB (by omega) (by omega)];have:=R9 hs k (i+1) cm' (by omega) (by omega);rw[show (i:Int)+1=((i+1:Nat):Int)from by omega,this];congr 2;omega
    simp only[e,aoc,e35,h10,apd,apn,true_and];cases cm with
    | true=>simp[go]
    | false=>
     by_cases h32:c.toNat=32
     ·have h2:(c.toNat==35)=false:=by simp[h32]
      simp[h32,go]
     ·have anx:((c.toNat:Int)==32)=false:=by simp;omega
      by_cases h9:c.toNat=9
      ·simp[h9,go]
      ·have h9':((c.toNat:Int)==9)=false:=by simp;omega
       simp only[anx,h9',an_,aob,aj,h32,h9,false_or,aoW];cases hb:(c.toNat==35)with
       | true=>simp[go];simp at hb;simp[hb]
       | false=>simp at hb;simp[hb]
  ·have hc:(decide ((i:Int)<(s.length:Int)))=false:=by simp;omega
   rw[aop (by omega)];simp only[hc,an_,aob,aj,TK,apx]
theorem R8{s:Str}(hs:s.length≤65536){i:Nat}(h:i≤s.length):YB s (i:Int)=some ((i+TK false (s.drop i):Nat):Int):=
 R9 (by omega) BIG i false (by simp only[BIG];omega) h
theorem af8(l:Str):TK true l=span sQ l:=by
 induction l with
 | nil=>rfl
 | cons c r ih=>
  rw[TK,l5];by_cases h:c.toNat=10
  ·simp[h,sQ]
  ·have:¬(c.toNat:Int)=10:=by omega
   simp[h,sQ,this,ih]
theorem R_:∀(l:Str) (cm:Bool),TK false (l.drop (TK cm l))=0
 | [],cm=>by cases cm<;>rfl
 | c::r,cm=>by
  rw[TK];split
  ·rw[ao5];exact R_ r _
  ·rename_i h;rw[aoR,TK,an9];intro h2;apply h;exact⟨h2.1,by cases h2.2 with|inl h=>cases h|inr h=>exact Or.inr h⟩
theorem QI:∀(l:Str) (p o:Nat) (nl:Bool),scan 0 p o nl l=scan 0 (p+TK false l) o nl (l.drop (TK false l))
 | [],p,o,nl=>rfl
 | c::r,p,o,nl=>by
  rw[TK];split
  ·rename_i h;by_cases P5:c.toNat=35
   ·rw[scan,an9 (by omega),aoa P5,ao5];simp only[P5,aoM,Bool.or_true];rw[af8];have:=Jv (span sQ r) 0 (p+1) o nl r (A_ _ _);rw[Nat.zero_add]at this;rw[this];rw[show p+1+span sQ r=p+(span sQ r+1)from by omega]
   ·have hb:(c.toNat==35)=false:=by simp[P5]
    rw[scan,aoa (by obtain⟨_,h⟩:=h;rcases h with h|h|h|h<;>simp_all),ao5,hb];rw[QI r];simp only[apE];rw[show p+1+TK false r=p+(TK false r+1)from by omega]
  ·rfl
theorem Ub(out:List aG)(o:Nat)(h:out.length<4611686018427387904):
  (if ((o:Int)==0)=true then if ((out.length:Int)==0)=true then some true else av (idx out (bV ((out.length:Int)-1))) fun e1=>some (e1.kind !=5)else some false)=some (decide (o=0∧KN out=false)):=by
 by_cases ho:o=0
 ·subst ho;by_cases he:out=[]
  ·subst he;simp[KN]
  ·have hl:0<out.length:=aoH.2 he;have hl2:¬((out.length:Int)=0):=by omega
   have h1:=Vr out he;rw[dif_pos h]at h1;rw[h1];simp[KN,List.getLast?_eq_some_getLast he];cases hk:(out.getLast he).kind==5<;>simp_all
 ·have:¬(o:Int)=0:=by omega
  simp[ho]
theorem QK{s:Str}(hs:s.length≤65536):∀(k p o:Nat) (out:List aG),s.length<k+p→p≤s.length→TK false (s.drop p)=0→out.length≤p→o≤p→
  J5 s k out (o:Int) (p:Int)=some (fin out (scan 0 p o (KN out) (s.drop p)))
 | 0,p,o,out,h,h',_,_,_=>by omega
 | k+1,p,o,out,h,hp,hg,hout,ho=>by
  rw[J5];by_cases hi:p<s.length
  ·have hh:=getD_drop hi
   have hx:idx s (p:Int)=some (s.getD p 0):=by
    rw[Ny hi,aou,aoh hi];rfl
   have hc:(decide ((p:Int)<(s.length:Int)))=true:=by simp;omega
   have step:∀(q:Nat) (o':Nat) (out':List aG),p<q→q≤s.length→out'.length≤q→o'≤q→
     av (YB s (q:Int)) (fun at3=>J5 s k out' (o':Int) at3)=some (fin out' (scan 0 q o' (KN out') (s.drop q))):=by
    intro q o' out' h1 h2 h3 h4;have hle:=aaY false (s.drop q);rw[qR]at hle;rw[R8 hs h2,aj];rw[QK hs k (q+TK false (s.drop q)) o' out' (by omega) (by omega) (by rw[←aoS];exact R_ _ _) (by omega) (by omega)];rw[QI (s.drop q),aoS]
   rw[hh,TK]at hg;simp only[hc,aoc,hx,aj];by_cases h10:(s.getD p 0).toNat=10
   ·have e:(((s.getD p 0).toNat:Int) !=10)=false:=bne_eq_false_iff_eq.2 (by omega);have e5:((5:Int) !=5)=false:=rfl
    have eop:Q7 (o:Int) (⟨5,[],(p:Int)⟩:aG)=some (o:Int):=by
     rw[Vl _ _ (by omega)];simp
    simp only[e,e5,an_,aob,eop,aj];rw[Ub out o (by omega),aj]
    conv=>rhs;rw[hh,scan,an9 (by omega),an9 (by omega),aoa h10]
    have w1:bV ((p:Int)+1)=((p+1:Nat):Int):=by rw[bB (by omega) (by omega)];omega
    by_cases hn:o=0∧KN out=false
    ·have happ:app out [(⟨5,[],(p:Int)⟩:aG)]=some (out++[⟨5,[],(p:Int)⟩]):=bg (by simp[sI];omega);rw[aoo hn,aoa rfl,happ,aj,w1];rw[step (p+1) o _ (by omega) (by omega) (by simp;omega) (by omega),Im,aoa hn,II];rfl
    ·rw[aor hn,an9 Bool.false_ne_true,w1];rw[step (p+1) o _ (by omega) (by omega) (by omega) (by omega),an9 hn]
   ·have e:(((s.getD p 0).toNat:Int) !=10)=true:=aoA.2 (by omega);simp only[e,aoc]
    have hbl:¬((s.getD p 0).toNat=32∨(s.getD p 0).toNat=9):=fun h=>by
     rw[aoa ⟨h10,by omega⟩]at hg;omega
    have P5:¬(s.getD p 0).toNat=35:=fun h=>by
     rw[aoa ⟨h10,by omega⟩]at hg;omega
    rw[ac8 (by omega) hi,hh,scan,an9 hbl,an9 P5,an9 h10];by_cases he:(oG (s.getD p 0::s.drop (p+1))).2.2.2=0
    ·obtain⟨n1,n2,n3,n4⟩:=MV he;have h5:=U1 (s.getD p 0) (s.drop (p+1));rw[qR]at n2;rw[aoa he];generalize oG (s.getD p 0::s.drop (p+1))=t at he n1 n2 h5⊢;have happ:app out [(⟨t.1,t.2.1,(p:Int)⟩:aG)]=some (out++[⟨t.1,t.2.1,(p:Int)⟩]):=bg (by simp[sI];omega);have ang:opb t.2.1 o≤o+1:=by unfold opb;(repeat' split)<;>omega
     have ek:((t.1:Int)==5)=false:=aok.2 h5;have ek2:((t.1:Int) !=5)=true:=aoA.2 h5;have w1:bV ((p:Int)+(t.2.2.1:Int))=((p+t.2.2.1:Nat):Int):=by rw[bB (by omega) (by omega)];omega
     simp only[rtk,he,aoc,aC,ek2,aj,happ,Vl _ _ (by omega:o<4611686018427387904),w1];have e00:((0:Int) !=0)=false:=rfl;simp only[e00,an_,aob];rw[step (p+t.2.2.1) _ _ (by omega) (by omega) (by simp;omega) (by split<;>omega),Im,II,ek];have hsk:=Jv (t.2.2.1-1) 0 (p+1) (if t.1=4 then opb t.2.1 o else o) false (s.drop (p+1)) (by rw[qR];omega);rw[Nat.zero_add]at hsk;rw[hsk,aoS,show p+1+(t.2.2.1-1)=p+t.2.2.1 from by omega]
    ·rw[an9 he];have e00:((oG (s.getD p 0::s.drop (p+1))).2.2.2 !=0)=true:=aoA.2 he;simp only[rtk,he,aob,aC,e00,aoc];rfl
  ·have e:p=s.length:=by omega
   subst e;rw[aop (aon _)];simp[scan,fin]
theorem aat{s:Str}(hs:s.length≤65536):Fx s=some (fin [] (scan 0 0 0 false s)):=by
 unfold Fx;rw[an9 (by simp;omega),show (0:Int)=((0:Nat):Int)from rfl,R8 hs (apm _),aj];have hle:=aaY false (s.drop 0);rw[qR]at hle;rw[QK hs BIG _ 0 [] (by simp only[BIG];omega) (by omega) (by rw[←aoS];exact R_ _ _) (by simp) (by omega)];rw[←aoS,aoR];have:=QI s 0 0 false;rw[this];rfl
theorem Yc(s:Str):Fx s=oo s:=by
 rcases aoE 65536 s.length with h|h
 ·unfold Fx oo;rw[aoa (by simp;omega),aoa (by simp;omega)]
 ·rw[RP h,aat h]
theorem QH:∀(l:Str) (k p o:Nat) (nl:Bool),(scan k p o nl l).1.length≤l.length
 | [],k,p,o,nl=>by cases k<;>simp[scan]
 | c::r,k+1,p,o,nl=>by rw[scan];have:=QH r k (p+1) o nl;simp only[aog];omega
 | c::r,0,p,o,nl=>by
  have h1:=QH r;rw[scan]
  repeat' split
  all_goals simp only[aog,aoU]
  all_goals first|omega|(have:=h1 0 (p+1) o nl;omega)|(have:=h1 0 (p+1) o true;omega)|(have:=h1 (span sQ r) (p+1) o nl;omega)|skip
  all_goals (have:=h1 ((oG (c::r)).2.2.1-1) (p+1) (if (oG (c::r)).1=4 then opb (oG (c::r)).2.1 o else o) false;simp_all)
theorem ais(l:Str):(fin [] (scan 0 0 0 false l)).1.length≤l.length:=by
 have:=QH l 0 0 0 false;unfold fin;split<;>simp_all
end Go.Ft
namespace Go.Ft
open Go
attribute [local congr] fH
theorem aaj:∀(r:Str) (k:Nat) (b:Str) (n:Nat),(txt k b n r).1.length≤4096
 | [],k,b,n=>by cases k<;>simp[txt]
 | c::r,k+1,b,n=>by rw[txt];exact aaj r k b n
 | c::r,0,b,n=>by
  rw[txt];split
  ·split
   ·simp
   ·simp only;omega
  ·split
   ·exact aaj r _ _ _
   ·simp
theorem ahy:∀l:Str,(oG l).2.1.length≤l.length+4096
 | []=>by simp[oG]
 | c::r=>by
  have:=aaj r 0 [] 1;unfold oG;simp only
  repeat' split
  all_goals simp only[aoU,apF]
  all_goals omega
theorem M9:∀(l:Str) (k p o:Nat) (nl:Bool),∀t∈(scan k p o nl l).1,t.text.length≤l.length+4096
 | [],k,p,o,nl,t,ht=>by cases k<;>simp[scan]at ht
 | c::r,k+1,p,o,nl,t,ht=>by rw[scan]at ht;have:=M9 r k (p+1) o nl t ht;simp only[aog];omega
 | c::r,0,p,o,nl,t,ht=>by
  have h1:=M9 r;have h2:=ahy (c::r);simp only[aog]at h2⊢;rw[scan]at ht;split at ht
  ·have:=h1 _ _ _ _ t ht;omega
  ·split at ht
   ·have:=h1 _ _ _ _ t ht;omega
   ·split at ht
    ·split at ht
     ·simp only[aoB]at ht;rcases ht with rfl|ht
      ·simp
      ·have:=h1 _ _ _ _ t ht;omega
     ·have:=h1 _ _ _ _ t ht;omega
    ·split at ht
     ·simp only[aoB]at ht;rcases ht with rfl|ht
      ·exact h2
      ·have:=h1 _ _ _ _ t ht;omega
     ·simp at ht
theorem toks(s:Str):∃ts a e,oo s=some (ts,a,e)∧Fx s=some (ts,a,e)∧BX ts:=by
 rw[Yc];rcases aoE 65536 s.length with h|h
 ·unfold oo;rw[aoa (by simp;omega)];exact⟨_,_,_,rfl,rfl,by simp[BX]⟩
 ·rw[RP h];have hl:=ais s;refine⟨(fin [] (scan 0 0 0 false s)).1,(fin [] (scan 0 0 0 false s)).2.1,(fin [] (scan 0 0 0 false s)).2.2,rfl,rfl,by omega,fun t ht=>?_⟩
  have hm:t∈(scan 0 0 0 false s).1:=by
   unfold fin at ht;split at ht
   ·simpa using ht
   ·simp at ht
  have:=M9 s 0 0 0 false t hm;omega
def zeroE:ak:=ak.mk 0 ([]:Str) (ah.mk 0 false 0 ([]:Str) [] []) [] []
theorem ahA{ts:List aG}(h:BX ts):∃(e:ak) (j:Nat) (c:Int),Ah ts=some (e,(j:Int),c)∧afd ts=some (e,(j:Int),c)∧j≤ts.length∧(c=0→xval e=0∧e.bulk≤137438953472)∧(c≠0→e=zeroE):=by
 have hN:=h.1;unfold Ah afd DT;rcases agC h with⟨e,j,g1,g2,gb,gP,gR⟩|⟨j,c,x,g1,g2,gc,gP,gR⟩
 ·have hbk:e.bulk≤137438953472:=by omega
  obtain⟨v1,v2⟩:=Pt (e:=e) (by omega);rw[gP,gR,iB,aC,aC];simp only[FL,an_,aob];rw[v1,v2,aj];by_cases hv:xval e=0
  ·rw[an9 (by simpa using hv)];exact⟨e,j,0,rfl,rfl,g2,fun _=>⟨hv,hbk⟩,fun h=>absurd rfl h⟩
  ·rw[aoa (by simpa using hv)];exact⟨zeroE,0,xval e,rfl,rfl,apm _,fun h=>absurd h hv,fun _=>rfl⟩
 ·rw[gP,gR,gH,aC,aC];simp only[Nt gc,aoc];exact⟨zeroE,j,c,rfl,rfl,g2,fun h=>absurd h gc,fun _=>rfl⟩
theorem Rm(s:Str):∃(e:ak) (a c:Int),yc s=some (e,a,c)∧adi s=some (e,a,c)∧(c=0→xval e=0∧e.bulk≤137438953472):=by
 obtain⟨ts,a,c,l1,l2,hts⟩:=toks s;unfold yc adi;rw[l1,l2,aC,aC];by_cases hc:c=0
 ·subst hc;simp only[FL,an_,aob];obtain⟨e,j,c,t1,t2,hj,t3,t4⟩:=ahA hts;rw[t1,t2,aC,aC];by_cases hc:c=0
  ·subst hc;have e0:((0:Int)==0)=true:=rfl;simp only[FL,e0,aoN,an_,aob,aoc];by_cases hlt:j<ts.length
   ·have e1:decide ((j:Int)<(ts.length:Int))=true:=aoo (by omega);have e2:((j:Int)==(ts.length:Int))=false:=by rw[aok];omega
    simp only[e1,e2,aoc,an_,aob,jL hlt,aj];exact⟨_,_,_,rfl,rfl,fun h=>by cases h⟩
   ·have e1:decide ((j:Int)<(ts.length:Int))=false:=aor (by omega);have e2:((j:Int)==(ts.length:Int))=true:=by rw[aom];omega
    simp only[e1,e2,aoc,an_,aob];exact⟨e,0,0,rfl,rfl,t3⟩
  ·have e0:(c==0)=false:=by simpa using hc
   simp only[Nt hc,e0,aoL,an_,aob,aoc,Br];by_cases hlt:j<ts.length
   ·have e1:decide ((j:Int)<(ts.length:Int))=true:=aoo (by omega);simp only[e1,aoc,jL hlt,aj];exact⟨_,_,_,rfl,rfl,fun h=>absurd h hc⟩
   ·have e1:decide ((j:Int)<(ts.length:Int))=false:=aor (by omega);simp only[e1,an_,aob,aj];exact⟨_,_,_,rfl,rfl,fun h=>absurd h hc⟩
 ·simp only[Nt hc,aoc];exact⟨_,_,_,rfl,rfl,fun h=>absurd h hc⟩
end Go.Ft
namespace Go.Ft
open Go
attribute [local congr] fH
theorem ajH{i:Nat}(h:i<4611686018427387000):bV (bV ((i:Int)+1)+1)=((i+2:Nat):Int):=by rw[kr (by omega)];exact kr (i:=i+1) (by omega)
theorem LW{s:Str}(hs:s.length≤65536):∀(n i k k':Nat),s.length+2≤n+i→i≤s.length+1→n<k→n<k'→
  ∃a b:Nat,gF s k (i:Int)=some (a:Int)∧T9 s k' (i:Int)=some (b:Int)∧((a=b∧i<a∧a≤s.length)∨(a=s.length∧s.length<b∧b≤s.length+3))
 | n,i,0,k',_,_,h,_=>by omega
 | n,i,k+1,0,_,_,_,h=>by omega
 | 0,i,k+1,k'+1,h1,h2,_,_=>by omega
 | n+1,i,k+1,k'+1,h1,h2,h3,h4=>by
  rw[gF,T9];by_cases hi:i<s.length
  ·have e1:decide ((i:Int)<(s.length:Int))=true:=aoo (by omega);simp only[e1,aoc,jL hi,aj];generalize s[i]=c;by_cases c92:c.toNat=92
   ·have e2:((c.toNat:Int)==92)=true:=by rw[aom];omega
    have e3:((c.toNat:Int) !=34)=true:=by rw[aoA];omega
    simp only[e2,e3,aoc];rw[ajH (by omega)];obtain⟨a,b,q1,q2,q3⟩:=LW hs n (i+2) k k' (by omega) (by omega) (by omega) (by omega);exact⟨a,b,q1,q2,by omega⟩
   ·have e2:((c.toNat:Int)==92)=false:=by rw[aok];omega
    by_cases c34:c.toNat=34
    ·have e3:((c.toNat:Int)==34)=true:=by rw[aom];omega
     have e4:((c.toNat:Int) !=34)=false:=by rw[bne_eq_false_iff_eq];omega
     simp only[e2,e3,e4,aoc,an_,aob];exact⟨i+1,i+1,by rw[kr (by omega)],by rw[kr (by omega)],.inl ⟨rfl,by omega,by omega⟩⟩
    ·have e3:((c.toNat:Int)==34)=false:=by rw[aok];omega
     have e4:((c.toNat:Int) !=34)=true:=by rw[aoA];omega
     simp only[e2,e3,e4,aoc,an_,aob];rw[kr (by omega)];obtain⟨a,b,q1,q2,q3⟩:=LW hs n (i+1) k k' (by omega) (by omega) (by omega) (by omega);exact⟨a,b,q1,q2,by omega⟩
  ·have e1:decide ((i:Int)<(s.length:Int))=false:=aor (by omega);simp only[e1,an_,aob,aj];exact⟨s.length,i+1,rfl,by rw[kr (by omega)],.inr ⟨rfl,by omega,by omega⟩⟩
theorem NP{s:Str}(hs:s.length≤65536):∀(n i k k':Nat) (o:Int),s.length+1≤n+i→n<k→n<k'→i≤s.length+4→
  ∃r:Int,dU s k (i:Int) o=some r∧Cy s k' (i:Int) o=some r∧(r=-1∨∃j:Nat,r=j∧i≤j∧j<s.length)
 | n,i,0,k',o,_,h,_,_=>by omega
 | n,i,k+1,0,o,_,_,h,_=>by omega
 | n,i,k+1,k'+1,o,h1,h3,h4,h5=>by
  rw[dU,Cy];by_cases hi:i<s.length
  ·obtain⟨n,rfl⟩:∃m,n=m+1:=⟨n-1,by omega⟩;have e1:decide ((i:Int)<(s.length:Int))=true:=aoo (by omega);simp only[e1,aoc,jL hi,aj];generalize s[i]=c;have w1:bV ((i:Int)+1)=((i+1:Nat):Int):=kr (by omega)
   have next:∀o:Int,∃r:Int,dU s k (bV ((i:Int)+1)) o=some r∧Cy s k' (bV ((i:Int)+1)) o=some r∧(r=-1∨∃j:Nat,r=j∧i≤j∧j<s.length):=fun o=>by
    rw[w1];obtain⟨r,q1,q2,q3⟩:=NP hs n (i+1) k k' o (by omega) (by omega) (by omega) (by omega);refine⟨r,q1,q2,?_⟩;rcases q3 with q3|⟨j,q3,q4,q5⟩
    ·exact .inl q3
    ·exact .inr ⟨j,q3,by omega,q5⟩
   by_cases c34:((c.toNat:Int)==34)=true
   ·simp only[c34,aoc,sK,ajT];rw[w1];have hB:=iL;obtain⟨a,b,q1,q2,q3⟩:=LW hs (s.length+2) (i+1) BIG BIG (by omega) (by omega) (by omega) (by omega);rw[q1,q2,aj,aj];rcases q3 with⟨q3,q4,q5⟩|⟨q3,q4,q5⟩
    ·subst q3;obtain⟨r,p1,p2,p3⟩:=NP hs n a k k' o (by omega) (by omega) (by omega) (by omega);refine⟨r,p1,p2,?_⟩;rcases p3 with p3|⟨j,p3,p4,p5⟩
     ·exact .inl p3
     ·exact .inr ⟨j,p3,by omega,p5⟩
    ·obtain⟨k,rfl⟩:∃q,k=q+1:=⟨k-1,by omega⟩;obtain⟨k',rfl⟩:∃q,k'=q+1:=⟨k'-1,by omega⟩;rw[dU,Cy,an9 (by simp;omega),an9 (by simp;omega)];exact⟨-1,rfl,rfl,.inl rfl⟩
   ·have c34:((c.toNat:Int)==34)=false:=by simpa using c34
    simp only[c34,an_,aob];by_cases aiD:((c.toNat:Int)==123)=true
    ·simp only[aiD,aoc];exact next _
    ·have aiD:((c.toNat:Int)==123)=false:=by simpa using aiD
     simp only[aiD,an_,aob];by_cases aiC:((c.toNat:Int)==125)=true
     ·simp only[aiC,aoc];by_cases ho:(o==0)=true
      ·simp only[ho,aoc];exact⟨i,rfl,rfl,.inr ⟨i,rfl,aon _,hi⟩⟩
      ·have ho:(o==0)=false:=by simpa using ho
       simp only[ho,an_,aob];exact next _
     ·have aiC:((c.toNat:Int)==125)=false:=by simpa using aiC
      simp only[aiC,an_,aob];exact next _
  ·have e1:decide ((i:Int)<(s.length:Int))=false:=aor (by omega);simp only[e1,an_,aob];exact⟨-1,rfl,rfl,.inl rfl⟩
theorem SG{s:Str}(hs:s.length≤65536){i:Nat}(hi:i≤s.length+4):∃r:Int,qN s (i:Int)=some r∧ai3 s (i:Int)=some r∧(r=-1∨∃j:Nat,r=j∧i≤j∧j<s.length):=by
 have hB:=iL;exact NP hs (s.length+1) i BIG BIG 0 (by omega) (by omega) (by omega) hi
end Go.Ft
namespace Go.Ft
open Go
attribute [local congr] fH
def TV(t:Str):aY:=aY.mk t false zeroE
def Bc(ps:List aY)(t:Str):List aY:=if t=[]then ps else ps++[TV t]
def acC(ps:List aY):Prop:=ps=[]∨∃l p,ps=l++[p]∧p.Z0=true
theorem Zc{ps:List aY}{t:Str}(hp:ps.length≤1048576):dW ps t=some (Bc ps t):=by
 have hL:sI=4294967296:=rfl;unfold dW Bc;cases t with
 | nil=>rfl
 | cons c r=>
  rw[aoa (aoo (by simp only[aog];omega)),an9 (by simp),bg (by simp;omega)];rfl
theorem aew{ps:List aY}{t:Str}(hc:acC ps)(hp:ps.length≤1048576)(ht:t.length≤1048576)(c:UInt8):Yx (Bc ps t) c=some (Bc ps (t++[c])):=by
 have hL:sI=4294967296:=rfl;unfold Yx;cases t with
 | nil=>
  have hr:Bc ps []=ps:=rfl;rw[hr,aoa (by omega)]
  have h1:(((ps.length:Int)==0)||QX ps)=true:=by
   rcases hc with rfl|⟨l,p,rfl,hpi⟩
   ·rfl
   ·simp[QX,hpi]
  rw[aoa h1,bg (by simp;omega)];rfl
 | cons d r=>
  have hr:Bc ps (d::r)=ps++[TV (d::r)]:=rfl;have hr2:Bc ps ((d::r)++[c])=ps++[TV ((d::r)++[c])]:=rfl;simp only[aog]at ht;rw[hr,hr2,aoa (by simp;omega),an9 (by simp[QX,TV];omega)];have e1:WC (ps++[TV (d::r)])=d::r:=by simp[WC,TV]
  rw[e1,bg (by simp;omega),aj];simp[ai2,TV]
theorem O7(s:Str)(i:Nat)(hi:i<s.length)(hs:s.length≤1048576)(a b:UInt8):strings_HasPrefix (s.drop i) [a,b]=some ((s[i]==a)&&(s[i+1]?==some b)):=by
 unfold strings_HasPrefix nA;rw[aoe hi];by_cases h1:i+1<s.length
 ·rw[aoe h1,aoh h1];rw[aoa (aoo (by simp only[aog,aoU];omega))]
  have e:sl (s[i]::s[i+1]::s.drop (i+1+1)) 0 ((([a,b]:Str).length:Nat):Int)=some [s[i],s[i+1]]:=by
   rw[bS (by omega) (by simp) (by simp only[aog,aoU];omega)];rfl
  rw[e,aj];generalize s[i]=x;generalize s[i+1]=y;by_cases hx:x=a<;>by_cases hy:y=b<;>simp[hx,hy]
 ·rw[apB (by omega),aoK (by omega),an9 (by simp)];simp
theorem Yu(ps:List aY)(t:Str):(Bc ps t).length≤ps.length+1:=by unfold Bc;split<;>simp
def Ko(p:aY):Prop:=(p.Z0=true→p.text=[]∧xval p.expr=0∧p.expr.bulk≤137438953472)∧(p.Z0=false→p.text≠[]∧p.expr=zeroE∧p.text.length≤4096)
theorem Vd{ps:List aY}{t:Str}(htl:t.length≤4096)(h:∀p∈ps,Ko p):∀p∈Bc ps t,Ko p:=by
 intro p hp;unfold Bc at hp;split at hp
 ·exact h p hp
 ·rename_i ht;rcases ao2.1 hp with hp|hp
  ·exact h p hp
  ·cases ao0.1 hp;exact⟨fun h=>by simp[TV]at h,fun _=>⟨ht,rfl,htl⟩⟩
theorem KG{s:Str}(hs:s.length≤4096):∀(n i k k':Nat) (ps:List aY) (t:Str),s.length+1≤n+i→n<k→n<k'→i≤s.length→acC ps→ps.length≤2*i→t.length≤i→(∀p∈ps,Ko p)→
  ∃(l:List aY) (a c:Int),dw s k (i:Int) ps t=some (l,a,c)∧LK s k' (Bc ps t) (i:Int)=some (l,a,c)∧(∀p∈l,Ko p)∧l.length≤10000∧(c≠0→l=[])
 | n,i,0,k',ps,t,_,h,_,_,_,_,_,_=>by omega
 | n,i,k+1,0,ps,t,_,_,h,_,_,_,_,_=>by omega
 | n,i,k+1,k'+1,ps,t,h1,h2,h3,hi,hcl,hps,ht,hg=>by
  have hL:sI=4294967296:=rfl;rw[dw,LK];by_cases hlt:i<s.length
  ·obtain⟨n,rfl⟩:∃m,n=m+1:=⟨n-1,by omega⟩;have e1:decide ((i:Int)<(s.length:Int))=true:=aoo (by omega);have w1:bV ((i:Int)+1)=((i+1:Nat):Int):=kr (by omega);have w2:bV ((i:Int)+2)=((i+2:Nat):Int):=by rw[bB (by omega) (by omega)];omega
   simp only[e1,aoc,jL hlt,aj];rw[nk (by omega),aj,O7 s i hlt (by omega),aj]
   have Yj:∀(c:UInt8) (j:Nat),i<j→j≤i+2→j≤s.length→∃(l:List aY) (a c1:Int),(av (app t [c]) fun r9=>dw s k (j:Int) ps r9)=some (l,a,c1)∧(av (Yx (Bc ps t) c) fun l2=>LK s k' l2 (j:Int))=some (l,a,c1)∧(∀p∈l,Ko p)∧l.length≤10000∧(c1≠0→l=[]):=fun c j hj1 hj2 hj3=>by
    rw[bg (by simp;omega),aj,aew hcl (by omega) (by omega) c,aj];exact KG hs n j k k' ps (t++[c]) (by omega) (by omega) (by omega) hj3 hcl (by omega) (by simp;omega) hg
   by_cases hA:s[i]=36∧s[i+1]?=some 36
   ·obtain⟨a1,a2⟩:=hA;obtain⟨hlt1,a3⟩:=aoC.1 a2
    have c1:(((s[i].toNat:Int) !=36)||(decide ((s.length:Int)≤bV ((i:Int)+1))))=false:=by
     rw[w1,a1];simp;omega
    rw[aoa (by simp[a1,a2]),an9 (by rw[c1];simp),w1,w2];simp only[jL hlt1,aj,a3];have e36:(((36:UInt8).toNat:Int) !=36)=false:=by decide
    have anD:(((36:UInt8).toNat:Int)==36)=true:=by decide
    simp only[e36,anD,an_,aob,aoc,aj];exact Yj 36 (i+2) (by omega) (by omega) (by omega)
   ·have p36:((s[i]==36)&&(s[i+1]?==some 36))=false:=by
     cases hx:((s[i]==36)&&(s[i+1]?==some 36))with
     | false=>rfl
     | true=>simp only[aoj,aom]at hx;exact absurd hx hA
    rw[p36,an9 (by simp),O7 s i hlt (by omega),aj];by_cases hB:s[i]=36∧s[i+1]?=some 123
    ·obtain⟨a1,a2⟩:=hB;obtain⟨hlt1,a3⟩:=aoC.1 a2
     have c1:(((s[i].toNat:Int) !=36)||(decide ((s.length:Int)≤bV ((i:Int)+1))))=false:=by
      rw[w1,a1];simp;omega
     rw[aoa (by simp[a1,a2]),an9 (by rw[c1];simp),w1,w2];simp only[jL hlt1,aj,a3];have e1:(((123:UInt8).toNat:Int) !=36)=true:=by decide
     have e2:(((123:UInt8).toNat:Int)==36)=false:=by decide
     have e3:(((123:UInt8).toNat:Int) !=123)=false:=by decide
     simp only[e1,e2,e3,an_,aob,aoc,aj];obtain⟨r,q1,q2,q3⟩:=SG (s:=s) (by omega) (i:=i+2) (by omega);rw[q1,q2,aj,aj];rcases q3 with q3|⟨j,q3,q4,q5⟩
     ·subst q3;exact⟨[],(i:Int),4,rfl,rfl,by simp,by simp,fun _=>rfl⟩
     ·subst q3;have d0:decide ((j:Int)<0)=false:=aor (by omega);have hsl:sl s ((i+2:Nat):Int) (j:Int)=some ((s.take j).drop (i+2)):=by rw[bS (by omega) (by omega) (by omega)];rfl
      simp only[d0,an_,aob,hsl,aj];obtain⟨e,a,c,p1,p2,p3⟩:=Rm ((s.take j).drop (i+2));rw[p1,p2,aC,aC];by_cases hc:c=0
      ·subst hc;have hr:=Yu ps t;have wj:bV ((j:Int)+1)=((j+1:Nat):Int):=kr (by omega);simp only[FL,an_,aob];rw[Zc (by omega),aj,bg (by simp;omega),aj,aj,wj];have hrp:Bc (Bc ps t++[aY.mk ([]:Str) true e]) []=Bc ps t++[aY.mk ([]:Str) true e]:=rfl
       have:=KG hs n (j+1) k k' (Bc ps t++[aY.mk ([]:Str) true e]) [] (by omega) (by omega) (by omega) (by omega) (.inr ⟨_,_,rfl,rfl⟩) (by simp;omega) (by simp) (by
        intro p hp;rcases ao2.1 hp with hp|hp
        ·exact Vd (by omega) hg p hp
        ·cases ao0.1 hp
         exact⟨fun _=>⟨rfl,p3 rfl⟩,fun h=>by cases h⟩)
       rw[hrp]at this;exact this
      ·simp only[Nt hc,aoc];exact⟨[],_,c,rfl,rfl,by simp,by simp,fun _=>rfl⟩
    ·have am1:((s[i]==36)&&(s[i+1]?==some 123))=false:=by
      cases hx:((s[i]==36)&&(s[i+1]?==some 123))with
      | false=>rfl
      | true=>simp only[aoj,aom]at hx;exact absurd hx hB
     have hb1:(if (((s[i].toNat:Int) !=36)||(decide ((s.length:Int)≤bV ((i:Int)+1))))=true then some true else av (idx s (bV ((i:Int)+1))) fun x2=>if ((x2.toNat:Int) !=36)=true then av (idx s (bV ((i:Int)+1))) fun x3=>some ((x3.toNat:Int) !=123)else some false)=some true:=by
      rw[w1];by_cases a1:s[i]=36
      ·by_cases hlt1:i+1<s.length
       ·have n36:¬s[i+1]=36:=fun h=>hA ⟨a1,by rw[aoh hlt1,h]⟩;have n123:¬s[i+1]=123:=fun h=>hB ⟨a1,by rw[aoh hlt1,h]⟩
        have m36:((s[i+1].toNat:Int) !=36)=true:=by
         rw[aoA];intro h;exact n36 (aoD.1 (show s[i+1].toNat=36 by omega))
        have am4:((s[i+1].toNat:Int) !=123)=true:=by
         rw[aoA];intro h;exact n123 (aoD.1 (show s[i+1].toNat=123 by omega))
        rw[an9 (by rw[a1];simp;omega)];simp only[jL hlt1,aj,m36,am4,aoc]
       ·rw[aoa (by simp;right;omega)]
      ·have m36:((s[i].toNat:Int) !=36)=true:=by
        rw[aoA];intro h;exact a1 (aoD.1 (show s[i].toNat=36 by omega))
       rw[aoa (by rw[m36];simp)]
     rw[am1,an9 (by simp),hb1,aj,aoa rfl,w1];exact Yj s[i] (i+1) (by omega) (by omega) (by omega)
  ·have e1:decide ((i:Int)<(s.length:Int))=false:=aor (by omega);have hr:=Yu ps t;simp only[e1,an_,aob];rw[Zc (by omega),aj];exact⟨_,_,_,rfl,rfl,Vd (by omega) hg,by omega,fun h=>absurd rfl h⟩
end Go.Ft
namespace Go.Ft
open Go
attribute [local congr] fH
theorem parts_eq(s:Str):∃(l:List aY) (a c:Int),lF s=some (l,a,c)∧adh s=some (l,a,c)∧(∀p∈l,Ko p)∧l.length≤10000∧(c≠0→l=[]):=by
 unfold lF adh;rcases aoE 4096 s.length with h|h
 ·rw[aoa (aoo (by omega)),aoa (aoo (by omega))];exact⟨[],0,3,rfl,rfl,by simp,by simp,fun _=>rfl⟩
 ·rw[an9 (by simp;omega),an9 (by simp;omega)];have hB:=iL;exact KG h (s.length+1) 0 BIG BIG [] [] (by omega) (by omega) (by omega) (apm _) (.inl rfl) (by simp) (by simp) (by simp)
end Go.Ft
namespace Go.Ft
open Go
attribute [local congr] fH
def Aw(p:aY)(env:List aB):Str × Int:=
 if p.Z0=false then (p.text,0)
 else if (vZ p.expr env).2≠0 then ([],(vZ p.expr env).2)
 else if (vZ p.expr env).1.kind=4∨(vZ p.expr env).1.kind=5 then ([],9)else (Wj (vZ p.expr env).1,0)
theorem ahu{a:ah}(h:VV a):(Wj a).length≤4096:=by
 have l:=ji h.1;unfold Wj;split
 ·simp
 ·split
  ·omega
  ·split
   ·split<;>simp
   ·have:=Y3 (n:=a.dA) ⟨by omega,by omega⟩;omega
theorem Vk{p:aY}{env:List aB}(hp:Ko p)(hE:(env.map aB.bulk).sum≤1048576):(Aw p env).1.length≤4096:=by
 unfold Aw;cases hi:p.Z0 with
 | false=>rw[aoa rfl];exact(hp.2 hi).2.2
 | true=>
  rw[an9 (by simp)];obtain⟨a,b,g⟩:=Oh (e:=p.expr) (env:=env) (by have:=(hp.1 hi).2.2;omega) hE;split
  ·simp
  ·split
   ·simp
   ·exact ahu (Sl g).1
theorem Rj{p:aY}{env:List aB}(hp:Ko p)(hE:(env.map aB.bulk).sum≤1048576):pF p env=some (Aw p env):=by
 unfold pF Aw;cases hi:p.Z0 with
 | false=>simp only[aoz,aoc]
 | true=>
  rw[an9 (by simp),an9 (by simp)];obtain⟨a,b,g⟩:=Oh (e:=p.expr) (env:=env) (by have:=(hp.1 hi).2.2;omega) hE;rw[a,xF];by_cases h0:(vZ p.expr env).2=0
  ·obtain⟨v,w⟩:=Sl g;rw[an9 (by simp[h0]),an9 (by simp[h0]),(Jt v (by omega)).1]
  ·rw[aoa (by simpa using h0),aoa h0]
theorem Zh{env:List aB}{l:List aY}(hE:(env.map aB.bulk).sum≤1048576)(hg:∀p∈l,Ko p)(hl:l.length≤10000):∀(n i k k':Nat) (out:Str),l.length+1≤n+i→n<k→n<k'→i≤l.length→out.length≤4096*i→
  ∃X:Str × Int,iG env l k (i:Int) out=some X∧J4 env l k' out (i:Int)=some X:=by
 intro n
 induction n with
 | zero=>intro i k k' out h1 h2 h3 h4;omega
 | succ n ih=>
  intro i k k' out h1 h2 h3 h4 h5;obtain⟨k,rfl⟩:∃m,k=m+1:=⟨k-1,by omega⟩;obtain⟨k',rfl⟩:∃m,k'=m+1:=⟨k'-1,by omega⟩;have hL:sI=4294967296:=rfl;rw[iG,J4];by_cases hi:i<l.length
  ·have hp:=hg l[i] (aoq hi);have hlen:=Vk hp hE;rw[aoa (by simpa using hi),aoa (by simpa using hi)];simp only[jL hi,aj];rw[Rj hp hE,xF];have w1:bV ((i:Int)+1)=((i+1:Nat):Int):=kr (by omega)
   have go:∀t:Str,t.length≤4096→∃X:Str × Int,(av (app out t) fun b2=>iG env l k (bV ((i:Int)+1)) b2)=some X∧(av (app out t) fun b2=>J4 env l k' b2 (bV ((i:Int)+1)))=some X:=by
    intro t ht;rw[bg (by omega),aj,aj,w1];exact ih (i+1) k k' (out++t) (by omega) (by omega) (by omega) (by omega) (by simp;omega)
   unfold Aw at hlen⊢;cases hb:l[i].Z0 with
   | false=>
    simp only[hb,aoc]at hlen;simp only[aoc,aoz,FL,an_,aob];exact go _ hlen
   | true=>
    obtain⟨a,b,g⟩:=Oh (e:=l[i].expr) (env:=env) (by have:=(hp.1 hb).2.2;omega) hE;obtain⟨v,w⟩:=Sl g;simp only[hb,apU,aob]at hlen;simp only[apU,aob,aos,an_];rw[b,xF];by_cases h0:(vZ l[i].expr env).2=0
    ·rw[an9 (c:=(vZ l[i].expr env).2≠0) (by simp[h0])]at hlen⊢;rw[an9 (c:=((vZ l[i].expr env).2 !=0)=true) (by simp[h0]),(Jt v (by omega)).2];by_cases h45:(vZ l[i].expr env).1.kind=4∨(vZ l[i].expr env).1.kind=5
     ·rw[aoa h45];exact⟨([],9),rfl,rfl⟩
     ·rw[an9 h45]at hlen⊢;rw[xF];simp only[FL,an_,aob];exact go _ hlen
    ·rw[aoa (c:=(vZ l[i].expr env).2≠0) h0,aoa (c:=((vZ l[i].expr env).2 !=0)=true) (by simpa using h0)];rw[aoa (by simpa using h0)];exact⟨_,rfl,rfl⟩
  ·have e1:decide ((i:Int)<(l.length:Int))=false:=aor (by omega);simp only[e1,an_,aob];split
   ·exact⟨_,rfl,rfl⟩
   ·exact⟨_,rfl,rfl⟩
theorem Vy(s:Str){env:List aB}(hE:(env.map aB.bulk).sum≤1048576):∃X:Str × Int,fU s env=some X∧aay s env=some X:=by
 obtain⟨s1,s2⟩:=Ky hE;obtain⟨v1,v2⟩:=P7 (env:=env) (by omega) (fun d hd=>by have:=s2 d hd;omega);obtain⟨l,a,c,h1,h2,h3,h4,_⟩:=parts_eq s;unfold fU aay;rw[h1,h2,aC,aC,v1,v2];by_cases hc:c=0
 ·subst hc;simp only[FL,an_,aob,aj];by_cases hv:yO env=0
  ·rw[an9 (by simp[hv]),an9 (by simp[hv])];have hB:=iL;exact Zh hE h3 h4 (l.length+1) 0 BIG BIG [] (by omega) (by omega) (by omega) (by omega) (by simp)
  ·rw[aoa (by simpa using hv),aoa (by simpa using hv)];exact⟨_,rfl,rfl⟩
 ·rw[aoa (by simpa using hc),aoa (by simpa using hc)];exact⟨_,rfl,rfl⟩
end Go.Ft
namespace Go.Ft
open Go
attribute [local congr] fH
theorem ahY{s t:Str}(hs:s.length+t.length≤65536):∀(k i a:Nat),gF s k (i:Int)=some (a:Int)→a<s.length→gF (s++t) k (i:Int)=some (a:Int):=by
 intro k
 induction k with
 | zero=>intro i a h;simp[gF]at h
 | succ k ih=>
  intro i a h ha;rw[gF]at h⊢;by_cases hi:i<s.length
  ·have e1:decide ((i:Int)<(s.length:Int))=true:=aoo (by omega);have e2:decide ((i:Int)<((s++t).length:Int))=true:=aoo (by simp;omega);have hi2:i<(s++t).length:=by simp;omega
   simp only[e1,aoc,jL hi,aj]at h;simp only[e2,aoc,jL hi2,aj,apf hi];rw[ajH (by omega),kr (by omega)]at h⊢;split at h
   ·rename_i c;rw[aoa c];exact ih _ a h ha
   ·rename_i c;rw[an9 c];split at h
    ·rename_i c2;rw[aoa c2];exact h
    ·rename_i c2;rw[an9 c2];exact ih _ a h ha
  ·have e1:decide ((i:Int)<(s.length:Int))=false:=aor (by omega);simp only[e1,an_,aob,aoi]at h;omega
theorem agI{s t:Str}(hs:s.length+t.length≤65536):∀(k i:Nat) (o:Int) (j:Nat),dU s k (i:Int) o=some (j:Int)→dU (s++t) k (i:Int) o=some (j:Int):=by
 intro k
 induction k with
 | zero=>intro i o j h;simp[dU]at h
 | succ k ih=>
  intro i o j h;rw[dU]at h⊢;by_cases hi:i<s.length
  ·have e1:decide ((i:Int)<(s.length:Int))=true:=aoo (by omega);have e2:decide ((i:Int)<((s++t).length:Int))=true:=aoo (by simp;omega);have hi2:i<(s++t).length:=by simp;omega
   simp only[e1,aoc,jL hi,aj]at h;simp only[e2,aoc,jL hi2,aj,apf hi];rw[kr (by omega)]at h⊢;split at h
   ·rename_i c;rw[aoa c];have hB:=iL;obtain⟨a,b,q1,q2,q3⟩:=LW (s:=s) (by omega) (s.length+1) (i+1) BIG BIG (by omega) (by omega) (by omega) (by omega);unfold sK at h⊢;rw[kr (by omega)]at h⊢;rw[q1,aj]at h;by_cases hal:a<s.length
    ·rw[ahY hs BIG (i+1) a q1 hal,aj];exact ih _ _ _ h
    ·cases k with
     | zero=>simp[dU]at h
     | succ k=>
      rw[dU]at h;have e1:decide ((a:Int)<(s.length:Int))=false:=aor (by omega);simp only[e1,an_,aob,aoi]at h;omega
   ·rename_i c;rw[an9 c];split at h
    ·rename_i c2;rw[aoa c2];exact ih _ _ _ h
    ·rename_i c2;rw[an9 c2];split at h
     ·rename_i c3;rw[aoa c3];split at h
      ·rename_i c4;rw[aoa c4];exact h
      ·rename_i c4;rw[an9 c4];exact ih _ _ _ h
     ·rename_i c3;rw[an9 c3];exact ih _ _ _ h
  ·have e1:decide ((i:Int)<(s.length:Int))=false:=aor (by omega);simp only[e1,an_,aob,aoi]at h;omega
end Go.Ft
namespace Go.Ft
open Go
attribute [local congr] fH
theorem ab0{s t:Str}(hs:s.length+t.length≤4096)(hd:∀h:0<s.length,s[s.length-1]≠36){i:Nat}(hi:i<s.length)(b:UInt8):strings_HasPrefix ((s++t).drop i) [36,b]=strings_HasPrefix (s.drop i) [36,b]:=by
 have hi2:i<(s++t).length:=by simp;omega
 rw[O7 s i hi (by omega),O7 (s++t) i hi2 (by simp;omega),apf hi];by_cases h1:i+1<s.length
 ·rw[List.getElem?_append_left h1]
 ·have he:i=s.length-1:=by omega
  have hx:(s[i]==36)=false:=by
   subst he;rw[aok];exact hd (by omega)
  rw[hx,aoL,aoL]
theorem adr{s t:Str}(hs:s.length+t.length≤4096)(hd:∀h:0<s.length,s[s.length-1]≠36):∀(k i:Nat) (ps:List aY) (text:Str) (l:List aY) (a:Int),i≤s.length→dw s k (i:Int) ps text=some (l,a,0)→
  ∃(k2:Nat) (ps2:List aY) (r9:Str),dW ps2 r9=some l∧k≤k2+(s.length-i)∧dw (s++t) k (i:Int) ps text=dw (s++t) k2 (s.length:Int) ps2 r9:=by
 intro k
 induction k with
 | zero=>intro i ps text l a _ h;simp[dw]at h
 | succ k ih=>
  intro i ps text l a hil h;by_cases hi:i<s.length
  ·rw[dw]at h;rw[dw];have e1:decide ((i:Int)<(s.length:Int))=true:=aoo (by omega);have e2:decide ((i:Int)<((s++t).length:Int))=true:=aoo (by simp;omega);have hi2:i<(s++t).length:=by simp;omega
   have w1:bV ((i:Int)+1)=((i+1:Nat):Int):=kr (by omega);have w2:bV ((i:Int)+2)=((i+2:Nat):Int):=by rw[bB (by omega) (by omega)];omega
   simp only[e1,aoc,jL hi,aj]at h;simp only[e2,aoc,jL hi2,aj,apf hi];rw[nk (by omega),aj]at h;rw[nk (by omega),aj,ab0 hs hd hi,ab0 hs hd hi];rw[O7 s i hi (by omega),O7 s i hi (by omega),aj,aj,w1,w2]at *
   have step:∀(c:UInt8) (j:Nat),i<j→j≤s.length→(av (app text [c]) fun r9=>dw s k (j:Int) ps r9)=some (l,a,0)→∃(k2:Nat) (ps2:List aY) (r9:Str),dW ps2 r9=some l∧k+1≤k2+(s.length-i)∧(av (app text [c]) fun r9=>dw (s++t) k (j:Int) ps r9)=dw (s++t) k2 (s.length:Int) ps2 r9:=by
    intro c j h1 h2 h3;cases hap:app text [c]with
    | none=>rw[hap]at h3;cases h3
    | some tx=>
     rw[hap,aj]at h3;obtain⟨k2,ps2,r9,q1,q2,q3⟩:=ih j ps tx l a h2 h3;exact⟨k2,ps2,r9,q1,by omega,by rw[aj];exact q3⟩
   split at h
   ·rename_i c;rw[aoa c]
    have hj:i+2≤s.length:=by
     simp only[aoj,aom]at c;obtain⟨x,_⟩:=aoC.1 c.2;omega
    exact step 36 (i+2) (by omega) hj h
   ·rename_i c;rw[an9 c];split at h
    ·rename_i c2;rw[aoa c2]
     have hj:i+2≤s.length:=by
      simp only[aoj,aom]at c2;obtain⟨x,_⟩:=aoC.1 c2.2;omega
     obtain⟨r,q1,_,q3⟩:=SG (s:=s) (by omega) (i:=i+2) (by omega);rw[q1,aj]at h;rcases q3 with q3|⟨j,q3,q4,q5⟩
     ·subst q3;simp at h
     ·subst q3;have d0:decide ((j:Int)<0)=false:=aor (by omega);have hsl:sl s ((i+2:Nat):Int) (j:Int)=some ((s.take j).drop (i+2)):=by rw[bS (by omega) (by omega) (by omega)];rfl
      have hsl2:sl (s++t) ((i+2:Nat):Int) (j:Int)=some ((s.take j).drop (i+2)):=by
       rw[bS (by omega) (by omega) (by simp;omega)];show some _=some _;congr 1;have ej:((j:Int)).toNat=j:=by omega
       have ei:(((i+2:Nat):Int)).toNat=i+2:=by omega
       rw[ej,ei,List.take_append_of_le_length (Nat.le_of_lt q5)]
      have hcl:qN (s++t) ((i+2:Nat):Int)=some (j:Int):=agI (by omega) BIG (i+2) 0 j q1;rw[hcl,aj];simp only[d0,an_,aob,hsl,hsl2,aj]at h⊢;obtain⟨e,n,c0,p1,p2,p3⟩:=Rm ((s.take j).drop (i+2));rw[p1,aC]at h⊢;by_cases hc:c0=0
      ·subst hc;have wj:bV ((j:Int)+1)=((j+1:Nat):Int):=kr (by omega);simp only[FL,an_,aob,wj]at h⊢;cases hf:dW ps text with
       | none=>rw[hf]at h;cases h
       | some p2=>
        rw[hf,aj]at h;rw[aj];cases hap:app p2 [aY.mk ([]:Str) true e]with
        | none=>rw[hap]at h;cases h
        | some p3=>
         rw[hap,aj]at h;rw[aj];obtain⟨k2,ps2,r9,q1,q2,q3⟩:=ih (j+1) p3 [] l a (by omega) h;exact⟨k2,ps2,r9,q1,by omega,q3⟩
      ·simp only[Nt hc,aoc,aoi,aph]at h;exact absurd h.2.2 hc
    ·rename_i c2;rw[an9 c2];exact step s[i] (i+1) (by omega) (by omega) h
  ·have he:i=s.length:=by omega
   subst he;rw[dw]at h;have e1:decide ((s.length:Int)<(s.length:Int))=false:=aor (by omega);simp only[e1,an_,aob]at h;cases hf:dW ps text with
   | none=>rw[hf]at h;cases h
   | some p2=>
    rw[hf,aj]at h;simp only[aoi,aph]at h;exact⟨k+1,ps,text,by rw[hf,h.1],by omega,rfl⟩
end Go.Ft
namespace Go.Ft
open Go
attribute [local congr] fH
theorem adl{s t:Str}(hs:s.length+t.length≤65536):∀(k i a:Nat),i≤t.length+1→gF t k (i:Int)=some (a:Int)→gF (s++t) k ((s.length+i:Nat):Int)=some ((s.length+a:Nat):Int):=by
 intro k
 induction k with
 | zero=>intro i a _ h;simp[gF]at h
 | succ k ih=>
  intro i a hil h;rw[gF]at h⊢;by_cases hi:i<t.length
  ·have e1:decide ((i:Int)<(t.length:Int))=true:=aoo (by omega);have hi2:s.length+i<(s++t).length:=by simp;omega
   have e2:decide (((s.length+i:Nat):Int)<((s++t).length:Int))=true:=aoo (by omega);have eg:(s++t)[s.length+i]=t[i]:=by rw[apt (by omega)];congr 1;omega
   simp only[e1,aoc,jL hi,aj]at h;simp only[e2,aoc,jL hi2,aj,eg];rw[ajH (by omega),kr (by omega)]at h⊢;split at h
   ·rename_i c;rw[aoa c];exact ih (i+2) a (by omega) h
   ·rename_i c;rw[an9 c];split at h
    ·rename_i c2;rw[aoa c2];simp only[aoi]at h⊢;omega
    ·rename_i c2;rw[an9 c2];exact ih (i+1) a (by omega) h
  ·have e1:decide ((i:Int)<(t.length:Int))=false:=aor (by omega);have e2:decide (((s.length+i:Nat):Int)<((s++t).length:Int))=false:=aor (by simp;omega);simp only[e1,e2,an_,aob,aoi]at h⊢;simp;omega
theorem abj{s t:Str}(hs:s.length+t.length≤65536):∀(k i:Nat) (o r:Int),i≤t.length→dU t k (i:Int) o=some r→dU (s++t) k ((s.length+i:Nat):Int) o=some (if r<0 then -1 else (s.length:Int)+r):=by
 intro k
 induction k with
 | zero=>intro i o r _ h;simp[dU]at h
 | succ k ih=>
  intro i o r hil h;rw[dU]at h⊢;by_cases hi:i<t.length
  ·have e1:decide ((i:Int)<(t.length:Int))=true:=aoo (by omega);have hi2:s.length+i<(s++t).length:=by simp;omega
   have e2:decide (((s.length+i:Nat):Int)<((s++t).length:Int))=true:=aoo (by omega);have eg:(s++t)[s.length+i]=t[i]:=by rw[apt (by omega)];congr 1;omega
   simp only[e1,aoc,jL hi,aj]at h;simp only[e2,aoc,jL hi2,aj,eg];rw[kr (by omega)]at h⊢;split at h
   ·rename_i c;rw[aoa c];have hB:=iL;obtain⟨a,b,q1,q2,q3⟩:=LW (s:=t) (by omega) (t.length+1) (i+1) BIG BIG (by omega) (by omega) (by omega) (by omega);unfold sK at h⊢;rw[kr (by omega)]at h⊢;rw[q1,aj]at h;have:=adl hs BIG (i+1) a (by omega) q1;rw[show s.length+i+1=s.length+(i+1) by omega,this,aj];exact ih _ _ _ (by omega) h
   ·rename_i c;rw[an9 c];split at h
    ·rename_i c2;rw[aoa c2];exact ih (i+1) _ _ (by omega) h
    ·rename_i c2;rw[an9 c2];split at h
     ·rename_i c3;rw[aoa c3];split at h
      ·rename_i c4;rw[aoa c4];simp only[aoi]at h⊢;subst h;rw[an9 (by omega)];omega
      ·rename_i c4;rw[an9 c4];exact ih (i+1) _ _ (by omega) h
     ·rename_i c3;rw[an9 c3];exact ih (i+1) _ _ (by omega) h
  ·have e1:decide ((i:Int)<(t.length:Int))=false:=aor (by omega);have e2:decide (((s.length+i:Nat):Int)<((s++t).length:Int))=false:=aor (by simp;omega);simp only[e1,e2,an_,aob,aoi]at h⊢;subst h;rfl
end Go.Ft
namespace Go.Ft
open Go
attribute [local congr] fH
def okL(env:List aB)(l:List aY):Prop:=∀p∈l,(Aw p env).2=0
def Dh(env:List aB)(l:List aY):Str:=(l.map fun p=>(Aw p env).1).flatten
theorem JO(env:List aB)(ps:List aY)(t:Str):Dh env (Bc ps t)=Dh env ps++t:=by
 unfold Bc;split
 ·rename_i h;subst h;simp
 ·simp[Dh,Aw,TV]
theorem Rt(env:List aB)(ps:List aY)(t:Str):okL env (Bc ps t)↔okL env ps:=by
 unfold Bc;split
 ·exact Iff.rfl
 ·simp[okL,Aw,TV,or_imp,forall_and]
theorem zx{ps r:List aY}{t:Str}(h:dW ps t=some r):r=Bc ps t:=by
 unfold dW at h;unfold Bc;cases t with
 | nil=>exact(apl h).symm
 | cons c d=>
  rw[aoa (aoo (by simp only[aog];omega))]at h;rw[an9 (by simp)];cases hap:app ps [aY.mk (c::d) false zeroE]with
  | none=>exact absurd h (by intro h;exact absurd (h.symm.trans hap) (by simp))
  | some x=>exact(apl (h.symm.trans hap)).trans (qW hap).2
theorem YJ{s t pre:Str}{env:List aB}(hs:s.length+t.length≤4096):∀(k i k':Nat) (ps psx:List aY) (text Lu:Str) (l1 l2:List aY) (a a2 c2:Int),i≤t.length→dw t k (i:Int) ps text=some (l1,a,0)→dw (s++t) k' ((s.length+i:Nat):Int) psx Lu=some (l2,a2,c2)→(okL env ps→okL env psx)→Dh env psx++Lu=pre++(Dh env ps++text)→
  c2=0∧(okL env l1→okL env l2)∧Dh env l2=pre++Dh env l1:=by
 intro k
 induction k with
 | zero=>intro i k' ps psx text Lu l1 l2 a a2 c2 _ h;simp[dw]at h
 | succ k ih=>
  intro i k' ps psx text Lu l1 l2 a a2 c2 hil h hx hok akL;cases k' with
  | zero=>simp[dw]at hx
  | succ k'=>
  rw[dw]at h hx;by_cases hi:i<t.length
  ·have e1:decide ((i:Int)<(t.length:Int))=true:=aoo (by omega);have hi2:s.length+i<(s++t).length:=by simp;omega
   have e2:decide (((s.length+i:Nat):Int)<((s++t).length:Int))=true:=aoo (by omega);have eg:(s++t)[s.length+i]=t[i]:=by rw[apt (by omega)];congr 1;omega
   have ed:(s++t).drop (s.length+i)=t.drop i:=by rw[List.drop_append];simp
   have w1:bV ((i:Int)+1)=((i+1:Nat):Int):=kr (by omega);have w2:bV ((i:Int)+2)=((i+2:Nat):Int):=by rw[bB (by omega) (by omega)];omega
   have v1:bV (((s.length+i:Nat):Int)+1)=((s.length+(i+1):Nat):Int):=by rw[kr (by omega)];rfl
   have v2:bV (((s.length+i:Nat):Int)+2)=((s.length+(i+2):Nat):Int):=by rw[bB (by omega) (by omega)];omega
   simp only[e1,aoc,jL hi,aj]at h;simp only[e2,aoc,jL hi2,aj,eg]at hx;rw[nk (by omega),aj,O7 t i hi (by omega),O7 t i hi (by omega),aj,aj,w1,w2]at h;rw[nk (by omega),aj,ed,O7 t i hi (by omega),O7 t i hi (by omega),aj,aj,v1,v2]at hx
   have step:∀(c:UInt8) (j:Nat),j≤t.length→(av (app text [c]) fun r9=>dw t k (j:Int) ps r9)=some (l1,a,0)→(av (app Lu [c]) fun r9=>dw (s++t) k' ((s.length+j:Nat):Int) psx r9)=some (l2,a2,c2)→c2=0∧(okL env l1→okL env l2)∧Dh env l2=pre++Dh env l1:=by
    intro c j h1 h2 h3;cases hap:app text [c]with
    | none=>rw[hap]at h2;cases h2
    | some tx=>
     cases aa5:app Lu [c]with
     | none=>rw[aa5]at h3;cases h3
     | some tx2=>
      rw[hap,aj]at h2;rw[aa5,aj]at h3;have x1:=(qW hap).2;have x2:=(qW aa5).2;exact ih j k' ps psx tx tx2 l1 l2 a a2 c2 h1 h2 h3 hok (by rw[x1,x2,←apb,akL];simp)
   split at h
   ·rename_i c;rw[aoa c]at hx
    have hj:i+2≤t.length:=by
     simp only[aoj,aom]at c;obtain⟨x,_⟩:=aoC.1 c.2;omega
    exact step 36 (i+2) hj h hx
   ·rename_i c;rw[an9 c]at hx;split at h
    ·rename_i c2;rw[aoa c2]at hx
     have hj:i+2≤t.length:=by
      simp only[aoj,aom]at c2;obtain⟨x,_⟩:=aoC.1 c2.2;omega
     obtain⟨r,q1,_,q3⟩:=SG (s:=t) (by omega) (i:=i+2) (by omega);rw[q1,aj]at h;have hcl:qN (s++t) ((s.length+(i+2):Nat):Int)=some (if r<0 then -1 else (s.length:Int)+r):=abj (by omega) BIG (i+2) 0 r hj q1;rw[hcl,aj]at hx;rcases q3 with q3|⟨j,q3,q4,q5⟩
     ·subst q3;simp at h
     ·subst q3;have d0:decide ((j:Int)<0)=false:=aor (by omega);have r0:(if (j:Int)<0 then (-1:Int)else (s.length:Int)+j)=((s.length+j:Nat):Int):=by rw[an9 (by omega)];omega
      have d1:decide (((s.length+j:Nat):Int)<0)=false:=aor (by omega);have hsl:sl t ((i+2:Nat):Int) (j:Int)=some ((t.take j).drop (i+2)):=by rw[bS (by omega) (by omega) (by omega)];rfl
      have hsl2:sl (s++t) ((s.length+(i+2):Nat):Int) ((s.length+j:Nat):Int)=some ((t.take j).drop (i+2)):=by
       rw[bS (by omega) (by omega) (by simp;omega)];show some _=some _;congr 1;have ej:(((s.length+j:Nat):Int)).toNat=s.length+j:=by omega
       have ei:(((s.length+(i+2):Nat):Int)).toNat=s.length+(i+2):=by omega
       rw[ej,ei,List.take_append,List.drop_append];simp
      have wj:bV ((j:Int)+1)=((j+1:Nat):Int):=kr (by omega);have vj:bV (((s.length+j:Nat):Int)+1)=((s.length+(j+1):Nat):Int):=by rw[kr (by omega)];rfl
      rw[r0]at hx;simp only[d0,an_,aob,hsl,aj]at h;simp only[d1,an_,aob,hsl2,aj]at hx;obtain⟨e,n,c0,p1,p2,p3⟩:=Rm ((t.take j).drop (i+2));rw[p1,aC]at h hx;by_cases hc:c0=0
      ·subst hc;simp only[FL,an_,aob,wj]at h;simp only[FL,an_,aob,vj]at hx;cases hf:dW ps text with
       | none=>rw[hf]at h;cases h
       | some f1=>
        cases hf2:dW psx Lu with
        | none=>rw[hf2]at hx;cases hx
        | some f2=>
         rw[hf,aj]at h;rw[hf2,aj]at hx;cases hap:app f1 [aY.mk ([]:Str) true e]with
         | none=>rw[hap]at h;cases h
         | some g1=>
          cases aa5:app f2 [aY.mk ([]:Str) true e]with
          | none=>rw[aa5]at hx;cases hx
          | some g2=>
           rw[hap,aj]at h;rw[aa5,aj]at hx;have x1:=(qW hap).2;have x2:=(qW aa5).2;have y1:=zx hf;have y2:=zx hf2;refine ih (j+1) k' g1 g2 [] [] l1 l2 a a2 _ (by omega) h hx ?_ ?_
           ·rw[x1,x2,y1,y2];intro hh p hp;rcases ao2.1 hp with hp|hp
            ·exact(Rt env psx Lu).2 (hok ((Rt env ps text).1 fun q hq=>hh q (List.mem_append_left _ hq))) p hp
            ·exact hh p (List.mem_append_right _ hp)
           ·have ca:∀A B:List aY,Dh env (A++B)=Dh env A++Dh env B:=fun A B=>by simp[Dh]
            rw[x1,x2,ca,ca,y1,y2,JO,JO,akL];simp
      ·simp only[Nt hc,aoc,aoi,aph]at h;exact absurd h.2.2 hc
    ·rename_i c2;rw[an9 c2]at hx;exact step t[i] (i+1) (by omega) h hx
  ·have e1:decide ((i:Int)<(t.length:Int))=false:=aor (by omega);have e2:decide (((s.length+i:Nat):Int)<((s++t).length:Int))=false:=aor (by simp;omega);simp only[e1,an_,aob]at h;simp only[e2,an_,aob]at hx;cases hf:dW ps text with
   | none=>rw[hf]at h;cases h
   | some p2=>
    cases hf2:dW psx Lu with
    | none=>rw[hf2]at hx;cases hx
    | some p3=>
     rw[hf,aj]at h;rw[hf2,aj]at hx;simp only[aoi,aph]at h hx;have y1:=zx hf;have y2:=zx hf2;refine⟨hx.2.2.symm,?_,?_⟩
     ·rw[←h.1,←hx.1,y1,y2,Rt,Rt];exact hok
     ·rw[←h.1,←hx.1,y1,y2,JO,JO];exact akL
end Go.Ft
namespace Go.Ft
open Go
attribute [local congr] fH
theorem Sm{env:List aB}{l:List aY}(hE:(env.map aB.bulk).sum≤1048576)(hg:∀p∈l,Ko p)(hl:l.length≤10000):∀(n i k:Nat) (out:Str),l.length+1≤n+i→n<k→i≤l.length→out.length≤4096*i→
  ∃X:Str × Int,iG env l k (i:Int) out=some X∧(X.2=0→okL env (l.drop i)∧X.1=out++Dh env (l.drop i))∧(okL env (l.drop i)→(out++Dh env (l.drop i)).length≤4096→X=(out++Dh env (l.drop i),0)):=by
 intro n
 induction n with
 | zero=>intro i k out h1 h2 h4;omega
 | succ n ih=>
  intro i k out h1 h2 h4 h5;obtain⟨k,rfl⟩:∃m,k=m+1:=⟨k-1,by omega⟩;have hL:sI=4294967296:=rfl;rw[iG];by_cases hi:i<l.length
  ·have hp:=hg l[i] (aoq hi);have hlen:=Vk hp hE;rw[aoa (by simpa using hi)];simp only[jL hi,aj];rw[Rj hp hE,xF];have w1:bV ((i:Int)+1)=((i+1:Nat):Int):=kr (by omega);rw[aoe hi];have ec:Dh env (l[i]::l.drop (i+1))=(Aw l[i] env).1++Dh env (l.drop (i+1)):=by unfold Dh;rw[aot,List.flatten_cons]
   by_cases h0:(Aw l[i] env).2=0
   ·rw[an9 (by simp[h0]),bg (by omega),aj,w1];obtain⟨X,q1,q2,q3⟩:=ih (i+1) k (out++(Aw l[i] env).1) (by omega) (by omega) (by omega) (by simp;omega);refine⟨X,q1,fun hX=>?_,fun hok hlt=>?_⟩
    ·obtain⟨u1,u2⟩:=q2 hX;refine⟨fun p hp=>?_,by rw[u2,ec];simp⟩;rcases aoB.1 hp with hp|hp
     ·rw[hp];exact h0
     ·exact u1 p hp
    ·rw[ec]at hlt⊢;rw[q3 (fun p hp=>hok p (apI _ hp)) (by rw[apb];exact hlt),apb]
   ·rw[aoa (by simpa using h0)];exact⟨_,rfl,fun hX=>absurd hX h0,fun hok _=>absurd (hok _ (apV ..)) h0⟩
  ·have e1:decide ((i:Int)<(l.length:Int))=false:=aor (by omega);simp only[e1,an_,aob];have ed:l.drop i=[]:=apB (by omega);rw[ed];have ec:Dh env ([]:List aY)=[]:=rfl;rw[ec,List.append_nil];split
   ·rename_i h;exact⟨_,rfl,fun hX=>absurd hX (by decide),fun _ hlt=>absurd (of_decide_eq_true h) (by omega)⟩
   ·exact⟨_,rfl,fun _=>⟨fun p hp=>(by cases hp),rfl⟩,fun _ _=>rfl⟩
end Go.Ft
namespace Go.Ft
open Go
attribute [local congr] fH
theorem Ef{s a:Str}{env:List aB}(hE:(env.map aB.bulk).sum≤1048576)(h:fU s env=some (a,0)):∃(l:List aY) (x:Int),lF s=some (l,x,0)∧CZ env=some 0∧okL env l∧a=Dh env l:=by
 obtain⟨s1,s2⟩:=Ky hE;obtain⟨v1,v2⟩:=P7 (env:=env) (by omega) (fun d hd=>by have:=s2 d hd;omega);obtain⟨l,x,c,h1,h2,h3,h4,_⟩:=parts_eq s;unfold fU at h;rw[h1,aC,v1]at h;by_cases hc:c=0
 ·subst hc;simp only[FL,an_,aob,aj]at h;by_cases hv:yO env=0
  ·rw[an9 (by simp[hv])]at h;have hB:=iL;obtain⟨X,q1,q2,q3⟩:=Sm hE h3 h4 (l.length+1) 0 BIG [] (by omega) (by omega) (by omega) (by simp);rw[show ((0:Nat):Int)=0 from rfl]at q1;rw[q1]at h;have hX:X=(a,0):=apl h;subst hX;obtain⟨u1,u2⟩:=q2 rfl;exact⟨l,x,h1,by rw[v1,hv],by simpa using u1,by simpa using u2⟩
  ·rw[aoa (by simpa using hv)]at h;simp only[aoi,aph]at h;exact absurd h.2 hv
 ·rw[aoa (by simpa using hc)]at h;simp only[aoi,aph]at h;exact absurd h.2 hc
theorem abz{s t a b:Str}{env:List aB}(hE:(env.map aB.bulk).sum≤1048576)(hs:s.length+t.length≤4096)(hd:∀h:0<s.length,s[s.length-1]≠36)(ha:fU s env=some (a,0))(hb:fU t env=some (b,0))(hab:a.length+b.length≤4096):fU (s++t) env=some (a++b,0):=by
 obtain⟨l,x,p1,p2,p3,p4⟩:=Ef hE ha;obtain⟨m,y,r1,r2,r3,r4⟩:=Ef hE hb;obtain⟨w,z,c,h1,h2,h3,h4,_⟩:=parts_eq (s++t);have g:=h1;unfold lF at p1 r1 g;rw[an9 (by simp;omega)]at p1 r1 g;obtain⟨k2,ps2,r9,q1,q2,q3⟩:=adr hs hd BIG 0 [] [] l x (apm _) p1;rw[show ((0:Nat):Int)=0 from rfl]at q3;rw[q3]at g;have e:=zx q1;obtain⟨d1,d2,d3⟩:=YJ (pre:=a) (env:=env) hs BIG 0 k2 [] ps2 [] r9 m w y z c (apm _) r1 g (fun _=>by rw[e,Rt]at p3;exact p3) (by rw[p4,e,JO];simp[Dh]);subst d1;unfold fU;rw[h1,aC,p2];simp only[FL,an_,aob,aj];have hB:=iL;obtain⟨X,u1,u2,u3⟩:=Sm hE h3 h4 (w.length+1) 0 BIG [] (by omega) (by omega) (by omega) (by simp);rw[show ((0:Nat):Int)=0 from rfl]at u1;rw[u1,u3 (by simpa using d2 r3) (by simp[d3,←r4];omega)];simp[d3,←r4]
end Go.Ft
namespace Go.Ft
open Go
attribute [local congr] fH
theorem YH{s:Str}(hs:s.length≤4096)(hn:∀c∈s,c≠36):∀(k i:Nat) (text:Str) (l:List aY) (a:Int),i≤s.length→dw s k (i:Int) [] text=some (l,a,0)→l=Bc [] (text++s.drop i):=by
 intro k
 induction k with
 | zero=>intro i text l a _ h;simp[dw]at h
 | succ k ih=>
  intro i text l a hil h;rw[dw]at h;by_cases hi:i<s.length
  ·have e1:decide ((i:Int)<(s.length:Int))=true:=aoo (by omega);have w1:bV ((i:Int)+1)=((i+1:Nat):Int):=kr (by omega);have hc:(s[i]==36)=false:=by rw[aok];exact hn _ (aoq hi)
   simp only[e1,aoc,jL hi,aj]at h;rw[nk (by omega),aj,O7 s i hi (by omega),O7 s i hi (by omega),aj,aj,hc,w1]at h;simp only[aoL,an_,aob]at h;cases hap:app text [s[i]]with
   | none=>rw[hap]at h;cases h
   | some tx=>
    rw[hap,aj]at h;rw[ih (i+1) tx l a (by omega) h,(qW hap).2,aoe hi];simp
  ·have e1:decide ((i:Int)<(s.length:Int))=false:=aor (by omega);simp only[e1,an_,aob]at h;cases hf:dW [] text with
   | none=>rw[hf]at h;cases h
   | some p2=>
    rw[hf,aj]at h;simp only[aoi,aph]at h;rw[←h.1,zx hf,apB (by omega),List.append_nil]
theorem WM{s a:Str}{env:List aB}(hE:(env.map aB.bulk).sum≤1048576)(hs:s.length≤4096)(hn:∀c∈s,c≠36)(h:fU s env=some (a,0)):a=s:=by
 obtain⟨l,x,p1,p2,p3,p4⟩:=Ef hE h;unfold lF at p1;rw[an9 (by simp;omega)]at p1;rw[p4,YH hs hn BIG 0 [] l x (apm _) p1,JO];simp[Dh]
end Go.Ft
namespace Go.Ft
open Go
attribute [local congr] fH
theorem aaW{s t a b:Str}{env:List aB}(hs:s.length+t.length≤4096)(hab:a.length+b.length≤4096)(hA:fU (s++t) env=some (a++b,0))(hN:(∀c∈s,c≠36)→a=s):∀(n i k:Nat) (d:Int),s.length+1≤n+i→n<k→i≤s.length→0≤d→d≤i→(d=0→∀c∈s.take i,c≠36)→jU s t env a b k d (i:Int)=some true:=by
 intro n
 induction n with
 | zero=>intro i k d h1 h2 h3;omega
 | succ n ih=>
  intro i k d h1 h2 h3 h4 h5 h6;obtain⟨k,rfl⟩:∃m,k=m+1:=⟨k-1,by omega⟩;have hL:sI=4294967296:=rfl;rw[jU];by_cases hi:i<s.length
  ·have e1:decide ((i:Int)<(s.length:Int))=true:=aoo (by omega);have w1:bV ((i:Int)+1)=((i+1:Nat):Int):=kr (by omega);have wd:bV (d+1)=d+1:=bB (by omega) (by omega);simp only[e1,aoc,jL hi,aj,w1,wd];split
   ·exact ih (i+1) k (d+1) (by omega) (by omega) (by omega) (by omega) (by omega) (fun h=>by omega)
   ·rename_i c;refine ih (i+1) k d (by omega) (by omega) (by omega) h4 (by omega) (fun h=>?_);intro x hx;rw[apG hi]at hx;rcases ao2.1 hx with hx|hx
    ·exact h6 h x hx
    ·rw[ao0.1 hx];intro Sd;rw[Sd]at c;exact c rfl
  ·have e1:decide ((i:Int)<(s.length:Int))=false:=aor (by omega);simp only[e1,an_,aob]
   have hc:((d==0)&&(!(a==s)))=false:=by
    by_cases hd:d=0
    ·have:=hN (by have:=h6 hd;rwa [List.take_of_length_le (by omega)]at this);simp[this]
    ·simp[hd]
   rw[an9 (by rw[hc];simp),bg (by omega),aj,hA,aA,aoa (by decide),bg (by omega),aj,aj,aoa (by simp)];exact P_
end Go.Ft
namespace Go.Ft
open Go
attribute [local congr] fH
theorem afV{env:List aB}{l:List aY}:∀(k:Nat) (i:Int) (out:Str) (X:Str × Int),iG env l k i out=some X→X.1.length≤4096∨X.2≠0:=by
 intro k
 induction k with
 | zero=>intro i out X h;simp[iG]at h
 | succ k ih=>
  intro i out X h;rw[iG]at h;split at h
  ·cases h1:idx l i with
   | none=>rw[h1]at h;cases h
   | some p=>
    rw[h1,aj]at h;cases h2:pF p env with
    | none=>rw[h2]at h;cases h
    | some q=>
     rw[h2,xF]at h;split at h
     ·rename_i c;have:=apl h;subst this;exact .inl (by simp)
     ·cases h3:app out q.1 with
      | none=>rw[h3]at h;cases h
      | some o=>
       rw[h3,aj]at h;exact ih _ _ _ h
  ·split at h
   ·have:=apl h;subst this;exact .inl (by simp)
   ·rename_i c;have:=apl h;subst this;simp only[aod]at c;exact .inl (by show out.length≤4096;omega)
theorem TJ{s a:Str}{env:List aB}(hE:(env.map aB.bulk).sum≤1048576)(h:fU s env=some (a,0)):a.length≤4096:=by
 obtain⟨l,x,p1,p2,p3,p4⟩:=Ef hE h;unfold fU at h;rw[p1,aC,p2]at h;simp only[FL,an_,aob,aj]at h;rcases afV _ _ _ _ h with q|q
 ·exact q
 ·exact absurd rfl q
theorem Pb(s1 t1:Str)(gu:List aB)(h:(s1.length+1)+((t1.length+1)+((List.map (fun z:aB=>(aB.bulk z)) gu).sum+1))≤1048576):wF s1 t1 gu=some true:=by
 have hE:(gu.map aB.bulk).sum≤1048576:=by
  have h':(List.map (fun z:aB=>(aB.bulk z)) gu).sum≤1048576:=by omega
  exact h'
 unfold wF;have w1:bV ((s1.length:Int)+(t1.length:Int))=(s1.length:Int)+t1.length:=bB (by omega) (by omega);rw[w1]
 have tail (hs:s1.length+t1.length≤4096) (hd:∀h:0<s1.length,s1[s1.length-1]≠36):(fI (fU s1 gu) fun a1 e1=>fI (fU t1 gu) fun b3 f1=>if ((e1 !=0)||(f1 !=0))||(decide (4096<(bV ((a1.length:Int)+(b3.length:Int)))))then zu else jU s1 t1 gu a1 b3 BIG 0 0)=some true:=by
  obtain⟨⟨a,e⟩,p1,_⟩:=Vy s1 hE;obtain⟨⟨b,f⟩,p2,_⟩:=Vy t1 hE;rw[p1,p2,xF,xF];split
  ·exact P_
  ·rename_i c;simp only[aov,aoA,apd,aod,not_or,apA]at c;obtain⟨⟨c1,c2⟩,c3⟩:=c;dsimp only at c1 c2 c3⊢;subst c1;subst c2;have la:=TJ hE p1;have lb:=TJ hE p2;rw[bB (by omega) (by omega)]at c3;have hB:=iL;exact aaW hs (by omega) (abz hE hs hd p1 p2 (by omega)) (fun hn=>WM hE (by omega) hn p1) (s1.length+1) 0 BIG 0 (by omega) (by omega) (by omega) (by omega) (by omega) (fun _ c hc=>by simp at hc)
 by_cases hg:((decide (4096<(s1.length:Int)+t1.length))||(decide (300<(gu.length:Int))))=true
 ·rw[aoa hg,aj,aoa rfl];exact P_
 ·rw[an9 hg];simp only[aov,aod,not_or]at hg;by_cases h0:s1=[]
  ·subst h0;rw[an9 (by simp),aj,an9 (by simp)];exact tail (by omega) (fun h=>by simp at h)
  ·have hp:0<s1.length:=aoH.2 h0;have wm:bV ((s1.length:Int)-1)=((s1.length-1:Nat):Int):=by rw[bB (by omega) (by omega)];omega
   rw[aoa (by simpa using h0),wm,jL (by omega),aj,aj];split
   ·exact P_
   ·rename_i c;exact tail (by omega) (fun _ Sd=>c (by rw[Sd];rfl))
end Go.Ft
