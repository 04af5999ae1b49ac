/- Proved here: plain facts on the functional texts. -/
import Derived.Test.YtchmdnpcppkdpaaGreatDoorPdPlain2
import Derived.KernelRfl
set_option linter.unusedVariables false
set_option linter.unusedSimpArgs false
set_option linter.defProp false
set_option linter.unusedSectionVars false
set_option maxHeartbeats 2000000
namespace Go.Ft
open Go
attribute [local congr] fD
theorem abO{s:Str}(hs:s.length≤2147483648){i:Nat}(h:i<s.length):Mh s (i:Int)=some (rtk (nK (s.drop i))):=by
 have hh:(s.drop i)=s.getD i 0::s.drop (i+1):=getD_drop h;unfold Mh;simp (disch:=omega) only[dflt,DZ,aW,bg,aj,anZ,aoi,an1];cases hd:isDigit (s.getD i 0)with
 | true=>rw[anN rfl,Y2 hs h hd]
 | false=>
  rw[anG (by simp)];by_cases Vl:(s.getD i 0).toNat=34
  ·simp (disch:=omega) only[ad6 hs h,aW,bG,anN,aj,aoy,an1];rw[hh];simp only[nK,hd,Vl,anW,anX,anL,abP,rtk];split<;>simp_all
  ·have hwl:=AL isWord (s.drop i);rw[qw]at hwl;simp (disch:=omega) only[aad (s:=s) (by omega) (Nat.le_of_lt h),bG,anG,aj,aoy,an1]
   have hsl:∀n,i+n≤s.length→sl s (i:Int) (bq ((i:Int)+(n:Int)))=some ((s.drop i).take n):=by
    intro n hn;simp (disch:=omega) only[aW,bG,aoy,an1];rw[wO]
   cases hl:nW (s.getD i 0)with
   | true=>
    have hpos:0<span isWord (s.drop i):=by rw[hh,kH,isWord,hl];simp
    have hsn:=hsl _ (show i+span isWord (s.drop i)≤s.length from by omega)
    have ht:nK (s.drop i)=if 64<span isWord (s.drop i)then (0,[],0,3)else (1,(s.drop i).take (span isWord (s.drop i)),span isWord (s.drop i),0):=by
     rw[hh];simp only[nK,hd,hl,Vl,anW,anX,anL]
    rw[ht];generalize span isWord (s.drop i)=n at *;by_cases h64:64<n
    ·simp (disch:=omega) only[aW,bG,anN,aj,aoy,an1];rfl
    ·simp (disch:=omega) only[aW,bG,anN,anG,aj,aoy,an1];rw[wO];rfl
   | false=>
    have h0:span isWord (s.drop i)=0:=by rw[hh,LZ,isWord,hl,hd];rfl
    have hol:opn (s.drop i)≤(s.drop i).length:=by
     rw[hh];cases s.drop (i+1)with
     | nil=>simp only[opn];split<;>simp
     | cons b r=>simp only[opn];(repeat' split)<;>simp
    rw[qw]at hol;have hsn:=hsl _ (show i+opn (s.drop i)≤s.length from by omega)
    have ht:nK (s.drop i)=if opn (s.drop i)=0 then (0,[],0,5)else (4,(s.drop i).take (opn (s.drop i)),opn (s.drop i),0):=by
     rw[hh];simp only[nK,hd,hl,Vl,anW,anL]
    rw[ht,h0];simp (disch:=omega) only[ajD hs h,aW,bG,anN,anG,aj,aoy,an1,apy];generalize opn (s.drop i)=n at *;by_cases ho:n=0
    ·simp (disch:=omega) only[anN];rfl
    ·simp (disch:=omega) only[anG];rw[wO];rfl
end Go.Ft
namespace Go.Ft
open Go
attribute [local congr] fD
theorem ae4(s:Str)(i:Nat):(ByteArray.mk s.toArray).get! i=s.getD i 0:=by
 unfold ByteArray.get!;simp[getElem!_def];rfl
theorem size_mk'(s:Str):(ByteArray.mk s.toArray).size=s.length:=by simp[ByteArray.size]
theorem dec_lt{s:Str}{p:Nat}(hc:(s.getD p 0).toNat<128):dec s p=((s.getD p 0).toNat,1):=by
 unfold dec Utf8.decode;simp only[ae4,apy];rw[anN hc]
theorem ZB{s:Str}{p:Nat}(h:p<s.length)(hc:128≤(s.getD p 0).toNat):
  128≤(dec s p).1∧1≤(dec s p).2∧p+(dec s p).2≤s.length∧∀j,1≤j→j<(dec s p).2→128≤(s.getD (p+j) 0).toNat:=by
 unfold dec Utf8.decode;simp only[ae4,apy,size_mk',Utf8.runeError];rw[anG (by omega)]
 repeat' split
 all_goals (rename_i h1;simp only[an_,anZ,aoi]at *)
 all_goals refine⟨by (try simp only);omega,by (try simp only);omega,by (try simp only);omega,fun j h2 h3=>?_⟩
 all_goals (try simp only at h3)
 all_goals try (exfalso;omega)
 all_goals
  rcases aoD j 2 with g1|g1
  ·have e:j=1:=Nat.le_antisymm (Nat.le_of_lt_succ g1) h2;subst e;omega
  ·rcases aoD j 3 with g2|g2
   ·have e:j=2:=Nat.le_antisymm (Nat.le_of_lt_succ g2) g1;subst e;omega
   ·have e:j=3∨4≤j:=by omega
    rcases e with e|e
    ·subst e;omega
    ·omega
def Bd(s:Str)(n:Nat):Prop:=n=s.length∨(s.getD n 0).toNat<128∨(0<n∧(s.getD (n-1) 0).toNat<128)
theorem afg{s:Str}{p n:Nat}(h:p<n)(hn:n≤s.length)(hb:Bd s n):p+(dec s p).2≤n:=by
 rcases aoD (s.getD p 0).toNat 128 with hc|hc
 ·rw[dec_lt hc];omega
 ·obtain⟨_,h1,h2,h3⟩:=ZB (by omega:p<s.length) hc;rcases aoD n (p+(dec s p).2)with hlt|hge
  ·exfalso;have a1:=h3 (n-p) (by omega) (by omega);rw[show p+(n-p)=n from by omega]at a1;rcases hb with hb|hb|⟨hb0,hb⟩
   ·omega
   ·omega
   ·by_cases e:n-1=p
    ·rw[e]at hb;omega
    ·have a2:=h3 (n-1-p) (by omega) (by omega);rw[show p+(n-1-p)=n-1 from by omega]at a2;omega
  ·exact hge
def rY(c:UInt8):Bool:=(c.toNat:Int) !=10
@[simp] theorem al2(c:UInt8):qh c=some (rY c):=rfl
@[simp] theorem Ya(r:Int):xU r=some ((r==32)||(r==9)):=rfl
def opb(t:Str)(o:Nat):Nat:=if t=[40]∨t=[91]then o+1 else if t=[41]∨t=[93]then o-1 else o
theorem X8(t:Str)(o:Nat)(h:o<4611686018427387904):tF t (o:Int)=some ((opb t o:Nat):Int):=by
 unfold tF opb;by_cases h1:t=[40]
 ·subst h1;simp (disch:=omega) only[aW,aoi,anX];simp
 ·by_cases h2:t=[91]
  ·subst h2;simp (disch:=omega) only[aW,anG,aoi,anX];simp
  ·by_cases h3:t=[41]
   ·subst h3;simp (disch:=omega) only[aW,anG,aoi,anX];by_cases h4:1<o
    ·rw[anN (by omega)];simp;omega
    ·rw[anG (by omega)];simp;omega
   ·by_cases h4:t=[93]
    ·subst h4;simp (disch:=omega) only[aW,anG,aoi,anX];by_cases h4:1<o
     ·rw[anN (by omega)];simp;omega
     ·rw[anG (by omega)];simp;omega
    ·simp[h1,h2,h3,h4]
theorem TM(k:ay)(o:Nat)(h:o<4611686018427387904):wC (o:Int) k=some (((if k.kind=4 then opb k.text o else o:Nat)):Int):=by
 unfold wC opb;by_cases hk:k.kind=4
 ·rw[hk];by_cases h1:k.text=[40]
  ·rw[h1];simp (disch:=omega) only[aW,anZ,aoi,an_,aov,anX];simp
  ·by_cases h2:k.text=[91]
   ·rw[h2];simp (disch:=omega) only[aW,anZ,aoi,an_,aov,anX];simp
   ·by_cases h3:k.text=[41]
    ·rw[h3];by_cases h4:0<o
     ·have:decide ((0:Int)<(o:Int))=true:=by simp;omega
      rw[this];simp (disch:=omega) only[aW,aoi,an_,aov,Bool.and_true,anX];simp;omega
     ·have:decide ((0:Int)<(o:Int))=false:=by simp;omega
      rw[this];simp;omega
    ·by_cases h4:k.text=[93]
     ·rw[h4];by_cases h5:0<o
      ·have:decide ((0:Int)<(o:Int))=true:=by simp;omega
       rw[this];simp (disch:=omega) only[aW,aoi,an_,aov,Bool.and_true,anX];simp;omega
      ·have:decide ((0:Int)<(o:Int))=false:=by simp;omega
       rw[this];simp;omega
     ·simp[h1,h2,h3,h4]
 ·simp[hk]
def scan:Nat→Nat→Nat→Bool→Str→List ay × Option (Nat × Int)
 | _,_,_,_,[]=>([],none)
 | k+1,p,o,nl,_::r=>scan k (p+1) o nl r
 | 0,p,o,nl,c::r=>
  if c.toNat=32∨c.toNat=9 then scan 0 (p+1) o nl r
  else if c.toNat=35 then scan (span rY r) (p+1) o nl r
  else if c.toNat=10 then (if o=0∧nl=false then (⟨5,[],p⟩::(scan 0 (p+1) o true r).1,(scan 0 (p+1) o true r).2)else scan 0 (p+1) o nl r)
  else if (nK (c::r)).2.2.2=0 then
   (⟨(nK (c::r)).1,(nK (c::r)).2.1,p⟩::(scan ((nK (c::r)).2.2.1-1) (p+1) (if (nK (c::r)).1=4 then opb (nK (c::r)).2.1 o else o) false r).1,
    (scan ((nK (c::r)).2.2.1-1) (p+1) (if (nK (c::r)).1=4 then opb (nK (c::r)).2.1 o else o) false r).2)
  else ([],some (p,(nK (c::r)).2.2.2))
theorem Ik:∀(j a p o:Nat) (nl:Bool) (r:Str),j≤r.length→scan (a+j) p o nl r=scan a (p+j) o nl (r.drop j)
 | 0,a,p,o,nl,r,_=>rfl
 | j+1,a,p,o,nl,[],h=>by simp at h
 | j+1,a,p,o,nl,c::r,h=>by
  rw[show a+(j+1)=(a+j)+1 from rfl,scan,Ik j a (p+1) o nl r (by simpa using h),apb];rw[show p+1+j=p+(j+1)from by omega]
def fin(out:List ay)(x:List ay × Option (Nat × Int)):List ay × Int × Int:=
 match x.2 with
 | none=>(out++x.1,0,0)
 | some (p,e)=>([],(p:Int),e)
def JV(out:List ay):Bool:=match out.getLast? with|some t=>t.kind==5|none=>false
theorem GD(out:List ay)(t:ay):JV (out++[t])=(t.kind==5):=by simp[JV]
theorem G8(out:List ay)(t:ay)(x:List ay × Option (Nat × Int)):fin out (t::x.1,x.2)=fin (out++[t]) x:=by
 unfold fin;cases x.2<;>simp
theorem Wt:∀(N:Nat) (r b:Str) (m:Nat),r.length≤N→(txt 0 b m r).2.2=0→m<(txt 0 b m r).2.1∧(txt 0 b m r).2.1≤m+r.length∧(r.getD ((txt 0 b m r).2.1-m-1) 0).toNat=34
 | N,[],b,m,_,h=>by simp[txt]at h
 | 0,c::r,b,m,hN,h=>by simp at hN
 | N+1,c::r,b,m,hN,h=>by
  rw[Pf]at h⊢;by_cases Vl:c.toNat=34
  ·rw[anN Vl]at h⊢;by_cases hl:4096<b.length
   ·rw[anN hl]at h;simp at h
   ·rw[anG hl];simp only[an5];refine⟨by omega,by omega,?_⟩;rw[show m+1-m-1=0 from by omega];exact Vl
  ·rw[anG Vl]at h⊢;by_cases he:(chr (c::r)).2.2=0
   ·rw[anN he]at h⊢;obtain⟨n1,n2⟩:=abb he;generalize (chr (c::r)).2.1=n at n1 n2 h⊢;have hlen:((c::r).drop n).length=r.length+1-n:=by simp
    have ih:=Wt N ((c::r).drop n) (b++[(chr (c::r)).1]) (m+n) (by rw[hlen];simp at hN n2;omega) h;rw[hlen]at ih;simp only[an5]at n2⊢;refine⟨by omega,by omega,?_⟩;have h3:=ih.2.2;rw[aos,apw]at h3;rw[aos];rw[show n+((txt 0 (b++[(chr (c::r)).1]) (m+n) ((c::r).drop n)).2.1-(m+n)-1)=(txt 0 (b++[(chr (c::r)).1]) (m+n) ((c::r).drop n)).2.1-m-1 from by omega]at h3;exact h3
   ·rw[anG he]at h;exact absurd h he
theorem Tg(p:UInt8→Bool)(l:Str){i:Nat}(h:i<span p l):p (l.getD i 0)=true:=by
 have h2:=AL p l
 have:=L6 p l (l.getD i 0) (by
  rw[List.mem_take_iff_getElem]
  exact⟨i,by omega,by rw[aos,an6 (by omega),apr]⟩)
 exact this
theorem ajW(l:Str):opn l≤l.length:=by
 match l with
 | []=>simp[opn]
 | [a]=>simp only[opn];split<;>simp
 | a::b::r=>simp only[opn];(repeat' split)<;>simp
theorem EX{a:UInt8}(h:CV [a]=true):a.toNat<128:=by
 simp only[CV,aov,aoi,aoW,and_true,reduceCtorEq,and_false,false_or]at h;have:a=60∨a=62∨a=43∨a=45∨a=42∨a=47∨a=37∨a=33∨a=63∨a=58∨a=46∨a=44∨a=61∨a=40∨a=41∨a=91∨a=93∨a=123∨a=125:=h;rcases this with rfl|rfl|rfl|rfl|rfl|rfl|rfl|rfl|rfl|rfl|rfl|rfl|rfl|rfl|rfl|rfl|rfl|rfl|rfl<;>decide
theorem NV{a b:UInt8}(h:CV [a,b]=true):a.toNat<128∧b.toNat<128:=by
 simp only[CV,aov,aoi,aoW,and_true,reduceCtorEq,and_false,or_false]at h;rcases h with⟨rfl,rfl⟩|⟨rfl,rfl⟩|⟨rfl,rfl⟩|⟨rfl,rfl⟩|⟨rfl,rfl⟩|⟨rfl,rfl⟩<;>decide
theorem LX{c:UInt8}{r:Str}(h:(nK (c::r)).2.2.2=0):1≤(nK (c::r)).2.2.1∧(nK (c::r)).2.2.1≤r.length+1∧((c::r).getD ((nK (c::r)).2.2.1-1) 0).toNat<128∧c.toNat<128:=by
 simp only[nK]at h⊢;by_cases hd:isDigit c=true
 ·rw[anN hd]at h⊢;have hpos:0<span isDigit (c::r):=by rw[kH,hd];simp
  have hle:=AL isDigit (c::r);have hg:=Tg isDigit (c::r) (i:=span isDigit (c::r)-1) (by omega);rw[oZ]at hd hg;by_cases h1:(1<span isDigit (c::r)∧c.toNat=48)∨span isDigit (c::r)<span isWord (c::r)
  ·rw[anN h1]at h;simp at h
  ·rw[anG h1]at h⊢;by_cases h2:DN<val ((c::r).take (span isDigit (c::r)))
   ·rw[anN h2]at h;simp at h
   ·rw[anG h2];simp only[an5]at hle;have hg2:((c::r).getD (span isDigit (c::r)-1) 0).toNat<128:=by omega
    exact⟨hpos,hle,hg2,by omega⟩
 ·rw[anG hd]at h⊢;by_cases Vl:c.toNat=34
  ·rw[anN Vl]at h⊢;by_cases he:(txt 0 [] 1 r).2.2=0
   ·rw[anN he];obtain⟨a1,a2,a3⟩:=Wt r.length r [] 1 (aod _) he;refine⟨by simp only;omega,by simp only;omega,?_,by omega⟩;simp only;obtain⟨q,hq⟩:∃q,(txt 0 [] 1 r).2.1=q+2:=⟨(txt 0 [] 1 r).2.1-2,by omega⟩;rw[hq]at a3⊢;have a3:(r.getD q 0).toNat=34:=a3;show ((c::r).getD (q+1) 0).toNat<128;rw[apJ];omega
   ·rw[anG he]at h;exact absurd h he
  ·rw[anG Vl]at h⊢;by_cases hl:nW c=true
   ·rw[anN hl]at h⊢;have hpos:0<span isWord (c::r):=by rw[kH,isWord,hl];simp
    have hle:=AL isWord (c::r);have hg:=Tg isWord (c::r) (i:=span isWord (c::r)-1) (by omega);rw[Bn]at hl;simp only[isWord,aov,Bn,oZ]at hg;by_cases h2:64<span isWord (c::r)
    ·rw[anN h2]at h;simp at h
    ·rw[anG h2];simp only[an5]at hle;have hg2:((c::r).getD (span isWord (c::r)-1) 0).toNat<128:=by omega
     exact⟨hpos,hle,hg2,by omega⟩
   ·rw[anG hl]at h⊢;have hle:=ajW (c::r);by_cases h2:opn (c::r)=0
    ·rw[anN h2]at h;simp at h
    ·rw[anG h2];simp only[an5]at hle;refine⟨by simp only;omega,hle,?_⟩;cases r with
     | nil=>
      simp only[opn]at h2⊢;split
      ·rename_i ho;exact⟨EX ho,EX ho⟩
      ·rename_i ho;simp[ho]at h2
     | cons b r=>
      simp only[opn]at h2⊢;split
      ·rename_i ho;exact⟨(NV ho).2,(NV ho).1⟩
      ·rename_i ho2;split
       ·rename_i ho;exact⟨EX ho,EX ho⟩
       ·rename_i ho;simp[ho,ho2]at h2
end Go.Ft
namespace Go.Ft
open Go
attribute [local congr] fD
theorem TU(out:List ay)(h:out≠[]):idx out (bq ((out.length:Int)-1))=if h2:out.length<4611686018427387904 then some (out.getLast h)else idx out (bq ((out.length:Int)-1)):=by
 split
 ·rename_i h2;have hl:0<out.length:=aoH.2 h;rw[aW (by omega) (by omega),show (out.length:Int)-1=((out.length-1:Nat):Int)from by omega,MJ (by omega)];congr 1;exact(List.getLast_eq_getElem h).symm
 ·rfl
theorem Vd(out:List ay)(o:Nat)(h:out.length<4611686018427387904):
  (if (o:Int)=0 then if (out.length:Int)=0 then some true else av (idx out ((out.length:Int)-1)) fun e1=>some (e1.kind !=5)else some false)=some (decide (o=0∧JV out=false)):=by
 by_cases ho:o=0
 ·subst ho;by_cases he:out=[]
  ·subst he;simp[JV]
  ·have hl:0<out.length:=aoH.2 he;have hl2:¬((out.length:Int)=0):=by omega
   have h1:=TU out he;rw[dif_pos h,aW (by omega) (by omega)]at h1;rw[h1];simp[JV,List.getLast?_eq_some_getLast he];cases hk:(out.getLast he).kind==5<;>simp_all
 ·have:¬(o:Int)=0:=by omega
  simp[ho]
theorem amS{s:Str}{p:Nat}(h:p<s.length)(hc:(s.getD p 0).toNat≠10):p+1+span rY (s.drop (p+1))≤s.length∧Bd s (p+1+span rY (s.drop (p+1))):=by
 have hl:=AL rY (s.drop (p+1));rw[qw]at hl;refine⟨by omega,?_⟩;rcases aoD (p+1+span rY (s.drop (p+1))) s.length with h1|h1
 ·right;left
  have key:∀l:Str,span rY l<l.length→(l.getD (span rY l) 0).toNat=10:=by
   intro l
   induction l with
   | nil=>simp
   | cons c l ih=>
    rw[kH];cases hn:rY c with
    | true=>simp only[anX,an5];intro h2;rw[apJ];exact ih (by omega)
    | false=>simp only[anL,anW,an5];intro _;simp[rY]at hn;rw[List.getD_cons_zero];omega
  have:=key (s.drop (p+1)) (by rw[qw];omega);rw[aos,apw]at this;rw[aos];omega
 ·left;omega
theorem ag6{c:UInt8}(r:Str)(h:c.toNat≠10):span rY (c::r)=span rY r+1:=by
 rw[kH,anN];simp[rY];omega
theorem SV(c:UInt8)(r:Str):(nK (c::r)).1≠5:=by
 simp only[nK]
 repeat' split
 all_goals simp
theorem tq{s:Str}(hs:s.length≤2147483648):∀(k p nx o:Nat) (out:List ay),s.length<k+p→p≤s.length→nx≤s.length→(p<nx→Bd s nx)→out.length≤p→o≤p→
  iM s k out (nx:Int) (o:Int) p=some (fin out (scan (nx-p) p o (JV out) (s.drop p)))
 | 0,p,nx,o,out,h,h',_,_,_,_=>by omega
 | k+1,p,nx,o,out,h,hp,hnx,hb,hout,ho=>by
  rw[iM];by_cases hi:p<s.length
  ·rw[anN (by simpa using hi)];by_cases hlt:p<nx
   ·
    have hst:=afg hlt hnx (hb hlt)
    have hpos:1≤(dec s p).2:=by
     rcases aoD (s.getD p 0).toNat 128 with hc|hc
     ·rw[dec_lt hc];exact aod _
     ·exact(ZB hi hc).2.1
    simp (disch:=omega) only[anN,aj,anZ,anX];rw[tq hs k (p+(dec s p).2) nx o out (by omega) (by omega) hnx (fun _=>hb hlt) (by omega) (by omega)];rw[show nx-p=(nx-(p+(dec s p).2))+(dec s p).2 from by omega,Ik _ _ _ _ _ _ (by rw[qw];omega),ao1]
   ·have e0:nx-p=0:=by omega
    rw[e0];have hh:=getD_drop hi;rcases aoD (s.getD p 0).toNat 128 with hc|hc
    ·rw[dec_lt hc];simp (disch:=omega) only[Ya,aW,anG,aj,anZ,aoi,aoF,apl,aov];by_cases hbl:(s.getD p 0).toNat=32∨(s.getD p 0).toNat=9
     ·have e1:(((s.getD p 0).toNat:Int)==32||((s.getD p 0).toNat:Int)==9)=true:=by simp only[aov,aoi];omega
      simp (disch:=omega) only[aT,anN,aj];rw[tq hs k (p+1) nx o out (by omega) (by omega) hnx (fun h=>by omega) (by omega) (by omega),hh,show nx-(p+1)=0 from by omega];rw[scan,anN hbl]
     ·have e1:(((s.getD p 0).toNat:Int)==32||((s.getD p 0).toNat:Int)==9)=false:=by simp only[aoE,an7];omega
      simp (disch:=omega) only[anG];by_cases h35:(s.getD p 0).toNat=35
      ·simp (disch:=omega) only[O7 al2 (s:=s) (by omega) hp,aT,anN,anG,aj];obtain⟨b1,b2⟩:=amS hi (by omega);rw[hh,ag6 _ (by omega)];rw[show p+(span rY (s.drop (p+1))+1)=p+1+span rY (s.drop (p+1))from by omega];rw[tq hs k (p+1) _ o out (by omega) (by omega) b1 (fun _=>b2) (by omega) (by omega)];rw[show p+1+span rY (s.drop (p+1))-(p+1)=span rY (s.drop (p+1))from by omega];rw[scan,anG hbl,anN h35]
      ·by_cases h10:(s.getD p 0).toNat=10
       ·simp (disch:=omega) only[aT,anN,anG,aj];rw[Vd out o (by omega),hh,scan,anG hbl,anG h35,anN h10];by_cases hn:o=0∧JV out=false
        ·have happ:app out [(⟨5,[],(p:Int)⟩:ay)]=some (out++[⟨5,[],(p:Int)⟩]):=aT (by simp[w9];omega);have hd:decide (o=0∧JV out=false)=true:=aou hn;simp (disch:=omega) only[hd,happ,anN,aj,anX];rw[tq hs k (p+1) nx o _ (by omega) (by omega) hnx (fun h=>by omega) (by simp;omega) (by omega),show nx-(p+1)=0 from by omega,GD];rw[G8];rfl
        ·have hd:decide (o=0∧JV out=false)=false:=aoG hn;simp (disch:=omega) only[hd,anG,aj,anL,anW];rw[tq hs k (p+1) nx o out (by omega) (by omega) hnx (fun h=>by omega) (by omega) (by omega),show nx-(p+1)=0 from by omega]
       ·simp (disch:=omega) only[TQ hs hi,aT,anN,anG,aj];rw[hh,scan,anG hbl,anG h35,anG h10];by_cases he:(nK (s.getD p 0::s.drop (p+1))).2.2.2=0
        ·obtain⟨n1,n2,n3,n4⟩:=LX he;rw[qw]at n2;rw[anN he]
         have hbd:Bd s (p+(nK (s.getD p 0::s.drop (p+1))).2.2.1):=by
          right;right;refine⟨by omega,?_⟩;rw[←hh,aos,apw]at n3;rw[aos,←hh];rw[←hh]at n1;rw[show p+(nK (s.drop p)).2.2.1-1=p+((nK (s.drop p)).2.2.1-1)from by omega];exact n3
         have h5:=SV (s.getD p 0) (s.drop (p+1));generalize nK (s.getD p 0::s.drop (p+1))=t at he n1 n2 hbd h5⊢;have happ:app out [(⟨t.1,t.2.1,(p:Int)⟩:ay)]=some (out++[⟨t.1,t.2.1,(p:Int)⟩]):=aT (by simp[w9];omega);have anQ:opb t.2.1 o≤o+1:=by unfold opb;(repeat' split)<;>omega
         have ek:((t.1:Int)==5)=false:=an7.2 h5;simp only[ltk,he,anX];simp (disch:=omega) only[aC,not_true_eq_false,anW];by_cases hk:t.1=4
         ·simp (disch:=omega) only[hk,X8 _ _ (by omega:o<4611686018427387904),aj,anX];rw[hk]at happ;simp (disch:=omega) only[happ,aj];rw[tq hs k (p+1) _ (opb t.2.1 o) _ (by omega) (by omega) (by omega) (fun _=>hbd) (by simp;omega) (by omega),GD,G8];rw[show p+t.2.2.1-(p+1)=t.2.2.1-1 from by omega]
          rfl
         ·simp (disch:=omega) only[hk,happ,aj,anW];rw[tq hs k (p+1) _ o _ (by omega) (by omega) (by omega) (fun _=>hbd) (by simp;omega) (by omega),GD,G8];rw[show p+t.2.2.1-(p+1)=t.2.2.1-1 from by omega];rw[ek]
        ·rw[anG he];simp only[ltk,he,anW];simp (disch:=omega) only[he,aC,apn,anX];rfl
    ·
     obtain⟨g1,_⟩:=ZB hi hc;have e1:(((dec s p).1:Int)==32||((dec s p).1:Int)==9)=false:=by simp only[aoE,an7];omega
     have he:(nK (s.getD p 0::s.drop (p+1))).2.2.2≠0:=fun he=>by have:=(LX he).2.2.2;omega
     simp (disch:=omega) only[Ya,e1,TQ hs hi,anG,aj,anZ,aoi,aoF,apl,anL,anW];rw[hh,scan,anG (by omega),anG (by omega),anG (by omega),anG he];simp only[ltk,he,anW];simp (disch:=omega) only[he,aC,apn,anX];rfl
  ·have e:p=s.length:=by omega
   subst e;rw[anG (by simp)];rw[aob (aod _)];cases hz:nx-s.length<;>simp[scan,fin]
end Go.Ft
namespace Go.Ft
open Go
attribute [local congr] fD
theorem Qk{s:Str}(hs:s.length≤65536):mW s=some (fin [] (scan 0 0 0 false s)):=by
 unfold mW;rw[anG (by simp;omega)];have:=tq (s:=s) (by omega) BIG 0 0 0 [] (by simp only[BIG];omega) (by omega) (by omega) (fun h=>by omega) (by simp) (by omega);exact this
def RF:Bool→Str→Nat
 | _,[]=>0
 | cm,c::r=>if c.toNat≠10∧(cm=true∨c.toNat=32∨c.toNat=9∨c.toNat=35)then RF (cm||c.toNat==35) r+1 else 0
theorem Zn:∀(cm:Bool) (l:Str),RF cm l≤l.length
 | _,[]=>aod 0
 | cm,c::r=>by
  rw[RF];split
  ·have:=Zn (cm||c.toNat==35) r;simp only[an5];omega
  ·exact aoN _
theorem QA{s:Str}(hs:s.length≤2147483648):∀(k i:Nat) (cm:Bool),s.length<k+i→i≤s.length→
  sS s k (i:Int) cm=some ((i+RF cm (s.drop i):Nat):Int)
 | 0,i,cm,h,h'=>by omega
 | k+1,i,cm,h,h'=>by
  rw[sS];by_cases hi:i<s.length
  ·have hh:=getD_drop hi
   have hx:idx s (i:Int)=some (s.getD i 0):=by
    rw[MJ hi,aos,an6 hi];rfl
   rw[hh,RF];have hc:(decide ((i:Int)<(s.length:Int)))=true:=by simp;omega
   simp only[hc,anX,hx,aj];generalize s.getD i 0=c;by_cases h10:c.toNat=10
   ·have e:((c.toNat:Int) !=10)=false:=by simp;omega
    simp[h10]
   ·have e:((c.toNat:Int) !=10)=true:=by simp;omega
    have e35:((c.toNat:Int)==35)=(c.toNat==35):=by
     by_cases h:c.toNat=35
     ·simp[h]
     ·have h2:¬(c.toNat:Int)=35:=by omega
      rw[an7.2 h,an7.2 h2]
    have go:∀cm',sS s k (bq ((i:Int)+1)) cm'=some ((i+(RF cm' (s.drop (i+1))+1):Nat):Int):=by
     intro cm';rw[aW (by omega) (by omega)];have:=QA hs k (i+1) cm' (by omega) (by omega);rw[show (i:Int)+1=((i+1:Nat):Int)from by omega,this];congr 2;omega
    simp only[e,anX,e35,h10,apl,apn,true_and];cases cm with
    | true=>simp[go]
    | false=>
     by_cases h32:c.toNat=32
     ·have h2:(c.toNat==35)=false:=by simp[h32]
      simp[h32,go]
     ·have an4:((c.toNat:Int)==32)=false:=by simp;omega
      by_cases h9:c.toNat=9
      ·simp[h9,go]
      ·have h9':((c.toNat:Int)==9)=false:=by simp;omega
       simp only[an4,h9',anL,anW,aj,h32,h9,false_or,ao2];cases hb:(c.toNat==35)with
       | true=>simp[go];simp at hb;simp[hb]
       | false=>simp at hb;simp[hb]
  ·have hc:(decide ((i:Int)<(s.length:Int)))=false:=by simp;omega
   rw[aob (by omega)];simp only[hc,anL,anW,aj,RF,apy]
theorem Qz{s:Str}(hs:s.length≤65536){i:Nat}(h:i≤s.length):sU s (i:Int)=some ((i+RF false (s.drop i):Nat):Int):=
 QA (by omega) BIG i false (by simp only[BIG];omega) h
theorem aeV(l:Str):RF true l=span rY l:=by
 induction l with
 | nil=>rfl
 | cons c r ih=>
  rw[RF,kH];by_cases h:c.toNat=10
  ·simp[h,rY]
  ·have:¬(c.toNat:Int)=10:=by omega
   simp[h,rY,this,ih]
theorem QB:∀(l:Str) (cm:Bool),RF false (l.drop (RF cm l))=0
 | [],cm=>by cases cm<;>rfl
 | c::r,cm=>by
  rw[RF];split
  ·rw[apb];exact QB r _
  ·rename_i h;rw[aoV,RF,anG];intro h2;apply h;exact⟨h2.1,by cases h2.2 with|inl h=>cases h|inr h=>exact Or.inr h⟩
theorem Pq:∀(l:Str) (p o:Nat) (nl:Bool),scan 0 p o nl l=scan 0 (p+RF false l) o nl (l.drop (RF false l))
 | [],p,o,nl=>rfl
 | c::r,p,o,nl=>by
  rw[RF];split
  ·rename_i h;by_cases h35:c.toNat=35
   ·rw[scan,anG (by omega),anN h35,apb];simp only[h35,ao0,Bool.or_true];rw[aeV];have:=Ik (span rY r) 0 (p+1) o nl r (AL _ _);rw[Nat.zero_add]at this;rw[this];rw[show p+1+span rY r=p+(span rY r+1)from by omega]
   ·have hb:(c.toNat==35)=false:=by simp[h35]
    rw[scan,anN (by obtain⟨_,h⟩:=h;rcases h with h|h|h|h<;>simp_all),apb,hb];rw[Pq r];simp only[apL];rw[show p+1+RF false r=p+(RF false r+1)from by omega]
  ·rfl
theorem R7(out:List ay)(o:Nat)(h:out.length<4611686018427387904):
  (if ((o:Int)==0)=true then if ((out.length:Int)==0)=true then some true else av (idx out (bq ((out.length:Int)-1))) fun e1=>some (e1.kind !=5)else some false)=some (decide (o=0∧JV out=false)):=by
 by_cases ho:o=0
 ·subst ho;by_cases he:out=[]
  ·subst he;simp[JV]
  ·have hl:0<out.length:=aoH.2 he;have hl2:¬((out.length:Int)=0):=by omega
   have h1:=TU out he;rw[dif_pos h]at h1;rw[h1];simp[JV,List.getLast?_eq_some_getLast he];cases hk:(out.getLast he).kind==5<;>simp_all
 ·have:¬(o:Int)=0:=by omega
  simp[ho]
theorem Pv{s:Str}(hs:s.length≤65536):∀(k p o:Nat) (out:List ay),s.length<k+p→p≤s.length→RF false (s.drop p)=0→out.length≤p→o≤p→
  ny s k out (o:Int) (p:Int)=some (fin out (scan 0 p o (JV out) (s.drop p)))
 | 0,p,o,out,h,h',_,_,_=>by omega
 | k+1,p,o,out,h,hp,hg,hout,ho=>by
  rw[ny];by_cases hi:p<s.length
  ·have hh:=getD_drop hi
   have hx:idx s (p:Int)=some (s.getD p 0):=by
    rw[MJ hi,aos,an6 hi];rfl
   have hc:(decide ((p:Int)<(s.length:Int)))=true:=by simp;omega
   have step:∀(q:Nat) (o':Nat) (out':List ay),p<q→q≤s.length→out'.length≤q→o'≤q→
     av (sU s (q:Int)) (fun at3=>ny s k out' (o':Int) at3)=some (fin out' (scan 0 q o' (JV out') (s.drop q))):=by
    intro q o' out' h1 h2 h3 h4;have hle:=Zn false (s.drop q);rw[qw]at hle;rw[Qz hs h2,aj];rw[Pv hs k (q+RF false (s.drop q)) o' out' (by omega) (by omega) (by rw[←ao1];exact QB _ _) (by omega) (by omega)];rw[Pq (s.drop q),ao1]
   rw[hh,RF]at hg;simp only[hc,anX,hx,aj];by_cases h10:(s.getD p 0).toNat=10
   ·have e:(((s.getD p 0).toNat:Int) !=10)=false:=bne_eq_false_iff_eq.2 (by omega);have e5:((5:Int) !=5)=false:=rfl
    have eop:wC (o:Int) (⟨5,[],(p:Int)⟩:ay)=some (o:Int):=by
     rw[TM _ _ (by omega)];simp
    simp only[e,e5,anL,anW,eop,aj];rw[R7 out o (by omega),aj]
    conv=>rhs;rw[hh,scan,anG (by omega),anG (by omega),anN h10]
    have w1:bq ((p:Int)+1)=((p+1:Nat):Int):=by rw[aW (by omega) (by omega)];omega
    by_cases hn:o=0∧JV out=false
    ·have happ:app out [(⟨5,[],(p:Int)⟩:ay)]=some (out++[⟨5,[],(p:Int)⟩]):=aT (by simp[w9];omega);rw[aou hn,anN rfl,happ,aj,w1];rw[step (p+1) o _ (by omega) (by omega) (by simp;omega) (by omega),GD,anN hn,G8];rfl
    ·rw[aoG hn,anG Bool.false_ne_true,w1];rw[step (p+1) o _ (by omega) (by omega) (by omega) (by omega),anG hn]
   ·have e:(((s.getD p 0).toNat:Int) !=10)=true:=aoF.2 (by omega);simp only[e,anX]
    have hbl:¬((s.getD p 0).toNat=32∨(s.getD p 0).toNat=9):=fun h=>by
     rw[anN ⟨h10,by omega⟩]at hg;omega
    have h35:¬(s.getD p 0).toNat=35:=fun h=>by
     rw[anN ⟨h10,by omega⟩]at hg;omega
    rw[abO (by omega) hi,hh,scan,anG hbl,anG h35,anG h10];by_cases he:(nK (s.getD p 0::s.drop (p+1))).2.2.2=0
    ·obtain⟨n1,n2,n3,n4⟩:=LX he;have h5:=SV (s.getD p 0) (s.drop (p+1));rw[qw]at n2;rw[anN he];generalize nK (s.getD p 0::s.drop (p+1))=t at he n1 n2 h5⊢;have happ:app out [(⟨t.1,t.2.1,(p:Int)⟩:ay)]=some (out++[⟨t.1,t.2.1,(p:Int)⟩]):=aT (by simp[w9];omega);have anQ:opb t.2.1 o≤o+1:=by unfold opb;(repeat' split)<;>omega
     have ek:((t.1:Int)==5)=false:=an7.2 h5;have ek2:((t.1:Int) !=5)=true:=aoF.2 h5;have w1:bq ((p:Int)+(t.2.2.1:Int))=((p+t.2.2.1:Nat):Int):=by rw[aW (by omega) (by omega)];omega
     simp only[rtk,he,anX,aC,ek2,aj,happ,TM _ _ (by omega:o<4611686018427387904),w1];have e00:((0:Int) !=0)=false:=rfl;simp only[e00,anL,anW];rw[step (p+t.2.2.1) _ _ (by omega) (by omega) (by simp;omega) (by split<;>omega),GD,G8,ek];have hsk:=Ik (t.2.2.1-1) 0 (p+1) (if t.1=4 then opb t.2.1 o else o) false (s.drop (p+1)) (by rw[qw];omega);rw[Nat.zero_add]at hsk;rw[hsk,ao1,show p+1+(t.2.2.1-1)=p+t.2.2.1 from by omega]
    ·rw[anG he];have e00:((nK (s.getD p 0::s.drop (p+1))).2.2.2 !=0)=true:=aoF.2 he;simp only[rtk,he,anW,aC,e00,anX];rfl
  ·have e:p=s.length:=by omega
   subst e;rw[aob (aod _)];simp[scan,fin]
theorem Y1{s:Str}(hs:s.length≤65536):yQ s=some (fin [] (scan 0 0 0 false s)):=by
 unfold yQ;rw[anG (by simp;omega),show (0:Int)=((0:Nat):Int)from rfl,Qz hs (aoN _),aj];have hle:=Zn false (s.drop 0);rw[qw]at hle;rw[Pv hs BIG _ 0 [] (by simp only[BIG];omega) (by omega) (by rw[←ao1];exact QB _ _) (by simp) (by omega)];rw[←ao1,aoV];have:=Pq s 0 0 false;rw[this];rfl
theorem Wv(s:Str):yQ s=mW s:=by
 rcases aoD 65536 s.length with h|h
 ·unfold yQ mW;rw[anN (by simp;omega),anN (by simp;omega)]
 ·rw[Qk h,Y1 h]
theorem Pp:∀(l:Str) (k p o:Nat) (nl:Bool),(scan k p o nl l).1.length≤l.length
 | [],k,p,o,nl=>by cases k<;>simp[scan]
 | c::r,k+1,p,o,nl=>by rw[scan];have:=Pp r k (p+1) o nl;simp only[an5];omega
 | c::r,0,p,o,nl=>by
  have h1:=Pp r;rw[scan]
  repeat' split
  all_goals simp only[an5,aoS]
  all_goals first|omega|(have:=h1 0 (p+1) o nl;omega)|(have:=h1 0 (p+1) o true;omega)|(have:=h1 (span rY r) (p+1) o nl;omega)|skip
  all_goals (have:=h1 ((nK (c::r)).2.2.1-1) (p+1) (if (nK (c::r)).1=4 then opb (nK (c::r)).2.1 o else o) false;simp_all)
theorem ahN(l:Str):(fin [] (scan 0 0 0 false l)).1.length≤l.length:=by
 have:=Pp l 0 0 0 false;unfold fin;split<;>simp_all
end Go.Ft
namespace Go.Ft
open Go
attribute [local congr] fD
theorem YP:∀(r:Str) (k:Nat) (b:Str) (n:Nat),(txt k b n r).1.length≤4096
 | [],k,b,n=>by cases k<;>simp[txt]
 | c::r,k+1,b,n=>by rw[txt];exact YP r k b n
 | c::r,0,b,n=>by
  rw[txt];split
  ·split
   ·simp
   ·simp only;omega
  ·split
   ·exact YP r _ _ _
   ·simp
theorem agU:∀l:Str,(nK l).2.1.length≤l.length+4096
 | []=>by simp[nK]
 | c::r=>by
  have:=YP r 0 [] 1;unfold nK;simp only
  repeat' split
  all_goals simp only[aoS,List.length_take]
  all_goals omega
theorem L_:∀(l:Str) (k p o:Nat) (nl:Bool),∀t∈(scan k p o nl l).1,t.text.length≤l.length+4096
 | [],k,p,o,nl,t,ht=>by cases k<;>simp[scan]at ht
 | c::r,k+1,p,o,nl,t,ht=>by rw[scan]at ht;have:=L_ r k (p+1) o nl t ht;simp only[an5];omega
 | c::r,0,p,o,nl,t,ht=>by
  have h1:=L_ r;have h2:=agU (c::r);simp only[an5]at h2⊢;rw[scan]at ht;split at ht
  ·have:=h1 _ _ _ _ t ht;omega
  ·split at ht
   ·have:=h1 _ _ _ _ t ht;omega
   ·split at ht
    ·split at ht
     ·simp only[aoJ]at ht;rcases ht with rfl|ht
      ·simp
      ·have:=h1 _ _ _ _ t ht;omega
     ·have:=h1 _ _ _ _ t ht;omega
    ·split at ht
     ·simp only[aoJ]at ht;rcases ht with rfl|ht
      ·exact h2
      ·have:=h1 _ _ _ _ t ht;omega
     ·simp at ht
theorem toks(s:Str):∃ts a e,mW s=some (ts,a,e)∧yQ s=some (ts,a,e)∧BH ts:=by
 rw[Wv];rcases aoD 65536 s.length with h|h
 ·unfold mW;rw[anN (by simp;omega)];exact⟨_,_,_,rfl,rfl,by simp[BH]⟩
 ·rw[Qk h];have hl:=ahN s;refine⟨(fin [] (scan 0 0 0 false s)).1,(fin [] (scan 0 0 0 false s)).2.1,(fin [] (scan 0 0 0 false s)).2.2,rfl,rfl,by omega,fun t ht=>?_⟩
  have hm:t∈(scan 0 0 0 false s).1:=by
   unfold fin at ht;split at ht
   ·simpa using ht
   ·simp at ht
  have:=L_ s 0 0 0 false t hm;omega
def zeroE:au:=au.mk 0 ([]:Str) (ah.mk 0 false 0 ([]:Str) [] []) [] []
theorem agW{ts:List ay}(h:BH ts):∃(e:au) (j:Nat) (c:Int),zX ts=some (e,(j:Int),c)∧PK ts=some (e,(j:Int),c)∧j≤ts.length∧(c=0→xval e=0∧e.bulk≤137438953472)∧(c≠0→e=zeroE):=by
 have hN:=h.1;unfold zX PK Dc;rcases afk h with⟨e,j,g1,g2,gb,gP,gR⟩|⟨j,c,x,g1,g2,gc,gP,gR⟩
 ·have hbk:e.bulk≤137438953472:=by omega
  obtain⟨v1,v2⟩:=Ut (e:=e) (by omega);rw[gP,gR,gF,aC,aC];simp only[Qc,anL,anW];rw[v1,v2,aj];by_cases hv:xval e=0
  ·rw[anG (by simpa using hv)];exact⟨e,j,0,rfl,rfl,g2,fun _=>⟨hv,hbk⟩,fun h=>absurd rfl h⟩
  ·rw[anN (by simpa using hv)];exact⟨zeroE,0,xval e,rfl,rfl,aoN _,fun h=>absurd h hv,fun _=>rfl⟩
 ·rw[gP,gR,fG,aC,aC];simp only[Qb gc,anX];exact⟨zeroE,j,c,rfl,rfl,g2,fun h=>absurd h gc,fun _=>rfl⟩
theorem ael(s:Str):∃(e:au) (a c:Int),xK s=some (e,a,c)∧Mf s=some (e,a,c)∧(c=0→xval e=0∧e.bulk≤137438953472):=by
 obtain⟨ts,a,c,l1,l2,hts⟩:=toks s;unfold xK Mf;rw[l1,l2,aC,aC];by_cases hc:c=0
 ·subst hc;simp only[Qc,anL,anW];obtain⟨e,j,c,t1,t2,hj,t3,t4⟩:=agW hts;rw[t1,t2,aC,aC];by_cases hc:c=0
  ·subst hc;have e0:((0:Int)==0)=true:=rfl;simp only[Qc,e0,aoU,anL,anW,anX];by_cases hlt:j<ts.length
   ·have e1:decide ((j:Int)<(ts.length:Int))=true:=aou (by omega);have e2:((j:Int)==(ts.length:Int))=false:=by rw[an7];omega
    simp only[e1,e2,anX,anL,anW,gK hlt,aj];exact⟨_,_,_,rfl,rfl,fun h=>by cases h⟩
   ·have e1:decide ((j:Int)<(ts.length:Int))=false:=aoG (by omega);have e2:((j:Int)==(ts.length:Int))=true:=by rw[aoi];omega
    simp only[e1,e2,anX,anL,anW];exact⟨e,0,0,rfl,rfl,t3⟩
  ·have e0:(c==0)=false:=by simpa using hc
   simp only[Qb hc,e0,aoY,anL,anW,anX,Bc];by_cases hlt:j<ts.length
   ·have e1:decide ((j:Int)<(ts.length:Int))=true:=aou (by omega);simp only[e1,anX,gK hlt,aj];exact⟨_,_,_,rfl,rfl,fun h=>absurd h hc⟩
   ·have e1:decide ((j:Int)<(ts.length:Int))=false:=aoG (by omega);simp only[e1,anL,anW,aj];exact⟨_,_,_,rfl,rfl,fun h=>absurd h hc⟩
 ·simp only[Qb hc,anX];exact⟨_,_,_,rfl,rfl,fun h=>absurd h hc⟩
end Go.Ft
namespace Go.Ft
open Go
attribute [local congr] fD
theorem anf{i:Nat}(h:i<4611686018427387000):bq (bq ((i:Int)+1)+1)=((i+2:Nat):Int):=by rw[iG (by omega)];exact iG (i:=i+1) (by omega)
theorem U1{s:Str}(hs:s.length≤65536):∀(n i k k':Nat),s.length+2≤n+i→i≤s.length+1→n<k→n<k'→
  ∃a b:Nat,lD s k (i:Int)=some (a:Int)∧vJ s k' (i:Int)=some (b:Int)∧((a=b∧i<a∧a≤s.length)∨(a=s.length∧s.length<b∧b≤s.length+3))
 | n,i,0,k',_,_,h,_=>by omega
 | n,i,k+1,0,_,_,_,h=>by omega
 | 0,i,k+1,k'+1,h1,h2,_,_=>by omega
 | n+1,i,k+1,k'+1,h1,h2,h3,h4=>by
  rw[lD,vJ];by_cases hi:i<s.length
  ·have e1:decide ((i:Int)<(s.length:Int))=true:=aou (by omega);simp only[e1,anX,gK hi,aj];generalize s[i]=c;by_cases c92:c.toNat=92
   ·have e2:((c.toNat:Int)==92)=true:=by rw[aoi];omega
    have e3:((c.toNat:Int) !=34)=true:=by rw[aoF];omega
    simp only[e2,e3,anX];rw[anf (by omega)];obtain⟨a,b,q1,q2,q3⟩:=U1 hs n (i+2) k k' (by omega) (by omega) (by omega) (by omega);exact⟨a,b,q1,q2,by omega⟩
   ·have e2:((c.toNat:Int)==92)=false:=by rw[an7];omega
    by_cases c34:c.toNat=34
    ·have e3:((c.toNat:Int)==34)=true:=by rw[aoi];omega
     have e4:((c.toNat:Int) !=34)=false:=by rw[bne_eq_false_iff_eq];omega
     simp only[e2,e3,e4,anX,anL,anW];exact⟨i+1,i+1,by rw[iG (by omega)],by rw[iG (by omega)],.inl ⟨rfl,by omega,by omega⟩⟩
    ·have e3:((c.toNat:Int)==34)=false:=by rw[an7];omega
     have e4:((c.toNat:Int) !=34)=true:=by rw[aoF];omega
     simp only[e2,e3,e4,anX,anL,anW];rw[iG (by omega)];obtain⟨a,b,q1,q2,q3⟩:=U1 hs n (i+1) k k' (by omega) (by omega) (by omega) (by omega);exact⟨a,b,q1,q2,by omega⟩
  ·have e1:decide ((i:Int)<(s.length:Int))=false:=aoG (by omega);simp only[e1,anL,anW,aj];exact⟨s.length,i+1,rfl,by rw[iG (by omega)],.inr ⟨rfl,by omega,by omega⟩⟩
theorem M0{s:Str}(hs:s.length≤65536):∀(n i k k':Nat) (o:Int),s.length+1≤n+i→n<k→n<k'→i≤s.length+4→
  ∃r:Int,gN s k (i:Int) o=some r∧ku s k' (i:Int) o=some r∧(r=-1∨∃j:Nat,r=j∧i≤j∧j<s.length)
 | n,i,0,k',o,_,h,_,_=>by omega
 | n,i,k+1,0,o,_,_,h,_=>by omega
 | n,i,k+1,k'+1,o,h1,h3,h4,h5=>by
  rw[gN,ku];by_cases hi:i<s.length
  ·obtain⟨n,rfl⟩:∃m,n=m+1:=⟨n-1,by omega⟩;have e1:decide ((i:Int)<(s.length:Int))=true:=aou (by omega);simp only[e1,anX,gK hi,aj];generalize s[i]=c;have w1:bq ((i:Int)+1)=((i+1:Nat):Int):=iG (by omega)
   have next:∀o:Int,∃r:Int,gN s k (bq ((i:Int)+1)) o=some r∧ku s k' (bq ((i:Int)+1)) o=some r∧(r=-1∨∃j:Nat,r=j∧i≤j∧j<s.length):=fun o=>by
    rw[w1];obtain⟨r,q1,q2,q3⟩:=M0 hs n (i+1) k k' o (by omega) (by omega) (by omega) (by omega);refine⟨r,q1,q2,?_⟩;rcases q3 with q3|⟨j,q3,q4,q5⟩
    ·exact .inl q3
    ·exact .inr ⟨j,q3,by omega,q5⟩
   by_cases c34:((c.toNat:Int)==34)=true
   ·simp only[c34,anX,zH,PG];rw[w1];have hB:=dX;obtain⟨a,b,q1,q2,q3⟩:=U1 hs (s.length+2) (i+1) BIG BIG (by omega) (by omega) (by omega) (by omega);rw[q1,q2,aj,aj];rcases q3 with⟨q3,q4,q5⟩|⟨q3,q4,q5⟩
    ·subst q3;obtain⟨r,p1,p2,p3⟩:=M0 hs n a k k' o (by omega) (by omega) (by omega) (by omega);refine⟨r,p1,p2,?_⟩;rcases p3 with p3|⟨j,p3,p4,p5⟩
     ·exact .inl p3
     ·exact .inr ⟨j,p3,by omega,p5⟩
    ·obtain⟨k,rfl⟩:∃q,k=q+1:=⟨k-1,by omega⟩;obtain⟨k',rfl⟩:∃q,k'=q+1:=⟨k'-1,by omega⟩;rw[gN,ku,anG (by simp;omega),anG (by simp;omega)];exact⟨-1,rfl,rfl,.inl rfl⟩
   ·have c34:((c.toNat:Int)==34)=false:=by simpa using c34
    simp only[c34,anL,anW];by_cases ahY:((c.toNat:Int)==123)=true
    ·simp only[ahY,anX];exact next _
    ·have ahY:((c.toNat:Int)==123)=false:=by simpa using ahY
     simp only[ahY,anL,anW];by_cases ahX:((c.toNat:Int)==125)=true
     ·simp only[ahX,anX];by_cases ho:(o==0)=true
      ·simp only[ho,anX];exact⟨i,rfl,rfl,.inr ⟨i,rfl,aod _,hi⟩⟩
      ·have ho:(o==0)=false:=by simpa using ho
       simp only[ho,anL,anW];exact next _
     ·have ahX:((c.toNat:Int)==125)=false:=by simpa using ahX
      simp only[ahX,anL,anW];exact next _
  ·have e1:decide ((i:Int)<(s.length:Int))=false:=aoG (by omega);simp only[e1,anL,anW];exact⟨-1,rfl,rfl,.inl rfl⟩
theorem afq{s:Str}(hs:s.length≤65536){i:Nat}(hi:i≤s.length+4):∃r:Int,xX s (i:Int)=some r∧Nw s (i:Int)=some r∧(r=-1∨∃j:Nat,r=j∧i≤j∧j<s.length):=by
 have hB:=dX;exact M0 hs (s.length+1) i BIG BIG 0 (by omega) (by omega) (by omega) hi
end Go.Ft
namespace Go.Ft
open Go
attribute [local congr] fD
def RV(t:Str):aU:=aU.mk t false zeroE
def AQ(ps:List aU)(t:Str):List aU:=if t=[]then ps else ps++[RV t]
def aa_(ps:List aU):Prop:=ps=[]∨∃l p,ps=l++[p]∧p.is_=true
theorem XI{ps:List aU}{t:Str}(hp:ps.length≤1048576):gM ps t=some (AQ ps t):=by
 have hL:w9=4294967296:=rfl;unfold gM AQ;cases t with
 | nil=>rfl
 | cons c r=>
  rw[anN (aou (by simp only[an5];omega)),anG (by simp),aT (by simp;omega)];rfl
theorem adq{ps:List aU}{t:Str}(hc:aa_ ps)(hp:ps.length≤1048576)(ht:t.length≤1048576)(c:UInt8):Gh (AQ ps t) c=some (AQ ps (t++[c])):=by
 have hL:w9=4294967296:=rfl;unfold Gh;cases t with
 | nil=>
  have hr:AQ ps []=ps:=rfl;rw[hr,anN (by omega)]
  have h1:(((ps.length:Int)==0)||EG ps)=true:=by
   rcases hc with rfl|⟨l,p,rfl,hpi⟩
   ·rfl
   ·simp[EG,hpi]
  rw[anN h1,aT (by simp;omega)];rfl
 | cons d r=>
  have hr:AQ ps (d::r)=ps++[RV (d::r)]:=rfl;have hr2:AQ ps ((d::r)++[c])=ps++[RV ((d::r)++[c])]:=rfl;simp only[an5]at ht;rw[hr,hr2,anN (by simp;omega),anG (by simp[EG,RV];omega)];have e1:EF (ps++[RV (d::r)])=d::r:=by simp[EF,RV]
  rw[e1,aT (by simp;omega),aj];simp[Nv,RV]
theorem ahj(s:Str)(i:Nat)(hi:i<s.length)(hs:s.length≤1048576)(a b:UInt8):strings_HasPrefix (s.drop i) [a,b]=some ((s[i]==a)&&(s[i+1]?==some b)):=by
 unfold strings_HasPrefix iZ;rw[an0 hi];by_cases h1:i+1<s.length
 ·rw[an0 h1,an6 h1];rw[anN (aou (by simp only[an5,aoS];omega))]
  have e:sl (s[i]::s[i+1]::s.drop (i+1+1)) 0 ((([a,b]:Str).length:Nat):Int)=some [s[i],s[i+1]]:=by
   rw[bG (by omega) (by simp) (by simp only[an5,aoS];omega)];rfl
  rw[e,aj];generalize s[i]=x;generalize s[i+1]=y;by_cases hx:x=a<;>by_cases hy:y=b<;>simp[hx,hy]
 ·rw[apD (by omega),aoQ (by omega),anG (by simp)];simp
theorem WV(ps:List aU)(t:Str):(AQ ps t).length≤ps.length+1:=by unfold AQ;split<;>simp
def Oc(p:aU):Prop:=(p.is_=true→p.text=[]∧xval p.expr=0∧p.expr.bulk≤137438953472)∧(p.is_=false→p.text≠[]∧p.expr=zeroE∧p.text.length≤4096)
theorem TA{ps:List aU}{t:Str}(htl:t.length≤4096)(h:∀p∈ps,Oc p):∀p∈AQ ps t,Oc p:=by
 intro p hp;unfold AQ at hp;split at hp
 ·exact h p hp
 ·rename_i ht;rcases aoZ.1 hp with hp|hp
  ·exact h p hp
  ·cases aoX.1 hp;exact⟨fun h=>by simp[RV]at h,fun _=>⟨ht,rfl,htl⟩⟩
theorem JK{s:Str}(hs:s.length≤4096):∀(n i k k':Nat) (ps:List aU) (t:Str),s.length+1≤n+i→n<k→n<k'→i≤s.length→aa_ ps→ps.length≤2*i→t.length≤i→(∀p∈ps,Oc p)→
  ∃(l:List aU) (a c:Int),h_ s k (i:Int) ps t=some (l,a,c)∧qI s k' (AQ ps t) (i:Int)=some (l,a,c)∧(∀p∈l,Oc p)∧l.length≤10000∧(c≠0→l=[])
 | n,i,0,k',ps,t,_,h,_,_,_,_,_,_=>by omega
 | n,i,k+1,0,ps,t,_,_,h,_,_,_,_,_=>by omega
 | n,i,k+1,k'+1,ps,t,h1,h2,h3,hi,hcl,hps,ht,hg=>by
  have hL:w9=4294967296:=rfl;rw[h_,qI];by_cases hlt:i<s.length
  ·obtain⟨n,rfl⟩:∃m,n=m+1:=⟨n-1,by omega⟩;have e1:decide ((i:Int)<(s.length:Int))=true:=aou (by omega);have w1:bq ((i:Int)+1)=((i+1:Nat):Int):=iG (by omega);have w2:bq ((i:Int)+2)=((i+2:Nat):Int):=by rw[aW (by omega) (by omega)];omega
   simp only[e1,anX,gK hlt,aj];rw[kS (by omega),aj,ahj s i hlt (by omega),aj]
   have WK:∀(c:UInt8) (j:Nat),i<j→j≤i+2→j≤s.length→∃(l:List aU) (a c1:Int),(av (app t [c]) fun WC=>h_ s k (j:Int) ps WC)=some (l,a,c1)∧(av (Gh (AQ ps t) c) fun l2=>qI s k' l2 (j:Int))=some (l,a,c1)∧(∀p∈l,Oc p)∧l.length≤10000∧(c1≠0→l=[]):=fun c j hj1 hj2 hj3=>by
    rw[aT (by simp;omega),aj,adq hcl (by omega) (by omega) c,aj];exact JK hs n j k k' ps (t++[c]) (by omega) (by omega) (by omega) hj3 hcl (by omega) (by simp;omega) hg
   by_cases hA:s[i]=36∧s[i+1]?=some 36
   ·obtain⟨a1,a2⟩:=hA;obtain⟨hlt1,a3⟩:=aoT.1 a2
    have c1:(((s[i].toNat:Int) !=36)||(decide ((s.length:Int)≤bq ((i:Int)+1))))=false:=by
     rw[w1,a1];simp;omega
    rw[anN (by simp[a1,a2]),anG (by rw[c1];simp),w1,w2];simp only[gK hlt1,aj,a3];have e36:(((36:UInt8).toNat:Int) !=36)=false:=by decide
    have aoc:(((36:UInt8).toNat:Int)==36)=true:=by decide
    simp only[e36,aoc,anL,anW,anX,aj];exact WK 36 (i+2) (by omega) (by omega) (by omega)
   ·have p36:((s[i]==36)&&(s[i+1]?==some 36))=false:=by
     cases hx:((s[i]==36)&&(s[i+1]?==some 36))with
     | false=>rfl
     | true=>simp only[an_,aoi]at hx;exact absurd hx hA
    rw[p36,anG (by simp),ahj s i hlt (by omega),aj];by_cases hB:s[i]=36∧s[i+1]?=some 123
    ·obtain⟨a1,a2⟩:=hB;obtain⟨hlt1,a3⟩:=aoT.1 a2
     have c1:(((s[i].toNat:Int) !=36)||(decide ((s.length:Int)≤bq ((i:Int)+1))))=false:=by
      rw[w1,a1];simp;omega
     rw[anN (by simp[a1,a2]),anG (by rw[c1];simp),w1,w2];simp only[gK hlt1,aj,a3];have e1:(((123:UInt8).toNat:Int) !=36)=true:=by decide
     have e2:(((123:UInt8).toNat:Int)==36)=false:=by decide
     have e3:(((123:UInt8).toNat:Int) !=123)=false:=by decide
     simp only[e1,e2,e3,anL,anW,anX,aj];obtain⟨r,q1,q2,q3⟩:=afq (s:=s) (by omega) (i:=i+2) (by omega);rw[q1,q2,aj,aj];rcases q3 with q3|⟨j,q3,q4,q5⟩
     ·subst q3;exact⟨[],(i:Int),4,rfl,rfl,by simp,by simp,fun _=>rfl⟩
     ·subst q3;have d0:decide ((j:Int)<0)=false:=aoG (by omega);have hsl:sl s ((i+2:Nat):Int) (j:Int)=some ((s.take j).drop (i+2)):=by rw[bG (by omega) (by omega) (by omega)];rfl
      simp only[d0,anL,anW,hsl,aj];obtain⟨e,a,c,p1,p2,p3⟩:=ael ((s.take j).drop (i+2));rw[p1,p2,aC,aC];by_cases hc:c=0
      ·subst hc;have hr:=WV ps t;have wj:bq ((j:Int)+1)=((j+1:Nat):Int):=iG (by omega);simp only[Qc,anL,anW];rw[XI (by omega),aj,aT (by simp;omega),aj,aj,wj];have hrp:AQ (AQ ps t++[aU.mk ([]:Str) true e]) []=AQ ps t++[aU.mk ([]:Str) true e]:=rfl
       have:=JK hs n (j+1) k k' (AQ ps t++[aU.mk ([]:Str) true e]) [] (by omega) (by omega) (by omega) (by omega) (.inr ⟨_,_,rfl,rfl⟩) (by simp;omega) (by simp) (by
        intro p hp;rcases aoZ.1 hp with hp|hp
        ·exact TA (by omega) hg p hp
        ·cases aoX.1 hp
         exact⟨fun _=>⟨rfl,p3 rfl⟩,fun h=>by cases h⟩)
       rw[hrp]at this;exact this
      ·simp only[Qb hc,anX];exact⟨[],_,c,rfl,rfl,by simp,by simp,fun _=>rfl⟩
    ·have anx:((s[i]==36)&&(s[i+1]?==some 123))=false:=by
      cases hx:((s[i]==36)&&(s[i+1]?==some 123))with
      | false=>rfl
      | true=>simp only[an_,aoi]at hx;exact absurd hx hB
     have hb1:(if (((s[i].toNat:Int) !=36)||(decide ((s.length:Int)≤bq ((i:Int)+1))))=true then some true else av (idx s (bq ((i:Int)+1))) fun x2=>if ((x2.toNat:Int) !=36)=true then av (idx s (bq ((i:Int)+1))) fun x3=>some ((x3.toNat:Int) !=123)else some false)=some true:=by
      rw[w1];by_cases a1:s[i]=36
      ·by_cases hlt1:i+1<s.length
       ·have n36:¬s[i+1]=36:=fun h=>hA ⟨a1,by rw[an6 hlt1,h]⟩;have n123:¬s[i+1]=123:=fun h=>hB ⟨a1,by rw[an6 hlt1,h]⟩
        have m36:((s[i+1].toNat:Int) !=36)=true:=by
         rw[aoF];intro h;exact n36 (aoB.1 (show s[i+1].toNat=36 by omega))
        have anC:((s[i+1].toNat:Int) !=123)=true:=by
         rw[aoF];intro h;exact n123 (aoB.1 (show s[i+1].toNat=123 by omega))
        rw[anG (by rw[a1];simp;omega)];simp only[gK hlt1,aj,m36,anC,anX]
       ·rw[anN (by simp;right;omega)]
      ·have m36:((s[i].toNat:Int) !=36)=true:=by
        rw[aoF];intro h;exact a1 (aoB.1 (show s[i].toNat=36 by omega))
       rw[anN (by rw[m36];simp)]
     rw[anx,anG (by simp),hb1,aj,anN rfl,w1];exact WK s[i] (i+1) (by omega) (by omega) (by omega)
  ·have e1:decide ((i:Int)<(s.length:Int))=false:=aoG (by omega);have hr:=WV ps t;simp only[e1,anL,anW];rw[XI (by omega),aj];exact⟨_,_,_,rfl,rfl,TA (by omega) hg,by omega,fun h=>absurd rfl h⟩
end Go.Ft
namespace Go.Ft
open Go
attribute [local congr] fD
theorem parts_eq(s:Str):∃(l:List aU) (a c:Int),jy s=some (l,a,c)∧TG s=some (l,a,c)∧(∀p∈l,Oc p)∧l.length≤10000∧(c≠0→l=[]):=by
 unfold jy TG;rcases aoD 4096 s.length with h|h
 ·rw[anN (aou (by omega)),anN (aou (by omega))];exact⟨[],0,3,rfl,rfl,by simp,by simp,fun _=>rfl⟩
 ·rw[anG (by simp;omega),anG (by simp;omega)];have hB:=dX;exact JK h (s.length+1) 0 BIG BIG [] [] (by omega) (by omega) (by omega) (aoN _) (.inl rfl) (by simp) (by simp) (by simp)
end Go.Ft
namespace Go.Ft
open Go
attribute [local congr] fD
def xF(p:aU)(env:List aD):Str × Int:=
 if p.is_=false then (p.text,0)
 else if (G9 p.expr env).2≠0 then ([],(G9 p.expr env).2)
 else if (G9 p.expr env).1.kind=4∨(G9 p.expr env).1.kind=5 then ([],9)else (RU (G9 p.expr env).1,0)
theorem agQ{a:ah}(h:VV a):(RU a).length≤4096:=by
 have l:=kr h.1;unfold RU;split
 ·simp
 ·split
  ·omega
  ·split
   ·split<;>simp
   ·have:=Xy (n:=a.dS) ⟨by omega,by omega⟩;omega
end Go.Ft
namespace Go.Ft
open Go
attribute [local congr] fD
def okL(env:List aD)(l:List aU):Prop:=∀p∈l,(xF p env).2=0
def J_(env:List aD)(l:List aU):Str:=(l.map fun p=>(xF p env).1).flatten
theorem ahW(env:List aD)(ps:List aU)(t:Str):J_ env (AQ ps t)=J_ env ps++t:=by
 unfold AQ;split
 ·rename_i h;subst h;simp
 ·simp[J_,xF,RV]
theorem ajY(env:List aD)(ps:List aU)(t:Str):okL env (AQ ps t)↔okL env ps:=by
 unfold AQ;split
 ·exact Iff.rfl
 ·simp[okL,xF,RV,or_imp,forall_and]
theorem Zv{ps r:List aU}{t:Str}(h:gM ps t=some r):r=AQ ps t:=by
 unfold gM at h;unfold AQ;cases t with
 | nil=>exact(apG h).symm
 | cons c d=>
  rw[anN (aou (by simp only[an5];omega))]at h;rw[anG (by simp)];cases hap:app ps [aU.mk (c::d) false zeroE]with
  | none=>exact absurd h (by intro h;exact absurd (h.symm.trans hap) (by simp))
  | some x=>exact(apG (h.symm.trans hap)).trans (uo hap).2
end Go.Ft
namespace Go.Ft
open Go
attribute [local congr] fD
theorem afd(c:UInt8):(c/64).toNat<4:=by
 have:=c.toNat_lt;rw[UInt8.toNat_div];show c.toNat/64<4;omega
theorem akc{α:Type}(a b c d:α){n:Nat}(h:n<4):∃x,idx [a,b,c,d] (n:Int)=some x:=⟨_,gK (by simpa using h)⟩
theorem VI(s:List (BitVec 64))(c:UInt8):∃r,mY s c=some r:=by
 unfold mY;obtain⟨x,hx⟩:=akc (s.getD 0 0) (s.getD 1 0) (s.getD 2 0) (s.getD 3 0) (afd c);rw[hx];exact⟨_,rfl⟩
theorem XU(s:List (BitVec 64))(c:UInt8):∃r,rG s c=some r:=by
 unfold rG;obtain⟨x,hx⟩:=akc (s.getD 0 0) (s.getD 1 0) (s.getD 2 0) (s.getD 3 0) (afd c);rw[hx];exact⟨_,rfl⟩
theorem ahI(s:List (BitVec 64))(c:UInt8):∃r,uT s c=some r:=by
 unfold uT;obtain⟨x,hx⟩:=akc (s.getD 0 0) (s.getD 1 0) (s.getD 2 0) (s.getD 3 0) (afd c);rw[hx];exact⟨_,rfl⟩
theorem K5(b:Bool):∃r,yZ b=some r:=by
 unfold yZ;cases b with
 | true=>exact⟨_,rfl⟩
 | false=>
  simp only[aoC,anX];obtain⟨r,hr⟩:=XU ([18446744073709551615,18446744073709551615,18446744073709551615,18446744073709551615]:List (BitVec 64)) 47
  first
   | (rw[hr];exact⟨_,rfl⟩)
   | (simp only[hr];exact⟨_,rfl⟩)
theorem NR(c:UInt8):∃r,uU c=some r:=by
 unfold uU;obtain⟨r,hr⟩:=VI ([0,0,0,0]:List (BitVec 64)) c;rw[hr];exact⟨_,rfl⟩
theorem X6(s:Str)(hs:s.length<4611686018427387904):∃c n,BP s=some (c,((n:Nat):Int))∧n≤s.length∧n≤2:=by
 unfold BP;cases s with
 | nil=>exact⟨0,0,rfl,by simp,by simp⟩
 | cons a t=>
  have h0:idx (a::t) 0=some a:=by have:=gK (l:=a::t) (i:=0) (by simp);simpa using this
  cases t with
  | nil=>
   by_cases h1:(a.toNat:Int)=93
   ·exact⟨0,0,by simp[h0,h1],by simp,by simp⟩
   ·by_cases h2:(a.toNat:Int)=45
    ·exact⟨0,0,by simp[h0,h2],by simp,by simp⟩
    ·by_cases h3:(a.toNat:Int)=92
     ·exact⟨0,0,by simp[h0,h3],by simp,by simp⟩
     ·exact⟨a,1,by simp[h0,h1,h2,h3],by simp,by simp⟩
  | cons b t=>
   have h01:idx (a::b::t) 1=some b:=by have:=gK (l:=a::b::t) (i:=1) (by simp);simpa using this
   have hlt:¬((((a::b::t:Str)).length:Int)<2):=by simp;omega
   by_cases h1:(a.toNat:Int)=93
   ·exact⟨0,0,by simp[h0,h1],by simp,by simp⟩
   ·by_cases h2:(a.toNat:Int)=45
    ·exact⟨0,0,by simp[h0,h2],by simp,by simp⟩
    ·by_cases h3:(a.toNat:Int)=92
     ·exact⟨b,2,by simp[h0,h01,h3];omega,by simp,by simp⟩
     ·exact⟨a,1,by simp[h0,h1,h2,h3],by simp,by simp⟩
theorem X4(cZ n1:Int)(xV:UInt8)(n2:Int)(go:Int→List (BitVec 64)→Option (List (BitVec 64) × Int))(at2:Int)(P:List (BitVec 64) × Int→Prop)(hat:bq (bq (cZ+n1)+bq (1+n2))=at2)(hgo:∀o,∃r,go at2 o=some r∧P r):
  ∀(k c:Nat) (o:List (BitVec 64)),257<k+c→c≤256→∃r,rM cZ n1 xV n2 go k (c:Int) o=some r∧P r
 | 0,c,o,h,h'=>by omega
 | k+1,c,o,h,h'=>by
  rw[rM];by_cases hc:(c:Int)≤(xV.toNat:Int)
  ·obtain⟨y,hy⟩:=VI ([(o.getD 0 0),(o.getD 1 0),(o.getD 2 0),(o.getD 3 0)]:List (BitVec 64)) (Ft.byteOf (c:Int));have:=xV.toNat_lt;simp only[hc,ao8,anX,hy,aj];rw[iG (by omega)];exact X4 cZ n1 xV n2 go at2 P hat hgo k (c+1) _ (by omega) (by omega)
  ·simp only[hc,aoO,anL,anW,hat];exact hgo _
theorem X3(cZ:Int)(pQ:UInt8)(n1:Int)(go:Int→List (BitVec 64)→Option (List (BitVec 64) × Int))(at2:Int)(P:List (BitVec 64) × Int→Prop)(hat:bq (cZ+n1)=at2)(hgo:∀o,∃r,go at2 o=some r∧P r):
  ∀(k c:Nat) (o:List (BitVec 64)),257<k+c→c≤256→∃r,rJ cZ pQ n1 go k (c:Int) o=some r∧P r
 | 0,c,o,h,h'=>by omega
 | k+1,c,o,h,h'=>by
  rw[rJ];by_cases hc:(c:Int)≤(pQ.toNat:Int)
  ·obtain⟨y,hy⟩:=VI ([(o.getD 0 0),(o.getD 1 0),(o.getD 2 0),(o.getD 3 0)]:List (BitVec 64)) (Ft.byteOf (c:Int));have:=pQ.toNat_lt;simp only[hc,ao8,anX,hy,aj];rw[iG (by omega)];exact X3 cZ pQ n1 go at2 P hat hgo k (c+1) _ (by omega) (by omega)
  ·simp only[hc,aoO,anL,anW,hat];exact hgo _
def okn(s:Str)(r:List (BitVec 64) × Int):Prop:=∃n:Nat,r.2=(n:Int)∧n≤s.length
theorem J7{s:Str}(hs:s.length≤4096):∀(k a:Nat) (o:List (BitVec 64)),s.length<k+a→1≤a→a≤s.length→∃r,lU s k (a:Int) o=some r∧okn s r
 | 0,a,o,h,h1,h'=>by omega
 | k+1,a,o,h,h1,h'=>by
  rw[lU]
  have hb:∃b,(if ((a:Int)==1)=true then some true else if decide ((a:Int)<(s.length:Int))=true then av (idx s (a:Int)) fun x1=>some ((x1.toNat:Int) !=93)else some false)=some b:=by
   by_cases h2:((a:Int)==1)=true
   ·exact⟨true,by rw[anN h2]⟩
   ·rw[anG h2];by_cases h3:a<s.length
    ·rw[anN (by simpa using h3),gK h3];exact⟨_,rfl⟩
    ·rw[anG (by simpa using h3)];exact⟨_,rfl⟩
  obtain⟨b,hb⟩:=hb;rw[hb,aj];cases b with
  | true=>
   simp only[anX];rw[kS h',aj];obtain⟨c1,n1,hc1,hn1,hm1⟩:=X6 (s.drop a) (by simp;omega);rw[hc1,aB];simp only[ao5]at hn1;by_cases hz:n1=0
   ·subst hz;exact⟨_,by simp;rfl,⟨0,rfl,by omega⟩⟩
   ·have hz':(((n1:Nat):Int)==0)=false:=by rw[an7];omega
    have e1:bq ((a:Int)+(n1:Int))=((a+n1:Nat):Int):=by rw[qN (by omega)];omega
    rw[hz',e1];simp only[anL,anW]
    have hb3:∃b3,(if decide (((a+n1:Nat):Int)<(s.length:Int))=true then av (idx s ((a+n1:Nat):Int)) fun x3=>some ((x3.toNat:Int)==45)else some false)=some b3∧(b3=true→a+n1<s.length):=by
     by_cases h3:a+n1<s.length
     ·rw[anN (by simp;omega),gK h3];exact⟨_,rfl,fun _=>h3⟩
     ·rw[anG (by simp;omega)];exact⟨_,rfl,fun h=>by cases h⟩
    obtain⟨b3,hb3,hlt⟩:=hb3;rw[hb3,aj];cases b3 with
    | true=>
     have hlt:=hlt rfl;simp only[anX];have e2:bq (((a+n1:Nat):Int)+1)=((a+n1+1:Nat):Int):=iG (by omega);rw[e2,kS (by omega),aj];obtain⟨c2,n2,hc2,hn2,hm2⟩:=X6 (s.drop (a+n1+1)) (by simp;omega);rw[hc2,aB];simp only[ao5]at hn2;by_cases hbad:((((n2:Nat):Int)==0)||(decide ((c2.toNat:Int)<(c1.toNat:Int))))=true
     ·rw[anN hbad];exact⟨_,rfl,⟨0,rfl,by omega⟩⟩
     ·rw[anG hbad];have:=c1.toNat_lt;refine X4 (a:Int) (n1:Int) c2 (n2:Int) (lU s k) ((a+n1+1+n2:Nat):Int) (okn s) ?_ (fun o=>?_) BIG c1.toNat _ (by have:=dX;omega) (by omega)
      ·rw[e1,qN (n:=1+(n2:Int)) (by omega),qN (by omega)];omega
      ·exact J7 hs k (a+n1+1+n2) o (by omega) (by omega) (by omega)
    | false=>
     simp only[anL,anW];have:=c1.toNat_lt;refine X3 (a:Int) c1 (n1:Int) (lU s k) ((a+n1:Nat):Int) (okn s) e1 (fun o=>?_) BIG c1.toNat _ (by have:=dX;omega) (by omega);exact J7 hs k (a+n1) o (by omega) (by omega) (by omega)
  | false=>
   simp only[anL,anW];by_cases h3:(s.length:Int)≤(a:Int)
   ·rw[anN (by simpa using h3)];exact⟨_,rfl,⟨0,rfl,by omega⟩⟩
   ·rw[anG (by simpa using h3)];obtain⟨y,hy⟩:=XU ([(o.getD 0 0),(o.getD 1 0),(o.getD 2 0),(o.getD 3 0)]:List (BitVec 64)) 47;rw[hy,aj,iG (by omega)];exact⟨_,rfl,⟨a+1,rfl,by omega⟩⟩
theorem acy{s:Str}(hs:s.length≤4096)(hne:s≠[]):∃e n,Cq s=some (e,((n:Nat):Int))∧n≤s.length:=by
 cases s with
 | nil=>exact absurd rfl hne
 | cons a t=>
  have h0:idx (a::t) 0=some a:=by have:=gK (l:=a::t) (i:=0) (by simp);simpa using this
  unfold Cq;rw[h0,aj];by_cases h1:((a.toNat:Int)==42)=true
  ·rw[anN h1];cases t with
   | nil=>
    obtain⟨r,hr⟩:=K5 false;exact⟨_,1,by simp[hr];rfl,by simp⟩
   | cons b t=>
    have h01:idx (a::b::t) 1=some b:=by have:=gK (l:=a::b::t) (i:=1) (by simp);simpa using this
    obtain⟨r,hr⟩:=K5 false;obtain⟨q,hq⟩:=K5 true;by_cases h2:(b.toNat:Int)=42
    ·have hlen:(1:Int)<(t.length:Int)+1+1:=by omega
     exact⟨_,2,by simp[h01,h2,hq,hlen];rfl,by simp⟩
    ·have hlen:(1:Int)<(t.length:Int)+1+1:=by omega
     exact⟨_,1,by simp[h01,h2,hr,hlen];rfl,by simp⟩
  ·rw[anG h1];by_cases h2:((a.toNat:Int)==63)=true
   ·rw[anN h2];obtain⟨r,hr⟩:=K5 false;exact⟨_,1,by simp[hr];rfl,by simp⟩
   ·rw[anG h2];by_cases h3:((a.toNat:Int)==91)=true
    ·rw[anN h3];unfold EZ;obtain⟨⟨o,m⟩,hr,n,hn,hle⟩:=J7 (s:=a::t) hs BIG 1 ([0,0,0,0]:List (BitVec 64)) (by have:=dX;omega) (aod _) (by simp);rw[show ((1:Nat):Int)=1 from rfl]at hr;simp only at hn;subst hn;rw[hr,aB];exact⟨_,n,rfl,hle⟩
    ·rw[anG h3];by_cases h4:((a.toNat:Int)==92)=true
     ·rw[anN h4];cases t with
      | nil=>exact⟨_,0,by simp;rfl,by simp⟩
      | cons b t=>
       have h01:idx (a::b::t) 1=some b:=by have:=gK (l:=a::b::t) (i:=1) (by simp);simpa using this
       obtain⟨r,hr⟩:=NR b;rw[anG (by simp;omega),h01,aj,hr,aj];exact⟨_,2,rfl,by simp⟩
     ·rw[anG h4];obtain⟨r,hr⟩:=NR a;rw[aj,hr,aj];exact⟨_,1,rfl,by simp⟩
theorem PZ:∀(k:Nat) (p:Str) (l:List bA),p.length<k→p.length≤4096→l.length+p.length≤4096→∃r e,rH k p l=some (r,e)∧r.length≤4096
 | 0,p,l,h,_,_=>by omega
 | k+1,p,l,h,h1,h2=>by
  rw[rH];by_cases hp:p=[]
  ·subst hp;exact⟨l,0,by simp,by omega⟩
  ·obtain⟨e,n,hf,hn⟩:=acy h1 hp;have hpl:0<p.length:=aoH.2 hp;rw[anN (by simpa using hp),hf,aB];by_cases hz:n=0
   ·subst hz;exact⟨[],5,by simp,by simp⟩
   ·rw[anG (by simpa using hz),aT (by simp only[apo,w9];omega),aj,kS hn,aj];exact PZ k (p.drop n) _ (by simp;omega) (by simp;omega) (by simp;omega)
theorem TL(p:Str):∃r e,yY p=some (r,e)∧r.length≤4096:=by
 unfold yY;by_cases h:4096<(p.length:Int)
 ·exact⟨[],3,by simp[h],by simp⟩
 ·simp only[h,aoO,anL,anW];exact PZ BIG p [] (by have:=dX;omega) (by omega) (by simp;omega)
end Go.Ft
namespace Go.Ft
open Go
attribute [local congr] fD
theorem Tk{l:List bA}(hl:l.length≤4096):∀(k i:Nat) (a:List Bool),l.length<k+i→i≤l.length→a.length=l.length+1→∃r,uS l k (i:Int) a=some r∧r.length=l.length+1
 | 0,i,a,h,h',_=>by omega
 | k+1,i,a,h,h',ha=>by
  rw[uS];by_cases hi:i<l.length
  ·rw[gK hi];simp only[show ((i:Int)<(l.length:Int))from by omega,ao8,anX,aj];rw[iG (by omega),gK (show i+1<a.length by omega),aj,gK (show i<a.length by omega)]
   have hb:∃b,(if a[i+1]'(by omega)=true then some true else av (some (a[i]'(by omega))) fun b2=>some (b2&&l[i].many))=some b:=by
    split
    ·exact⟨_,rfl⟩
    ·exact⟨_,rfl⟩
   obtain⟨b,hb⟩:=hb;rw[hb,aj];exact Tk hl k (i+1) _ (by omega) (by omega) (by simp[ha])
  ·exact⟨a,by simp[show ¬((i:Int)<(l.length:Int))from by omega],ha⟩
theorem WM{l:List bA}(hl:l.length≤4096){a:List Bool}(ha:a.length=l.length+1):∃r,BO l a=some r∧r.length=l.length+1:=by
 unfold BO;simpa using Tk hl BIG 0 a (by have:=dX;omega) (by omega) ha
theorem Um{n:Nat}(hn:n≤4096):K7 (bq ((n:Int)+1))=some (List.replicate (n+1) false):=by
 unfold K7;rw[iG (by omega),anN ⟨by omega,by omega⟩];simp
theorem K8{l:List bA}{s:Str}(hl:l.length≤4096)(hs:s.length<4611686018427387904){i:Nat}(hi:i<s.length){a:List Bool}(ha:a.length=l.length+1)(go:Int→List Bool→Option Bool)(hgo:∀a:List Bool,a.length=l.length+1→∃r,go ((i+1:Nat):Int) a=some r):
  ∀(k j:Nat) (nx:List Bool),l.length<k+j→j≤l.length→nx.length=l.length+1→∃r,nE l s (i:Int) a go k (j:Int) nx=some r
 | 0,j,nx,h,h',_=>by omega
 | k+1,j,nx,h,h',hn=>by
  rw[nE];by_cases hj:j<l.length
  ·rw[gK hj];simp only[show ((j:Int)<(l.length:Int))from by omega,ao8,anX,aj];rw[gK (show j<a.length by omega),aj,gK hi];obtain⟨b2,hb2⟩:=ahI l[j].set s[i]
   have hb:∃b,(if (!a[j]'(by omega))=true then some true else av (some s[i]) fun c1=>av (uT l[j].set c1) fun b2=>some (!b2))=some b:=by
    split
    ·exact⟨_,rfl⟩
    ·rw[aj,hb2];exact⟨_,rfl⟩
   obtain⟨b,hb⟩:=hb;rw[hb,aj];have e1:bq ((j:Int)+1)=((j+1:Nat):Int):=iG (by omega);split
   ·rw[e1];exact K8 hl hs hi ha go hgo k (j+1) nx (by omega) (by omega) hn
   ·split
    ·rw[gK (show j<nx.length by omega),aj,e1];exact K8 hl hs hi ha go hgo k (j+1) _ (by omega) (by omega) (by simp[hn])
    ·rw[e1,gK (show j+1<nx.length by omega),aj];exact K8 hl hs hi ha go hgo k (j+1) _ (by omega) (by omega) (by simp[hn])
  ·obtain⟨r,hr,hrl⟩:=WM hl hn;simp only[show ¬((j:Int)<(l.length:Int))from by omega,aoO,anL,anW,hr,aj];rw[iG (by omega)];exact hgo r hrl
theorem Xn{l:List bA}{s:Str}(hl:l.length≤4096)(hs:s.length<4611686018427387904):∀(k i:Nat) (a:List Bool),s.length<k+i→i≤s.length→a.length=l.length+1→∃r,nG l s k (i:Int) a=some r
 | 0,i,a,h,h',_=>by omega
 | k+1,i,a,h,h',ha=>by
  rw[nG];by_cases hi:i<s.length
  ·simp only[show ((i:Int)<(s.length:Int))from by omega,ao8,anX,Um hl,aj];simpa using K8 hl hs hi ha (nG l s k) (fun a ha=>Xn hl hs k (i+1) a (by omega) (by omega) ha) BIG 0 (List.replicate (l.length+1) false) (by have:=dX;omega) (by omega) (by simp)
  ·simp only[show ¬((i:Int)<(s.length:Int))from by omega,aoO,anL,anW];rw[gK (show l.length<a.length by omega)];exact⟨_,rfl⟩
theorem TN(p:Str){s:Str}(hs:s.length<4611686018427387904):∃r,za p s=some r:=by
 unfold za;obtain⟨l,e,h1,hl⟩:=TL p;rw[h1,aB];split
 ·exact⟨_,rfl⟩
 ·rw[Um hl,aj]
  have h0:idx (List.replicate (l.length+1) false) 0=some false:=by
   have:=gK (l:=List.replicate (l.length+1) false) (i:=0) (by simp);simpa using this
  rw[h0,aj,aj];obtain⟨r,hr,hrl⟩:=WM hl (a:=(List.replicate (l.length+1) false).set (Int.toNat 0) true) (by simp);rw[hr,aj];simpa using Xn hl hs BIG 0 r (by have:=dX;omega) (by omega) hrl
theorem Rf{l:List Str}{s:Str}(hl:l.length≤4096)(hs:s.length<4611686018427387904)(hp:∀p∈l,p.length<4611686018427387904):∀(k i:Nat),i<k→i≤l.length→∃r,tQ l s k ((i:Int)-1)=some r
 | 0,i,h,h'=>by omega
 | k+1,i,h,h'=>by
  rw[tQ];cases i with
  | zero=>exact⟨false,by simp⟩
  | succ j=>
   have hj:j<l.length:=by omega
   have e0:((j+1:Nat):Int)-1=(j:Int):=by omega
   have e1:bq ((j:Int)-1)=(j:Int)-1:=qN (by omega);rw[e0,gK hj];simp only[show ((0:Int)≤(j:Int))from by omega,ao8,anX,aj]
   have hb:∃b,(if (!l[j]==([]:Str))=true then av (idx l[j] 0) fun x1=>some ((x1.toNat:Int)==33)else some false)=some b∧(b=true→1≤l[j].length):=by
    cases hq:l[j]with
    | nil=>exact⟨false,by simp,fun h=>by cases h⟩
    | cons c t=>
     have h0:idx (c::t) 0=some c:=by have:=gK (l:=c::t) (i:=0) (by simp);simpa using this
     exact⟨_,by simp[h0];rfl,fun _=>by simp⟩
   obtain⟨b,hb,hb1⟩:=hb;rw[hb,aj,e1];cases b with
   | true=>
    have e2:=kS (s:=l[j]) (i:=1) (hb1 rfl);rw[show ((1:Nat):Int)=1 from rfl]at e2;obtain⟨r,hr⟩:=TN (l[j].drop 1) hs;simp only[anX,e2,aj,hr];split
    ·exact⟨_,rfl⟩
    ·exact Rf hl hs hp k j (by omega) (by omega)
   | false=>
    obtain⟨r,hr⟩:=TN l[j] hs;simp only[anL,anW,hr,aj];split
    ·exact⟨_,rfl⟩
    ·exact Rf hl hs hp k j (by omega) (by omega)
theorem aia{l:List Str}{s:Str}(hl:l.length≤4096)(hs:s.length<4611686018427387904)(hp:∀p∈l,p.length<4611686018427387904):∃r,Ct l s=some r:=by
 unfold Ct;rw[qN (by omega)];exact Rf hl hs hp BIG l.length (by have:=dX;omega) (aod _)
end Go.Ft
namespace Go.Ft
open Go
attribute [local congr] fD
theorem Tw(a b c:BitVec 32):∃r,yx a b c=some r:=⟨_,rfl⟩
theorem Qg(key:BitVec 64):∀(k i:Nat) (a b:BitVec 32),4<k+i→i≤4→∃r,pR key k a b (i:Int)=some r
 | 0,i,a,b,h,h'=>by omega
 | k+1,i,a,b,h,h'=>by
  rw[pR];by_cases hi:(i:Int)<4
  ·rw[anN (by simpa using hi),iG (by omega)];split
   ·obtain⟨x,hx⟩:=Tw b (BitVec.setWidth 32 (key >>> 32)) (BitVec.ofInt 32 ((i+1:Nat):Int));rw[hx,aj];exact Qg key k (i+1) _ _ (by omega) (by omega)
   ·obtain⟨x,hx⟩:=Tw b (BitVec.setWidth 32 key) (BitVec.ofInt 32 ((i+1:Nat):Int));rw[hx,aj];exact Qg key k (i+1) _ _ (by omega) (by omega)
  ·rw[anG (by simpa using hi)];exact⟨_,rfl⟩
theorem aaJ(key x:BitVec 64):∃r,zm key x=some r:=by
 unfold zm;simpa using Qg key BIG 0 _ _ (by have:=dX;omega) (by omega)
theorem al5(b:List UInt8):(if (b.length:Int)<8 then (b.length:Int)else 8)=((min b.length 8:Nat):Int):=by
 split<;>omega
theorem adX(b:List UInt8)(x:BitVec 64)(c:List UInt8)(hc:c.length≤8)(go:List UInt8→BitVec 64→Option (BitVec 64))(hgo:∀x,∃r,go (b.drop (min b.length 8)) x=some r):
  ∀(k i:Nat) (g:BitVec 64),c.length<k+i→i≤c.length→∃r,rO b x c go k g (i:Int)=some r
 | 0,i,g,h,h'=>by omega
 | k+1,i,g,h,h'=>by
  rw[rO];by_cases hi:i<c.length
  ·have h8:bq (8*(i:Int))=8*(i:Int):=qN (by omega);rw[anN (by simpa using hi),gK hi,aj,h8,iG (by omega),show OV (decide (0≤8*(i:Int)))=some ()from by rw[aou (by omega)];rfl,aj,aj];exact adX b x c hc go hgo k (i+1) _ (by omega) (by omega)
  ·rw[anG (by simpa using hi)];obtain⟨m,hm⟩:=aaJ g x;rw[hm,aj,al5,kS (by omega),aj];exact hgo _
theorem adY:∀(k:Nat) (b:List UInt8) (x:BitVec 64),b.length<k→b.length≤1048576→∃r,nH k b x=some r
 | 0,b,x,h,_=>by omega
 | k+1,b,x,h,hb=>by
  rw[nH];by_cases hi:0<(b.length:Int)
  ·rw[anN (by simpa using hi),al5,Pn (by omega),aj];simpa using adX b x (b.take (min b.length 8)) (by simp;omega) (nH k) (fun x=>adY k _ x (by simp;omega) (by simp;omega)) BIG 0 0 (by have:=dX;simp;omega) (by omega)
  ·rw[anG (by simpa using hi)];exact⟨_,rfl⟩
theorem aas{b:List UInt8}(hb:b.length≤1048576):∃r,t_ b=some r:=by
 unfold t_;obtain⟨m,hm⟩:=aaJ (BitVec.ofInt 64 (b.length:Int)) 0;rw[hm,aj];exact adY BIG b m (by have:=dX;omega) hb
theorem aiI(x2:Nat)(hx2:x2<1000)(d:BitVec 64)(go:List UInt8→Int→Option (BitVec 64))(N:Nat)(hN:N≤1000000)(hgo:∀b:List UInt8,b.length=N→∃r,go b ((x2+1:Nat):Int)=some r):
  ∀(k i:Nat) (b:List UInt8),8<k+i→i≤8→b.length+(8-i)=N→∃r,uX (x2:Int) d go k b (i:Int)=some r
 | 0,i,b,h,h',_=>by omega
 | k+1,i,b,h,h',hb=>by
  rw[uX];by_cases hi:(i:Int)<8
  ·have h8:bq (8*(i:Int))=8*(i:Int):=qN (by omega);rw[anN (by simpa using hi),h8,iG (by omega),show OV (decide (0≤8*(i:Int)))=some ()from by rw[aou (by omega)];rfl,aj,aT (by simp only[apo,w9];omega),aj];exact aiI x2 hx2 d go N hN hgo k (i+1) _ (by omega) (by omega) (by simp;omega)
  ·rw[anG (by simpa using hi),iG (by omega)];exact hgo b (by omega)
theorem aiJ{parts:List (BitVec 64)}(hp:parts.length≤100):∀(k i:Nat) (b:List UInt8),parts.length<k+i→i≤parts.length→b.length+8*(parts.length-i)≤100000→∃r,pE parts k b (i:Int)=some r
 | 0,i,b,h,h',_=>by omega
 | k+1,i,b,h,h',hb=>by
  rw[pE];by_cases hi:i<parts.length
  ·rw[anN (by simpa using hi),gK hi,aj];simpa using aiI i (by omega) parts[i] (pE parts k) (b.length+8) (by omega) (fun b' hb'=>aiJ hp k (i+1) b' (by omega) (by omega) (by omega)) BIG 0 b (by have:=dX;omega) (by omega) (by omega)
  ·rw[anG (by simpa using hi)];exact aas (by omega)
theorem ajZ{parts:List (BitVec 64)}(hp:parts.length≤100):∃r,zl ([102,105,108,101,115]:Str) parts=some r:=by
 unfold zl;rw[aT (by decide),aj,aT (by decide),aj];simpa using aiJ hp BIG 0 _ (by have:=dX;omega) (by omega) (by simp;omega)
def ZL(ps:List Str)(f:aP):Bool:=(Ct ps f.path).getD false
def ag2(s:Str):BitVec 64:=(t_ s).getD 0
def JL(fs:List aP):List (BitVec 64):=fs.flatMap fun f=>[ag2 f.path,f.digest]
def short(fs:List aP):Prop:=fs.length≤20∧∀f∈fs,f.path.length≤120
def few(ps:List Str):Prop:=ps.length≤10∧∀p∈ps,p.length≤60
theorem any_eq{ps:List Str}(hp:few ps){f:aP}(hf:f.path.length≤120):Ct ps f.path=some (ZL ps f):=by
 obtain⟨r,hr⟩:=aia (l:=ps) (s:=f.path) (by have:=hp.1;omega) (by omega) (fun p h=>by have:=hp.2 p h;omega);unfold ZL;rw[hr];rfl
theorem ajz{s:Str}(h:s.length≤120):t_ s=some (ag2 s):=by
 obtain⟨r,hr⟩:=aas (b:=s) (by omega);unfold ag2;rw[hr];rfl
theorem Y7(fs:List aP):(JL fs).length=2*fs.length:=by
 induction fs with
 | nil=>rfl
 | cons f fs ih=>simp only[JL,List.flatMap_cons,apx,an5,aoS]at ih⊢;omega
theorem DI{fs:List aP}{ps:List Str}(hf:short fs)(hp:few ps):∀(k i:Nat) (s:List (BitVec 64)),fs.length<k+i→i≤fs.length→s.length≤2*i→
  jl mM fs ps k s (i:Int)=some (s++JL ((fs.drop i).filter (ZL ps)))
 | 0,i,s,h,h',_=>by omega
 | k+1,i,s,h,h',hs=>by
  rw[jl];by_cases hi:i<fs.length
  ·have hm:=hf.2 _ (aol hi);have hl:=hf.1;rw[anN (by simpa using hi),gK hi,aj,any_eq hp hm,aj,iG (by omega),an0 hi];cases ha:ZL ps fs[i]with
   | true=>
    have hy:mM s fs[i]=some (true,s++[ag2 fs[i].path,fs[i].digest]):=by
     unfold mM;rw[aT (by simp only[aoS,w9];omega),apa,aj,ajz hm,aj,aT (by simp only[an5,aoS,w9];omega),aj]
    rw[anN rfl,List.filter_cons_of_pos ha,hy,aB];simp only[aot,anL,anW];refine(DI hf hp k (i+1) _ (by omega) (by omega) (by simp;omega)).trans ?_;simp[JL]
   | false=>
    rw[anG (by simp),List.filter_cons_of_neg (by simp[ha])];exact DI hf hp k (i+1) s (by omega) (by omega) (by omega)
  ·rw[anG (by simpa using hi),aob (by omega)];simp[JL]
theorem hash_eq{fs:List aP}{ps:List Str}(hf:short fs)(hp:few ps):nI fs ps=zl ([102,105,108,101,115]:Str) (JL (fs.filter (ZL ps))):=by
 unfold nI sw;have:=DI hf hp BIG 0 [] (by have:=dX;have:=hf.1;omega) (by omega) (by simp);rw[show ((0:Nat):Int)=0 from rfl]at this;rw[this,aj,apa,aoV]
theorem UM{fs:List aP}(hf:short fs)(p:aP→Bool):short (fs.filter p):=
 ⟨apA (List.length_filter_le _ _) hf.1,fun f h=>hf.2 f (List.mem_filter.1 h).1⟩
theorem PY{fs:List aP}(hl:fs.length≤1048576):∀(k i:Nat),20<k+i→i≤20→i≤fs.length→(∀f∈fs.take i,f.path.length≤120)→∃b,uP fs k (i:Int)=some b∧(b=true→short fs)
 | 0,i,h,_,_,_=>by omega
 | k+1,i,h,h1,h2,hp=>by
  rw[uP];by_cases hi:i<fs.length∧i<20
  ·rw[anN (by simp;omega),gK hi.1,aj];by_cases hg:120<(fs[i].path.length:Int)
   ·exact⟨false,by rw[anN (by simpa using hg)],fun h=>by cases h⟩
   ·rw[anG (by simpa using hg),iG (by omega)];refine PY hl k (i+1) (by omega) (by omega) (by omega) fun f hf=>?_;rw[ao6 hi.1]at hf;rcases aoZ.1 hf with hf|hf
    ·exact hp f hf
    ·simp at hf;subst hf;omega
  ·rw[anG (by simp;omega)];refine⟨_,rfl,fun hb=>?_⟩;have hb:fs.length≤20:=by simp at hb;omega
   have:i=fs.length:=by omega
   subst this;rw[List.take_length]at hp;exact⟨hb,hp⟩
theorem Jf{ps:List Str}(hl:ps.length≤1048576):∀(k i:Nat),10<k+i→i≤10→i≤ps.length→(∀p∈ps.take i,p.length≤60)→∃b,oH ps k (i:Int)=some b∧(b=true→few ps)
 | 0,i,h,_,_,_=>by omega
 | k+1,i,h,h1,h2,hp=>by
  rw[oH];by_cases hi:i<ps.length∧i<10
  ·rw[anN (by simp;omega),gK hi.1,aj];by_cases hg:60<(ps[i].length:Int)
   ·exact⟨false,by rw[anN (by simpa using hg)],fun h=>by cases h⟩
   ·rw[anG (by simpa using hg),iG (by omega)];refine Jf hl k (i+1) (by omega) (by omega) (by omega) fun f hf=>?_;rw[ao6 hi.1]at hf;rcases aoZ.1 hf with hf|hf
    ·exact hp f hf
    ·simp at hf;subst hf;omega
  ·rw[anG (by simp;omega)];refine⟨_,rfl,fun hb=>?_⟩;have hb:ps.length≤10:=by simp at hb;omega
   have:i=ps.length:=by omega
   subst this;rw[List.take_length]at hp;exact⟨hb,hp⟩
end Go.Ft
namespace Go.Ft
open Go
attribute [local congr] fD
def CO(env:List aD):Prop:=env.length≤1048576∧∀d∈env,d.name.length≤1048576∧d.value.bulk≤1048576
theorem ajG{p:aU}{env:List aD}(hp:Oc p)(hS:CO env):qV p env=some (xF p env)∧(xF p env).1.length≤4096:=by
 unfold qV xF;cases hi:p.is_ with
 | false=>exact⟨by simp only[aoC,anX],by rw[anN rfl];exact(hp.2 hi).2.2⟩
 | true=>
  rw[anG (by simp),anG (by simp)];obtain⟨a,g⟩:=Z6 (e:=p.expr) (env:=env) (by have:=(hp.1 hi).2.2;omega) (by have:=hS.1;omega) (fun d hd=>by have:=hS.2 d hd;omega);rw[a,IU];by_cases h0:(G9 p.expr env).2=0
  ·obtain⟨v,w⟩:=ae9 g;rw[anG (by simp[h0]),anG (by simp[h0]),(S9 v (by omega)).1];refine⟨rfl,?_⟩;split
   ·simp
   ·exact agQ v
  ·rw[anN (by simpa using h0),anN h0];exact⟨rfl,by simp⟩
theorem amB{env:List aD}{l:List aU}(hS:CO env)(hg:∀p∈l,Oc p)(hl:l.length≤10000):∀(n i k:Nat) (out:Str),l.length+1≤n+i→n<k→i≤l.length→out.length≤4096*i→
  ∃X:Str × Int,nM env l k (i:Int) out=some X∧(okL env (l.drop i)→(out++J_ env (l.drop i)).length≤4096→X=(out++J_ env (l.drop i),0)):=by
 intro n
 induction n with
 | zero=>intro i k out h1 h2 h4;omega
 | succ n ih=>
  intro i k out h1 h2 h4 h5;obtain⟨k,rfl⟩:∃m,k=m+1:=⟨k-1,by omega⟩;have hL:w9=4294967296:=rfl;rw[nM];by_cases hi:i<l.length
  ·obtain⟨pp,ao3⟩:=ajG (hg l[i] (aol hi)) hS;rw[anN (by simpa using hi)];simp only[gK hi,aj];rw[pp,IU];have w1:bq ((i:Int)+1)=((i+1:Nat):Int):=iG (by omega);rw[an0 hi];have ec:J_ env (l[i]::l.drop (i+1))=(xF l[i] env).1++J_ env (l.drop (i+1)):=by unfold J_;rw[aor,List.flatten_cons]
   by_cases h0:(xF l[i] env).2=0
   ·rw[anG (by simp[h0]),aT (by omega),aj,w1];obtain⟨X,q1,q3⟩:=ih (i+1) k (out++(xF l[i] env).1) (by omega) (by omega) (by omega) (by simp;omega);refine⟨X,q1,fun hok hlt=>?_⟩;rw[ec]at hlt⊢;rw[q3 (fun p hp=>hok p (List.mem_cons_of_mem _ hp)) (by rw[apC];exact hlt),apC]
   ·rw[anN (by simpa using h0)];exact⟨_,rfl,fun hok _=>absurd (hok _ (List.mem_cons_self ..)) h0⟩
  ·have e1:decide ((i:Int)<(l.length:Int))=false:=aoG (by omega);simp only[e1,anL,anW];have ed:l.drop i=[]:=apD (by omega);rw[ed];have ec:J_ env ([]:List aU)=[]:=rfl;rw[ec,List.append_nil];split
   ·rename_i h;exact⟨_,rfl,fun _ hlt=>absurd (of_decide_eq_true h) (by omega)⟩
   ·exact⟨_,rfl,fun _ _=>rfl⟩
theorem amC{env:List aD}(hS:CO env):Cw env=some (Ad env):=(aa5 (env:=env) (by have:=hS.1;omega) (fun d hd=>by have:=hS.2 d hd;omega)).1
theorem ahO(s:Str){env:List aD}(hS:CO env):∃X,lQ s env=some X:=by
 obtain⟨l,a,c,h1,_,h3,h4,_⟩:=parts_eq s;unfold lQ;rw[h1,aC,amC hS];split
 ·exact⟨_,rfl⟩
 ·rw[aj];split
  ·exact⟨_,rfl⟩
  ·obtain⟨X,q,_⟩:=amB hS h3 h4 (l.length+1) 0 BIG [] (by omega) (by have:=dX;omega) (aoN _) (by simp);exact⟨X,by simpa using q⟩
theorem aaZ{s:Str}{l:List aU}{a:Int}{env:List aD}(hS:CO env)(hp:jy s=some (l,a,0))(hv:Ad env=0)(hok:okL env l)(hlen:(J_ env l).length≤4096):lQ s env=some (J_ env l,0):=by
 obtain⟨l',a',c',h1,_,h3,h4,_⟩:=parts_eq s;rw[hp]at h1;simp only[aoq,Prod.mk.injEq]at h1;obtain⟨rfl,_,_⟩:=h1;unfold lQ;rw[hp,aC,amC hS,hv];simp only[Qc,anL,anW,aj];obtain⟨X,q,q2⟩:=amB hS h3 h4 (l.length+1) 0 BIG [] (by omega) (by have:=dX;omega) (aoN _) (by simp);rw[show ((0:Nat):Int)=0 from rfl]at q;rw[q,q2 (by simpa using hok) (by simpa using hlen)];simp
theorem U2{s:Str}(hs:s.length≤4096)(hn:∀c∈s,c≠36):∀(k i:Nat) (text:Str) (l:List aU) (a:Int),i≤s.length→h_ s k (i:Int) [] text=some (l,a,0)→l=AQ [] (text++s.drop i):=by
 intro k
 induction k with
 | zero=>intro i text l a _ h;simp[h_]at h
 | succ k ih=>
  intro i text l a hil h;rw[h_]at h;by_cases hi:i<s.length
  ·have e1:decide ((i:Int)<(s.length:Int))=true:=aou (by omega);have w1:bq ((i:Int)+1)=((i+1:Nat):Int):=iG (by omega);have hc:(s[i]==36)=false:=by rw[an7];exact hn _ (aol hi)
   simp only[e1,anX,gK hi,aj]at h;rw[kS (by omega),aj,ahj s i hi (by omega),ahj s i hi (by omega),aj,aj,hc,w1]at h;simp only[aoY,anL,anW]at h;cases hap:app text [s[i]]with
   | none=>rw[hap]at h;cases h
   | some tx=>
    rw[hap,aj]at h;rw[ih (i+1) tx l a (by omega) h,(uo hap).2,an0 hi];simp
  ·have e1:decide ((i:Int)<(s.length:Int))=false:=aoG (by omega);simp only[e1,anL,anW]at h;cases hf:gM [] text with
   | none=>rw[hf]at h;cases h
   | some p2=>
    rw[hf,aj]at h;simp only[aoq,Prod.mk.injEq]at h;rw[←h.1,Zv hf,apD (by omega),List.append_nil]
theorem Sl{s:Str}{env:List aD}(hS:CO env)(hs:s.length≤4096)(hn:∀c∈s,c≠36){l:List aU}{a:Int}(hp:jy s=some (l,a,0))(hv:Ad env=0):lQ s env=some (s,0):=by
 have p1:=hp;unfold jy at p1;rw[anG (by simp;omega)]at p1;have e:=U2 hs hn BIG 0 [] l a (aoN _) p1;rw[aoV,apa]at e;have ec:J_ env l=s:=by rw[e,ahW];simp[J_]
 have:=aaZ hS hp hv (by rw[e,ajY];intro p h;cases h) (by rw[ec];exact hs);rw[ec]at this;exact this
theorem nib(d:BitVec 64):(d &&& (15:BitVec 64)).toNat<16:=by
 rw[BitVec.toNat_and];exact Nat.lt_of_le_of_lt Nat.and_le_right (by decide)
theorem S_(d:BitVec 64):∀(k i:Nat) (b:List UInt8),16<k+i→i≤16→∃t,qx d k (i:Int) b=some t∧t.length=16
 | 0,i,b,h,h'=>by omega
 | k+1,i,b,h,h'=>by
  rw[qx];by_cases hi:i<16
  ·have h1:bq (4*(i:Int))=4*(i:Int):=qN (by omega);have h2:bq (60-4*(i:Int))=60-4*(i:Int):=qN (by omega);rw[anN (by simp;omega),h1,h2,show OV (decide (0≤60-4*(i:Int)))=some ()from by rw[aou (by omega)];rfl,aj,aj,gK (nib _),aj,gK (by simpa using hi),aj,aj,iG (by omega)];exact S_ d k (i+1) _ (by omega) (by omega)
  ·rw[anG (by simp;omega)];exact⟨_,rfl,rfl⟩
theorem adU(d:BitVec 64):∃t,pz d=some t∧t.length=16:=by
 unfold pz;have:=S_ d BIG 0 ([0,0,0,0,0,0,0,0,0,0,0,0,0,0,0,0]:List UInt8) (by have:=dX;omega) (by omega);simpa using this
def wH(t:Str):aD:=aD.mk ([102,105,108,101,115]:Str) (ah.mk 3 false 0 t [] [])
theorem XL(t:Str)(h:t.length=16):(wH t).value.bulk≤100:=by
 unfold wH;rw[ah.kW,ah.pF];simp[h]
theorem J3(t:Str)(h:t.length=16):Ad [wH t]=0:=by
 unfold Ad;rw[anG (by simp)];unfold Hq;have hp:jv ([102,105,108,101,115]:Str)=true:=by decide +kernel
 have hc:uw (ah.mk 3 false 0 t [] []) 1=0:=by
  unfold uw lV pK;simp[h,Au]
 simp[wH,hp,hc,Hq]
theorem Gd(t:Str)(h:t.length=16){env:List aD}(hS:env.length≤1000∧∀d∈env,d.name.length≤1048576∧d.value.bulk≤1048576):CO (env++[wH t]):=by
 refine⟨by simp;omega,fun d hd=>?_⟩;rcases aoZ.1 hd with hd|hd
 ·exact hS.2 d hd
 ·simp only[aoX]at hd;subst hd;have:=XL t h;exact⟨by simp[wH],by omega⟩
theorem aeP:jy ([107,45,36,123,102,105,108,101,115,125]:Str)=some ([aU.mk [107,45] false (au.mk 0 [] (ah.mk 0 false 0 [] [] []) [] []),aU.mk [] true (au.mk 2 ([102,105,108,101,115]:Str) (ah.mk 0 false 0 [] [] []) [] [])],0,0):=by kernel_rfl
theorem ahG(t:Str)(h:t.length=16):lQ ([107,45,36,123,102,105,108,101,115,125]:Str) [wH t]=some ([107,45]++t,0):=by
 have hS:CO [wH t]:=Gd t h (env:=[]) ⟨by simp,by simp⟩;have hx:xval (au.mk 2 ([102,105,108,101,115]:Str) (ah.mk 0 false 0 [] [] []) [] [])=0:=by decide +kernel
 have e2:G9 (au.mk 2 ([102,105,108,101,115]:Str) (ah.mk 0 false 0 [] [] []) [] []) [wH t]=okV (ah.mk 3 false 0 t [] []):=by
  unfold G9;rw[anG (by rw[J3 t h];simp),anG (by rw[hx];simp),Zx,anG (by simp),anN rfl];simp[Lh,wH,okV]
 have q2:xF (aU.mk [] true (au.mk 2 ([102,105,108,101,115]:Str) (ah.mk 0 false 0 [] [] []) [] [])) [wH t]=(t,0):=by
  unfold xF;rw[e2];simp[okV,RU]
 have q1:xF (aU.mk [107,45] false (au.mk 0 [] (ah.mk 0 false 0 [] [] []) [] [])) [wH t]=([107,45],0):=by
  unfold xF;simp
 have:=aaZ hS aeP (J3 t h) (fun p hp=>by
  simp only[aoJ,List.not_mem_nil,or_false]at hp;rcases hp with rfl|rfl
  ·rw[q1]
  ·rw[q2]) (by unfold J_;simp only[aor,apd,q1,q2];simp[h])
 rw[this];unfold J_;simp only[aor,apd,q1,q2];simp
end Go.Ft
namespace Go.Ft
open Go
attribute [local congr] fD
theorem UK(s:Str):∃e,iN s=some e∧(e=0→s≠[]∧∃l a,jy s=some (l,a,0)):=by
 unfold iN;by_cases h:s=[]
 ·exact⟨1,by simp[h],fun h=>by cases h⟩
 ·obtain⟨l,a,c,h1,_⟩:=parts_eq s;refine⟨c,by rw[anG (by simpa using h),h1];rfl,fun hc=>⟨h,l,a,by rw[h1,hc]⟩⟩
theorem Zu(p:Str):∃e,Cr p=some e:=by
 obtain⟨r,e,h,_⟩:=TL p;unfold Cr;rw[h];exact⟨_,rfl⟩
theorem abD(s:Str):∃t,strings_TrimPrefix s ([33]:Str)=some t:=by
 unfold strings_TrimPrefix lS iZ;cases s with
 | nil=>exact⟨_,rfl⟩
 | cons c t=>
  have e1:=Pn (s:=c::t) (i:=1) (by simp);have e2:=kS (s:=c::t) (i:=1) (by simp);rw[show ((1:Nat):Int)=1 from rfl]at e1 e2;have h1:decide ((([33]:Str).length:Int)≤((c::t:Str).length:Int))=true:=by simp;omega
  rw[h1];simp only[anX,apo,show ((1:Nat):Int)=1 from rfl,e1,e2,aj];split<;>exact⟨_,rfl⟩
theorem QG(c:aQ)(hl:c.files.length≤1048576):∀(k i:Nat),c.files.length<k+i→i≤c.files.length→∃e,fE c k (i:Int)=some e
 | 0,i,h,h'=>by omega
 | k+1,i,h,h'=>by
  rw[fE];by_cases hi:i<c.files.length
  ·obtain⟨t,ht⟩:=abD c.files[i];obtain⟨e,he⟩:=Zu t;rw[anN (by simpa using hi),gK hi,aj,ht,aj,he,aj,iG (by omega)];split
   ·exact⟨_,rfl⟩
   ·exact QG c hl k (i+1) (by omega) (by omega)
  ·rw[anG (by simpa using hi)];exact⟨0,rfl⟩
theorem KF(c:aQ)(hl:c.files.length≤1048576)(hr:c.restore.length≤1048576):∀(k i:Nat),c.restore.length<k+i→i≤c.restore.length→∃e,iV c k (i:Int)=some e∧(e=0→fE c BIG 0=some 0)
 | 0,i,h,h'=>by omega
 | k+1,i,h,h'=>by
  rw[iV];by_cases hi:i<c.restore.length
  ·obtain⟨e,he,_⟩:=UK c.restore[i];rw[anN (by simpa using hi),gK hi,aj,he,aj,iG (by omega)];split
   ·rename_i h0;exact⟨_,rfl,fun h=>by rw[h]at h0;cases h0⟩
   ·exact KF c hl hr k (i+1) (by omega) (by omega)
  ·rw[anG (by simpa using hi)];obtain⟨e,he⟩:=QG c hl BIG 0 (by have:=dX;omega) (aoN _);rw[show ((0:Nat):Int)=0 from rfl]at he;exact⟨e,he,fun h=>by rw[he,h]⟩
theorem adv(c:aQ)(hl:c.files.length≤1048576)(hr:c.restore.length≤1048576):∃e,gQ c=some e∧(e=0→iN c.key=some 0∧fE c BIG 0=some 0∧c.files.length≤1024):=by
 unfold gQ;obtain⟨e,he,_⟩:=UK c.key;rw[he,aj];split
 ·rename_i h0;exact⟨_,rfl,fun h=>by rw[h]at h0;cases h0⟩
 ·rename_i h0;have h00:e=0:=by simpa using h0
  split
  ·exact⟨_,rfl,fun h=>by cases h⟩
  ·rename_i h1;obtain⟨e',he',h2⟩:=KF c hl hr BIG 0 (by have:=dX;omega) (aoN _);rw[show ((0:Nat):Int)=0 from rfl]at he';refine⟨e',he',fun h=>⟨by rw[h00],h2 h,?_⟩⟩;simp only[aov,anZ,not_or]at h1;omega
theorem NW{c c':aQ}(h:c.files=c'.files):∀(k:Nat) (i:Int),fE c k i=fE c' k i
 | 0,i=>rfl
 | k+1,i=>by
  rw[fE,fE,h];simp only[NW h k]
theorem Wm{k:Str}{r fs:List Str}{c:aQ}(hk:iN k=some 0)(hr:r=[]∨∃s,r=[s]∧iN s=some 0)(hf:fs=c.files)(hl:c.files.length≤1024)(h2:fE c BIG 0=some 0):gQ (aQ.mk k r fs)=some 0:=by
 subst hf;have hrl:r.length≤1:=by rcases hr with rfl|⟨s,rfl,_⟩<;>simp
 unfold gQ;rw[hk,aj,anG (by simp),anG (by simp;omega)]
 have fin:fE (aQ.mk k r c.files) BIG 0=some 0:=by
  rw[NW (c:=aQ.mk k r c.files) (c':=c) rfl];exact h2
 obtain⟨B,hB,_⟩:=pJ;obtain⟨B',hB'⟩:∃B',B+1=B'+2:=⟨B-1,by have:=dX;omega⟩
 have run:iV (aQ.mk k r c.files) (B'+2) 0=some 0:=by
  rw[iV];rcases hr with rfl|⟨s,rfl,hs⟩
  ·rw[anG (by simp)];exact fin
  ·have e0:idx ([s]:List Str) 0=some s:=by have:=gK (l:=[s]) (i:=0) (by simp);simpa using this
   rw[anN (by simp),e0,aj,hs,aj,anG (by simp),show bq ((0:Int)+1)=1 from by decide,iV,anG (by simp)];exact fin
 rw[←hB',←hB]at run;exact run
theorem index_none{vars:List aD}(hl:vars.length≤1048576)(hn:∀x∈vars,x.name≠[102,105,108,101,115]):∀(k i:Nat),vars.length<k+i→i≤vars.length→dU vars iI k (i:Int)=some (-1)
 | 0,i,h,h'=>by omega
 | k+1,i,h,h'=>by
  rw[dU];by_cases hi:i<vars.length
  ·have:=hn _ (aol hi);rw[anN (by simpa using hi),gK hi,aj];unfold iI;rw[aj,anG (by simpa using this),iG (by omega)];exact index_none hl hn k (i+1) (by omega) (by omega)
  ·rw[anG (by simpa using hi)]
theorem Ll{c:aQ}{vars:List aD}{fs:List aP}{x:BitVec 64}{t:Str}(hc:gQ c=some 0)(hl:vars.length≤1000)(hn:∀x∈vars,x.name≠[102,105,108,101,115])(hx:nI fs c.files=some x)(ht:pz x=some t):jZ c vars fs=some (vars++[wH t],0):=by
 unfold jZ dB gu cO;have:=index_none (vars:=vars) (by omega) hn BIG 0 (by have:=dX;omega) (aoN _);rw[show ((0:Nat):Int)=0 from rfl]at this;have hL:w9=4294967296:=rfl;rw[hc,aj,anG (by simp),this,aj,aj,anG (by simp),hx,aj,ht,aj,aT (by simp;omega),aj,apa,aT (by simp;omega),aj];rfl
theorem Ub(s:Str){env:List aD}(hS:CO env):∃a e,jI s env=some (a,e):=by
 unfold jI;obtain⟨X,hX⟩:=ahO s hS;rw[hX,IU];split
 ·exact⟨_,_,rfl⟩
 ·split
  ·exact⟨_,_,rfl⟩
  ·split<;>exact⟨_,_,rfl⟩
theorem ad5(a:Str):D_ [a] [a]=some true:=by
 obtain⟨B,hB,_⟩:=pJ;obtain⟨B',hB'⟩:∃B',B+1=B'+2:=⟨B-1,by have:=dX;omega⟩;have e0:idx ([a]:List Str) 0=some a:=by have:=gK (l:=[a]) (i:=0) (by simp);simpa using this
 unfold D_;rw[anG (by simp),hB,hB',wY,anN (by simp),e0];simp only[aj];rw[anG (by simp),show bq ((0:Int)+1)=1 from by decide,wY,anG (by simp)]
theorem aj4{u:aO}{plain:Bool}(haw:rF=some true)(hfs:short u.files)(hps:few u.spec.files)(hk:u.spec.key.length≤120)(hv:gQ u.spec=some 0)(hr:u.spec.restore.length≤1048576)(hvl:u.vars.length≤10)(hvs:∀d∈u.vars,d.name.length≤1048576∧d.value.bulk≤1048576)(hn:∀x∈u.vars,x.name≠[102,105,108,101,115])(hp:plain=true→∀c∈u.spec.key,c≠36):
  (eD (gT u.spec [] u.files) fun c1 hx1=>if plain&&((!(c1==u.spec.key))||(hx1 !=0))then some false else eD (gT u.spec u.vars u.files) fun a1 e2=>eD (gT (aQ.mk ([107,45,36,123,102,105,108,101,115,125]:Str) [] u.spec.files) [] u.files) fun b3 f1=>eD (mo (aQ.mk ([120]:Str) ([u.spec.key]:List Str) u.spec.files) u.vars u.files) fun l1 g1=>av (nI u.files u.spec.files) fun x6=>av (pz x6) fun x7=>av (app ([107,45]:Str) x7) fun x8=>av (if ((b3==x8)&&(f1==0))&&(g1==e2)then if e2 !=0 then some true else D_ l1 ([a1]:List Str)else some false) fun b4=>if b4 then rF else some false)=some true:=by
 have hL:w9=4294967296:=rfl;have hfl:u.spec.files.length≤10:=hps.1;obtain⟨e,he,h0⟩:=adv u.spec (by omega) hr;rw[hv]at he;obtain⟨s0,v2,_⟩:=h0 (apG he).symm;obtain⟨e',he',hsrc⟩:=UK u.spec.key;rw[s0]at he';obtain⟨hne,l,a,hparts⟩:=hsrc (apG he').symm;obtain⟨x,hx⟩:=ajZ (parts:=JL (u.files.filter (ZL u.spec.files))) (by rw[Y7];have:=(UM hfs (ZL u.spec.files)).1;omega);rw[←hash_eq hfs hps]at hx;obtain⟨t,ht,htl⟩:=adU x;have hS0:CO [wH t]:=Gd t htl (env:=[]) ⟨by simp,by simp⟩;have hS:CO (u.vars++[wH t]):=Gd t htl ⟨by omega,hvs⟩;have v1:gQ (aQ.mk ([107,45,36,123,102,105,108,101,115,125]:Str) [] u.spec.files)=some 0:=Wm (c:=u.spec) (by unfold iN;rw[anG (by simp),aeP];rfl) (.inl rfl) rfl (by omega) v2;have ajp:∃l a,jy ([120]:Str)=some (l,a,0):=⟨_,_,(by kernel_rfl:jy ([120]:Str)=some ([aU.mk [120] false (au.mk 0 [] (ah.mk 0 false 0 [] [] []) [] [])],0,0))⟩;obtain⟨xl,xa,xp⟩:=ajp;have v3:gQ (aQ.mk ([120]:Str) ([u.spec.key]:List Str) u.spec.files)=some 0:=Wm (c:=u.spec) (by unfold iN;rw[anG (by simp),xp];rfl) (.inr ⟨_,rfl,s0⟩) rfl (by omega) v2
 have k1:∃c1 hx1,gT u.spec [] u.files=some (c1,hx1)∧(plain=true→c1=u.spec.key∧hx1=0):=by
  unfold gT;rw[Ll hv (vars:=[]) (by simp) (by simp) hx ht,aB,anG (by simp)];rw[apa];obtain⟨a1,e1,q⟩:=Ub u.spec.key hS0;refine⟨a1,e1,q,fun hpl=>?_⟩;have:=Sl hS0 (by omega) (hp hpl) hparts (J3 t htl);unfold jI at q;rw[this,aB,anG (by simp),anG (by simpa using hne),anG (by simp;omega)]at q;simp only[aoq,Prod.mk.injEq]at q;exact⟨q.1.symm,q.2.symm⟩
 obtain⟨c1,hx1,q1,q2⟩:=k1;obtain⟨a1,e2,q3⟩:=Ub u.spec.key hS
 have k2:gT u.spec u.vars u.files=some (a1,e2):=by
  unfold gT;rw[Ll hv (by omega) hn hx ht,aB,anG (by simp),q3]
 have k3:gT (aQ.mk ([107,45,36,123,102,105,108,101,115,125]:Str) [] u.spec.files) [] u.files=some ([107,45]++t,0):=by
  unfold gT;rw[Ll v1 (vars:=[]) (by simp) (by simp) hx ht,aB,anG (by simp),apa];unfold jI;rw[ahG t htl,aB,anG (by simp),anG (by simp),anG (by simp;omega)]
 have k4:mo (aQ.mk ([120]:Str) ([u.spec.key]:List Str) u.spec.files) u.vars u.files=some (if e2=0 then ([a1],0)else ([],e2)):=by
  unfold mo;rw[Ll v3 (by omega) hn hx ht,aB,anG (by simp)];obtain⟨B,hB,_⟩:=pJ;obtain⟨B',hB'⟩:∃B',B+1=B'+2:=⟨B-1,by have:=dX;omega⟩;have e0:idx ([u.spec.key]:List Str) 0=some u.spec.key:=by have:=gK (l:=[u.spec.key]) (i:=0) (by simp);simpa using this
  rw[hB,hB',j4,anN (by simp),e0,aj,q3,aB];by_cases h0:e2=0
  ·rw[anG (by simp[h0]),aT (by simp;omega),aj,show bq ((0:Int)+1)=1 from by decide,j4,anG (by simp),anN h0];rfl
  ·rw[anN (by simpa using h0),anG h0]
 rw[q1,aB,anG (by
  cases plain with
  | false=>simp
  | true=>obtain⟨rfl,rfl⟩:=q2 rfl;simp),k2,aB,k3,aB,k4,IU,hx,aj,ht,aj,aT (by simp;omega),aj]
 by_cases h0:e2=0
 ·rw[anN h0,anN (by simp[h0]),anG (by simp[h0]),ad5,aj,anN rfl,haw]
 ·rw[anG h0,anN (by simp),anN (by simpa using h0),aj,anN rfl,haw]
theorem aaN{u:aO}{plain:Bool}(haw:rF=some true)(hfs:short u.files)(hps:few u.spec.files)(hk:u.spec.key.length≤120)(hv:gQ u.spec=some 0)(hr:u.spec.restore.length≤1048576)(hvl:u.vars.length≤10)(hvs:∀d∈u.vars,d.name.length≤1048576∧d.value.bulk≤1048576)(hp:plain=true→∀c∈u.spec.key,c≠36):
  ∀(k i:Nat),u.vars.length<k+i→i≤u.vars.length→(∀x∈u.vars.take i,x.name≠[102,105,108,101,115])→jX u plain k (i:Int)=some true
 | 0,i,h,h',_=>by omega
 | k+1,i,h,h',hn=>by
  rw[jX];by_cases hi:i<u.vars.length
  ·rw[anN (by simpa using hi),gK hi,aj];split
   ·exact haw
   ·rename_i hne;rw[iG (by omega)];refine aaN haw hfs hps hk hv hr hvl hvs hp k (i+1) (by omega) (by omega) fun x hx=>?_;rw[ao6 hi]at hx;rcases aoZ.1 hx with hx|hx
    ·exact hn x hx
    ·simp only[aoX]at hx;subst hx;simpa using hne
  ·rw[anG (by simpa using hi)];rw[List.take_of_length_le (by omega)]at hn;exact aj4 haw hfs hps hk hv hr hvl hvs hn hp
theorem Zj{u:aO}(haw:rF=some true)(hfs:short u.files)(hps:few u.spec.files)(hk:u.spec.key.length≤120)(hv:gQ u.spec=some 0)(hr:u.spec.restore.length≤1048576)(hvl:u.vars.length≤10)(hvs:∀d∈u.vars,d.name.length≤1048576∧d.value.bulk≤1048576):
  ∀(k i:Nat) (plain:Bool),u.spec.key.length<k+i→i≤u.spec.key.length→(plain=true→∀c∈u.spec.key.take i,c≠36)→jY u k plain (i:Int)=some true
 | 0,i,plain,h,h',_=>by omega
 | k+1,i,plain,h,h',hp=>by
  rw[jY];by_cases hi:i<u.spec.key.length
  ·rw[anN (by simpa using hi),gK hi,aj,iG (by omega)];cases plain with
   | false=>
    rw[anG (by simp),aj];exact Zj haw hfs hps hk hv hr hvl hvs k (i+1) false (by omega) (by omega) fun h=>by cases h
   | true=>
    rw[anN rfl,aj];refine Zj haw hfs hps hk hv hr hvl hvs k (i+1) _ (by omega) (by omega) fun h c hc=>?_;rw[ao6 hi]at hc;rcases aoZ.1 hc with hc|hc
    ·exact hp rfl c hc
    ·simp only[aoX]at hc;subst hc;intro h36;rw[h36]at h;exact absurd h (by decide)
  ·rw[anG (by simpa using hi)];rw[List.take_of_length_le (by omega)]at hp;have:=aaN haw hfs hps hk hv hr hvl hvs hp BIG 0 (by have:=dX;omega) (aoN _) (by simp);simpa using this
theorem aaL:∀(m:Nat) (v:ah) (left:Int),v.bulk<m→v.bulk<4611686018427387904→∃r,tH m v left=some r
 | 0,v,left,h,_=>by omega
 | m+1,v,left,h,hb=>by
  rw[tH,Dh];have hll:=uq v
  have l2:∀(k i:Nat) (left:Int),v.aN.length<k+i→i≤v.aN.length→∃r,uQ (tH m) v k left (i:Int)=some r:=by
   intro k
   induction k with
   | zero=>intro i left h1 h2;omega
   | succ k ih=>
    intro i left h1 h2;rw[uQ];by_cases hc:(decide ((i:Int)<(v.aN.length:Int))&&decide (0≤left))=true
    ·rw[anN hc];have hi:i<v.aN.length:=by simp only[an_,anZ]at hc;omega
     have hm:=ig (aol hi);obtain⟨r,hr⟩:=aaL m v.aN[i] left (by omega) (by omega);rw[gK hi,aj,hr,aj,iG (by omega)];exact ih (i+1) r (by omega) (by omega)
    ·rw[anG hc];exact⟨_,rfl⟩
  have l1:∀(k i:Nat) (left:Int),40<k+i→i≤40→∃r,uR (tH m) v k left (i:Int)=some r:=by
   intro k
   induction k with
   | zero=>intro i left h1 h2;omega
   | succ k ih=>
    intro i left h1 h2;rw[uR];by_cases hc:(decide ((i:Int)<(v.keys.length:Int))&&decide ((i:Int)<40))=true
    ·rw[anN hc];simp only[an_,anZ]at hc;rw[gK (by omega),aj,iG (by omega)];exact ih (i+1) _ (by omega) (by omega)
    ·rw[anG hc];exact l2 BIG 0 left (by have:=dX;omega) (aoN _)
  exact l1 BIG 0 _ (by have:=dX;omega) (by omega)
theorem aiU{u:aO}(hvs:∀d∈u.vars,d.value.bulk≤1048576)(hl:u.vars.length≤1048576)(hfl:u.files.length≤1048576):∀(k i:Nat),u.vars.length<k+i→i≤u.vars.length→∃b,yV u k (i:Int)=some b∧(b=true→short u.files)
 | 0,i,h,h'=>by omega
 | k+1,i,h,h'=>by
  rw[yV];by_cases hi:i<u.vars.length
  ·have hb:=hvs _ (aol hi);obtain⟨r,hr⟩:=aaL BIG u.vars[i].value 100 (by have:=dX;omega) (by omega);have hr':MH u.vars[i].value 100=some r:=hr;rw[anN (by simpa using hi),gK hi,aj,aj,hr',aj,iG (by omega)];split
   ·rw[aj,anN rfl];exact⟨_,rfl,fun h=>by cases h⟩
   ·rw[aj];split
    ·exact⟨_,rfl,fun h=>by cases h⟩
    ·exact aiU hvs hl hfl k (i+1) (by omega) (by omega)
  ·rw[anG (by simpa using hi)];unfold Iz;have:=PY (fs:=u.files) hfl BIG 0 (by have:=dX;omega) (by omega) (aoN _) (by simp);simpa using this
theorem aiV{u:aO}(hrl:u.spec.restore.length≤1048576)(hvs:∀d∈u.vars,d.value.bulk≤1048576)(hl:u.vars.length≤1048576)(hfl:u.files.length≤1048576):∀(k i:Nat),u.spec.restore.length<k+i→i≤u.spec.restore.length→∃b,yX u k (i:Int)=some b∧(b=true→short u.files)
 | 0,i,h,h'=>by omega
 | k+1,i,h,h'=>by
  rw[yX];by_cases hi:i<u.spec.restore.length
  ·rw[anN (by simpa using hi),gK hi,aj,iG (by omega)];split
   ·exact⟨_,rfl,fun h=>by cases h⟩
   ·exact aiV hrl hvs hl hfl k (i+1) (by omega) (by omega)
  ·rw[anG (by simpa using hi)];have:=aiU hvs hl hfl BIG 0 (by have:=dX;omega) (aoN _);simpa using this
theorem an8{u:aO}(hpl:u.spec.files.length≤1048576)(hrl:u.spec.restore.length≤1048576)(hvs:∀d∈u.vars,d.value.bulk≤1048576)(hl:u.vars.length≤1048576)(hfl:u.files.length≤1048576):∃b,Lb u=some b∧(b=true→short u.files∧few u.spec.files∧u.spec.key.length≤120∧u.vars.length≤10):=by
 unfold Lb Bl;split
 ·exact⟨_,rfl,fun h=>by cases h⟩
 ·rename_i hg;simp only[aov,anZ,not_or]at hg;obtain⟨c,hc1,hc2⟩:=Jf (ps:=u.spec.files) hpl BIG 0 (by have:=dX;omega) (by omega) (aoN _) (by simp);rw[show ((0:Nat):Int)=0 from rfl]at hc1;rw[hc1,aj,aj];cases c with
  | false=>exact⟨_,rfl,fun h=>by cases h⟩
  | true=>
   rw[anG (by simp)];obtain⟨b,hb1,hb2⟩:=aiV hrl hvs hl hfl BIG 0 (by have:=dX;omega) (aoN _);rw[show ((0:Nat):Int)=0 from rfl]at hb1;exact⟨b,hb1,fun h=>⟨hb2 h,hc2 rfl,by omega,by omega⟩⟩
theorem VG:rF=some true:=by kernel_rfl
theorem K_(u1:aO)(h:aO.bulk u1≤1048576):oW u1=some true:=by
 have hl1:∀(l:List aP),l.length≤(l.map fun z:aP=>aP.bulk z).sum:=fun l=>by
  induction l with
  | nil=>simp
  | cons x l ih=>simp only[aor,aoK,an5,aP.bulk]at ih⊢;omega
 have hl2:∀(l:List Str),l.length≤(l.map fun z:Str=>z.length+1).sum:=fun l=>by
  induction l with
  | nil=>simp
  | cons x l ih=>simp only[aor,aoK,an5]at ih⊢;omega
 unfold aO.bulk aQ.bulk at h;have g1:=hl1 u1.files;have g2:=hl2 u1.spec.restore;have g3:=hl2 u1.spec.files
 have hE:(u1.vars.map aD.bulk).sum≤1048576:=by
  have h':(List.map (fun z:aD=>(aD.bulk z)) u1.vars).sum≤1048576:=by omega
  exact h'
 obtain⟨s1,s2⟩:=YG hE;obtain⟨b,hb1,hb2⟩:=an8 (u:=u1) (by omega) (by omega) (fun d hd=>(s2 d hd).2) s1 (by omega);unfold oW;rw[hb1,aj];cases b with
 | false=>
  rw[anN (by simp),aj,anN rfl,VG]
 | true=>
  obtain⟨q1,q2,q3,q4⟩:=hb2 rfl;obtain⟨e,he,_⟩:=adv u1.spec (by omega) (by omega);rw[anG (by simp),he,aj,aj];by_cases h0:e=0
  ·subst h0;rw[anG (by simp)];have:=Zj VG q1 q2 q3 he (by omega) q4 s2 BIG 0 true (by have:=dX;omega) (aoN _) (by simp);simpa using this
  ·rw[anN (by simpa using h0),VG]
end Go.Ft
