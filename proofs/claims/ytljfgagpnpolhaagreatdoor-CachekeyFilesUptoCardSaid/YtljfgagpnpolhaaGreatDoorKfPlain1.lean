/- Proved here: plain facts on the functional texts. -/
import Derived.Test.YtljfgagpnpolhaaGreatDoorKfFt1
import Derived.KernelRfl
set_option linter.unusedVariables false
set_option linter.unusedSimpArgs false
set_option linter.unusedSectionVars false
set_option maxHeartbeats 2000000
namespace Go.Ft
open Go
attribute [local congr] Co
theorem Da {n:Int} (h:-9223372036854775808≤n∧n < 9223372036854775808):bW n=n:=Jd (by omega) (by omega)
theorem sj {i:Nat} (h:i < 4611686018427387904):bW ((i:Int) + 1)=((i + 1:Nat):Int):=by rw [Da (by omega)]; omega
theorem mo {α:Type} {l:List α} {i:Nat} (h:i < l.length):idx l (i:Int)=some (l[i]):=by rw [Jz,List.getElem?_eq_getElem h]
theorem iL :9223372036854775808 < BIG:=by decide
theorem vH {s:Str} {i:Nat} (h:i≤s.length):sl s (i:Int) (s.length:Int)=some (s.drop i):=by
 rw [JY (by omega) (by omega) (by omega)]; simp
theorem Mk {s:Str} {i:Nat} (h:i≤s.length):sl s 0 (i:Int)=some (s.take i):=by
 rw [JY (by omega) (by omega) (by omega)]; simp
theorem Iu (c:UInt8):(c / 64).toNat < 4:=by
 have:=c.toNat_lt; rw [UInt8.toNat_div]; show c.toNat / 64 < 4; omega
theorem La {α:Type} (a b c d:α) {n:Nat} (h:n < 4):∃ x,idx [a,b,c,d] (n:Int)=some x:=⟨_,mo (by simpa using h)⟩
theorem CY (s:List (BitVec 64)) (c:UInt8):∃ r,fV s c=some r:=by
 unfold fV; obtain ⟨x,hx⟩:=La (s.getD 0 0) (s.getD 1 0) (s.getD 2 0) (s.getD 3 0) (Iu c); rw [hx]; exact ⟨_,rfl⟩
theorem DU (s:List (BitVec 64)) (c:UInt8):∃ r,jd s c=some r:=by
 unfold jd; obtain ⟨x,hx⟩:=La (s.getD 0 0) (s.getD 1 0) (s.getD 2 0) (s.getD 3 0) (Iu c); rw [hx]; exact ⟨_,rfl⟩
theorem JA (s:List (BitVec 64)) (c:UInt8):∃ r,gZ s c=some r:=by
 unfold gZ; obtain ⟨x,hx⟩:=La (s.getD 0 0) (s.getD 1 0) (s.getD 2 0) (s.getD 3 0) (Iu c); rw [hx]; exact ⟨_,rfl⟩
theorem vU (b:Bool):∃ r,mE b=some r:=by
 unfold mE; cases b with
 | true=>exact ⟨_,rfl⟩
 | false=>
  simp only [Bool.not_false,if_true]; obtain ⟨r,hr⟩:=DU ([18446744073709551615,18446744073709551615,18446744073709551615,18446744073709551615]:List (BitVec 64)) 47
  first
   | (rw [hr]; exact ⟨_,rfl⟩)
   | (simp only [hr]; exact ⟨_,rfl⟩)
theorem xK (c:UInt8):∃ r,jR c=some r:=by
 unfold jR; obtain ⟨r,hr⟩:=CY ([0,0,0,0]:List (BitVec 64)) c; rw [hr]; exact ⟨_,rfl⟩
theorem D5 (s:Str) (hs:s.length < 4611686018427387904):∃ c n,nS s=some (c,((n:Nat):Int))∧n≤s.length∧n≤2:=by
 unfold nS; cases s with
 | nil=>exact ⟨0,0,rfl,by simp,by simp⟩
 | cons a t=>
  have h0:idx (a :: t) 0=some a:=by have:=mo (l:=a :: t) (i:=0) (by simp); simpa using this
  cases t with
  | nil=>
   by_cases h1:(a.toNat:Int)=93
   · exact ⟨0,0,by simp [h0,h1],by simp,by simp⟩
   ·
    by_cases h2:(a.toNat:Int)=45
    · exact ⟨0,0,by simp [h0,h1,h2],by simp,by simp⟩
    ·
     by_cases h3:(a.toNat:Int)=92
     · exact ⟨0,0,by simp [h0,h1,h2,h3],by simp,by simp⟩
     · exact ⟨a,1,by simp [h0,h1,h2,h3],by simp,by simp⟩
  | cons b t=>
   have h01:idx (a :: b :: t) 1=some b:=by have:=mo (l:=a :: b :: t) (i:=1) (by simp); simpa using this
   have hlt:¬ ((((a :: b :: t:Str)).length:Int) < 2):=by simp; omega
   by_cases h1:(a.toNat:Int)=93
   · exact ⟨0,0,by simp [h0,h1],by simp,by simp⟩
   ·
    by_cases h2:(a.toNat:Int)=45
    · exact ⟨0,0,by simp [h0,h1,h2],by simp,by simp⟩
    ·
     by_cases h3:(a.toNat:Int)=92
     · exact ⟨b,2,by simp [h0,h01,h1,h2,h3]; omega,by simp,by simp⟩
     · exact ⟨a,1,by simp [h0,h1,h2,h3],by simp,by simp⟩
theorem DZ (iC n1:Int) (o9:UInt8) (n2:Int) (go:Int→List (BitVec 64)→Option (List (BitVec 64) × Int)) (at2:Int) (P:List (BitVec 64) × Int→Prop) (hat:bW (bW (iC + n1) + bW (1 + n2))=at2) (hgo:∀ o,∃ r,go at2 o=some r∧P r):
  ∀ (k c:Nat) (o:List (BitVec 64)),257 < k + c→c≤256→∃ r,jg iC n1 o9 n2 go k (c:Int) o=some r∧P r
 | 0,c,o,h,h'=>by omega
 | k + 1,c,o,h,h'=>by
  rw [jg]; by_cases hc:(c:Int)≤(o9.toNat:Int)
  ·
   obtain ⟨y,hy⟩:=CY ([(o.getD 0 0),(o.getD 1 0),(o.getD 2 0),(o.getD 3 0)]:List (BitVec 64)) (Ft.byteOf (c:Int)); have:=o9.toNat_lt; simp only [hc,decide_true,if_true,hy,aJ]; rw [sj (by omega)]; exact DZ iC n1 o9 n2 go at2 P hat hgo k (c + 1) _ (by omega) (by omega)
  ·
   simp only [hc,decide_false,Bool.false_eq_true,if_false,hat]; exact hgo _
theorem DY (iC:Int) (jo:UInt8) (n1:Int) (go:Int→List (BitVec 64)→Option (List (BitVec 64) × Int)) (at2:Int) (P:List (BitVec 64) × Int→Prop) (hat:bW (iC + n1)=at2) (hgo:∀ o,∃ r,go at2 o=some r∧P r):
  ∀ (k c:Nat) (o:List (BitVec 64)),257 < k + c→c≤256→∃ r,jf iC jo n1 go k (c:Int) o=some r∧P r
 | 0,c,o,h,h'=>by omega
 | k + 1,c,o,h,h'=>by
  rw [jf]; by_cases hc:(c:Int)≤(jo.toNat:Int)
  ·
   obtain ⟨y,hy⟩:=CY ([(o.getD 0 0),(o.getD 1 0),(o.getD 2 0),(o.getD 3 0)]:List (BitVec 64)) (Ft.byteOf (c:Int)); have:=jo.toNat_lt; simp only [hc,decide_true,if_true,hy,aJ]; rw [sj (by omega)]; exact DY iC jo n1 go at2 P hat hgo k (c + 1) _ (by omega) (by omega)
  ·
   simp only [hc,decide_false,Bool.false_eq_true,if_false,hat]; exact hgo _
def Nl (s:Str) (r:List (BitVec 64) × Int):Prop:=∃ n:Nat,r.2=(n:Int)∧n≤s.length
theorem vk {s:Str} (hs:s.length≤4096):∀ (k a:Nat) (o:List (BitVec 64)),s.length < k + a→1≤a→a≤s.length→∃ r,dX s k (a:Int) o=some r∧Nl s r
 | 0,a,o,h,h1,h'=>by omega
 | k + 1,a,o,h,h1,h'=>by
  rw [dX]
  have hb:∃ b,(if ((a:Int) == 1)=true then some true else if decide ((a:Int) < (s.length:Int))=true then aB (idx s (a:Int)) fun x1=>some ((x1.toNat:Int) != 93) else some false)=some b:=by
   by_cases h2:((a:Int) == 1)=true
   · exact ⟨true,by rw [if_pos h2]⟩
   ·
    rw [if_neg h2]; by_cases h3:a < s.length
    · rw [if_pos (by simpa using h3),mo h3]; exact ⟨_,rfl⟩
    · rw [if_neg (by simpa using h3)]; exact ⟨_,rfl⟩
  obtain ⟨b,hb⟩:=hb; rw [hb,aJ]; cases b with
  | true=>
   simp only [if_true]; rw [vH h',aJ]; obtain ⟨c1,n1,hc1,hn1,hm1⟩:=D5 (s.drop a) (by simp; omega); rw [hc1,kM]; simp only [List.length_drop] at hn1; by_cases hz:n1=0
   ·
    subst hz; exact ⟨_,by simp; rfl,⟨0,rfl,by omega⟩⟩
   ·
    have hz':(((n1:Nat):Int) == 0)=false:=by rw [beq_eq_false_iff_ne]; omega
    have e1:bW ((a:Int) + (n1:Int))=((a + n1:Nat):Int):=by rw [Da (by omega)]; omega
    rw [hz',e1]; simp only [Bool.false_eq_true,if_false]
    have hb3:∃ b3,(if decide (((a + n1:Nat):Int) < (s.length:Int))=true then aB (idx s ((a + n1:Nat):Int)) fun x3=>some ((x3.toNat:Int) == 45) else some false)=some b3∧(b3=true→a + n1 < s.length):=by
     by_cases h3:a + n1 < s.length
     · rw [if_pos (by simp; omega),mo h3]; exact ⟨_,rfl,fun _=>h3⟩
     · rw [if_neg (by simp; omega)]; exact ⟨_,rfl,fun h=>by cases h⟩
    obtain ⟨b3,hb3,hlt⟩:=hb3; rw [hb3,aJ]; cases b3 with
    | true=>
     have hlt:=hlt rfl; simp only [if_true]; have e2:bW (((a + n1:Nat):Int) + 1)=((a + n1 + 1:Nat):Int):=sj (by omega); rw [e2,vH (by omega),aJ]; obtain ⟨c2,n2,hc2,hn2,hm2⟩:=D5 (s.drop (a + n1 + 1)) (by simp; omega); rw [hc2,kM]; simp only [List.length_drop] at hn2; by_cases hbad:((((n2:Nat):Int) == 0) || (decide ((c2.toNat:Int) < (c1.toNat:Int))))=true
     ·
      rw [if_pos hbad]; exact ⟨_,rfl,⟨0,rfl,by omega⟩⟩
     ·
      rw [if_neg hbad]; have:=c1.toNat_lt; refine DZ (a:Int) (n1:Int) c2 (n2:Int) (dX s k) ((a + n1 + 1 + n2:Nat):Int) (Nl s) ?_ (fun o=>?_) BIG c1.toNat _ (by have:=iL; omega) (by omega)
      · rw [e1,Da (n:=1 + (n2:Int)) (by omega),Da (by omega)]; omega
      · exact vk hs k (a + n1 + 1 + n2) o (by omega) (by omega) (by omega)
    | false=>
     simp only [Bool.false_eq_true,if_false]; have:=c1.toNat_lt; refine DY (a:Int) c1 (n1:Int) (dX s k) ((a + n1:Nat):Int) (Nl s) e1 (fun o=>?_) BIG c1.toNat _ (by have:=iL; omega) (by omega); exact vk hs k (a + n1) o (by omega) (by omega) (by omega)
  | false=>
   simp only [Bool.false_eq_true,if_false]; by_cases h3:(s.length:Int)≤(a:Int)
   ·
    rw [if_pos (by simpa using h3)]; exact ⟨_,rfl,⟨0,rfl,by omega⟩⟩
   ·
    rw [if_neg (by simpa using h3)]; obtain ⟨y,hy⟩:=DU ([(o.getD 0 0),(o.getD 1 0),(o.getD 2 0),(o.getD 3 0)]:List (BitVec 64)) 47; rw [hy,aJ,sj (by omega)]; exact ⟨_,rfl,⟨a + 1,rfl,by omega⟩⟩
theorem Gd {s:Str} (hs:s.length≤4096) (hne:s≠[]):∃ e n,oo s=some (e,((n:Nat):Int))∧n≤s.length:=by
 cases s with
 | nil=>exact absurd rfl hne
 | cons a t=>
  have h0:idx (a :: t) 0=some a:=by have:=mo (l:=a :: t) (i:=0) (by simp); simpa using this
  unfold oo; rw [h0,aJ]; by_cases h1:((a.toNat:Int) == 42)=true
  ·
   rw [if_pos h1]; cases t with
   | nil=>
    obtain ⟨r,hr⟩:=vU false; exact ⟨_,1,by simp [hr]; rfl,by simp⟩
   | cons b t=>
    have h01:idx (a :: b :: t) 1=some b:=by have:=mo (l:=a :: b :: t) (i:=1) (by simp); simpa using this
    obtain ⟨r,hr⟩:=vU false; obtain ⟨q,hq⟩:=vU true; by_cases h2:(b.toNat:Int)=42
    ·
     have hlen:(1:Int) < (t.length:Int) + 1 + 1:=by omega
     exact ⟨_,2,by simp [h01,h2,hq,hlen]; rfl,by simp⟩
    ·
     have hlen:(1:Int) < (t.length:Int) + 1 + 1:=by omega
     exact ⟨_,1,by simp [h01,h2,hr,hlen]; rfl,by simp⟩
  ·
   rw [if_neg h1]; by_cases h2:((a.toNat:Int) == 63)=true
   ·
    rw [if_pos h2]; obtain ⟨r,hr⟩:=vU false; exact ⟨_,1,by simp [hr]; rfl,by simp⟩
   ·
    rw [if_neg h2]; by_cases h3:((a.toNat:Int) == 91)=true
    ·
     rw [if_pos h3]; unfold qW; obtain ⟨⟨o,m⟩,hr,n,hn,hle⟩:=vk (s:=a :: t) hs BIG 1 ([0,0,0,0]:List (BitVec 64)) (by have:=iL; omega) (Nat.le_refl _) (by simp); rw [show ((1:Nat):Int)=1 from rfl] at hr; simp only at hn; subst hn; rw [hr,kM]; exact ⟨_,n,rfl,hle⟩
    ·
     rw [if_neg h3]; by_cases h4:((a.toNat:Int) == 92)=true
     ·
      rw [if_pos h4]; cases t with
      | nil=>exact ⟨_,0,by simp; rfl,by simp⟩
      | cons b t=>
       have h01:idx (a :: b :: t) 1=some b:=by have:=mo (l:=a :: b :: t) (i:=1) (by simp); simpa using this
       obtain ⟨r,hr⟩:=xK b; rw [if_neg (by simp; omega),h01,aJ,hr,aJ]; exact ⟨_,2,rfl,by simp⟩
     ·
      rw [if_neg h4]; obtain ⟨r,hr⟩:=xK a; rw [aJ,hr,aJ]; exact ⟨_,1,rfl,by simp⟩
theorem zl :∀ (k:Nat) (p:Str) (l:List aG),p.length < k→p.length≤4096→l.length + p.length≤4096→∃ r e,je k p l=some (r,e)∧r.length≤4096
 | 0,p,l,h,_,_=>by omega
 | k + 1,p,l,h,h1,h2=>by
  rw [je]; by_cases hp:p=[]
  ·
   subst hp; exact ⟨l,0,by simp,by omega⟩
  ·
   obtain ⟨e,n,hf,hn⟩:=Gd h1 hp; have hpl:0 < p.length:=List.length_pos_iff.2 hp; rw [if_pos (by simpa using hp),hf,kM]; by_cases hz:n=0
   ·
    subst hz; exact ⟨[],5,by simp,by simp⟩
   ·
    rw [if_neg (by simpa using hz),vw (by simp only [List.length_singleton,GD]; omega),aJ,vH hn,aJ]; exact zl k (p.drop n) _ (by simp; omega) (by simp; omega) (by simp; omega)
theorem FZ (p:Str):∃ r e,mD p=some (r,e)∧r.length≤4096:=by
 unfold mD; by_cases h:4096 < (p.length:Int)
 · exact ⟨[],3,by simp [h],by simp⟩
 ·
  simp only [h,decide_false,Bool.false_eq_true,if_false]; exact zl BIG p [] (by have:=iL; omega) (by omega) (by simp; omega)
end Go.Ft
namespace Go.Ft
open Go
attribute [local congr] Co
theorem Bh {l:List aG} (hl:l.length≤4096):∀ (k i:Nat) (a:List Bool),l.length < k + i→i≤l.length→a.length=l.length + 1→∃ r,jQ l k (i:Int) a=some r∧r.length=l.length + 1
 | 0,i,a,h,h',_=>by omega
 | k + 1,i,a,h,h',ha=>by
  rw [jQ]; by_cases hi:i < l.length
  ·
   rw [mo hi]; simp only [show ((i:Int) < (l.length:Int)) from by omega,decide_true,if_true,aJ]; rw [sj (by omega),mo (show i + 1 < a.length by omega),aJ,mo (show i < a.length by omega)]
   have hb:∃ b,(if a[i + 1]'(by omega)=true then some true else aB (some (a[i]'(by omega))) fun b2=>some (b2 && l[i].many))=some b:=by
    split
    · exact ⟨_,rfl⟩
    · exact ⟨_,rfl⟩
   obtain ⟨b,hb⟩:=hb; rw [hb,aJ]; exact Bh hl k (i + 1) _ (by omega) (by omega) (by simp [ha])
  · exact ⟨a,by simp [show ¬ ((i:Int) < (l.length:Int)) from by omega],ha⟩
theorem Dk {l:List aG} (hl:l.length≤4096) {a:List Bool} (ha:a.length=l.length + 1):∃ r,kT l a=some r∧r.length=l.length + 1:=by
 unfold kT; simpa using Bh hl BIG 0 a (by have:=iL; omega) (by omega) ha
theorem BA {n:Nat} (hn:n≤4096):qR (bW ((n:Int) + 1))=some (List.replicate (n + 1) false):=by
 unfold qR; rw [sj (by omega),if_pos ⟨by omega,by omega⟩]; simp
theorem vW {l:List aG} {s:Str} (hl:l.length≤4096) (hs:s.length < 4611686018427387904) {i:Nat} (hi:i < s.length) {a:List Bool} (ha:a.length=l.length + 1) (go:Int→List Bool→Option Bool) (hgo:∀ a:List Bool,a.length=l.length + 1→∃ r,go ((i + 1:Nat):Int) a=some r):
  ∀ (k j:Nat) (nx:List Bool),l.length < k + j→j≤l.length→nx.length=l.length + 1→∃ r,eP l s (i:Int) a go k (j:Int) nx=some r
 | 0,j,nx,h,h',_=>by omega
 | k + 1,j,nx,h,h',hn=>by
  rw [eP]; by_cases hj:j < l.length
  ·
   rw [mo hj]; simp only [show ((j:Int) < (l.length:Int)) from by omega,decide_true,if_true,aJ]; rw [mo (show j < a.length by omega),aJ,mo hi]; obtain ⟨b2,hb2⟩:=JA l[j].set s[i]
   have hb:∃ b,(if (!a[j]'(by omega))=true then some true else aB (some s[i]) fun c1=>aB (gZ l[j].set c1) fun b2=>some (!b2))=some b:=by
    split
    · exact ⟨_,rfl⟩
    · rw [aJ,hb2]; exact ⟨_,rfl⟩
   obtain ⟨b,hb⟩:=hb; rw [hb,aJ]; have e1:bW ((j:Int) + 1)=((j + 1:Nat):Int):=sj (by omega); split
   · rw [e1]; exact vW hl hs hi ha go hgo k (j + 1) nx (by omega) (by omega) hn
   ·
    split
    ·
     rw [mo (show j < nx.length by omega),aJ,e1]; exact vW hl hs hi ha go hgo k (j + 1) _ (by omega) (by omega) (by simp [hn])
    ·
     rw [e1,mo (show j + 1 < nx.length by omega),aJ]; exact vW hl hs hi ha go hgo k (j + 1) _ (by omega) (by omega) (by simp [hn])
  ·
   obtain ⟨r,hr,hrl⟩:=Dk hl hn; simp only [show ¬ ((j:Int) < (l.length:Int)) from by omega,decide_false,Bool.false_eq_true,if_false,hr,aJ]; rw [sj (by omega)]; exact hgo r hrl
theorem DF {l:List aG} {s:Str} (hl:l.length≤4096) (hs:s.length < 4611686018427387904):∀ (k i:Nat) (a:List Bool),s.length < k + i→i≤s.length→a.length=l.length + 1→∃ r,eT l s k (i:Int) a=some r
 | 0,i,a,h,h',_=>by omega
 | k + 1,i,a,h,h',ha=>by
  rw [eT]; by_cases hi:i < s.length
  ·
   simp only [show ((i:Int) < (s.length:Int)) from by omega,decide_true,if_true,BA hl,aJ]; simpa using vW hl hs hi ha (eT l s k) (fun a ha=>DF hl hs k (i + 1) a (by omega) (by omega) ha) BIG 0 (List.replicate (l.length + 1) false) (by have:=iL; omega) (by omega) (by simp)
  ·
   simp only [show ¬ ((i:Int) < (s.length:Int)) from by omega,decide_false,Bool.false_eq_true,if_false]; rw [mo (show l.length < a.length by omega)]; exact ⟨_,rfl⟩
theorem Br (p:Str) {s:Str} (hs:s.length < 4611686018427387904):∃ r,jG p s=some r:=by
 unfold jG; obtain ⟨l,e,h1,hl⟩:=FZ p; rw [h1,kM]; split
 · exact ⟨_,rfl⟩
 ·
  rw [BA hl,aJ]
  have h0:idx (List.replicate (l.length + 1) false) 0=some false:=by
   have:=mo (l:=List.replicate (l.length + 1) false) (i:=0) (by simp); simpa using this
  rw [h0,aJ,aJ]; obtain ⟨r,hr,hrl⟩:=Dk hl (a:=(List.replicate (l.length + 1) false).set (Int.toNat 0) true) (by simp); rw [hr,aJ]; simpa using DF hl hs BIG 0 r (by have:=iL; omega) (by omega) hrl
theorem Am {l:List Str} {s:Str} (hl:l.length≤4096) (hs:s.length < 4611686018427387904) (hp:∀ p∈l,p.length < 4611686018427387904):∀ (k i:Nat),i < k→i≤l.length→∃ r,iM l s k ((i:Int) - 1)=some r
 | 0,i,h,h'=>by omega
 | k + 1,i,h,h'=>by
  rw [iM]; cases i with
  | zero=>exact ⟨false,by simp⟩
  | succ j=>
   have hj:j < l.length:=by omega
   have e0:((j + 1:Nat):Int) - 1=(j:Int):=by omega
   have e1:bW ((j:Int) - 1)=(j:Int) - 1:=Da (by omega); rw [e0,mo hj]; simp only [show ((0:Int)≤(j:Int)) from by omega,decide_true,if_true,aJ]
   have hb:∃ b,(if (!l[j] == ([]:Str))=true then aB (idx l[j] 0) fun x1=>some ((x1.toNat:Int) == 33) else some false)=some b∧(b=true→1≤l[j].length):=by
    cases hq:l[j] with
    | nil=>exact ⟨false,by simp,fun h=>by cases h⟩
    | cons c t=>
     have h0:idx (c :: t) 0=some c:=by have:=mo (l:=c :: t) (i:=0) (by simp); simpa using this
     exact ⟨_,by simp [h0]; rfl,fun _=>by simp⟩
   obtain ⟨b,hb,hb1⟩:=hb; rw [hb,aJ,e1]; cases b with
   | true=>
    have e2:=vH (s:=l[j]) (i:=1) (hb1 rfl); rw [show ((1:Nat):Int)=1 from rfl] at e2; obtain ⟨r,hr⟩:=Br (l[j].drop 1) hs; simp only [if_true,e2,aJ,hr]; split
    · exact ⟨_,rfl⟩
    · exact Am hl hs hp k j (by omega) (by omega)
   | false=>
    obtain ⟨r,hr⟩:=Br l[j] hs; simp only [Bool.false_eq_true,if_false,hr,aJ]; split
    · exact ⟨_,rfl⟩
    · exact Am hl hs hp k j (by omega) (by omega)
theorem JU {l:List Str} {s:Str} (hl:l.length≤4096) (hs:s.length < 4611686018427387904) (hp:∀ p∈l,p.length < 4611686018427387904):∃ r,j6 l s=some r:=by
 unfold j6; rw [Da (by omega)]; exact Am hl hs hp BIG l.length (by have:=iL; omega) (Nat.le_refl _)
def Ba :List (BitVec 64):=[18446744073709551615,18446744073709551615,18446744073709551615,18446744073709551615]
theorem EB :mD [42,42]=some ([⟨Ba,true,false,0⟩],0):=by rfl
theorem JB (c:UInt8):gZ Ba c=some true:=by
 have h:(List.range 256).all (fun n=>gZ Ba (UInt8.ofNat n) == some true)=true:=by decide +kernel
 have:=List.all_eq_true.1 h c.toNat (List.mem_range.2 c.toNat_lt); simpa using this
theorem E8 {s:Str} (hs:s.length < 4611686018427387904):∀ (k i:Nat),s.length < k + i→i≤s.length→eT [⟨Ba,true,false,0⟩] s k (i:Int) [true,true]=some true
 | 0,i,h,h'=>by omega
 | k + 1,i,h,h'=>by
  rw [eT]; by_cases hi:i < s.length
  ·
   have hb:qR (bW ((([⟨Ba,true,false,0⟩]:List aG).length:Int) + 1))=some [false,false]:=by rfl
   simp only [show ((i:Int) < (s.length:Int)) from by omega,decide_true,if_true,hb,aJ]; obtain ⟨B,hB⟩:∃ B,BIG=B + 2:=⟨BIG - 2,by have:=iL; omega⟩; have hk:kT [⟨Ba,true,false,0⟩] [true,false]=some [true,true]:=by rfl
   have hz:bW ((0:Int) + 1)=1:=by decide
   have i0:idx ([⟨Ba,true,false,0⟩]:List aG) 0=some ⟨Ba,true,false,0⟩:=rfl; have i1:idx [true,true] 0=some true:=rfl; have i2:idx [false,false] 0=some false:=rfl; rw [hB,eP,i0,i1,i2,mo hi]; simp only [List.length_singleton,show decide ((0:Int) < ((1:Nat):Int))=true from rfl,if_true,aJ,Bool.not_true,Bool.false_eq_true,if_false,JB]; rw [eP]; simp only [List.length_singleton,hz,show decide ((1:Int) < ((1:Nat):Int))=false from rfl,Bool.false_eq_true,if_false,show ([false,false].set (Int.toNat 0) true)=[true,false] from rfl,hk,aJ]; rw [sj (by omega)]; exact E8 hs k (i + 1) (by omega) (by omega)
  ·
   simp only [show ¬ ((i:Int) < (s.length:Int)) from by omega,decide_false,Bool.false_eq_true,if_false]; rfl
theorem Es {s:Str} (hs:s.length < 4611686018427387904):jG [42,42] s=some true:=by
 unfold jG; rw [EB,kM]; have hb:qR (bW ((([⟨Ba,true,false,0⟩]:List aG).length:Int) + 1))=some [false,false]:=by rfl
 have hk:kT [⟨Ba,true,false,0⟩] [true,false]=some [true,true]:=by rfl
 have i2:idx [false,false] 0=some false:=rfl; simp only [bne_self_eq_false,Bool.false_eq_true,if_false,hb,aJ,i2,show ([false,false].set (Int.toNat 0) true)=[true,false] from rfl,hk]; simpa using E8 hs BIG 0 (by have:=iL; omega) (by omega)
theorem Hg {s:Str} (hs:s.length < 4611686018427387904):j6 [([42,42]:Str)] s=some true:=by
 unfold j6; obtain ⟨B,hB⟩:∃ B,BIG=B + 1:=⟨BIG - 1,by have:=iL; omega⟩; have e:bW ((([([42,42]:Str)]:List Str).length:Int) - 1)=0:=by decide
 have i0:idx ([([42,42]:Str)]:List Str) 0=some [42,42]:=rfl; have i1:idx ([42,42]:Str) 0=some 42:=rfl; rw [hB,iM,e,i0]; simp only [show decide ((0:Int)≤0)=true from rfl,if_true,aJ,i1,show (!(([42,42]:Str) == ([]:Str)))=true from rfl,show (((42:UInt8).toNat:Int) == 33)=false from rfl,Bool.false_eq_true,if_false,Es hs,Bool.not_false]
end Go.Ft
namespace Go.Ft
open Go
attribute [local congr] Co
theorem Bl (a b c:BitVec 32):∃ r,lT a b c=some r:=⟨_,rfl⟩
theorem zx (key:BitVec 64):∀ (k i:Nat) (a b:BitVec 32),4 < k + i→i≤4→∃ r,iA key k a b (i:Int)=some r
 | 0,i,a,b,h,h'=>by omega
 | k + 1,i,a,b,h,h'=>by
  rw [iA]; by_cases hi:(i:Int) < 4
  ·
   rw [if_pos (by simpa using hi),sj (by omega)]; split
   ·
    obtain ⟨x,hx⟩:=Bl b (BitVec.setWidth 32 (key >>> 32)) (BitVec.ofInt 32 ((i + 1:Nat):Int)); rw [hx,aJ]; exact zx key k (i + 1) _ _ (by omega) (by omega)
   ·
    obtain ⟨x,hx⟩:=Bl b (BitVec.setWidth 32 key) (BitVec.ofInt 32 ((i + 1:Nat):Int)); rw [hx,aJ]; exact zx key k (i + 1) _ _ (by omega) (by omega)
  ·
   rw [if_neg (by simpa using hi)]; exact ⟨_,rfl⟩
theorem Fv (key x:BitVec 64):∃ r,mH key x=some r:=by
 unfold mH; simpa using zx key BIG 0 _ _ (by have:=iL; omega) (by omega)
theorem MO (b:List UInt8):(if (b.length:Int) < 8 then (b.length:Int) else 8)=((min b.length 8:Nat):Int):=by
 split <;> omega
theorem He (b:List UInt8) (x:BitVec 64) (c:List UInt8) (hc:c.length≤8) (go:List UInt8→BitVec 64→Option (BitVec 64)) (hgo:∀ x,∃ r,go (b.drop (min b.length 8)) x=some r):
  ∀ (k i:Nat) (g:BitVec 64),c.length < k + i→i≤c.length→∃ r,jh b x c go k g (i:Int)=some r
 | 0,i,g,h,h'=>by omega
 | k + 1,i,g,h,h'=>by
  rw [jh]; by_cases hi:i < c.length
  ·
   have h8:bW (8 * (i:Int))=8 * (i:Int):=Da (by omega); rw [if_pos (by simpa using hi),mo hi,aJ,h8,sj (by omega),show Ll (decide (0≤8 * (i:Int)))=some () from by rw [decide_eq_true (by omega)]; rfl,aJ,aJ]; exact He b x c hc go hgo k (i + 1) _ (by omega) (by omega)
  ·
   rw [if_neg (by simpa using hi)]; obtain ⟨m,hm⟩:=Fv g x; rw [hm,aJ,MO,vH (by omega),aJ]; exact hgo _
theorem Hf :∀ (k:Nat) (b:List UInt8) (x:BitVec 64),b.length < k→b.length≤1048576→∃ r,gu k b x=some r
 | 0,b,x,h,_=>by omega
 | k + 1,b,x,h,hb=>by
  rw [gu]; by_cases hi:0 < (b.length:Int)
  ·
   rw [if_pos (by simpa using hi),MO,Mk (by omega),aJ]; simpa using He b x (b.take (min b.length 8)) (by simp; omega) (gu k) (fun x=>Hf k _ x (by simp; omega) (by simp; omega)) BIG 0 0 (by have:=iL; simp; omega) (by omega)
  ·
   rw [if_neg (by simpa using hi)]; exact ⟨_,rfl⟩
theorem EZ {b:List UInt8} (hb:b.length≤1048576):∃ r,jJ b=some r:=by
 unfold jJ; obtain ⟨m,hm⟩:=Fv (BitVec.ofInt 64 (b.length:Int)) 0; rw [hm,aJ]; exact Hf BIG b m (by have:=iL; omega) hb
theorem Ka (x2:Nat) (hx2:x2 < 1000) (d:BitVec 64) (go:List UInt8→Int→Option (BitVec 64)) (N:Nat) (hN:N≤1000000) (hgo:∀ b:List UInt8,b.length=N→∃ r,go b ((x2 + 1:Nat):Int)=some r):
  ∀ (k i:Nat) (b:List UInt8),8 < k + i→i≤8→b.length + (8 - i)=N→∃ r,jS (x2:Int) d go k b (i:Int)=some r
 | 0,i,b,h,h',_=>by omega
 | k + 1,i,b,h,h',hb=>by
  rw [jS]; by_cases hi:(i:Int) < 8
  ·
   have h8:bW (8 * (i:Int))=8 * (i:Int):=Da (by omega); rw [if_pos (by simpa using hi),h8,sj (by omega),show Ll (decide (0≤8 * (i:Int)))=some () from by rw [decide_eq_true (by omega)]; rfl,aJ,vw (by simp only [List.length_singleton,GD]; omega),aJ]; exact Ka x2 hx2 d go N hN hgo k (i + 1) _ (by omega) (by omega) (by simp; omega)
  ·
   rw [if_neg (by simpa using hi),sj (by omega)]; exact hgo b (by omega)
theorem Kc {parts:List (BitVec 64)} (hp:parts.length≤100):∀ (k i:Nat) (b:List UInt8),parts.length < k + i→i≤parts.length→b.length + 8 * (parts.length - i)≤100000→∃ r,ig parts k b (i:Int)=some r
 | 0,i,b,h,h',_=>by omega
 | k + 1,i,b,h,h',hb=>by
  rw [ig]; by_cases hi:i < parts.length
  ·
   rw [if_pos (by simpa using hi),mo hi,aJ]; simpa using Ka i (by omega) parts[i] (ig parts k) (b.length + 8) (by omega) (fun b' hb'=>Kc hp k (i + 1) b' (by omega) (by omega) (by omega)) BIG 0 b (by have:=iL; omega) (by omega) (by omega)
  ·
   rw [if_neg (by simpa using hi)]; exact EZ (by omega)
theorem K5 {parts:List (BitVec 64)} (hp:parts.length≤100):∃ r,mG ([102,105,108,101,115]:Str) parts=some r:=by
 unfold mG; rw [vw (by decide),aJ,vw (by decide),aJ]; simpa using Kc hp BIG 0 _ (by have:=iL; omega) (by omega) (by simp; omega)
def uF (ps:List Str) (f:av):Bool:=(j6 ps f.path).getD false
def Jm (s:Str):BitVec 64:=(jJ s).getD 0
def uW (fs:List av):List (BitVec 64):=fs.flatMap fun f=>[Jm f.path,f.digest]
def short (fs:List av):Prop:=fs.length≤20∧∀ f∈fs,f.path.length≤120
def few (ps:List Str):Prop:=ps.length≤10∧∀ p∈ps,p.length≤60
theorem any_eq {ps:List Str} (hp:few ps) {f:av} (hf:f.path.length≤120):j6 ps f.path=some (uF ps f):=by
 obtain ⟨r,hr⟩:=JU (l:=ps) (s:=f.path) (by have:=hp.1; omega) (by omega) (fun p h=>by have:=hp.2 p h; omega); unfold uF; rw [hr]; rfl
theorem Ku {s:Str} (h:s.length≤120):jJ s=some (Jm s):=by
 obtain ⟨r,hr⟩:=EZ (b:=s) (by omega); unfold Jm; rw [hr]; rfl
theorem EA (fs:List av):(uW fs).length=2 * fs.length:=by
 induction fs with
 | nil=>rfl
 | cons f fs ih=>simp only [uW,List.flatMap_cons,List.length_append,List.length_cons,List.length_nil] at ih ⊢; omega
theorem pX {fs:List av} {ps:List Str} (hf:short fs) (hp:few ps):∀ (k i:Nat) (s:List (BitVec 64)),fs.length < k + i→i≤fs.length→s.length≤2 * i→
  dI fP fs ps k s (i:Int)=some (s ++ uW ((fs.drop i).filter (uF ps)))
 | 0,i,s,h,h',_=>by omega
 | k + 1,i,s,h,h',hs=>by
  rw [dI]; by_cases hi:i < fs.length
  ·
   have hm:=hf.2 _ (List.getElem_mem hi); have hl:=hf.1; rw [if_pos (by simpa using hi),mo hi,aJ,any_eq hp hm,aJ,sj (by omega),List.drop_eq_getElem_cons hi]; cases ha:uF ps fs[i] with
   | true=>
    have hy:fP s fs[i]=some (true,s ++ [Jm fs[i].path,fs[i].digest]):=by
     unfold fP; rw [vw (by simp only [List.length_nil,GD]; omega),List.nil_append,aJ,Ku hm,aJ,vw (by simp only [List.length_cons,List.length_nil,GD]; omega),aJ]
    rw [if_pos rfl,List.filter_cons_of_pos ha,hy,kM]; simp only [Bool.not_true,Bool.false_eq_true,if_false]; refine (pX hf hp k (i + 1) _ (by omega) (by omega) (by simp; omega)).trans ?_; simp [uW]
   | false=>
    rw [if_neg (by simp),List.filter_cons_of_neg (by simp [ha])]; exact pX hf hp k (i + 1) s (by omega) (by omega) (by omega)
  ·
   rw [if_neg (by simpa using hi),List.drop_eq_nil_of_le (by omega)]; simp [uW]
theorem hash_eq {fs:List av} {ps:List Str} (hf:short fs) (hp:few ps):gy fs ps=mG ([102,105,108,101,115]:Str) (uW (fs.filter (uF ps))):=by
 unfold gy jv; have:=pX hf hp BIG 0 [] (by have:=iL; have:=hf.1; omega) (by omega) (by simp); rw [show ((0:Nat):Int)=0 from rfl] at this; rw [this,aJ,List.nil_append,List.drop_zero]
theorem BS {fs:List av} (hf:short fs) (p:av→Bool):short (fs.filter p):=
 ⟨Nat.le_trans (List.length_filter_le _ _) hf.1,fun f h=>hf.2 f (List.mem_filter.1 h).1⟩
theorem vg {fs:List av} {ps:List Str} (hf:short fs) (hp:few ps) (haw:nR=some true):∀ (k i:Nat) (s:List av),fs.length < k + i→i≤fs.length→s=(fs.take i).filter (uF ps)→
  dH fs ps k s (i:Int)=some true
 | 0,i,s,h,h',_=>by omega
 | k + 1,i,s,h,h',hs=>by
  rw [dH]; by_cases hi:i < fs.length
  ·
   have hm:=hf.2 _ (List.getElem_mem hi); have hl:=hf.1
   have hsl:s.length≤20:=by
    rw [hs]; refine Nat.le_trans (List.length_filter_le _ _) ?_; simp; omega
   rw [if_pos (by simpa using hi),mo hi,aJ,any_eq hp hm,aJ,sj (by omega)]; cases ha:uF ps fs[i] with
   | true=>
    rw [if_pos rfl,aJ,vw (by simp only [List.length_singleton,GD]; omega),aJ]; refine vg hf hp haw k (i + 1) _ (by omega) (by omega) ?_; rw [hs,List.take_succ_eq_append_getElem hi,List.filter_append]; simp [ha]
   | false=>
    rw [if_neg (by simp)]; refine vg hf hp haw k (i + 1) _ (by omega) (by omega) ?_; rw [hs,List.take_succ_eq_append_getElem hi,List.filter_append]; simp [ha]
  ·
   have hie:i=fs.length:=by omega
   subst hie; rw [List.take_length] at hs; subst hs; have hstar:few [([42,42]:Str)]:=⟨by decide,fun p h=>by simp at h; subst h; decide⟩; have hsf:=BS hf (uF ps); have e1:(fs.filter (uF ps)).filter (uF ps)=fs.filter (uF ps):=by simp
   have e2:(fs.filter (uF ps)).filter (uF [([42,42]:Str)])=fs.filter (uF ps):=by
    refine List.filter_eq_self.2 fun f hfm=>?_; unfold uF; rw [Hg (by have:=hsf.2 f hfm; omega)]; rfl
   obtain ⟨d,hd⟩:=K5 (parts:=uW (fs.filter (uF ps))) (by rw [EA]; have:=hsf.1; omega); rw [if_neg (by simp),hash_eq hf hp,hash_eq hsf hp,hash_eq hsf hstar,e1,e2,hd]; simp [haw]
theorem zk {fs:List av} (hl:fs.length≤1048576):∀ (k i:Nat),20 < k + i→i≤20→i≤fs.length→(∀ f∈fs.take i,f.path.length≤120)→∃ b,jO fs k (i:Int)=some b∧(b=true→short fs)
 | 0,i,h,_,_,_=>by omega
 | k + 1,i,h,h1,h2,hp=>by
  rw [jO]; by_cases hi:i < fs.length∧i < 20
  ·
   rw [if_pos (by simp; omega),mo hi.1,aJ]; by_cases hg:120 < (fs[i].path.length:Int)
   · exact ⟨false,by rw [if_pos (by simpa using hg)],fun h=>by cases h⟩
   ·
    rw [if_neg (by simpa using hg),sj (by omega)]; refine zk hl k (i + 1) (by omega) (by omega) (by omega) fun f hf=>?_; rw [List.take_succ_eq_append_getElem hi.1] at hf; rcases List.mem_append.1 hf with hf | hf
    · exact hp f hf
    · simp at hf; subst hf; omega
  ·
   rw [if_neg (by simp; omega)]; refine ⟨_,rfl,fun hb=>?_⟩; have hb:fs.length≤20:=by simp at hb; omega
   have:i=fs.length:=by omega
   subst this; rw [List.take_length] at hp; exact ⟨hb,hp⟩
theorem uJ {ps:List Str} (hl:ps.length≤1048576):∀ (k i:Nat),10 < k + i→i≤10→i≤ps.length→(∀ p∈ps.take i,p.length≤60)→∃ b,gW ps k (i:Int)=some b∧(b=true→few ps)
 | 0,i,h,_,_,_=>by omega
 | k + 1,i,h,h1,h2,hp=>by
  rw [gW]; by_cases hi:i < ps.length∧i < 10
  ·
   rw [if_pos (by simp; omega),mo hi.1,aJ]; by_cases hg:60 < (ps[i].length:Int)
   · exact ⟨false,by rw [if_pos (by simpa using hg)],fun h=>by cases h⟩
   ·
    rw [if_neg (by simpa using hg),sj (by omega)]; refine uJ hl k (i + 1) (by omega) (by omega) (by omega) fun f hf=>?_; rw [List.take_succ_eq_append_getElem hi.1] at hf; rcases List.mem_append.1 hf with hf | hf
    · exact hp f hf
    · simp at hf; subst hf; omega
  ·
   rw [if_neg (by simp; omega)]; refine ⟨_,rfl,fun hb=>?_⟩; have hb:ps.length≤10:=by simp at hb; omega
   have:i=ps.length:=by omega
   subst this; rw [List.take_length] at hp; exact ⟨hb,hp⟩
end Go.Ft
namespace Go.Ft
open Go
attribute [local congr] Co
theorem CW :nR=some true:=by kernel_rfl
theorem vY (dB:List av) (l1:List Str) (h:((List.map (fun z:av=>(av.bulk z)) dB).sum + 1) + ((List.map (fun z:Str=>(z.length + 1)) l1).sum + 1)≤1048576):jr dB l1=some true:=by
 have hl1:∀ (l:List av),l.length≤(l.map fun z:av=>av.bulk z).sum:=fun l=>by
  induction l with
  | nil=>simp
  | cons x l ih=>simp only [List.map_cons,List.sum_cons,List.length_cons,av.bulk] at ih ⊢; omega
 have hl2:∀ (l:List Str),l.length≤(l.map fun z:Str=>z.length + 1).sum:=fun l=>by
  induction l with
  | nil=>simp
  | cons x l ih=>simp only [List.map_cons,List.sum_cons,List.length_cons] at ih ⊢; omega
 have h1:=hl1 dB; have h2:=hl2 l1; obtain ⟨b,hb1,hb2⟩:=zk (fs:=dB) (by omega) BIG 0 (by have:=iL; omega) (by omega) (by omega) (by simp); obtain ⟨c,hc1,hc2⟩:=uJ (ps:=l1) (by omega) BIG 0 (by have:=iL; omega) (by omega) (by omega) (by simp); rw [show ((0:Nat):Int)=0 from rfl] at hb1 hc1; unfold jr tZ nN; rw [hb1,hc1]; cases b with
 | false=>simp [CW]
 | true=>
  cases c with
  | false=>simp [CW]
  | true=>
   have hf:=hb2 rfl; have:=vg hf (hc2 rfl) CW BIG 0 [] (by have:=iL; have:=hf.1; omega) (by omega) (by simp); simpa using this
end Go.Ft
