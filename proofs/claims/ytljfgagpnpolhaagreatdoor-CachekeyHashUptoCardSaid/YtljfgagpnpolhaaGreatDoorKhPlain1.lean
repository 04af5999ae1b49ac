/- Proved here: plain facts on the functional texts. -/
import Derived.Test.YtljfgagpnpolhaaGreatDoorKhFt1
import Derived.KernelRfl
set_option linter.unusedVariables false
set_option linter.unusedSimpArgs false
set_option linter.unusedSectionVars false
set_option maxHeartbeats 2000000
namespace Go.Ft
open Go
attribute [local congr] sV
theorem su {n:Int} (h:-9223372036854775808≤n∧n < 9223372036854775808):bE n=n:=LZ (by omega) (by omega)
theorem jZ {i:Nat} (h:i < 4611686018427387904):bE ((i:Int) + 1)=((i + 1:Nat):Int):=by rw [su (by omega)]; omega
theorem f_ {α:Type} {l:List α} {i:Nat} (h:i < l.length):idx l (i:Int)=some (l[i]):=by rw [IV,List.getElem?_eq_getElem h]
theorem d9 :9223372036854775808 < BIG:=by decide
theorem lC {s:Str} {i:Nat} (h:i≤s.length):sl s (i:Int) (s.length:Int)=some (s.drop i):=by
 rw [M5 (by omega) (by omega) (by omega)]; simp
theorem M4 {s:Str} {i:Nat} (h:i≤s.length):sl s 0 (i:Int)=some (s.take i):=by
 rw [M5 (by omega) (by omega) (by omega)]; simp
theorem wH (c:UInt8):(c / 64).toNat < 4:=by
 have:=c.toNat_lt; rw [UInt8.toNat_div]; show c.toNat / 64 < 4; omega
theorem Oy {α:Type} (a b c d:α) {n:Nat} (h:n < 4):∃ x,idx [a,b,c,d] (n:Int)=some x:=⟨_,f_ (by simpa using h)⟩
theorem E5 (s:List (BitVec 64)) (c:UInt8):∃ r,fQ s c=some r:=by
 unfold fQ; obtain ⟨x,hx⟩:=Oy (s.getD 0 0) (s.getD 1 0) (s.getD 2 0) (s.getD 3 0) (wH c); rw [hx]; exact ⟨_,rfl⟩
theorem Gc (s:List (BitVec 64)) (c:UInt8):∃ r,g_ s c=some r:=by
 unfold g_; obtain ⟨x,hx⟩:=Oy (s.getD 0 0) (s.getD 1 0) (s.getD 2 0) (s.getD 3 0) (wH c); rw [hx]; exact ⟨_,rfl⟩
theorem Mx (s:List (BitVec 64)) (c:UInt8):∃ r,gI s c=some r:=by
 unfold gI; obtain ⟨x,hx⟩:=Oy (s.getD 0 0) (s.getD 1 0) (s.getD 2 0) (s.getD 3 0) (wH c); rw [hx]; exact ⟨_,rfl⟩
theorem xX (b:Bool):∃ r,jN b=some r:=by
 unfold jN; cases b with
 | true=>exact ⟨_,rfl⟩
 | false=>
  simp only [Bool.not_false,if_true]; obtain ⟨r,hr⟩:=Gc ([18446744073709551615,18446744073709551615,18446744073709551615,18446744073709551615]:List (BitVec 64)) 47
  first
   | (rw [hr]; exact ⟨_,rfl⟩)
   | (simp only [hr]; exact ⟨_,rfl⟩)
theorem zN (c:UInt8):∃ r,iR c=some r:=by
 unfold iR; obtain ⟨r,hr⟩:=E5 ([0,0,0,0]:List (BitVec 64)) c; rw [hr]; exact ⟨_,rfl⟩
theorem Gl (s:Str) (hs:s.length < 4611686018427387904):∃ c n,iN s=some (c,((n:Nat):Int))∧n≤s.length∧n≤2:=by
 unfold iN; cases s with
 | nil=>exact ⟨0,0,rfl,by simp,by simp⟩
 | cons a t=>
  have h0:idx (a :: t) 0=some a:=by have:=f_ (l:=a :: t) (i:=0) (by simp); simpa using this
  cases t with
  | nil=>
   by_cases h1:(a.toNat:Int)=93
   · exact ⟨0,0,by simp [h0,h1],by simp,by simp⟩
   ·
    by_cases h2:(a.toNat:Int)=45
    · exact ⟨0,0,by simp [h0,h1,h2],by simp,by simp⟩
    ·
     by_cases h3:(a.toNat:Int)=92
     · exact ⟨0,0,by simp [h0,h1,h2,h3],by simp,by simp⟩
     · exact ⟨a,1,by simp [h0,h1,h2,h3],by simp,by simp⟩
  | cons b t=>
   have h01:idx (a :: b :: t) 1=some b:=by have:=f_ (l:=a :: b :: t) (i:=1) (by simp); simpa using this
   have hlt:¬ ((((a :: b :: t:Str)).length:Int) < 2):=by simp; omega
   by_cases h1:(a.toNat:Int)=93
   · exact ⟨0,0,by simp [h0,h1],by simp,by simp⟩
   ·
    by_cases h2:(a.toNat:Int)=45
    · exact ⟨0,0,by simp [h0,h1,h2],by simp,by simp⟩
    ·
     by_cases h3:(a.toNat:Int)=92
     · exact ⟨b,2,by simp [h0,h01,h1,h2,h3]; omega,by simp,by simp⟩
     · exact ⟨a,1,by simp [h0,h1,h2,h3],by simp,by simp⟩
theorem Gj (dB n1:Int) (jT:UInt8) (n2:Int) (go:Int→List (BitVec 64)→Option (List (BitVec 64) × Int)) (at2:Int) (P:List (BitVec 64) × Int→Prop) (hat:bE (bE (dB + n1) + bE (1 + n2))=at2) (hgo:∀ o,∃ r,go at2 o=some r∧P r):
  ∀ (k c:Nat) (o:List (BitVec 64)),257 < k + c→c≤256→∃ r,gK dB n1 jT n2 go k (c:Int) o=some r∧P r
 | 0,c,o,h,h'=>by omega
 | k + 1,c,o,h,h'=>by
  rw [gK]; by_cases hc:(c:Int)≤(jT.toNat:Int)
  ·
   obtain ⟨y,hy⟩:=E5 ([(o.getD 0 0),(o.getD 1 0),(o.getD 2 0),(o.getD 3 0)]:List (BitVec 64)) (Ft.byteOf (c:Int)); have:=jT.toNat_lt; simp only [hc,decide_true,if_true,hy,ak]; rw [jZ (by omega)]; exact Gj dB n1 jT n2 go at2 P hat hgo k (c + 1) _ (by omega) (by omega)
  ·
   simp only [hc,decide_false,Bool.false_eq_true,if_false,hat]; exact hgo _
theorem Gi (dB:Int) (fH:UInt8) (n1:Int) (go:Int→List (BitVec 64)→Option (List (BitVec 64) × Int)) (at2:Int) (P:List (BitVec 64) × Int→Prop) (hat:bE (dB + n1)=at2) (hgo:∀ o,∃ r,go at2 o=some r∧P r):
  ∀ (k c:Nat) (o:List (BitVec 64)),257 < k + c→c≤256→∃ r,gJ dB fH n1 go k (c:Int) o=some r∧P r
 | 0,c,o,h,h'=>by omega
 | k + 1,c,o,h,h'=>by
  rw [gJ]; by_cases hc:(c:Int)≤(fH.toNat:Int)
  ·
   obtain ⟨y,hy⟩:=E5 ([(o.getD 0 0),(o.getD 1 0),(o.getD 2 0),(o.getD 3 0)]:List (BitVec 64)) (Ft.byteOf (c:Int)); have:=fH.toNat_lt; simp only [hc,decide_true,if_true,hy,ak]; rw [jZ (by omega)]; exact Gi dB fH n1 go at2 P hat hgo k (c + 1) _ (by omega) (by omega)
  ·
   simp only [hc,decide_false,Bool.false_eq_true,if_false,hat]; exact hgo _
def QI (s:Str) (r:List (BitVec 64) × Int):Prop:=∃ n:Nat,r.2=(n:Int)∧n≤s.length
theorem w_ {s:Str} (hs:s.length≤4096):∀ (k a:Nat) (o:List (BitVec 64)),s.length < k + a→1≤a→a≤s.length→∃ r,bY s k (a:Int) o=some r∧QI s r
 | 0,a,o,h,h1,h'=>by omega
 | k + 1,a,o,h,h1,h'=>by
  rw [bY]
  have hb:∃ b,(if ((a:Int) == 1)=true then some true else if decide ((a:Int) < (s.length:Int))=true then aA (idx s (a:Int)) fun x1=>some ((x1.toNat:Int) != 93) else some false)=some b:=by
   by_cases h2:((a:Int) == 1)=true
   · exact ⟨true,by rw [if_pos h2]⟩
   ·
    rw [if_neg h2]; by_cases h3:a < s.length
    · rw [if_pos (by simpa using h3),f_ h3]; exact ⟨_,rfl⟩
    · rw [if_neg (by simpa using h3)]; exact ⟨_,rfl⟩
  obtain ⟨b,hb⟩:=hb; rw [hb,ak]; cases b with
  | true=>
   simp only [if_true]; rw [lC h',ak]; obtain ⟨c1,n1,hc1,hn1,hm1⟩:=Gl (s.drop a) (by simp; omega); rw [hc1,eF]; simp only [List.length_drop] at hn1; by_cases hz:n1=0
   ·
    subst hz; exact ⟨_,by simp; rfl,⟨0,rfl,by omega⟩⟩
   ·
    have hz':(((n1:Nat):Int) == 0)=false:=by rw [beq_eq_false_iff_ne]; omega
    have e1:bE ((a:Int) + (n1:Int))=((a + n1:Nat):Int):=by rw [su (by omega)]; omega
    rw [hz',e1]; simp only [Bool.false_eq_true,if_false]
    have hb3:∃ b3,(if decide (((a + n1:Nat):Int) < (s.length:Int))=true then aA (idx s ((a + n1:Nat):Int)) fun x3=>some ((x3.toNat:Int) == 45) else some false)=some b3∧(b3=true→a + n1 < s.length):=by
     by_cases h3:a + n1 < s.length
     · rw [if_pos (by simp; omega),f_ h3]; exact ⟨_,rfl,fun _=>h3⟩
     · rw [if_neg (by simp; omega)]; exact ⟨_,rfl,fun h=>by cases h⟩
    obtain ⟨b3,hb3,hlt⟩:=hb3; rw [hb3,ak]; cases b3 with
    | true=>
     have hlt:=hlt rfl; simp only [if_true]; have e2:bE (((a + n1:Nat):Int) + 1)=((a + n1 + 1:Nat):Int):=jZ (by omega); rw [e2,lC (by omega),ak]; obtain ⟨c2,n2,hc2,hn2,hm2⟩:=Gl (s.drop (a + n1 + 1)) (by simp; omega); rw [hc2,eF]; simp only [List.length_drop] at hn2; by_cases hbad:((((n2:Nat):Int) == 0) || (decide ((c2.toNat:Int) < (c1.toNat:Int))))=true
     ·
      rw [if_pos hbad]; exact ⟨_,rfl,⟨0,rfl,by omega⟩⟩
     ·
      rw [if_neg hbad]; have:=c1.toNat_lt; refine Gj (a:Int) (n1:Int) c2 (n2:Int) (bY s k) ((a + n1 + 1 + n2:Nat):Int) (QI s) ?_ (fun o=>?_) BIG c1.toNat _ (by have:=d9; omega) (by omega)
      · rw [e1,su (n:=1 + (n2:Int)) (by omega),su (by omega)]; omega
      · exact w_ hs k (a + n1 + 1 + n2) o (by omega) (by omega) (by omega)
    | false=>
     simp only [Bool.false_eq_true,if_false]; have:=c1.toNat_lt; refine Gi (a:Int) c1 (n1:Int) (bY s k) ((a + n1:Nat):Int) (QI s) e1 (fun o=>?_) BIG c1.toNat _ (by have:=d9; omega) (by omega); exact w_ hs k (a + n1) o (by omega) (by omega) (by omega)
  | false=>
   simp only [Bool.false_eq_true,if_false]; by_cases h3:(s.length:Int)≤(a:Int)
   ·
    rw [if_pos (by simpa using h3)]; exact ⟨_,rfl,⟨0,rfl,by omega⟩⟩
   ·
    rw [if_neg (by simpa using h3)]; obtain ⟨y,hy⟩:=Gc ([(o.getD 0 0),(o.getD 1 0),(o.getD 2 0),(o.getD 3 0)]:List (BitVec 64)) 47; rw [hy,ak,jZ (by omega)]; exact ⟨_,rfl,⟨a + 1,rfl,by omega⟩⟩
theorem JA {s:Str} (hs:s.length≤4096) (hne:s≠[]):∃ e n,ko s=some (e,((n:Nat):Int))∧n≤s.length:=by
 cases s with
 | nil=>exact absurd rfl hne
 | cons a t=>
  have h0:idx (a :: t) 0=some a:=by have:=f_ (l:=a :: t) (i:=0) (by simp); simpa using this
  unfold ko; rw [h0,ak]; by_cases h1:((a.toNat:Int) == 42)=true
  ·
   rw [if_pos h1]; cases t with
   | nil=>
    obtain ⟨r,hr⟩:=xX false; exact ⟨_,1,by simp [hr]; rfl,by simp⟩
   | cons b t=>
    have h01:idx (a :: b :: t) 1=some b:=by have:=f_ (l:=a :: b :: t) (i:=1) (by simp); simpa using this
    obtain ⟨r,hr⟩:=xX false; obtain ⟨q,hq⟩:=xX true; by_cases h2:(b.toNat:Int)=42
    ·
     have hlen:(1:Int) < (t.length:Int) + 1 + 1:=by omega
     exact ⟨_,2,by simp [h01,h2,hq,hlen]; rfl,by simp⟩
    ·
     have hlen:(1:Int) < (t.length:Int) + 1 + 1:=by omega
     exact ⟨_,1,by simp [h01,h2,hr,hlen]; rfl,by simp⟩
  ·
   rw [if_neg h1]; by_cases h2:((a.toNat:Int) == 63)=true
   ·
    rw [if_pos h2]; obtain ⟨r,hr⟩:=xX false; exact ⟨_,1,by simp [hr]; rfl,by simp⟩
   ·
    rw [if_neg h2]; by_cases h3:((a.toNat:Int) == 91)=true
    ·
     rw [if_pos h3]; unfold pU; obtain ⟨⟨o,m⟩,hr,n,hn,hle⟩:=w_ (s:=a :: t) hs BIG 1 ([0,0,0,0]:List (BitVec 64)) (by have:=d9; omega) (Nat.le_refl _) (by simp); rw [show ((1:Nat):Int)=1 from rfl] at hr; simp only at hn; subst hn; rw [hr,eF]; exact ⟨_,n,rfl,hle⟩
    ·
     rw [if_neg h3]; by_cases h4:((a.toNat:Int) == 92)=true
     ·
      rw [if_pos h4]; cases t with
      | nil=>exact ⟨_,0,by simp; rfl,by simp⟩
      | cons b t=>
       have h01:idx (a :: b :: t) 1=some b:=by have:=f_ (l:=a :: b :: t) (i:=1) (by simp); simpa using this
       obtain ⟨r,hr⟩:=zN b; rw [if_neg (by simp; omega),h01,ak,hr,ak]; exact ⟨_,2,rfl,by simp⟩
     ·
      rw [if_neg h4]; obtain ⟨r,hr⟩:=zN a; rw [ak,hr,ak]; exact ⟨_,1,rfl,by simp⟩
theorem Bh :∀ (k:Nat) (p:Str) (l:List aF),p.length < k→p.length≤4096→l.length + p.length≤4096→∃ r e,fJ k p l=some (r,e)∧r.length≤4096
 | 0,p,l,h,_,_=>by omega
 | k + 1,p,l,h,h1,h2=>by
  rw [fJ]; by_cases hp:p=[]
  ·
   subst hp; exact ⟨l,0,by simp,by omega⟩
  ·
   obtain ⟨e,n,hf,hn⟩:=JA h1 hp; have hpl:0 < p.length:=List.length_pos_iff.2 hp; rw [if_pos (by simpa using hp),hf,eF]; by_cases hz:n=0
   ·
    subst hz; exact ⟨[],5,by simp,by simp⟩
   ·
    rw [if_neg (by simpa using hz),kF (by simp only [List.length_singleton,D6]; omega),ak,lC hn,ak]; exact Bh k (p.drop n) _ (by simp; omega) (by simp; omega) (by simp; omega)
theorem Jl (p:Str):∃ r e,nN p=some (r,e)∧r.length≤4096:=by
 unfold nN; by_cases h:4096 < (p.length:Int)
 · exact ⟨[],3,by simp [h],by simp⟩
 ·
  simp only [h,decide_false,Bool.false_eq_true,if_false]; exact Bh BIG p [] (by have:=d9; omega) (by omega) (by simp; omega)
end Go.Ft
namespace Go.Ft
open Go
attribute [local congr] sV
theorem Dx {l:List aF} (hl:l.length≤4096):∀ (k i:Nat) (a:List Bool),l.length < k + i→i≤l.length→a.length=l.length + 1→∃ r,iQ l k (i:Int) a=some r∧r.length=l.length + 1
 | 0,i,a,h,h',_=>by omega
 | k + 1,i,a,h,h',ha=>by
  rw [iQ]; by_cases hi:i < l.length
  ·
   rw [f_ hi]; simp only [show ((i:Int) < (l.length:Int)) from by omega,decide_true,if_true,ak]; rw [jZ (by omega),f_ (show i + 1 < a.length by omega),ak,f_ (show i < a.length by omega)]
   have hb:∃ b,(if a[i + 1]'(by omega)=true then some true else aA (some (a[i]'(by omega))) fun b2=>some (b2 && l[i].many))=some b:=by
    split
    · exact ⟨_,rfl⟩
    · exact ⟨_,rfl⟩
   obtain ⟨b,hb⟩:=hb; rw [hb,ak]; exact Dx hl k (i + 1) _ (by omega) (by omega) (by simp [ha])
  · exact ⟨a,by simp [show ¬ ((i:Int) < (l.length:Int)) from by omega],ha⟩
theorem A8 {l:List aF} (hl:l.length≤4096) {a:List Bool} (ha:a.length=l.length + 1):∃ r,kL l a=some r∧r.length=l.length + 1:=by
 unfold kL; simpa using Dx hl BIG 0 a (by have:=d9; omega) (by omega) ha
theorem vU {n:Nat} (hn:n≤4096):sS (bE ((n:Int) + 1))=some (List.replicate (n + 1) false):=by
 unfold sS; rw [jZ (by omega),if_pos ⟨by omega,by omega⟩]; simp
theorem xZ {l:List aF} {s:Str} (hl:l.length≤4096) (hs:s.length < 4611686018427387904) {i:Nat} (hi:i < s.length) {a:List Bool} (ha:a.length=l.length + 1) (go:Int→List Bool→Option Bool) (hgo:∀ a:List Bool,a.length=l.length + 1→∃ r,go ((i + 1:Nat):Int) a=some r):
  ∀ (k j:Nat) (nx:List Bool),l.length < k + j→j≤l.length→nx.length=l.length + 1→∃ r,fK l s (i:Int) a go k (j:Int) nx=some r
 | 0,j,nx,h,h',_=>by omega
 | k + 1,j,nx,h,h',hn=>by
  rw [fK]; by_cases hj:j < l.length
  ·
   rw [f_ hj]; simp only [show ((j:Int) < (l.length:Int)) from by omega,decide_true,if_true,ak]; rw [f_ (show j < a.length by omega),ak,f_ hi]; obtain ⟨b2,hb2⟩:=Mx l[j].set s[i]
   have hb:∃ b,(if (!a[j]'(by omega))=true then some true else aA (some s[i]) fun c1=>aA (gI l[j].set c1) fun b2=>some (!b2))=some b:=by
    split
    · exact ⟨_,rfl⟩
    · rw [ak,hb2]; exact ⟨_,rfl⟩
   obtain ⟨b,hb⟩:=hb; rw [hb,ak]; have e1:bE ((j:Int) + 1)=((j + 1:Nat):Int):=jZ (by omega); split
   · rw [e1]; exact xZ hl hs hi ha go hgo k (j + 1) nx (by omega) (by omega) hn
   ·
    split
    ·
     rw [f_ (show j < nx.length by omega),ak,e1]; exact xZ hl hs hi ha go hgo k (j + 1) _ (by omega) (by omega) (by simp [hn])
    ·
     rw [e1,f_ (show j + 1 < nx.length by omega),ak]; exact xZ hl hs hi ha go hgo k (j + 1) _ (by omega) (by omega) (by simp [hn])
  ·
   obtain ⟨r,hr,hrl⟩:=A8 hl hn; simp only [show ¬ ((j:Int) < (l.length:Int)) from by omega,decide_false,Bool.false_eq_true,if_false,hr,ak]; rw [jZ (by omega)]; exact hgo r hrl
theorem FZ {l:List aF} {s:Str} (hl:l.length≤4096) (hs:s.length < 4611686018427387904):∀ (k i:Nat) (a:List Bool),s.length < k + i→i≤s.length→a.length=l.length + 1→∃ r,eZ l s k (i:Int) a=some r
 | 0,i,a,h,h',_=>by omega
 | k + 1,i,a,h,h',ha=>by
  rw [eZ]; by_cases hi:i < s.length
  ·
   simp only [show ((i:Int) < (s.length:Int)) from by omega,decide_true,if_true,vU hl,ak]; simpa using xZ hl hs hi ha (eZ l s k) (fun a ha=>FZ hl hs k (i + 1) a (by omega) (by omega) ha) BIG 0 (List.replicate (l.length + 1) false) (by have:=d9; omega) (by omega) (by simp)
  ·
   simp only [show ¬ ((i:Int) < (s.length:Int)) from by omega,decide_false,Bool.false_eq_true,if_false]; rw [f_ (show l.length < a.length by omega)]; exact ⟨_,rfl⟩
theorem za (p:Str) {s:Str} (hs:s.length < 4611686018427387904):∃ r,je p s=some r:=by
 unfold je; obtain ⟨l,e,h1,hl⟩:=Jl p; rw [h1,eF]; split
 · exact ⟨_,rfl⟩
 ·
  rw [vU hl,ak]
  have h0:idx (List.replicate (l.length + 1) false) 0=some false:=by
   have:=f_ (l:=List.replicate (l.length + 1) false) (i:=0) (by simp); simpa using this
  rw [h0,ak,ak]; obtain ⟨r,hr,hrl⟩:=A8 hl (a:=(List.replicate (l.length + 1) false).set (Int.toNat 0) true) (by simp); rw [hr,ak]; simpa using FZ hl hs BIG 0 r (by have:=d9; omega) (by omega) hrl
theorem CP {l:List Str} {s:Str} (hl:l.length≤4096) (hs:s.length < 4611686018427387904) (hp:∀ p∈l,p.length < 4611686018427387904):∀ (k i:Nat),i < k→i≤l.length→∃ r,iT l s k ((i:Int) - 1)=some r
 | 0,i,h,h'=>by omega
 | k + 1,i,h,h'=>by
  rw [iT]; cases i with
  | zero=>exact ⟨false,by simp⟩
  | succ j=>
   have hj:j < l.length:=by omega
   have e0:((j + 1:Nat):Int) - 1=(j:Int):=by omega
   have e1:bE ((j:Int) - 1)=(j:Int) - 1:=su (by omega); rw [e0,f_ hj]; simp only [show ((0:Int)≤(j:Int)) from by omega,decide_true,if_true,ak]
   have hb:∃ b,(if (!l[j] == ([]:Str))=true then aA (idx l[j] 0) fun x1=>some ((x1.toNat:Int) == 33) else some false)=some b∧(b=true→1≤l[j].length):=by
    cases hq:l[j] with
    | nil=>exact ⟨false,by simp,fun h=>by cases h⟩
    | cons c t=>
     have h0:idx (c :: t) 0=some c:=by have:=f_ (l:=c :: t) (i:=0) (by simp); simpa using this
     exact ⟨_,by simp [h0]; rfl,fun _=>by simp⟩
   obtain ⟨b,hb,hb1⟩:=hb; rw [hb,ak,e1]; cases b with
   | true=>
    have e2:=lC (s:=l[j]) (i:=1) (hb1 rfl); rw [show ((1:Nat):Int)=1 from rfl] at e2; obtain ⟨r,hr⟩:=za (l[j].drop 1) hs; simp only [if_true,e2,ak,hr]; split
    · exact ⟨_,rfl⟩
    · exact CP hl hs hp k j (by omega) (by omega)
   | false=>
    obtain ⟨r,hr⟩:=za l[j] hs; simp only [Bool.false_eq_true,if_false,hr,ak]; split
    · exact ⟨_,rfl⟩
    · exact CP hl hs hp k j (by omega) (by omega)
theorem MW {l:List Str} {s:Str} (hl:l.length≤4096) (hs:s.length < 4611686018427387904) (hp:∀ p∈l,p.length < 4611686018427387904):∃ r,mW l s=some r:=by
 unfold mW; rw [su (by omega)]; exact CP hl hs hp BIG l.length (by have:=d9; omega) (Nat.le_refl _)
def JJ :List (BitVec 64):=[18446744073709551615,18446744073709551615,18446744073709551615,18446744073709551615]
theorem MB (c:UInt8):gI JJ c=some true:=by
 have h:(List.range 256).all (fun n=>gI JJ (UInt8.ofNat n) == some true)=true:=by decide +kernel
 have:=List.all_eq_true.1 h c.toNat (List.mem_range.2 c.toNat_lt); simpa using this
end Go.Ft
namespace Go.Ft
open Go
attribute [local congr] sV
theorem Dz (a b c:BitVec 32):∃ r,kM a b c=some r:=⟨_,rfl⟩
theorem Bu (key:BitVec 64):∀ (k i:Nat) (a b:BitVec 32),4 < k + i→i≤4→∃ r,gL key k a b (i:Int)=some r
 | 0,i,a,b,h,h'=>by omega
 | k + 1,i,a,b,h,h'=>by
  rw [gL]; by_cases hi:(i:Int) < 4
  ·
   rw [if_pos (by simpa using hi),jZ (by omega)]; split
   ·
    obtain ⟨x,hx⟩:=Dz b (BitVec.setWidth 32 (key >>> 32)) (BitVec.ofInt 32 ((i + 1:Nat):Int)); rw [hx,ak]; exact Bu key k (i + 1) _ _ (by omega) (by omega)
   ·
    obtain ⟨x,hx⟩:=Dz b (BitVec.setWidth 32 key) (BitVec.ofInt 32 ((i + 1:Nat):Int)); rw [hx,ak]; exact Bu key k (i + 1) _ _ (by omega) (by omega)
  ·
   rw [if_neg (by simpa using hi)]; exact ⟨_,rfl⟩
theorem IQ (key x:BitVec 64):∃ r,jK key x=some r:=by
 unfold jK; simpa using Bu key BIG 0 _ _ (by have:=d9; omega) (by omega)
theorem Ou (b:List UInt8):(if (b.length:Int) < 8 then (b.length:Int) else 8)=((min b.length 8:Nat):Int):=by
 split <;> omega
theorem Kw (b:List UInt8) (x:BitVec 64) (c:List UInt8) (hc:c.length≤8) (go:List UInt8→BitVec 64→Option (BitVec 64)) (hgo:∀ x,∃ r,go (b.drop (min b.length 8)) x=some r):
  ∀ (k i:Nat) (g:BitVec 64),c.length < k + i→i≤c.length→∃ r,h_ b x c go k g (i:Int)=some r
 | 0,i,g,h,h'=>by omega
 | k + 1,i,g,h,h'=>by
  rw [h_]; by_cases hi:i < c.length
  ·
   have h8:bE (8 * (i:Int))=8 * (i:Int):=su (by omega); rw [if_pos (by simpa using hi),f_ hi,ak,h8,jZ (by omega),show MK (decide (0≤8 * (i:Int)))=some () from by rw [decide_eq_true (by omega)]; rfl,ak,ak]; exact Kw b x c hc go hgo k (i + 1) _ (by omega) (by omega)
  ·
   rw [if_neg (by simpa using hi)]; obtain ⟨m,hm⟩:=IQ g x; rw [hm,ak,Ou,lC (by omega),ak]; exact hgo _
theorem Ky :∀ (k:Nat) (b:List UInt8) (x:BitVec 64),b.length < k→b.length≤1048576→∃ r,dW k b x=some r
 | 0,b,x,h,_=>by omega
 | k + 1,b,x,h,hb=>by
  rw [dW]; by_cases hi:0 < (b.length:Int)
  ·
   rw [if_pos (by simpa using hi),Ou,M4 (by omega),ak]; simpa using Kw b x (b.take (min b.length 8)) (by simp; omega) (dW k) (fun x=>Ky k _ x (by simp; omega) (by simp; omega)) BIG 0 0 (by have:=d9; simp; omega) (by omega)
  ·
   rw [if_neg (by simpa using hi)]; exact ⟨_,rfl⟩
theorem Ik {b:List UInt8} (hb:b.length≤1048576):∃ r,jf b=some r:=by
 unfold jf; obtain ⟨m,hm⟩:=IQ (BitVec.ofInt 64 (b.length:Int)) 0; rw [hm,ak]; exact Ky BIG b m (by have:=d9; omega) hb
theorem Ng (x2:Nat) (hx2:x2 < 1000) (d:BitVec 64) (go:List UInt8→Int→Option (BitVec 64)) (N:Nat) (hN:N≤1000000) (hgo:∀ b:List UInt8,b.length=N→∃ r,go b ((x2 + 1:Nat):Int)=some r):
  ∀ (k i:Nat) (b:List UInt8),8 < k + i→i≤8→b.length + (8 - i)=N→∃ r,iX (x2:Int) d go k b (i:Int)=some r
 | 0,i,b,h,h',_=>by omega
 | k + 1,i,b,h,h',hb=>by
  rw [iX]; by_cases hi:(i:Int) < 8
  ·
   have h8:bE (8 * (i:Int))=8 * (i:Int):=su (by omega); rw [if_pos (by simpa using hi),h8,jZ (by omega),show MK (decide (0≤8 * (i:Int)))=some () from by rw [decide_eq_true (by omega)]; rfl,ak,kF (by simp only [List.length_singleton,D6]; omega),ak]; exact Ng x2 hx2 d go N hN hgo k (i + 1) _ (by omega) (by omega) (by simp; omega)
  ·
   rw [if_neg (by simpa using hi),jZ (by omega)]; exact hgo b (by omega)
theorem Nh {parts:List (BitVec 64)} (hp:parts.length≤100):∀ (k i:Nat) (b:List UInt8),parts.length < k + i→i≤parts.length→b.length + 8 * (parts.length - i)≤100000→∃ r,fT parts k b (i:Int)=some r
 | 0,i,b,h,h',_=>by omega
 | k + 1,i,b,h,h',hb=>by
  rw [fT]; by_cases hi:i < parts.length
  ·
   rw [if_pos (by simpa using hi),f_ hi,ak]; simpa using Ng i (by omega) parts[i] (fT parts k) (b.length + 8) (by omega) (fun b' hb'=>Nh hp k (i + 1) b' (by omega) (by omega) (by omega)) BIG 0 b (by have:=d9; omega) (by omega) (by omega)
  ·
   rw [if_neg (by simpa using hi)]; exact Ik (by omega)
theorem Oq {parts:List (BitVec 64)} (hp:parts.length≤100):∃ r,kN ([102,105,108,101,115]:Str) parts=some r:=by
 unfold kN; rw [kF (by decide),ak,kF (by decide),ak]; simpa using Nh hp BIG 0 _ (by have:=d9; omega) (by omega) (by simp; omega)
def EZ (ps:List Str) (f:aB):Bool:=(mW ps f.path).getD false
def Mf (s:Str):BitVec 64:=(jf s).getD 0
def qW (fs:List aB):List (BitVec 64):=fs.flatMap fun f=>[Mf f.path,f.digest]
def short (fs:List aB):Prop:=fs.length≤20∧∀ f∈fs,f.path.length≤120
def few (ps:List Str):Prop:=ps.length≤10∧∀ p∈ps,p.length≤60
theorem any_eq {ps:List Str} (hp:few ps) {f:aB} (hf:f.path.length≤120):mW ps f.path=some (EZ ps f):=by
 obtain ⟨r,hr⟩:=MW (l:=ps) (s:=f.path) (by have:=hp.1; omega) (by omega) (fun p h=>by have:=hp.2 p h; omega); unfold EZ; rw [hr]; rfl
theorem Kz {s:Str} (h:s.length≤120):jf s=some (Mf s):=by
 obtain ⟨r,hr⟩:=Ik (b:=s) (by omega); unfold Mf; rw [hr]; rfl
theorem G_ (fs:List aB):(qW fs).length=2 * fs.length:=by
 induction fs with
 | nil=>rfl
 | cons f fs ih=>simp only [qW,List.flatMap_cons,List.length_append,List.length_cons,List.length_nil] at ih ⊢; omega
theorem qZ {fs:List aB} {ps:List Str} (hf:short fs) (hp:few ps):∀ (k i:Nat) (s:List (BitVec 64)),fs.length < k + i→i≤fs.length→s.length≤2 * i→
  dS gQ fs ps k s (i:Int)=some (s ++ qW ((fs.drop i).filter (EZ ps)))
 | 0,i,s,h,h',_=>by omega
 | k + 1,i,s,h,h',hs=>by
  rw [dS]; by_cases hi:i < fs.length
  ·
   have hm:=hf.2 _ (List.getElem_mem hi); have hl:=hf.1; rw [if_pos (by simpa using hi),f_ hi,ak,any_eq hp hm,ak,jZ (by omega),List.drop_eq_getElem_cons hi]; cases ha:EZ ps fs[i] with
   | true=>
    have hy:gQ s fs[i]=some (true,s ++ [Mf fs[i].path,fs[i].digest]):=by
     unfold gQ; rw [kF (by simp only [List.length_nil,D6]; omega),List.nil_append,ak,Kz hm,ak,kF (by simp only [List.length_cons,List.length_nil,D6]; omega),ak]
    rw [if_pos rfl,List.filter_cons_of_pos ha,hy,eF]; simp only [Bool.not_true,Bool.false_eq_true,if_false]; refine (qZ hf hp k (i + 1) _ (by omega) (by omega) (by simp; omega)).trans ?_; simp [qW]
   | false=>
    rw [if_neg (by simp),List.filter_cons_of_neg (by simp [ha])]; exact qZ hf hp k (i + 1) s (by omega) (by omega) (by omega)
  ·
   rw [if_neg (by simpa using hi),List.drop_eq_nil_of_le (by omega)]; simp [qW]
theorem hash_eq {fs:List aB} {ps:List Str} (hf:short fs) (hp:few ps):jg fs ps=kN ([102,105,108,101,115]:Str) (qW (fs.filter (EZ ps))):=by
 unfold jg jU; have:=qZ hf hp BIG 0 [] (by have:=d9; have:=hf.1; omega) (by omega) (by simp); rw [show ((0:Nat):Int)=0 from rfl] at this; rw [this,ak,List.nil_append,List.drop_zero]
theorem Ej {fs:List aB} (hf:short fs) (p:aB→Bool):short (fs.filter p):=
 ⟨Nat.le_trans (List.length_filter_le _ _) hf.1,fun f h=>hf.2 f (List.mem_filter.1 h).1⟩
theorem Bg {fs:List aB} (hl:fs.length≤1048576):∀ (k i:Nat),20 < k + i→i≤20→i≤fs.length→(∀ f∈fs.take i,f.path.length≤120)→∃ b,kI fs k (i:Int)=some b∧(b=true→short fs)
 | 0,i,h,_,_,_=>by omega
 | k + 1,i,h,h1,h2,hp=>by
  rw [kI]; by_cases hi:i < fs.length∧i < 20
  ·
   rw [if_pos (by simp; omega),f_ hi.1,ak]; by_cases hg:120 < (fs[i].path.length:Int)
   · exact ⟨false,by rw [if_pos (by simpa using hg)],fun h=>by cases h⟩
   ·
    rw [if_neg (by simpa using hg),jZ (by omega)]; refine Bg hl k (i + 1) (by omega) (by omega) (by omega) fun f hf=>?_; rw [List.take_succ_eq_append_getElem hi.1] at hf; rcases List.mem_append.1 hf with hf | hf
    · exact hp f hf
    · simp at hf; subst hf; omega
  ·
   rw [if_neg (by simp; omega)]; refine ⟨_,rfl,fun hb=>?_⟩; have hb:fs.length≤20:=by simp at hb; omega
   have:i=fs.length:=by omega
   subst this; rw [List.take_length] at hp; exact ⟨hb,hp⟩
theorem wE {ps:List Str} (hl:ps.length≤1048576):∀ (k i:Nat),10 < k + i→i≤10→i≤ps.length→(∀ p∈ps.take i,p.length≤60)→∃ b,iL ps k (i:Int)=some b∧(b=true→few ps)
 | 0,i,h,_,_,_=>by omega
 | k + 1,i,h,h1,h2,hp=>by
  rw [iL]; by_cases hi:i < ps.length∧i < 10
  ·
   rw [if_pos (by simp; omega),f_ hi.1,ak]; by_cases hg:60 < (ps[i].length:Int)
   · exact ⟨false,by rw [if_pos (by simpa using hg)],fun h=>by cases h⟩
   ·
    rw [if_neg (by simpa using hg),jZ (by omega)]; refine wE hl k (i + 1) (by omega) (by omega) (by omega) fun f hf=>?_; rw [List.take_succ_eq_append_getElem hi.1] at hf; rcases List.mem_append.1 hf with hf | hf
    · exact hp f hf
    · simp at hf; subst hf; omega
  ·
   rw [if_neg (by simp; omega)]; refine ⟨_,rfl,fun hb=>?_⟩; have hb:ps.length≤10:=by simp at hb; omega
   have:i=ps.length:=by omega
   subst this; rw [List.take_length] at hp; exact ⟨hb,hp⟩
theorem EX :vP=some true:=by kernel_rfl
end Go.Ft
namespace Go.Ft
open Go
attribute [local congr] sV
theorem Ef (x:BitVec 32):(x.setWidth 64).toNat=x.toNat:=by
 simp only [BitVec.toNat_setWidth]; have:=x.isLt; omega
theorem D9 (x y:BitVec 32):x.setWidth 64 ^^^ y.setWidth 64=(x ^^^ y).setWidth 64:=by
 apply BitVec.eq_of_getLsbD_eq; intro i hi; simp [BitVec.getLsbD_setWidth]
theorem Hg (x k:BitVec 32):((x.setWidth 64 * 2654435761#64 + k.setWidth 64):BitVec 64).toNat % 4294967296=(x * 2654435761#32 + k).toNat:=by
 have e:((x.setWidth 64 * 2654435761#64 + k.setWidth 64):BitVec 64).setWidth 32=x * 2654435761#32 + k:=by
  rw [BitVec.setWidth_add _ _ (by decide),BitVec.setWidth_mul _ _ (by decide)]; simp
 rw [←e,BitVec.toNat_setWidth]
theorem Kv (x:BitVec 64) (y:BitVec 32) (h:x.toNat % 4294967296=y.toNat):x % (4294967296:BitVec 64)=y.setWidth 64:=by
 apply BitVec.eq_of_toNat_eq; rw [BitVec.toNat_umod,Ef,←h]; rfl
theorem round_eq (r k i:BitVec 32):∃ z,kM r k i=some z∧o8 (r.setWidth 64) (k.setWidth 64) (i.setWidth 64)=some (z.setWidth 64):=by
 refine ⟨_,rfl,?_⟩; unfold o8; simp only [ak]
 have h1:((((r.setWidth 64 ^^^ k.setWidth 64) * (2654435761:BitVec 64)) + i.setWidth 64) % (4294967296:BitVec 64))=((r ^^^ k) * (2654435761:BitVec 32) + i).setWidth 64:=by
  apply Kv; rw [D9]; exact Hg _ _
 rw [h1]
 have h2:((r ^^^ k) * (2654435761:BitVec 32) + i).setWidth 64 / (65536:BitVec 64)=(((r ^^^ k) * (2654435761:BitVec 32) + i) >>> 16).setWidth 64:=by
  apply BitVec.eq_of_toNat_eq; rw [BitVec.toNat_udiv,Ef,Ef,BitVec.toNat_ushiftRight,Nat.shiftRight_eq_div_pow]; rfl
 rw [h2,D9]
theorem KW (x:BitVec 64):x / (4294967296:BitVec 64)=((x >>> 32).setWidth 32).setWidth 64:=by
 apply BitVec.eq_of_toNat_eq; rw [BitVec.toNat_udiv,Ef]; simp only [BitVec.toNat_setWidth,BitVec.toNat_ushiftRight,Nat.shiftRight_eq_div_pow]; have:=x.isLt; show x.toNat / 4294967296=_; omega
theorem KV (x:BitVec 64):x % (4294967296:BitVec 64)=(x.setWidth 32).setWidth 64:=by
 apply Kv; rw [BitVec.toNat_setWidth]
theorem Mt (x:BitVec 64):x * (4294967296:BitVec 64)=x <<< 32:=by
 have hk:((4294967296:BitVec 64)).toNat=2 ^ 32:=by decide
 apply BitVec.eq_of_toNat_eq; rw [BitVec.toNat_mul,BitVec.toNat_shiftLeft,Nat.shiftLeft_eq,hk]
theorem join_eq (l r:BitVec 32):(l.setWidth 64 * (4294967296:BitVec 64)) + r.setWidth 64=((l.setWidth 64) <<< 32) ||| r.setWidth 64:=by
 have:((l.setWidth 64) <<< 32) ||| r.setWidth 64=((l.setWidth 64) <<< 32) + r.setWidth 64:=by
  symm; apply BitVec.add_eq_or_of_and_eq_zero; apply BitVec.eq_of_getLsbD_eq; intro i hi; simp [BitVec.getLsbD_setWidth]
  intros
  exact BitVec.getLsbD_of_ge _ _ (by omega)
 rw [this,Mt]
theorem Bv (key:BitVec 64):∀ (k i:Nat) (a b:BitVec 32),4 < k + i→i≤4→gL key k a b (i:Int)=lQ key k (a.setWidth 64) (b.setWidth 64) (BitVec.ofNat 64 (i + 1))
 | 0,i,a,b,h,h'=>by omega
 | k + 1,i,a,b,h,h'=>by
  rw [gL,lQ]; by_cases hi:i < 4
  ·
   rw [jZ (by omega)]
   have hn:(BitVec.ofNat 64 (i + 1) + (1:BitVec 64))=BitVec.ofNat 64 (i + 1 + 1):=by
    apply BitVec.eq_of_toNat_eq; rw [BitVec.toNat_add,BitVec.toNat_ofNat,BitVec.toNat_ofNat]; show ((i + 1) % 2 ^ 64 + 1) % 2 ^ 64=_; omega
   have hw:BitVec.ofNat 64 (i + 1)=(BitVec.ofInt 32 ((i + 1:Nat):Int)).setWidth 64:=by
    have:i=0∨i=1∨i=2∨i=3:=by omega
    rcases this with rfl | rfl | rfl | rfl <;> rfl
   rw [if_pos (by simp; omega)]
   have hc:decide ((((BitVec.ofNat 64 (i + 1)).toNat:Nat):Int)≤4)=true:=by
    have:i=0∨i=1∨i=2∨i=3:=by omega
    rcases this with rfl | rfl | rfl | rfl <;> decide
   rw [if_pos hc,hn]; by_cases hodd:i=1∨i=3
   ·
    have h1:(((i:Int)).tmod 2 == 1)=true:=by rcases hodd with rfl | rfl <;> rfl
    have h2:((((BitVec.ofNat 64 (i + 1)) % (2:BitVec 64)).toNat:Int) == 0)=true:=by rcases hodd with rfl | rfl <;> rfl
    rw [if_pos h1,if_pos h2,KW,hw]; obtain ⟨z,z1,z2⟩:=round_eq b ((key >>> 32).setWidth 32) (BitVec.ofInt 32 ((i + 1:Nat):Int)); rw [z1,z2,ak,ak,D9]; exact Bv key k (i + 1) _ _ (by omega) (by omega)
   ·
    have hev:i=0∨i=2:=by omega
    have h1:¬ (((i:Int)).tmod 2 == 1)=true:=by rcases hev with rfl | rfl <;> decide
    have h2:¬ ((((BitVec.ofNat 64 (i + 1)) % (2:BitVec 64)).toNat:Int) == 0)=true:=by rcases hev with rfl | rfl <;> decide
    rw [if_neg h1,if_neg h2,KV,hw]; obtain ⟨z,z1,z2⟩:=round_eq b (key.setWidth 32) (BitVec.ofInt 32 ((i + 1:Nat):Int)); rw [z1,z2,ak,ak,D9]; exact Bv key k (i + 1) _ _ (by omega) (by omega)
  ·
   have:i=4:=by omega
   subst this; rw [if_neg (by decide),if_neg (by decide),join_eq]
theorem FV (key x:BitVec 64):jK key x=vM key x:=by
 unfold jK vM; rw [KW,KV]; exact Bv key BIG 0 _ _ (by have:=d9; omega) (by omega)
def CR :List UInt8→BitVec 64
 | []=>0
 | c :: r=>(BitVec.setWidth 64 c.toBitVec) ||| (CR r <<< 8)
theorem MN (e:UInt8) (g:BitVec 64):(g * (256:BitVec 64)) + (BitVec.setWidth 64 e.toBitVec)=(BitVec.setWidth 64 e.toBitVec) ||| (g <<< 8):=by
 have h1:g * (256:BitVec 64)=g <<< 8:=by
  apply BitVec.eq_of_toNat_eq; simp only [BitVec.toNat_mul,BitVec.toNat_shiftLeft,Nat.shiftLeft_eq]; rfl
 rw [h1,BitVec.add_comm]; apply BitVec.add_eq_or_of_and_eq_zero; apply BitVec.eq_of_getLsbD_eq; intro i hi; by_cases h8:i < 8
 · simp [BitVec.getLsbD_shiftLeft,h8]
 ·
  have:e.toBitVec.getLsbD i=false:=BitVec.getLsbD_of_ge _ _ (by omega); simp [BitVec.getLsbD_setWidth,this]
theorem Il (b:List UInt8) (x:BitVec 64) (c:List UInt8) (hc:c.length≤8) (go:List UInt8→BitVec 64→Option (BitVec 64)):∀ (k i:Nat) (g:BitVec 64),c.length < k + i→i≤c.length→
  h_ b x c go k g (i:Int)=aA (jK (g ||| (CR (c.drop i) <<< (8 * i))) x) fun x4=>aA (sl b (if (b.length:Int) < 8 then (b.length:Int) else 8) (b.length:Int)) fun b3=>go b3 (x4 ^^^ (g ||| (CR (c.drop i) <<< (8 * i))))
 | 0,i,g,h,h'=>by omega
 | k + 1,i,g,h,h'=>by
  rw [h_]; by_cases hi:i < c.length
  ·
   have h8:bE (8 * (i:Int))=8 * (i:Int):=su (by omega); rw [if_pos (by simpa using hi),f_ hi,ak,h8,jZ (by omega),show MK (decide (0≤8 * (i:Int)))=some () from by rw [decide_eq_true (by omega)]; rfl,ak,ak]; rw [Il b x c hc go k (i + 1) _ (by omega) (by omega)]; have e1:(8 * (i:Int)).toNat=8 * i:=by omega
   have e2:CR (c.drop i)=(BitVec.setWidth 64 c[i].toBitVec) ||| (CR (c.drop (i + 1)) <<< 8):=by rw [List.drop_eq_getElem_cons hi,CR]
   have e3:g ||| (BitVec.setWidth 64 c[i].toBitVec) <<< (8 * (i:Int)).toNat ||| (CR (c.drop (i + 1)) <<< (8 * (i + 1)))=g ||| (CR (c.drop i) <<< (8 * i)):=by
    rw [e1,e2,BitVec.shiftLeft_or_distrib,←BitVec.shiftLeft_add,BitVec.or_assoc,show 8 + 8 * i=8 * (i + 1) from by omega]
   rw [e3]
  ·
   have:i=c.length:=by omega
   subst this; rw [if_neg (by simp),List.drop_length]; simp [CR]
theorem wY (b:List UInt8) (hb:b.length≤1048576) (a:Nat) (ha:a≤1048576):∀ (k i:Nat) (g:BitVec 64),i < k→i≤8→g=CR (((b.drop a).take 8).drop i)→
  jD b (a:Int) k g ((i:Int) - 1)=some (CR ((b.drop a).take 8))
 | 0,i,g,h,h',_=>by omega
 | k + 1,i,g,h,h',hg=>by
  rw [jD]; cases i with
  | zero=>
   rw [if_neg (by simp)]; rw [hg,List.drop_zero]
  | succ j=>
   have e0:((j + 1:Nat):Int) - 1=(j:Int):=by omega
   have e1:bE ((a:Int) + (j:Int))=((a + j:Nat):Int):=by rw [su (by omega)]; omega
   have e2:bE ((j:Int) - 1)=(j:Int) - 1:=su (by omega); rw [e0,if_pos (by simp),e1,e2]; by_cases hj:a + j < b.length
   ·
    rw [if_pos (by simp; omega),f_ hj,ak,ak,MN]; refine wY b hb a ha k j _ (by omega) (by omega) ?_; have hlt:j < ((b.drop a).take 8).length:=by simp; omega
    rw [List.drop_eq_getElem_cons hlt,CR,hg]; simp
   ·
    rw [if_neg (by simp; omega)]; refine wY b hb a ha k j _ (by omega) (by omega) ?_; have h1:((b.drop a).take 8).drop j=[]:=List.drop_eq_nil_of_le (by simp; omega); have h2:((b.drop a).take 8).drop (j + 1)=[]:=List.drop_eq_nil_of_le (by simp; omega); rw [hg,h1,h2]; rfl
theorem K8 {b:List UInt8} (hb:b.length≤1048576) {a:Nat} (ha:a≤1048576):rJ b (a:Int)=some (CR ((b.drop a).take 8)):=by
 unfold rJ; have:=wY b hb a ha BIG 8 0 (by have:=d9; omega) (Nat.le_refl _) (by rw [List.drop_eq_nil_of_le (by simp; omega)]; rfl); exact this
theorem AP {b:List UInt8} (hb:b.length≤1048576):∀ (k a:Nat) (x:BitVec 64),b.length < k + a→a≤b.length + 8→dW k (b.drop a) x=lN b k x (a:Int)
 | 0,a,x,h,h'=>by
  rw [dW,lN]
 | k + 1,a,x,h,h'=>by
  rw [dW,lN]; by_cases hi:a < b.length
  ·
   have hm:(if ((b.drop a).length:Int) < 8 then ((b.drop a).length:Int) else 8)=((min (b.drop a).length 8:Nat):Int):=Ou _; rw [if_pos (show decide (0 < ((b.drop a).length:Int))=true by simp; omega),if_pos (show decide ((a:Int) < (b.length:Int))=true by simp; omega),hm,M4 (by omega),ak,K8 hb (by omega),ak]; have:=Il (b.drop a) x ((b.drop a).take (min (b.drop a).length 8)) (by simp; omega) (dW k) BIG 0 0 (by have:=d9; simp; omega) (by omega); rw [show ((0:Nat):Int)=0 from rfl] at this; rw [this,hm,lC (by omega)]
   have ht:(b.drop a).take (min (b.drop a).length 8)=(b.drop a).take 8:=by
    rw [List.take_eq_take_iff]; omega
   have hz:(0:BitVec 64) ||| (CR (((b.drop a).take 8).drop 0) <<< (8 * 0))=CR ((b.drop a).take 8):=by simp
   rw [ht,hz,FV]; simp only [ak]; congr 1; funext z; rw [List.drop_drop]; have e8:bE ((a:Int) + 8)=((a + 8:Nat):Int):=by rw [su (by omega)]; omega
   rw [e8]; by_cases h8:a + 8≤b.length
   ·
    have:a + min (b.drop a).length 8=a + 8:=by simp; omega
    rw [this]; exact AP hb k (a + 8) _ (by omega) (by omega)
   ·
    have e:b.drop (a + min (b.drop a).length 8)=b.drop (a + 8):=by
     rw [List.drop_eq_nil_of_le (by simp; omega),List.drop_eq_nil_of_le (by omega)]
    rw [e]; exact AP hb k (a + 8) _ (by omega) (by omega)
  · rw [if_neg (by simp; omega),if_neg (by simp; omega)]
theorem Fv {b:List UInt8} (hb:b.length≤1048576):jf b=vL b:=by
 unfold jf vL; rw [FV]; congr 1; funext x; have:=AP hb BIG 0 x (by have:=d9; omega) (by omega); simpa using this
theorem FR (x2:Nat) (hx:x2 < 1000) (d:BitVec 64) (go1:List UInt8→Int→Option (BitVec 64)) (go2:List UInt8→Int→Option (BitVec 64)) (N:Nat) (hN:N≤1000000) (hgo:∀ b:List UInt8,b.length=N→go1 b ((x2 + 1:Nat):Int)=go2 b ((x2 + 1:Nat):Int)):
  ∀ (k i:Nat) (b:List UInt8),8 < k + i→i≤8→b.length + (8 - i)=N→iX (x2:Int) d go1 k b (i:Int)=o9 (x2:Int) go2 k b (d >>> (8 * i)) (i:Int)
 | 0,i,b,h,h',_=>by omega
 | k + 1,i,b,h,h',hb=>by
  rw [iX,o9]; by_cases hi:(i:Int) < 8
  ·
   have h8:bE (8 * (i:Int))=8 * (i:Int):=su (by omega); have e1:(8 * (i:Int)).toNat=8 * i:=by omega
   have e2:BitVec.setWidth 8 ((d >>> (8 * i)) % (256:BitVec 64))=BitVec.setWidth 8 (d >>> (8 * i)):=by
    apply BitVec.eq_of_toNat_eq; simp only [BitVec.toNat_setWidth,BitVec.toNat_umod]; show ((d >>> (8 * i)).toNat % 256) % 256=(d >>> (8 * i)).toNat % 256; omega
   have e3:(d >>> (8 * i)) / (256:BitVec 64)=d >>> (8 * (i + 1)):=by
    rw [show 8 * (i + 1)=8 * i + 8 from by omega,BitVec.shiftRight_add]; apply BitVec.eq_of_toNat_eq; rw [BitVec.toNat_udiv,BitVec.toNat_ushiftRight (x:=d >>> (8 * i)),Nat.shiftRight_eq_div_pow]; rfl
   rw [if_pos (by simpa using hi),if_pos (by simpa using hi),h8,jZ (by omega),show MK (decide (0≤8 * (i:Int)))=some () from by rw [decide_eq_true (by omega)]; rfl,ak,e1,e2,e3,kF (by simp only [List.length_singleton,D6]; omega),ak]; exact FR x2 hx d go1 go2 N hN hgo k (i + 1) _ (by omega) (by omega) (by simp; omega)
  ·
   rw [if_neg (by simpa using hi),if_neg (by simpa using hi),jZ (by omega)]; exact hgo b (by omega)
theorem FT {parts:List (BitVec 64)} (hp:parts.length≤100):∀ (k i:Nat) (b:List UInt8),parts.length < k + i→i≤parts.length→b.length + 8 * (parts.length - i)≤100000→fT parts k b (i:Int)=kH parts k b (i:Int)
 | 0,i,b,h,h',_=>by omega
 | k + 1,i,b,h,h',hb=>by
  rw [fT,kH]; by_cases hi:i < parts.length
  ·
   rw [if_pos (by simpa using hi),if_pos (by simpa using hi),f_ hi,ak,ak]; have:=FR i (by omega) parts[i] (fT parts k) (kH parts k) (b.length + 8) (by omega) (fun b' hb'=>FT hp k (i + 1) b' (by omega) (by omega) (by omega)) BIG 0 b (by have:=d9; omega) (by omega) (by omega); simpa using this
  ·
   rw [if_neg (by simpa using hi),if_neg (by simpa using hi)]; exact Fv (by omega)
theorem FQ (parts:List (BitVec 64)) {label:Str} (hl:label.length≤1000):∀ (k i:Nat) (b:List UInt8),label.length < k + i→i≤label.length→b.length + (label.length - i)≤100000→o_ label parts k b (i:Int)=kH parts BIG (b ++ (label.drop i ++ [0])) 0
 | 0,i,b,h,h',_=>by omega
 | k + 1,i,b,h,h',hb=>by
  rw [o_]; by_cases hi:i < label.length
  ·
   rw [if_pos (by simpa using hi),f_ hi,ak,kF (by simp only [List.length_singleton,D6]; omega),ak,jZ (by omega),FQ parts hl k (i + 1) _ (by omega) (by omega) (by simp; omega),List.drop_eq_getElem_cons hi,List.append_assoc]; rfl
  · rw [if_neg (by simpa using hi),kF (by simp only [List.length_singleton,D6]; omega),ak,List.drop_eq_nil_of_le (by omega),List.nil_append]
theorem of_same {parts:List (BitVec 64)} (hp:parts.length≤100):kN ([102,105,108,101,115]:Str) parts=yV ([102,105,108,101,115]:Str) parts:=by
 unfold kN yV; rw [kF (by decide),ak,kF (by decide),ak]; have h1:=FQ parts (label:=([102,105,108,101,115]:Str)) (by decide) BIG 0 [] (by have:=d9; simp; omega) (by omega) (by decide); have h2:=FT hp BIG 0 ([102,105,108,101,115,0]:List UInt8) (by have:=d9; omega) (by omega) (by simp; omega); rw [show ((0:Nat):Int)=0 from rfl] at h1 h2; rw [h1]; exact h2
end Go.Ft
namespace Go.Ft
open Go
attribute [local congr] sV
def hasB (s:List (BitVec 64)) (c:UInt8):Bool:=(s.getD (c / 64).toNat 0).getLsbD (c % 64).toNat
theorem Qr (c:UInt8):(c / 64).toNat=c.toNat / 64:=UInt8.toNat_div ..
theorem Gs (c:UInt8):(c % 64).toNat=c.toNat % 64:=UInt8.toNat_mod ..
theorem BU (s:List (BitVec 64)) {n:Nat} (h:n < 4):([(s.getD 0 0),(s.getD 1 0),(s.getD 2 0),(s.getD 3 0)]:List (BitVec 64))[n]?=some (s.getD n 0):=by
 have:n=0∨n=1∨n=2∨n=3:=by omega
 rcases this with rfl | rfl | rfl | rfl <;> rfl
theorem BS (s:List (BitVec 64)) (c:UInt8):idx ([(s.getD 0 0),(s.getD 1 0),(s.getD 2 0),(s.getD 3 0)]:List (BitVec 64)) ((c / 64).toNat:Int)=some (s.getD (c / 64).toNat 0):=by
 rw [IV,BU s (wH c)]
theorem OI (e:BitVec 64) (k:Nat):((((e >>> k) &&& (1:BitVec 64)).toNat:Int) == 1)=e.getLsbD k:=by
 have h1:((e >>> k) &&& (1:BitVec 64)).toNat=e.toNat / 2 ^ k % 2:=by
  rw [BitVec.toNat_and,BitVec.toNat_ushiftRight,Nat.shiftRight_eq_div_pow,show (1:BitVec 64).toNat=1 from rfl,Nat.and_one_is_mod]
 rw [h1,BitVec.getLsbD,Nat.testBit_eq_decide_div_mod_eq,Bool.eq_iff_iff,beq_iff_eq,decide_eq_true_eq]; omega
theorem has_eq (s:List (BitVec 64)) (c:UInt8):gI s c=some (hasB s c):=by
 unfold gI; rw [BS,ak,ak,OI]; rfl
theorem IE {m n:Nat} (s:List (BitVec 64)) (x:BitVec 64) (hm:m < 4) (hn:n < 4):(List.set ([(s.getD 0 0),(s.getD 1 0),(s.getD 2 0),(s.getD 3 0)]:List (BitVec 64)) m x).getD n 0=if n=m then x else s.getD n 0:=by
 rw [List.getD_eq_getElem?_getD,List.getElem?_set]; by_cases h:m=n
 · subst h; simp [hm]
 · rw [if_neg h,if_neg (fun e=>h e.symm),BU s hn]; rfl
theorem eP (y:List (BitVec 64)) (c:UInt8):hasB ([(y.getD 0 0),(y.getD 1 0),(y.getD 2 0),(y.getD 3 0)]:List (BitVec 64)) c=hasB y c:=by
 unfold hasB; rw [List.getD_eq_getElem?_getD,BU y (wH c)]; rfl
theorem I5 (c d:UInt8):(c == d)=(decide ((c / 64).toNat=(d / 64).toNat) && decide ((c % 64).toNat=(d % 64).toNat)):=by
 rw [Bool.eq_iff_iff]; simp only [beq_iff_eq,Bool.and_eq_true,decide_eq_true_eq,Qr,Gs,←UInt8.toNat_inj]; omega
theorem Iz {k m:Nat} (hk:k < 64) (hm:m < 64):((1:BitVec 64) <<< m).getLsbD k=decide (k=m):=by
 rw [BitVec.getLsbD_shiftLeft]; by_cases h2:k=m
 · subst h2; simp [hk]
 ·
  rcases Nat.lt_or_ge k m with h3 | h3
  · simp [h3,h2]
  ·
   have:k - m≠0:=by omega
   have h4:((1:BitVec 64)).getLsbD (k - m)=false:=by
    rw [show (1:BitVec 64)=1#64 from rfl,BitVec.getLsbD_one]; simp [this]
   rw [h4,Bool.and_false,decide_eq_false h2]
theorem E8 (s:List (BitVec 64)) (d:UInt8):∃ r,fQ s d=some r∧∀ c,hasB r c=(hasB s c || c == d):=by
 unfold fQ; rw [BS]; simp only [ak]; refine ⟨_,rfl,fun c=>?_⟩; rw [eP]; unfold hasB; rw [show (Int.toNat ((d / 64).toNat:Int))=(d / 64).toNat from by omega,IE s _ (wH d) (wH c),I5]; have hk:(c % 64).toNat < 64:=by rw [Gs]; omega
 by_cases h:(c / 64).toNat=(d / 64).toNat
 ·
  rw [if_pos h,h,BitVec.getLsbD_or]; congr 1; rw [decide_eq_true rfl,Bool.true_and]; exact Iz hk (by rw [Gs]; omega)
 · rw [if_neg h,decide_eq_false h,Bool.false_and,Bool.or_false]
theorem Gd (s:List (BitVec 64)) (d:UInt8):∃ r,g_ s d=some r∧∀ c,hasB r c=(hasB s c && !(c == d)):=by
 unfold g_; rw [BS]; simp only [ak]; refine ⟨_,rfl,fun c=>?_⟩; rw [eP]; unfold hasB; rw [show (Int.toNat ((d / 64).toNat:Int))=(d / 64).toNat from by omega,IE s _ (wH d) (wH c),I5]; have hk:(c % 64).toNat < 64:=by rw [Gs]; omega
 by_cases h:(c / 64).toNat=(d / 64).toNat
 ·
  rw [if_pos h,h,BitVec.getLsbD_and]; congr 1; rw [decide_eq_true rfl,Bool.true_and,BitVec.getLsbD_not,Iz hk (by rw [Gs]; omega),decide_eq_true hk,Bool.true_and]
 · rw [if_neg h,decide_eq_false h,Bool.false_and,Bool.not_false,Bool.and_true]
def DK (m:aj):Bool:=(m.kind == 1) || (m.kind == 2)
theorem IU (m:aj):uP m=some (DK m):=rfl
structure Rel (e:aF) (m:aj):Prop where
 many:e.many=DK m
 fits:∀ c,rH m c=some (hasB e.set c)
structure GH (L:List aF) (M:List aj):Prop where
 len:L.length=M.length
 rel:∀ i (h:i < L.length) (h':i < M.length),Rel L[i] M[i]
theorem set_self {l:List Bool} {i:Nat} (h:i < l.length):l.set i l[i]=l:=by
 apply List.ext_getElem
 · simp
 ·
  intro j h1 h2; rw [List.getElem_set]; split
  · rename_i e; subst e; rfl
  · rfl
theorem vI {L:List aF} {M:List aj} (hr:GH L M) (hl:L.length≤4096) (go:List Bool→Option Bool):∀ (k i:Nat) (a:List Bool),L.length < k + i→i≤L.length→a.length=L.length + 1→
  iy M go k a (i:Int)=aA (iQ L k (i:Int) a) go
 | 0,i,a,h,h',_=>by omega
 | k + 1,i,a,h,h',ha=>by
  rw [iy,iQ]; have hlen:=hr.len; by_cases hi:i < L.length
  ·
   have hm:i < M.length:=by omega
   have e1:bE ((i:Int) + 1)=((i + 1:Nat):Int):=jZ (by omega); rw [if_pos (show decide ((i:Int) < (M.length:Int))=true by simp; omega),if_pos (show decide ((i:Int) < (L.length:Int))=true by simp; omega),e1,f_ (show i < a.length by omega),f_ hm,f_ hi,f_ (show i + 1 < a.length by omega)]; simp only [ak,IU]; have Qg:=(hr.rel i hi hm).many; have et:(((i + 1:Nat):Int)).toNat=i + 1:=by omega
   rw [et]; have hs1:(a.set (i + 1) true).length=L.length + 1:=by simp [ha]
   cases hai:a[i]'(by omega) with
   | false=>
    simp only [Bool.false_eq_true,if_false,ak,Bool.false_and]; have:(if a[i + 1]'(by omega)=true then some true else some false)=some (a[i + 1]'(by omega)):=by cases a[i + 1]'(by omega) <;> rfl
    rw [this,ak,set_self (by omega)]; exact vI hr hl go k (i + 1) a (by omega) (by omega) ha
   | true=>
    simp only [if_true,Bool.true_and]; rw [Qg]; cases hmb:DK M[i] with
    | false=>
     simp only [ak,Bool.false_eq_true,if_false]; have:(if a[i + 1]'(by omega)=true then some true else some false)=some (a[i + 1]'(by omega)):=by cases a[i + 1]'(by omega) <;> rfl
     rw [this,ak,set_self (by omega)]; exact vI hr hl go k (i + 1) a (by omega) (by omega) ha
    | true=>
     simp only [ak,if_true]; have:(if a[i + 1]'(by omega)=true then some true else some true)=some true:=by cases a[i + 1]'(by omega) <;> rfl
     rw [this,ak]; exact vI hr hl go k (i + 1) _ (by omega) (by omega) hs1
  · rw [if_neg (show ¬ decide ((i:Int) < (M.length:Int))=true by simp; omega),if_neg (show ¬ decide ((i:Int) < (L.length:Int))=true by simp; omega),ak]
theorem rP {L:List aF} {M:List aj} (hr:GH L M) (hl:L.length≤4096) {s:Str} (hs:s.length < 4611686018427387904) {p:Nat} (hp:p < s.length) {a:List Bool} (ha:a.length=L.length + 1) (go:List Bool→Option Bool) (gp:Int→List Bool→Option Bool)
  (hgo:∀ nx:List Bool,nx.length=L.length + 1→go nx=aA (kL L nx) (gp (bE ((p:Int) + 1)))):∀ (k i:Nat) (nx:List Bool),L.length < k + i→i≤L.length→nx.length=L.length + 1→
  gM M s (p:Int) a go k nx (i:Int)=fK L s (p:Int) a gp k (i:Int) nx
 | 0,i,nx,h,h',_=>by omega
 | k + 1,i,nx,h,h',hn=>by
  rw [gM,fK]; have hlen:=hr.len; by_cases hi:i < L.length
  ·
   have hm:i < M.length:=by omega
   have e1:bE ((i:Int) + 1)=((i + 1:Nat):Int):=jZ (by omega); have hrel:=hr.rel i hi hm; rw [if_pos (show decide ((i:Int) < (M.length:Int))=true by simp; omega),if_pos (show decide ((i:Int) < (L.length:Int))=true by simp; omega),e1,f_ (show i < a.length by omega),f_ hm,f_ hi,f_ hp,f_ (show i < nx.length by omega),f_ (show i + 1 < nx.length by omega)]; simp only [ak,IU,hrel.fits,has_eq]; cases hai:a[i]'(by omega) with
   | false=>
    simp only [Bool.false_eq_true,if_false,ak,Bool.not_false,if_true]; exact rP hr hl hs hp ha go gp hgo k (i + 1) nx (by omega) (by omega) hn
   | true=>
    simp only [if_true,ak,Bool.not_true,Bool.false_eq_true,if_false]; cases hasB L[i].set s[p] with
    | false=>
     simp only [Bool.false_eq_true,if_false,Bool.not_false,if_true]; exact rP hr hl hs hp ha go gp hgo k (i + 1) nx (by omega) (by omega) hn
    | true=>
     simp only [if_true,Bool.not_true,Bool.false_eq_true,if_false]; rw [hrel.many]; cases DK M[i] with
     | false=>
      simp only [Bool.false_eq_true,if_false]; exact rP hr hl hs hp ha go gp hgo k (i + 1) _ (by omega) (by omega) (by simp [hn])
     | true=>
      simp only [if_true]; exact rP hr hl hs hp ha go gp hgo k (i + 1) _ (by omega) (by omega) (by simp [hn])
  ·
   rw [if_neg (show ¬ decide ((i:Int) < (M.length:Int))=true by simp; omega),if_neg (show ¬ decide ((i:Int) < (L.length:Int))=true by simp; omega)]; exact hgo nx hn
theorem vE {α β:Type} {x:Option α} {f g:α→Option β} (h:∀ a,x=some a→f a=g a):aA x f=aA x g:=by
 cases x with
 | none=>rfl
 | some a=>exact h a rfl
theorem xY {L:List aF} {M:List aj} (hr:GH L M) (hl:L.length≤4096) {s:Str} (hs:s.length < 4611686018427387904):∀ (k p:Nat) (a:List Bool),s.length < k + p→p≤s.length→a.length=L.length + 1→
  eY M s k (p:Int) a=aA (kL L a) (fun a2=>eZ L s k (p:Int) a2)
 | 0,p,a,h,h',_=>by omega
 | k + 1,p,a,h,h',ha=>by
  rw [eY,if_pos (show decide ((p:Int)≤(s.length:Int))=true by simp; omega)]; have h1:=vI hr hl (kZ M s (p:Int) (eY M s k (bE ((p:Int) + 1)))) BIG 0 a (by have:=d9; omega) (by omega) ha; rw [show ((0:Nat):Int)=0 from rfl] at h1; rw [h1]; refine vE fun a2 ha2=>?_
  have Qh:a2.length=L.length + 1:=by
   obtain ⟨r,hr1,hr2⟩:=A8 hl ha; unfold kL at hr1; rw [hr1] at ha2; cases ha2; exact hr2
  rw [eZ]; unfold kZ; by_cases hp:p < s.length
  ·
   rw [if_neg (show ¬ ((p:Int) == (s.length:Int))=true by simp; omega),if_pos (show decide ((p:Int) < (s.length:Int))=true by simp; omega),←hr.len,vU hl,ak,ak]; have e1:bE ((p:Int) + 1)=((p + 1:Nat):Int):=jZ (by omega)
   have:=rP hr hl hs hp Qh (eY M s k (bE ((p:Int) + 1))) (eZ L s k) (fun nx hn=>by
    rw [e1]
    exact xY hr hl hs k (p + 1) nx (by omega) (by omega) hn) BIG 0 (List.replicate (L.length + 1) false) (by have:=d9; omega) (by omega) (by simp)
   rw [show ((0:Nat):Int)=0 from rfl] at this; exact this
  ·
   have:p=s.length:=by omega
   subst this; rw [if_pos (by simp),if_neg (by simp),hr.len]
end Go.Ft
namespace Go.Ft
open Go
attribute [local congr] sV
def Da (l:List (List UInt8)) (c:UInt8):Bool:=l.any fun it=>decide ((it.getD 0 0).toNat≤c.toNat) && decide (c.toNat≤(it.getD 1 0).toNat)
theorem DR (e:aj) (hl:e.items.length≤10000) (c:UInt8):∀ (k i:Nat),e.items.length < k + i→i≤e.items.length→l8 e c k (i:Int)=some (Da (e.items.drop i) c)
 | 0,i,h,h'=>by omega
 | k + 1,i,h,h'=>by
  rw [l8]; by_cases hi:i < e.items.length
  ·
   rw [if_pos (show decide ((i:Int) < (e.items.length:Int))=true by simp; omega),f_ hi,ak,jZ (by omega),List.drop_eq_getElem_cons hi]; have ih:=DR e hl c k (i + 1) (by omega) (by omega); simp only [ak,Da,List.any_cons]; unfold Da at ih; generalize e.items[i]=it at *; by_cases h1:(it.getD 0 0).toNat≤c.toNat
   ·
    by_cases h2:c.toNat≤(it.getD 1 0).toNat
    ·
     have a1:decide (((it.getD 0 0).toNat:Int)≤(c.toNat:Int))=true:=by simp only [decide_eq_true_eq]; omega
     have a2:decide ((c.toNat:Int)≤((it.getD 1 0).toNat:Int))=true:=by simp only [decide_eq_true_eq]; omega
     rw [a1,a2,decide_eq_true h1,decide_eq_true h2]; rfl
    ·
     have a1:decide (((it.getD 0 0).toNat:Int)≤(c.toNat:Int))=true:=by simp only [decide_eq_true_eq]; omega
     have a2:decide ((c.toNat:Int)≤((it.getD 1 0).toNat:Int))=false:=by simp only [decide_eq_false_iff_not]; omega
     rw [a1,a2,decide_eq_true h1,decide_eq_false h2]; simp only [if_true,ak,Bool.false_eq_true,if_false,Bool.and_false,Bool.false_or]; exact ih
   ·
    have a1:decide (((it.getD 0 0).toNat:Int)≤(c.toNat:Int))=false:=by simp only [decide_eq_false_iff_not]; omega
    rw [a1,decide_eq_false h1]; simp only [ak,Bool.false_eq_true,if_false,Bool.false_and,Bool.false_or]; exact ih
  ·
   have:i=e.items.length:=by omega
   subst this; rw [if_neg (show ¬ decide ((e.items.length:Int) < (e.items.length:Int))=true by simp),List.drop_length]; rfl
theorem QM (c:UInt8):((c.toNat:Int) == 47)=(c == 47):=by
 rw [Bool.eq_iff_iff]; simp only [beq_iff_eq,←UInt8.toNat_inj]; simp only [show (47:UInt8).toNat=47 from rfl]; omega
theorem yx (e:aj) (hl:e.items.length≤10000) (c:UInt8):rH e c=some (if e.kind == 1 then true else if (e.kind != 5) && (c == 47) then false else if (e.kind == 2) || (e.kind == 3) then true else Da e.items c):=by
 unfold rH; rw [QM]; have:=DR e hl c BIG 0 (by have:=d9; omega) (by omega); rw [show ((0:Nat):Int)=0 from rfl,List.drop_zero] at this; rw [this]; split
 · rfl
 ·
  split
  · rfl
  · split <;> rfl
theorem I8 (c:UInt8):hasB JJ c=true:=by
 have:=MB c; rw [has_eq] at this; exact Option.some.inj this
theorem Fb (c:UInt8):hasB ([0,0,0,0]:List (BitVec 64)) c=false:=by
 unfold hasB; have h:=wH c; have:(c / 64).toNat=0∨(c / 64).toNat=1∨(c / 64).toNat=2∨(c / 64).toNat=3:=by omega
 rcases this with h | h | h | h <;> rw [h] <;> exact BitVec.getLsbD_zero
theorem Jr :jN true=some JJ:=rfl
theorem Hl :∃ r,jN false=some r∧∀ c,hasB r c=!(c == 47):=by
 unfold jN; obtain ⟨r,h1,h2⟩:=Gd JJ 47; unfold JJ at h1; refine ⟨_,by simp only [Bool.not_false,if_true,h1,ak]; rfl,fun c=>?_⟩; rw [eP,h2,I8,Bool.true_and]
theorem BG (d:UInt8):∃ e,iR d=some e∧Rel e ⟨5,[[d,d]]⟩:=by
 unfold iR; obtain ⟨r,h1,h2⟩:=E8 ([0,0,0,0]:List (BitVec 64)) d; rw [h1,ak]; refine ⟨_,rfl,⟨rfl,fun c=>?_⟩⟩; rw [yx _ (by simp),eP,h2,Fb,Bool.false_or]; simp only [show ((5:Int) == 1)=false from rfl,show ((5:Int) != 5)=false from rfl,show ((5:Int) == 2)=false from rfl,show ((5:Int) == 3)=false from rfl,Bool.false_and,Bool.false_eq_true,if_false,Bool.or_self,Da,List.any_cons,List.any_nil,Bool.or_false]; congr 1; rw [Bool.eq_iff_iff]; simp only [Bool.and_eq_true,decide_eq_true_eq,beq_iff_eq,←UInt8.toNat_inj]; show d.toNat≤c.toNat∧c.toNat≤d.toNat↔_; omega
theorem CB {c:Nat} (h:c < 256):(Ft.byteOf (c:Int)).toNat=c:=by
 unfold Ft.byteOf; simp; omega
theorem Nk (dB n1:Int) (jT:UInt8) (n2:Int) (go:Int→List (BitVec 64)→Option (List (BitVec 64) × Int)) (at2:Int) (hat:bE (bE (dB + n1) + bE (1 + n2))=at2):∀ (k c:Nat) (o:List (BitVec 64)),257 < k + c→c≤256→
  ∃ o',gK dB n1 jT n2 go k (c:Int) o=go at2 o'∧∀ x,hasB o' x=(hasB o x || (decide (c≤x.toNat) && decide (x.toNat≤jT.toNat)))
 | 0,c,o,h,h'=>by omega
 | k + 1,c,o,h,h'=>by
  rw [gK]; have hl:=jT.toNat_lt; by_cases hc:(c:Int)≤(jT.toNat:Int)
  ·
   obtain ⟨y,hy,hy2⟩:=E8 ([(o.getD 0 0),(o.getD 1 0),(o.getD 2 0),(o.getD 3 0)]:List (BitVec 64)) (Ft.byteOf (c:Int)); rw [if_pos (by simpa using hc),hy,ak,jZ (by omega)]; obtain ⟨o',h1,h2⟩:=Nk dB n1 jT n2 go at2 hat k (c + 1) ([(y.getD 0 0),(y.getD 1 0),(y.getD 2 0),(y.getD 3 0)]:List (BitVec 64)) (by omega) (by omega); refine ⟨o',h1,fun x=>?_⟩; rw [h2,eP,hy2,eP,Bool.or_assoc]; congr 1; rw [Bool.eq_iff_iff]; simp only [Bool.or_eq_true,Bool.and_eq_true,decide_eq_true_eq,beq_iff_eq,←UInt8.toNat_inj,CB (show c < 256 by omega)]; omega
  ·
   rw [if_neg (by simpa using hc),hat]; refine ⟨_,rfl,fun x=>?_⟩; rw [eP]
   have:(decide (c≤x.toNat) && decide (x.toNat≤jT.toNat))=false:=by
    rw [Bool.and_eq_false_iff]; simp only [decide_eq_false_iff_not]; omega
   rw [this,Bool.or_false]
theorem Nj (dB:Int) (fH:UInt8) (n1:Int) (go:Int→List (BitVec 64)→Option (List (BitVec 64) × Int)) (at2:Int) (hat:bE (dB + n1)=at2):∀ (k c:Nat) (o:List (BitVec 64)),257 < k + c→c≤256→
  ∃ o',gJ dB fH n1 go k (c:Int) o=go at2 o'∧∀ x,hasB o' x=(hasB o x || (decide (c≤x.toNat) && decide (x.toNat≤fH.toNat)))
 | 0,c,o,h,h'=>by omega
 | k + 1,c,o,h,h'=>by
  rw [gJ]; have hl:=fH.toNat_lt; by_cases hc:(c:Int)≤(fH.toNat:Int)
  ·
   obtain ⟨y,hy,hy2⟩:=E8 ([(o.getD 0 0),(o.getD 1 0),(o.getD 2 0),(o.getD 3 0)]:List (BitVec 64)) (Ft.byteOf (c:Int)); rw [if_pos (by simpa using hc),hy,ak,jZ (by omega)]; obtain ⟨o',h1,h2⟩:=Nj dB fH n1 go at2 hat k (c + 1) ([(y.getD 0 0),(y.getD 1 0),(y.getD 2 0),(y.getD 3 0)]:List (BitVec 64)) (by omega) (by omega); refine ⟨o',h1,fun x=>?_⟩; rw [h2,eP,hy2,eP,Bool.or_assoc]; congr 1; rw [Bool.eq_iff_iff]; simp only [Bool.or_eq_true,Bool.and_eq_true,decide_eq_true_eq,beq_iff_eq,←UInt8.toNat_inj,CB (show c < 256 by omega)]; omega
  ·
   rw [if_neg (by simpa using hc),hat]; refine ⟨_,rfl,fun x=>?_⟩; rw [eP]
   have:(decide (c≤x.toNat) && decide (x.toNat≤fH.toNat))=false:=by
    rw [Bool.and_eq_false_iff]; simp only [decide_eq_false_iff_not]; omega
   rw [this,Bool.or_false]
theorem qH {P:Str} {b:Nat} (h:b < P.length):gT P (b:Int)=some P[b]:=by
 unfold gT; rw [if_pos (by simp; omega),f_ h]
theorem uX {P:Str} {b:Nat} (h:P.length≤b):gT P (b:Int)=some 0:=by
 unfold gT; rw [if_neg (by simp; omega)]
theorem zQ {P:Str} (hP:P.length≤4096) {b:Nat} (hb:b≤P.length):∃ c n c' nx ok,iN (P.drop b)=some (c,((n:Nat):Int))∧lM P (b:Int)=some (c',nx,ok)∧(n=0∧ok=false∨0 < n∧ok=true∧c'=c∧nx=((b + n:Nat):Int)∧b + n≤P.length):=by
 by_cases hlt:b < P.length
 ·
  have K6:P.drop b=P[b] :: P.drop (b + 1):=List.drop_eq_getElem_cons hlt
  have h0:idx (P.drop b) 0=some P[b]:=by
   have:=f_ (l:=P.drop b) (i:=0) (by simp; omega); simpa using this
  have hne:(P.drop b == ([]:Str))=false:=by rw [K6]; rfl
  have e1:bE ((b:Int) + 1)=((b + 1:Nat):Int):=jZ (by omega); have e2:bE (((b + 1:Nat):Int) + 1)=((b + 1 + 1:Nat):Int):=jZ (by omega); unfold iN lM; rw [h0,hne,f_ hlt,e1,e2]; have hin:decide ((b:Int) < (P.length:Int))=true:=by simp; omega
  have hin2:decide ((P.length:Int)≤(b:Int))=false:=by simp; omega
  rw [hin,hin2]; simp only [Bool.false_eq_true,if_false,if_true,ak]; by_cases MC:(P[b].toNat:Int)=92
  ·
   have n93:((P[b].toNat:Int) == 93)=false:=by rw [MC]; rfl
   have n45:((P[b].toNat:Int) == 45)=false:=by rw [MC]; rfl
   have n92:((P[b].toNat:Int) != 92)=false:=by rw [MC]; rfl
   have Pg:((P[b].toNat:Int) == 92)=true:=by rw [MC]; rfl
   rw [n93,n45,n92,Pg]; simp only [Bool.false_eq_true,if_false,if_true,ak]; by_cases hl2:b + 1 < P.length
   ·
    have h1:idx (P.drop b) 1=some (P[b + 1]'hl2):=by
     have:=f_ (l:=P.drop b) (i:=1) (by simp; omega); simpa using this
    rw [if_neg (by simp; omega),h1,ak,qH hl2,ak]; exact ⟨_,2,_,_,_,rfl,rfl,.inr ⟨by omega,by simp; omega,rfl,rfl,by omega⟩⟩
   ·
    rw [if_pos (by simp; omega),uX (by omega),ak]; exact ⟨_,0,_,_,_,rfl,rfl,.inl ⟨rfl,by simp; omega⟩⟩
  ·
   have n92:((P[b].toNat:Int) != 92)=true:=by simpa using MC
   have Pg:((P[b].toNat:Int) == 92)=false:=by simpa using MC
   rw [n92,Pg]; simp only [Bool.false_eq_true,if_false,if_true,ak]; by_cases Np:(P[b].toNat:Int)=93
   ·
    rw [show ((P[b].toNat:Int) == 93)=true from by rw [Np]; rfl]; exact ⟨0,0,0,_,false,by simp,by simp; rfl,.inl ⟨rfl,rfl⟩⟩
   ·
    rw [show ((P[b].toNat:Int) == 93)=false from by simpa using Np]; by_cases h45:(P[b].toNat:Int)=45
    ·
     rw [show ((P[b].toNat:Int) == 45)=true from by rw [h45]; rfl]; exact ⟨0,0,0,_,false,by simp,by simp; rfl,.inl ⟨rfl,rfl⟩⟩
    ·
     rw [show ((P[b].toNat:Int) == 45)=false from by simpa using h45]; exact ⟨P[b],1,P[b],((b + 1:Nat):Int),true,by simp,by simp,.inr ⟨by omega,rfl,rfl,rfl,by omega⟩⟩
 ·
  have:b=P.length:=by omega
  subst this; refine ⟨0,0,0,(P.length:Int),false,by rw [List.drop_length]; rfl,?_,.inl ⟨rfl,rfl⟩⟩; unfold lM; simp
end Go.Ft
namespace Go.Ft
open Go
attribute [local congr] sV
def O0 (P:Str) (a:Nat) (r:List (BitVec 64) × Int) (q:aj × Int × Bool):Prop:=
 (r.2=0∧q.2.2=false)∨∃ n:Nat,0 < n∧r.2=(n:Int)∧q.2.2=true∧q.2.1=((a + n:Nat):Int)∧a + n≤P.length∧q.1.kind=4∧q.1.items.length≤10000∧∀ c,hasB r.1 c=(Da q.1.items c && !(c == 47))
theorem F7 (l:List (List UInt8)) (x y:UInt8) (c:UInt8):Da (l ++ [([x,y]:List UInt8)]) c=(Da l c || (decide (x.toNat≤c.toNat) && decide (c.toNat≤y.toNat))):=by
 unfold Da; rw [List.any_append]; simp
theorem Ns {a b:Nat} (h:a < b):decide ((a:Int) < (b:Int))=true:=decide_eq_true (Int.ofNat_lt.2 h)
theorem Qo {a b:Nat} (h:b≤a):¬ decide ((a:Int) < (b:Int))=true:=by rw [decide_eq_false (by omega)]; simp
theorem HV {P:Str} {b:Nat} (hlt:b < P.length) (Np:(P[b].toNat:Int)=93):iN (P.drop b)=some (0,0):=by
 have K6:P.drop b=P[b] :: P.drop (b + 1):=List.drop_eq_getElem_cons hlt
 have h0:idx (P.drop b) 0=some P[b]:=by
  have:=f_ (l:=P.drop b) (i:=0) (by simp; omega); simpa using this
 have hne:(P.drop b == ([]:Str))=false:=by rw [K6]; rfl
 unfold iN; rw [h0,hne]; simp [Np]
theorem xg {P:Str} (hP:P.length≤4096) {a:Nat} (ha:a < P.length):∀ (k t:Nat) (o:List (BitVec 64)) (e:aj),P.length < k + (a + t)→1≤t→a + t≤P.length→e.kind=4→(e.items=[]↔t=1)→e.items.length≤t→(∀ c,hasB o c=Da e.items c)→
  ∃ r q,bY (P.drop a) k (t:Int) o=some r∧jB P k ((a + t:Nat):Int) e=some q∧O0 P a r q
 | 0,t,o,e,h,_,_,_,_,_,_=>by omega
 | k + 1,t,o,e,h,h1,h2,hk,hit,hil,ho=>by
  rw [bY,jB]; have JV:(P.drop a).length=P.length - a:=List.length_drop ..; obtain ⟨c1,n1,c1',tX,ok1,g1,g2,g3⟩:=zQ hP (b:=a + t) h2; have hdr:(P.drop a).drop t=P.drop (a + t):=by rw [List.drop_drop]
  have fail:n1=0∧ok1=false→∃ r,(aA (sl (P.drop a) (t:Int) ((P.drop a).length:Int)) fun x2=>fV (iN x2) fun fH n1=>if (n1 == 0)=true then some (([(o.getD 0 0),(o.getD 1 0),(o.getD 2 0),(o.getD 3 0)]:List (BitVec 64)),(0:Int)) else
    aA (if decide ((bE ((t:Int) + n1)) < ((P.drop a).length:Int))=true then aA (idx (P.drop a) (bE ((t:Int) + n1))) fun x3=>some ((x3.toNat:Int) == 45) else some false) fun b3=>
    if b3=true then aA (sl (P.drop a) (bE ((bE ((t:Int) + n1)) + 1)) ((P.drop a).length:Int)) fun x4=>fV (iN x4) fun jT n2=>
     if ((n2 == 0) || (decide ((jT.toNat:Int) < (fH.toNat:Int))))=true then some (([(o.getD 0 0),(o.getD 1 0),(o.getD 2 0),(o.getD 3 0)]:List (BitVec 64)),(0:Int))
     else gK (t:Int) n1 jT n2 (bY (P.drop a) k) BIG (fH.toNat:Int) ([(o.getD 0 0),(o.getD 1 0),(o.getD 2 0),(o.getD 3 0)]:List (BitVec 64))
    else gJ (t:Int) fH n1 (bY (P.drop a) k) BIG (fH.toNat:Int) ([(o.getD 0 0),(o.getD 1 0),(o.getD 2 0),(o.getD 3 0)]:List (BitVec 64)))=some r∧r.2=0:=by
   rintro ⟨rfl,rfl⟩; rw [lC (by omega),ak,hdr,g1,eF]; exact ⟨_,rfl,rfl⟩
  by_cases hend:P.length≤a + t
  ·
   
   have heq:a + t=P.length:=by clear fail; omega
   have hbad:n1=0∧ok1=false:=by
    rcases g3 with g3 | ⟨g4,_,_,_,g3⟩
    · exact g3
    · exact absurd g3 (by clear fail; omega)
   rw [uX hend,ak,g2,tO,hbad.2]; rw [if_pos (show (((((0:UInt8).toNat:Int)) != 93) || (decide ((P.length:Int)≤((a + t:Nat):Int))))=true by simp)]; simp only [Bool.not_false,if_true]; by_cases ht:t=1
   ·
    subst ht; rw [if_pos (by rfl),ak,if_pos rfl]; obtain ⟨r,hr,hr2⟩:=fail hbad; exact ⟨r,_,hr,rfl,.inl ⟨hr2,rfl⟩⟩
   ·
    rw [if_neg (show ¬ (((t:Nat):Int) == 1)=true by clear fail; simp; omega),if_neg (Qo (show (P.drop a).length≤t by clear fail; rw [JV]; omega)),ak]; simp only [Bool.false_eq_true,if_false]; rw [if_pos (show decide (((P.drop a).length:Int)≤(t:Int))=true by clear fail; simp; omega)]; exact ⟨_,_,rfl,rfl,.inl ⟨rfl,rfl⟩⟩
  ·
   have hlt:a + t < P.length:=by clear fail; omega
   have Rv:(P.drop a)[t]'(by clear fail; omega)=P[a + t]:=by simp
   rw [qH hlt,ak]; have hdec:decide ((P.length:Int)≤((a + t:Nat):Int))=false:=by simp; omega
   rw [hdec,Bool.or_false]; by_cases Np:(P[a + t].toNat:Int)=93
   ·
    
    have x93:((P[a + t].toNat:Int) != 93)=false:=by rw [Np]; rfl
    rw [x93]; simp only [Bool.false_eq_true,if_false]; have e1:bE (((a + t:Nat):Int) + 1)=((a + t + 1:Nat):Int):=jZ (by clear fail; omega); rw [e1]; by_cases ht:t=1
    ·
     have hnil:=hit.2 ht; subst ht; rw [if_pos (by rfl),ak,if_pos rfl]
     have hbad:n1=0∧ok1=false:=by
      rcases g3 with g3 | ⟨g4,g5,g6,g7,g8⟩
      · exact g3
      ·
       exfalso; rw [HV hlt Np] at g1; simp at g1; clear fail; omega
     obtain ⟨r,hr,hr2⟩:=fail hbad; exact ⟨r,_,hr,rfl,.inl ⟨hr2,by rw [hnil]; rfl⟩⟩
    ·
     have hne:e.items≠[]:=fun h=>ht (hit.1 h); rw [if_neg (show ¬ (((t:Nat):Int) == 1)=true by clear fail; simp; omega),if_pos (Ns (show t < (P.drop a).length by clear fail; rw [JV]; omega)),f_ (show t < (P.drop a).length by clear fail; omega),Rv,ak,ak,x93]; simp only [Bool.false_eq_true,if_false]; rw [if_neg (show ¬ decide (((P.drop a).length:Int)≤(t:Int))=true by clear fail; simp; omega)]; obtain ⟨y,hy1,hy2⟩:=Gd ([(o.getD 0 0),(o.getD 1 0),(o.getD 2 0),(o.getD 3 0)]:List (BitVec 64)) 47; rw [hy1,ak,jZ (by clear fail; omega)]; refine ⟨_,_,rfl,rfl,.inr ⟨t + 1,by clear fail; omega,rfl,?_,rfl,by clear fail; omega,hk,(by show e.items.length≤10000; clear fail; omega),fun c=>?_⟩⟩
     ·
      have:0 < e.items.length:=List.length_pos_iff.2 hne; clear fail; simp; omega
     · rw [eP,hy2,eP,ho]
   ·
    have x93:((P[a + t].toNat:Int) != 93)=true:=by simpa using Np
    rw [x93]; simp only [if_true]
    have hb1:(if (((t:Nat):Int) == 1)=true then some true else if decide ((t:Int) < ((P.drop a).length:Int))=true then aA (idx (P.drop a) (t:Int)) fun x1=>some ((x1.toNat:Int) != 93) else some false)=some true:=by
     by_cases ht:t=1
     · subst ht; rfl
     · rw [if_neg (show ¬ (((t:Nat):Int) == 1)=true by clear fail; simp; omega),if_pos (Ns (show t < (P.drop a).length by clear fail; rw [JV]; omega)),f_ (show t < (P.drop a).length by clear fail; omega),Rv,ak,x93]
    rw [hb1,ak,g2,tO]; simp only [if_true]; rcases g3 with hbad | ⟨g4,g5,g6,g7,g8⟩
    ·
     obtain ⟨r,hr,hr2⟩:=fail hbad; rw [hbad.2]; exact ⟨r,_,hr,rfl,.inl ⟨hr2,rfl⟩⟩
    ·
     subst g5 g7; have g6:=g6.symm; subst g6; rw [lC (by clear fail; omega),ak,hdr,g1,eF,if_neg (show ¬ (((n1:Nat):Int) == 0)=true by clear fail; simp; omega)]; simp only [Bool.not_true,Bool.false_eq_true,if_false]; have e1:bE ((t:Int) + (n1:Int))=((t + n1:Nat):Int):=by rw [su (by clear fail; omega)]; clear fail; omega
     rw [e1]; have hc1:=c1.toNat_lt; by_cases K5:a + t + n1 < P.length∧(P[a + t + n1]?.getD 0).toNat=45
     ·
      obtain ⟨d1,d2⟩:=K5; have d3:P[a + t + n1]?.getD 0=P[a + t + n1]:=by rw [List.getElem?_eq_getElem d1]; rfl
      rw [d3] at d2; have d4:(P.drop a)[t + n1]'(by clear fail; omega)=P[a + t + n1]:=by simp [Nat.add_assoc]
      have d5:((P[a + t + n1].toNat:Int) == 45)=true:=by rw [d2]; rfl
      rw [if_pos (Ns (show t + n1 < (P.drop a).length by clear fail; rw [JV]; omega)),f_ (show t + n1 < (P.drop a).length by clear fail; omega),d4,ak,d5,ak,if_pos rfl,qH d1,ak,d5,if_pos rfl]; obtain ⟨c2,n2,c2',GL,QJ,f1,f2,f3⟩:=zQ hP (b:=a + t + n1 + 1) (by clear fail; omega); have e2:bE (((t + n1:Nat):Int) + 1)=((t + n1 + 1:Nat):Int):=jZ (by clear fail; omega); have e3:bE (((a + t + n1:Nat):Int) + 1)=((a + t + n1 + 1:Nat):Int):=jZ (by clear fail; omega); have e4:(P.drop a).drop (t + n1 + 1)=P.drop (a + t + n1 + 1):=by rw [List.drop_drop,show a + (t + n1 + 1)=a + t + n1 + 1 from by clear fail; omega]
      rw [e2,e3,lC (by clear fail; omega),ak,e4,f1,eF,f2,tO]; rcases f3 with ⟨rfl,rfl⟩ | ⟨f4,f5,f6,f7,f8⟩
      · exact ⟨_,_,by rw [if_pos (by rfl)],by rw [if_pos (by rfl)],.inl ⟨rfl,rfl⟩⟩
      ·
       subst f5 f7; have f6:=f6.symm; subst f6; have z2:(((n2:Nat):Int) == 0)=false:=by rw [beq_eq_false_iff_ne]; clear fail; omega
       rw [z2,Bool.false_or,Bool.not_true,Bool.false_or]; by_cases Qf:(c2.toNat:Int) < (c1.toNat:Int)
       ·
        rw [decide_eq_true Qf]; exact ⟨_,_,by rw [if_pos rfl],by rw [if_pos rfl],.inl ⟨rfl,rfl⟩⟩
       ·
        rw [decide_eq_false Qf]; simp only [Bool.false_eq_true,if_false]; obtain ⟨o',p1,p2⟩:=Nk (t:Int) (n1:Int) c2 (n2:Int) (bY (P.drop a) k) ((t + n1 + 1 + n2:Nat):Int) (by rw [e1,su (n:=1 + (n2:Int)) (by clear fail; omega),su (by clear fail; omega)]; clear fail; omega) BIG c1.toNat ([(o.getD 0 0),(o.getD 1 0),(o.getD 2 0),(o.getD 3 0)]:List (BitVec 64)) (by have:=d9; omega) (by clear fail; omega); rw [p1,kF (by simp only [List.length_singleton,D6]; omega),ak]; have hnx:((a + t + n1 + 1 + n2:Nat):Int)=((a + (t + n1 + 1 + n2):Nat):Int):=by clear fail; omega
        rw [hnx]; refine xg hP ha k (t + n1 + 1 + n2) o' _ (by clear fail; omega) (by clear fail; omega) (by clear fail; omega) hk ⟨fun h=>?_,fun h=>by clear fail; omega⟩ (by clear fail; simp; omega) fun c=>?_
        · simp at h
        · rw [p2,eP,ho]; simp only [F7]
     ·
      have hb3:(if decide (((t + n1:Nat):Int) < ((P.drop a).length:Int))=true then aA (idx (P.drop a) ((t + n1:Nat):Int)) fun x3=>some ((x3.toNat:Int) == 45) else some false)=some false:=by
       by_cases d1:a + t + n1 < P.length
       ·
        have d4:(P.drop a)[t + n1]'(by clear fail; omega)=P[a + t + n1]:=by simp [Nat.add_assoc]
        rw [if_pos (Ns (show t + n1 < (P.drop a).length by clear fail; rw [JV]; omega)),f_ (show t + n1 < (P.drop a).length by clear fail; omega),d4,ak]; have:¬ P[a + t + n1].toNat=45:=fun h=>K5 ⟨d1,by rw [List.getElem?_eq_getElem d1]; exact h⟩; congr 1; rw [beq_eq_false_iff_ne]; clear fail; omega
       · rw [if_neg (Qo (show (P.drop a).length≤t + n1 by clear fail; rw [JV]; omega))]
      have hlast:∃ x,gT P ((a + t + n1:Nat):Int)=some x∧((x.toNat:Int) == 45)=false:=by
       by_cases d1:a + t + n1 < P.length
       ·
        refine ⟨_,qH d1,?_⟩; have:¬ P[a + t + n1].toNat=45:=fun h=>K5 ⟨d1,by rw [List.getElem?_eq_getElem d1]; exact h⟩; rw [beq_eq_false_iff_ne]; clear fail; omega
       · exact ⟨0,uX (by clear fail; omega),rfl⟩
      obtain ⟨x,hx1,hx2⟩:=hlast; rw [hb3,ak,hx1,ak,hx2]; simp only [Bool.false_eq_true,if_false]; obtain ⟨o',p1,p2⟩:=Nj (t:Int) c1 (n1:Int) (bY (P.drop a) k) ((t + n1:Nat):Int) e1 BIG c1.toNat ([(o.getD 0 0),(o.getD 1 0),(o.getD 2 0),(o.getD 3 0)]:List (BitVec 64)) (by have:=d9; omega) (by clear fail; omega); rw [p1,kF (by simp only [List.length_singleton,D6]; omega),ak]; have hnx:((a + t + n1:Nat):Int)=((a + (t + n1):Nat):Int):=by clear fail; omega
      rw [hnx]; refine xg hP ha k (t + n1) o' _ (by clear fail; omega) (by clear fail; omega) (by clear fail; omega) hk ⟨fun h=>?_,fun h=>by clear fail; omega⟩ (by clear fail; simp; omega) fun c=>?_
      · simp at h
      · rw [p2,eP,ho]; simp only [F7]
end Go.Ft
namespace Go.Ft
open Go
attribute [local congr] sV
theorem GH.snoc {L:List aF} {M:List aj} {e:aF} {m:aj} (h:GH L M) (hr:Rel e m):GH (L ++ [e]) (M ++ [m]):=by
 refine ⟨by simp [h.len],fun i h1 h2=>?_⟩; by_cases hi:i < L.length
 ·
  have hm:i < M.length:=by have:=h.len; omega
  rw [List.getElem_append_left hi,List.getElem_append_left hm]; exact h.rel i hi hm
 ·
  have e1:i=L.length:=by simp at h1; omega
  have e2:i=M.length:=by have:=h.len; omega
  rw [List.getElem_append_right (by omega),List.getElem_append_right (by omega)]; simpa using hr
theorem Hu {P:Str} (hP:P.length≤4096) {a:Nat} (ha:a < P.length) (k:Nat) (M:List aj) (hM:M.length≤4096):
  (∃ e,ko (P.drop a)=some (e,0)∧dA P (k + 1) M (a:Int)=some ([],false))∨
  ∃ e m n,0 < n∧a + n≤P.length∧Rel e m∧ko (P.drop a)=some (e,((n:Nat):Int))∧dA P (k + 1) M (a:Int)=dA P k (M ++ [m]) ((a + n:Nat):Int):=by
 have JV:(P.drop a).length=P.length - a:=List.length_drop ..
 have h0:idx (P.drop a) 0=some P[a]:=by
  have:=f_ (l:=P.drop a) (i:=0) (by omega); simpa using this
 have ap:∀ m,app M [m]=some (M ++ [m]):=fun m=>kF (by simp only [List.length_singleton,D6]; omega); have e1:bE ((a:Int) + 1)=((a + 1:Nat):Int):=jZ (by omega); have e2:bE ((a:Int) + 2)=((a + 2:Nat):Int):=by rw [su (by omega)]; omega
 unfold ko; rw [dA,h0,if_pos (Ns ha),f_ ha,e1,e2]; simp only [ak,ap]; obtain ⟨mf,mf1,mf2⟩:=Hl
 have II:∀ (s:List (BitVec 64)) (b:Bool) (kd:Int),(∀ c,hasB s c=!(c == 47))→(kd=2∧b=true∨kd=3∧b=false)→Rel (aF.mk ([(s.getD 0 0),(s.getD 1 0),(s.getD 2 0),(s.getD 3 0)]:List (BitVec 64)) b false 0) ⟨kd,[]⟩:=by
  intro s b kd hs hkd; rcases hkd with ⟨rfl,rfl⟩ | ⟨rfl,rfl⟩
  ·
   refine ⟨rfl,fun c=>?_⟩; rw [yx _ (by simp),eP,hs]; cases c == 47 <;> rfl
  ·
   refine ⟨rfl,fun c=>?_⟩; rw [yx _ (by simp),eP,hs]; cases c == 47 <;> rfl
 by_cases RA:(P[a].toNat:Int)=42
 ·
  have RJ:((P[a].toNat:Int) == 42)=true:=by rw [RA]; rfl
  rw [RJ]; simp only [if_true,mf1,Jr,ak]; by_cases hs:a + 1 < P.length∧((P[a + 1]?.getD 0).toNat:Int)=42
  ·
   obtain ⟨s1,s2⟩:=hs; have s3:P[a + 1]?.getD 0=P[a + 1]:=by rw [List.getElem?_eq_getElem s1]; rfl
   rw [s3] at s2
   have h1:idx (P.drop a) 1=some P[a + 1]:=by
    have:=f_ (l:=P.drop a) (i:=1) (by omega); simpa using this
   have y2:((P[a + 1].toNat:Int) == 42)=true:=by rw [s2]; rfl
   have d1:decide (1 < ((P.drop a).length:Int))=true:=by rw [JV]; simp; omega
   rw [d1,h1,qH s1]; simp only [if_true,ak,y2]; refine .inr ⟨_,⟨1,[]⟩,2,by omega,by omega,⟨rfl,fun c=>?_⟩,rfl,rfl⟩; rw [yx _ (by simp),eP,I8]; rfl
  ·
   have hb:(if decide (1 < ((P.drop a).length:Int))=true then aA (idx (P.drop a) 1) fun x2=>some ((x2.toNat:Int) == 42) else some false)=some false:=by
    by_cases s1:a + 1 < P.length
    ·
     have h1:idx (P.drop a) 1=some P[a + 1]:=by
      have:=f_ (l:=P.drop a) (i:=1) (by omega); simpa using this
     rw [if_pos (show decide (1 < ((P.drop a).length:Int))=true by rw [JV]; simp; omega),h1,ak]; have:¬ (P[a + 1].toNat:Int)=42:=fun h=>hs ⟨s1,by rw [List.getElem?_eq_getElem s1]; exact h⟩; congr 1; rw [beq_eq_false_iff_ne]; exact this
    · rw [if_neg (show ¬ decide (1 < ((P.drop a).length:Int))=true by rw [JV]; simp; omega)]
   have hl:∃ x,gT P ((a + 1:Nat):Int)=some x∧((x.toNat:Int) == 42)=false:=by
    by_cases s1:a + 1 < P.length
    ·
     refine ⟨_,qH s1,?_⟩; have:¬ (P[a + 1].toNat:Int)=42:=fun h=>hs ⟨s1,by rw [List.getElem?_eq_getElem s1]; exact h⟩; rw [beq_eq_false_iff_ne]; exact this
    · exact ⟨0,uX (by omega),rfl⟩
   obtain ⟨x,x1,x2⟩:=hl; rw [hb,x1]; simp only [ak,x2,Bool.false_eq_true,if_false]; exact .inr ⟨_,⟨2,[]⟩,1,by omega,by omega,II mf true 2 mf2 (.inl ⟨rfl,rfl⟩),rfl,rfl⟩
 ·
  have n42:((P[a].toNat:Int) == 42)=false:=by simpa using RA
  rw [n42]; simp only [Bool.false_eq_true,if_false]; by_cases h63:(P[a].toNat:Int)=63
  ·
   have RI:((P[a].toNat:Int) == 63)=true:=by rw [h63]; rfl
   rw [RI]; simp only [if_true,mf1,ak]; exact .inr ⟨_,⟨3,[]⟩,1,by omega,by omega,II mf false 3 mf2 (.inr ⟨rfl,rfl⟩),rfl,rfl⟩
  ·
   have n63:((P[a].toNat:Int) == 63)=false:=by simpa using h63
   rw [n63]; simp only [Bool.false_eq_true,if_false]; by_cases Rz:(P[a].toNat:Int)=91
   ·
    have y91:((P[a].toNat:Int) == 91)=true:=by rw [Rz]; rfl
    rw [y91]; simp only [if_true]; obtain ⟨r,q,c1,c2,c3⟩:=xg hP ha BIG 1 ([0,0,0,0]:List (BitVec 64)) ⟨4,[]⟩ (by have:=d9; omega) (Nat.le_refl _) (by omega) rfl ⟨fun _=>rfl,fun _=>rfl⟩ (by simp) (fun c=>by rw [Fb]; rfl); unfold pU vJ; rw [show ((1:Nat):Int)=1 from rfl] at c1; rw [c1,c2]; obtain ⟨r1,r2⟩:=r; obtain ⟨q1,q2,q3⟩:=q; simp only [eF,tO]; rcases c3 with ⟨z1,z2⟩ | ⟨n,z0,z1,z2,z3,z4,z5,z6,z7⟩
    ·
     simp only at z1 z2; subst z1 z2; exact .inl ⟨_,rfl,by simp⟩
    ·
     simp only at z1 z2 z3 z5 z6 z7; subst z1 z2 z3; simp only [Bool.not_true,Bool.false_eq_true,if_false]; refine .inr ⟨_,q1,n,z0,z4,⟨?_,fun c=>?_⟩,rfl,rfl⟩
     ·
      show false=DK q1; unfold DK; rw [z5]; rfl
     ·
      rw [yx _ z6,eP,z7,z5]; simp only [show ((4:Int) == 1)=false from rfl,show ((4:Int) != 5)=true from rfl,show ((4:Int) == 2)=false from rfl,show ((4:Int) == 3)=false from rfl,Bool.true_and,Bool.or_self,Bool.false_eq_true,if_false]; cases c == 47 <;> simp
   ·
    have n91:((P[a].toNat:Int) == 91)=false:=by simpa using Rz
    rw [n91]; simp only [Bool.false_eq_true,if_false]; by_cases MC:(P[a].toNat:Int)=92
    ·
     have Pg:((P[a].toNat:Int) == 92)=true:=by rw [MC]; rfl
     rw [Pg]; simp only [if_true]; by_cases s1:a + 1 < P.length
     ·
      have h1:idx (P.drop a) 1=some P[a + 1]:=by
       have:=f_ (l:=P.drop a) (i:=1) (by omega); simpa using this
      obtain ⟨e,l1,l2⟩:=BG P[a + 1]; rw [if_neg (show ¬ decide (((P.drop a).length:Int) < 2)=true by rw [JV]; simp; omega),h1,ak,l1,ak,qH s1,ak,ak,show decide (((a + 1:Nat):Int) < (P.length:Int))=true from Ns s1]; simp only [Bool.not_true,Bool.false_eq_true,if_false]; exact .inr ⟨e,_,2,by omega,by omega,l2,rfl,rfl⟩
     ·
      rw [if_pos (show decide (((P.drop a).length:Int) < 2)=true by rw [JV]; simp; omega),uX (by omega),ak,ak,show decide (((a + 1:Nat):Int) < (P.length:Int))=false from by rw [decide_eq_false]; omega]; exact .inl ⟨_,rfl,by simp⟩
    ·
     have n92:((P[a].toNat:Int) == 92)=false:=by simpa using MC
     rw [n92]; simp only [Bool.false_eq_true,if_false]; obtain ⟨e,l1,l2⟩:=BG P[a]; rw [l1,ak]; exact .inr ⟨e,_,1,by omega,by omega,l2,rfl,rfl⟩
theorem Bj {P:Str} (hP:P.length≤4096):∀ (k a:Nat) (L:List aF) (M:List aj),P.length < k + a→a≤P.length→GH L M→L.length + (P.length - a)≤4096→
  (∃ L' M',fJ k (P.drop a) L=some (L',0)∧dA P k M (a:Int)=some (M',true)∧GH L' M'∧L'.length≤4096)∨(fJ k (P.drop a) L=some ([],5)∧dA P k M (a:Int)=some ([],false))
 | 0,a,L,M,h,h',_,_=>by omega
 | k + 1,a,L,M,h,h',hr,hl=>by
  have hlen:=hr.len; by_cases ha:a < P.length
  ·
   have hne:(!(P.drop a == ([]:Str)))=true:=by
    have:P.drop a≠[]:=by
     intro h; have:=congrArg List.length h; simp at this; omega
    simpa using this
   rw [fJ,if_pos hne]; rcases Hu hP ha k M (by omega) with ⟨e,f1,f2⟩ | ⟨e,m,n,f0,f1,f2,f3,f4⟩
   ·
    rw [f1,eF,f2]; exact .inr ⟨by simp,rfl⟩
   ·
    rw [f3,eF,f4,if_neg (show ¬ (((n:Nat):Int) == 0)=true by simp; omega),kF (by simp only [List.length_singleton,D6]; omega),ak,lC (by simp; omega),ak,List.drop_drop]; exact Bj hP k (a + n) _ _ (by omega) f1 (hr.snoc f2) (by simp; omega)
  ·
   rw [fJ,dA,List.drop_eq_nil_of_le (by omega),if_neg (by simp),if_neg (Qo (by omega))]; exact .inl ⟨L,M,rfl,rfl,hr,by omega⟩
theorem Bw (P:Str) {s:Str} (hs:s.length < 4611686018427387904):je P s=o7 P s:=by
 unfold je o7 nN vK; by_cases h:4096 < (P.length:Int)
 · simp [h]
 ·
  simp only [h,decide_false,Bool.false_eq_true,if_false]; have:=Bj (P:=P) (by omega) BIG 0 [] [] (by have:=d9; omega) (by omega) ⟨rfl,fun i h=>by simp at h⟩ (by simp; omega); rw [List.drop_zero,show ((0:Nat):Int)=0 from rfl] at this; rcases this with ⟨L,M,p1,p2,p3,p4⟩ | ⟨p1,p2⟩
  ·
   rw [p1,p2,eF,eF]; simp only [bne_self_eq_false,Bool.false_eq_true,if_false,if_true]; unfold qD; rw [←p3.len]; refine vE fun a0 h0=>?_; refine vE fun b0 hb0=>?_; rw [ak,ak]; rw [vU p4] at h0; cases h0; have:=xY p3 p4 hs BIG 0 ((List.replicate (L.length + 1) false).set (Int.toNat 0) true) (by have:=d9; omega) (by omega) (by simp); rw [show ((0:Nat):Int)=0 from rfl] at this; exact this.symm
  ·
   rw [p1,p2,eF,eF]; rfl
end Go.Ft
namespace Go.Ft
open Go
attribute [local congr] sV
def Nq (p:Str):Bool:=match p with | []=>false | c :: _=>c == 33
def FC (p:Str):Str:=if Nq p then p.drop 1 else p
def F8 (p s:Str):Bool:=(je (FC p) s).getD false
theorem K3 (p:Str) {s:Str} (hs:s.length < 4611686018427387904):je (FC p) s=some (F8 p s):=by
 obtain ⟨r,hr⟩:=za (FC p) hs; unfold F8; rw [hr]; rfl
def lastB (s:Str):List Str→Bool→Bool
 | [],b=>b
 | p :: r,b=>lastB s r (if F8 p s then !Nq p else b)
theorem BJ (s p:Str):∀ (l:List Str) (b:Bool),lastB s (l ++ [p]) b=if F8 p s then !Nq p else lastB s l b
 | [],b=>rfl
 | x :: l,b=>by rw [List.cons_append,lastB,BJ s p l,lastB]
theorem Qb (c:UInt8):((c.toNat:Int) == 33)=(c == 33):=by
 rw [Bool.eq_iff_iff]; simp only [beq_iff_eq,←UInt8.toNat_inj]; simp only [show (33:UInt8).toNat=33 from rfl]; omega
theorem GD {l:List Str} {s:Str} (hl:l.length≤4096) (hs:s.length < 4611686018427387904):∀ (k i:Nat),i < k→i≤l.length→iT l s k ((i:Int) - 1)=some (lastB s (l.take i) false)
 | 0,i,h,h'=>by omega
 | k + 1,i,h,h'=>by
  rw [iT]; cases i with
  | zero=>simp [lastB]
  | succ j=>
   have hj:j < l.length:=by omega
   have e0:((j + 1:Nat):Int) - 1=(j:Int):=by omega
   have e1:bE ((j:Int) - 1)=(j:Int) - 1:=su (by omega); rw [e0,f_ hj,List.take_succ_eq_append_getElem hj,BJ]; simp only [show ((0:Int)≤(j:Int)) from by omega,decide_true,if_true,ak]; have hh:=K3 l[j] hs; have ih:=GD hl hs k j (by omega) (by omega)
   have hb:(if (!l[j] == ([]:Str))=true then aA (idx l[j] 0) fun x1=>some ((x1.toNat:Int) == 33) else some false)=some (Nq l[j]):=by
    cases hq:l[j] with
    | nil=>rfl
    | cons c t=>
     have h0:idx (c :: t) 0=some c:=by have:=f_ (l:=c :: t) (i:=0) (by simp); simpa using this
     rw [h0]; simp [Nq,Qb]
   rw [hb,ak,e1]; unfold FC at hh; cases hx:Nq l[j] with
   | true=>
    rw [hx] at hh; simp only [if_true] at hh
    have e2:sl l[j] 1 (l[j].length:Int)=some (l[j].drop 1):=by
     have h1:1≤l[j].length:=by
      cases hq:l[j] with
      | nil=>rw [hq] at hx; cases hx
      | cons c t=>simp
     have:=lC (s:=l[j]) (i:=1) h1
     rwa [show ((1:Nat):Int)=1 from rfl] at this
    simp only [if_true,e2,ak,hh]; cases F8 l[j] s with
    | true=>rfl
    | false=>simpa using ih
   | false=>
    rw [hx] at hh; simp only [Bool.false_eq_true,if_false] at hh; simp only [Bool.false_eq_true,if_false,hh,ak]; cases F8 l[j] s with
    | true=>rfl
    | false=>simpa using ih
theorem rY {l:List Str} {s:Str} (hl:l.length≤4096) (hs:s.length < 4611686018427387904):∀ (k i:Nat) (b:Bool),l.length < k + i→i≤l.length→jC l s k b (i:Int)=some (lastB s (l.drop i) b)
 | 0,i,b,h,h'=>by omega
 | k + 1,i,b,h,h'=>by
  rw [jC]; by_cases hi:i < l.length
  ·
   rw [if_pos (Ns hi),f_ hi,ak,List.drop_eq_getElem_cons hi,lastB,jZ (by omega)]; have hh:=K3 l[i] hs; unfold FC at hh
   have hl0:∃ x,gT l[i] 0=some x∧((x.toNat:Int) == 33)=Nq l[i]:=by
    cases hq:l[i] with
    | nil=>exact ⟨0,rfl,rfl⟩
    | cons c t=>
     have:=qH (P:=c :: t) (b:=0) (by simp); rw [show ((0:Nat):Int)=0 from rfl] at this; exact ⟨c,by simpa using this,Qb c⟩
   obtain ⟨x,x1,x2⟩:=hl0; rw [x1,ak,x2]; cases hx:Nq l[i] with
   | true=>
    rw [hx] at hh; simp only [if_true] at hh
    have e2:sl l[i] 1 (l[i].length:Int)=some (l[i].drop 1):=by
     have h1:1≤l[i].length:=by
      cases hq:l[i] with
      | nil=>rw [hq] at hx; cases hx
      | cons c t=>simp
     have:=lC (s:=l[i]) (i:=1) h1
     rwa [show ((1:Nat):Int)=1 from rfl] at this
    rw [Bw _ hs] at hh; simp only [if_true,e2,ak,hh]; cases F8 l[i] s with
    | true=>simpa using rY hl hs k (i + 1) false (by omega) (by omega)
    | false=>simpa using rY hl hs k (i + 1) b (by omega) (by omega)
   | false=>
    rw [hx] at hh; simp only [Bool.false_eq_true,if_false] at hh; rw [Bw _ hs] at hh; simp only [Bool.false_eq_true,if_false,hh,ak]; cases F8 l[i] s with
    | true=>simpa using rY hl hs k (i + 1) true (by omega) (by omega)
    | false=>simpa using rY hl hs k (i + 1) b (by omega) (by omega)
  ·
   rw [if_neg (Qo (by omega)),List.drop_eq_nil_of_le (by omega)]; rfl
theorem Li {l:List Str} {s:Str} (hl:l.length≤4096) (hs:s.length < 4611686018427387904):mW l s=xP l s:=by
 unfold mW xP; rw [su (by omega)]; have h1:=GD hl hs BIG l.length (by have:=d9; omega) (Nat.le_refl _); have h2:=rY hl hs BIG 0 false (by have:=d9; omega) (by omega); rw [List.take_length] at h1; rw [List.drop_zero,show ((0:Nat):Int)=0 from rfl] at h2; rw [h1,h2]
theorem wS {fs:List aB} {ps:List Str} (hf:short fs) (hp:few ps):∀ (k i:Nat) (s:List (BitVec 64)),fs.length < k + i→i≤fs.length→s.length≤2 * i→
  j4 fs ps k s (i:Int)=yV ([102,105,108,101,115]:Str) (s ++ qW ((fs.drop i).filter (EZ ps)))
 | 0,i,s,h,h',_=>by omega
 | k + 1,i,s,h,h',hs=>by
  rw [j4]; by_cases hi:i < fs.length
  ·
   have hm:=hf.2 _ (List.getElem_mem hi); have hl:=hf.1; have ha:=any_eq hp hm; rw [Li (by have:=hp.1; omega) (by omega)] at ha; rw [if_pos (Ns hi),f_ hi,ak,ha,ak,jZ (by omega),List.drop_eq_getElem_cons hi]; cases hb:EZ ps fs[i] with
   | true=>
    have hsum:=Kz hm; rw [Fv (by omega)] at hsum; rw [if_pos rfl,List.filter_cons_of_pos hb,ak,kF (by simp only [List.length_nil,D6]; omega),List.nil_append,ak,hsum,ak,ak,kF (by simp only [List.length_cons,List.length_nil,D6]; omega),ak]; refine (wS hf hp k (i + 1) _ (by omega) (by omega) (by simp; omega)).trans ?_; simp [qW]
   | false=>
    rw [if_neg (by simp),List.filter_cons_of_neg (by simp [hb])]; exact wS hf hp k (i + 1) s (by omega) (by omega) (by omega)
  ·
   rw [if_neg (Qo (by omega)),List.drop_eq_nil_of_le (by omega)]; simp [qW]
theorem Jy {fs:List aB} {ps:List Str} (hf:short fs) (hp:few ps):∃ d,jg fs ps=some d∧uO fs ps=some d:=by
 have hsf:=Ej hf (EZ ps); have hpl:(qW (fs.filter (EZ ps))).length≤100:=by rw [G_]; have:=hsf.1; omega
 obtain ⟨d,hd⟩:=Oq hpl; refine ⟨d,by rw [hash_eq hf hp,hd],?_⟩; unfold uO; have:=wS hf hp BIG 0 [] (by have:=d9; have:=hf.1; omega) (by omega) (by simp); rw [show ((0:Nat):Int)=0 from rfl] at this; rw [this,List.nil_append,List.drop_zero,←of_same hpl,hd]
theorem ze (dx:List aB) (l1:List Str) (h:((List.map (fun z:aB=>(aB.bulk z)) dx).sum + 1) + ((List.map (fun z:Str=>(z.length + 1)) l1).sum + 1)≤1048576):kJ dx l1=some true:=by
 have hl1:∀ (l:List aB),l.length≤(l.map fun z:aB=>aB.bulk z).sum:=fun l=>by
  induction l with
  | nil=>simp
  | cons x l ih=>simp only [List.map_cons,List.sum_cons,List.length_cons,aB.bulk] at ih ⊢; omega
 have hl2:∀ (l:List Str),l.length≤(l.map fun z:Str=>z.length + 1).sum:=fun l=>by
  induction l with
  | nil=>simp
  | cons x l ih=>simp only [List.map_cons,List.sum_cons,List.length_cons] at ih ⊢; omega
 have h1:=hl1 dx; have h2:=hl2 l1; obtain ⟨b,hb1,hb2⟩:=Bg (fs:=dx) (by omega) BIG 0 (by have:=d9; omega) (by omega) (by omega) (by simp); obtain ⟨c,hc1,hc2⟩:=wE (ps:=l1) (by omega) BIG 0 (by have:=d9; omega) (by omega) (by omega) (by simp); rw [show ((0:Nat):Int)=0 from rfl] at hb1 hc1; unfold kJ vO oU; rw [hb1,hc1]; cases b with
 | false=>simp [EX]
 | true=>
  cases c with
  | false=>simp [EX]
  | true=>
   obtain ⟨d,d1,d2⟩:=Jy (hb2 rfl) (hc2 rfl); simp [d1,d2,EX]
end Go.Ft
