/- Proved here: plain facts on the functional texts. -/
import Derived.Test.YtljfgagpnpolhaaGreatDoorKvPre1
import Derived.Test.YtljfgagpnpolhaaGreatDoorKvFt1
import Derived.Test.YtljfgagpnpolhaaGreatDoorKvPool1
set_option linter.unusedVariables false
set_option linter.unusedSimpArgs false
set_option linter.unusedSectionVars false
set_option maxHeartbeats 2000000
namespace Go.Ft
open Go
attribute [local congr] iH
theorem OL {α:Type} {f:α→Nat} {l:List α} {x:α} (h:x∈l):f x≤(l.map f).sum:=by
 induction l with
 | nil=>cases h
 | cons y l ih=>
  simp only [List.map_cons,List.sum_cons]; rcases List.mem_cons.1 h with rfl | h
  · omega
  · have:=ih h; omega
theorem JK {α:Type} {f:α→Nat} {l:List α} (h:∀ x,1≤f x):l.length≤(l.map f).sum:=by
 induction l with
 | nil=>simp
 | cons y l ih=>simp only [List.map_cons,List.sum_cons,List.length_cons]; have:=h y; omega
theorem av.vE (v:av):1≤v.bulk:=by rw [av.oD]; omega
theorem aj.vE (v:aj):1≤v.bulk:=by rw [aj.oD]; omega
theorem M_ (v:av):v.dW.length < v.bulk:=by rw [av.oD,av.vF]; have:=JK (l:=v.dW) av.vE; omega
theorem D9 {v x:av} (h:x∈v.dW):x.bulk < v.bulk:=by rw [av.oD v,av.vF]; have:=OL (f:=av.bulk) h; omega
theorem Nb (v:av):v.keys.length < v.bulk:=by rw [av.oD]; have:=JK (l:=v.keys) (f:=fun z:Str=>z.length + 1) (fun x=>by omega); omega
theorem Na {v:av} {x:Str} (h:x∈v.keys):x.length < v.bulk:=by rw [av.oD v]; have:=OL (f:=fun z:Str=>z.length + 1) h; omega
theorem NP (e:aj):e.args.length < e.bulk:=by rw [aj.oD,aj.vF]; have:=JK (l:=e.args) aj.vE; omega
theorem rP {e x:aj} (h:x∈e.args):x.bulk < e.bulk:=by rw [aj.oD e,aj.vF]; have:=OL (f:=aj.bulk) h; omega
theorem Ei (v:aj):v.keys.length < v.bulk:=by rw [aj.oD]; have:=JK (l:=v.keys) (f:=fun z:Str=>z.length + 1) (fun x=>by omega); omega
theorem VD (v:aj):v.name.length < v.bulk:=by rw [aj.oD]; omega
theorem IY (v:aj):v.value.bulk < v.bulk:=by rw [aj.oD]; omega
mutual
def ecnt :aj→Nat
 | ⟨_,_,_,args,_⟩=>1 + EI args
def EI :List aj→Nat
 | []=>0
 | x :: r=>ecnt x + EI r
end
theorem JN (e:aj):ecnt e=1 + EI e.args:=by cases e; rfl
theorem Q8 :∀ (l:List aj) (n:Nat),(∀ x∈l,ecnt x≤x.bulk)→EI l≤(l.map aj.bulk).sum
 | [],_,_=>by simp [EI]
 | x :: r,n,h=>by
  simp only [EI,List.map_cons,List.sum_cons]; have:=h x (by simp); have:=Q8 r n fun y hy=>h y (by simp [hy]); omega
theorem Uz :∀ (n:Nat) (e:aj),e.bulk≤n→ecnt e≤e.bulk
 | 0,e,h=>by have:=e.vE; omega
 | n + 1,e,h=>by
  rw [JN,aj.oD,aj.vF]; have:=Q8 e.args n fun x hx=>Uz n x (by have:=rP hx; omega); omega
theorem Tp {go:aj→Option Int}:∀ (l:List aj) (i s:Nat),(∀ x∈l,go x=some (ecnt x:Int))→s + EI l < 4611686018427387904→
  lD (fun _ e2 (n1:Int) r=>aA (go e2) fun x2=>r (bI (n1 + x2))) (fun n1=>some n1) i l (s:Int)=some ((s + EI l:Nat):Int)
 | [],i,s,_,_=>by simp [lD,EI]
 | x :: r,i,s,h,hs=>by
  simp only [EI] at hs ⊢; rw [lD,h x (by simp)]; simp only [ak]; have:bI ((s:Int) + (ecnt x:Int))=((s + ecnt x:Nat):Int):=by rw [Mk (by omega)]; omega
  rw [this,Tp r (i + 1) (s + ecnt x) (fun y hy=>h y (by simp [hy])) (by omega)]; simp only [Option.some.injEq,Int.natCast_inj]; omega
theorem O5 :∀ (n:Nat) (e:aj),e.bulk≤n→e.bulk < 4611686018427387904→j6 (n + 1) e=some (ecnt e:Int)∧nE (n + 1) e=some (ecnt e:Int)
 | 0,e,h,_=>by have:=e.vE; omega
 | n + 1,e,h,hB=>by
  have hl:=NP e; have hle:=Uz _ e (Nat.le_refl _); rw [JN] at hle; constructor
  ·
   unfold j6 uL; have:=lC (F:=fun k s i=>qb (j6 (n + 1)) e k s i) (l:=e.args) (body:=fun _ e2 (n1:Int) r=>aA (j6 (n + 1) e2) fun x2=>r (bI (n1 + x2))) (fin:=fun n1=>some n1) (by omega) (fun k s i=>rfl) 1; rw [this,show (1:Int)=((1:Nat):Int) from rfl,Tp e.args 0 1 (fun x hx=>(O5 n x (by have:=rP hx; omega) (by have:=rP hx; omega)).1) (by omega),JN]
  ·
   unfold nE zI; have:=lC (F:=fun k s i=>uD (nE (n + 1)) e k s i) (l:=e.args) (body:=fun _ e2 (n1:Int) r=>aA (nE (n + 1) e2) fun x2=>r (bI (n1 + x2))) (fin:=fun n1=>some n1) (by omega) (fun k s i=>rfl) 1; rw [this,show (1:Int)=((1:Nat):Int) from rfl,Tp e.args 0 1 (fun x hx=>(O5 n x (by have:=rP hx; omega) (by have:=rP hx; omega)).2) (by omega),JN]
theorem zo :∃ n,BIG=n + 1∧9223372036854775807≤n:=⟨BIG - 1,by decide,by decide⟩
theorem count_eq {e:aj} (h:e.bulk < 4611686018427387904):xQ e=some (ecnt e:Int)∧Eb e=some (ecnt e:Int):=by
 obtain ⟨n,hn,hn2⟩:=zo; unfold xQ Eb; rw [hn]; exact O5 n e (by omega) h
def isName (s:Str):Bool:=decide (1≤s.length) && decide (s.length≤64) && (match s with | c :: _=>isLet c | []=>false) && s.all fun c=>isLet c || iE c
def pI (s:Str):Bool:=isName s && !((s == ([116,114,117,101]:Str)) || (s == ([102,97,108,115,101]:Str)) || (s == ([110,117,108,108]:Str)))
theorem acX (s:Str) (hs:s.length < 4611686018427387904):oJ s BIG 0=some (s.all fun c=>isLet c || iE c):=by
 have:=lC (F:=fun k (_:Unit) i=>oJ s k i) (l:=s) (body:=fun (i:Nat) x3 _ r=>aA (if !(isLet x3) then aA (idx s (i:Int)) fun x5=>some (!(iE x5)) else some false) fun b2=>if b2 then some false else r ()) (fin:=fun _=>some true) hs (fun k s i=>rfl) (); rw [this]
 have key:∀ (t:Str) (i:Nat),t=s.drop i→lD (fun (i:Nat) x3 (_:Unit) r=>aA (if !(isLet x3) then aA (idx s (i:Int)) fun x5=>some (!(iE x5)) else some false) fun b2=>if b2 then some false else r ()) (fun _=>some true) i t ()=some (t.all fun c=>isLet c || iE c):=by
  intro t
  induction t with
  | nil=>intro i _; rfl
  | cons c t ih=>
   intro i ht
   have hi:i < s.length:=by
    rcases Nat.lt_or_ge i s.length with h | h
    · exact h
    · rw [List.drop_eq_nil_of_le h] at ht; cases ht
   have hc:=List.drop_eq_getElem_cons hi; rw [←ht] at hc; have e1:c=s[i]:=(List.cons.inj hc).1; have e2:=(List.cons.inj hc).2; rw [lD,kL hi,←e1]; simp only [ak]; rw [ih (i + 1) e2]; cases h1:isLet c <;> cases h2:iE c <;> simp [h1,h2]
 exact key s 0 rfl
theorem KG (s:Str) (hs:s.length < 4611686018427387904):tZ s=some (isName s):=by
 unfold tZ isName; rw [acX s hs]; by_cases h1:s.length < 1
 ·
  have:s=[]:=by cases s; rfl; simp at h1
  subst this; simp
 ·
  by_cases h2:64 < s.length
  ·
   have e1:decide ((64:Int) < (s.length:Int))=true:=by simp; omega
   have e2:decide (s.length≤64)=false:=by simp; omega
   simp [e1,e2]
  ·
   cases s with
   | nil=>simp at h1
   | cons c s=>
    have e1:decide ((((c :: s).length:Nat):Int) < 1)=false:=by simp; omega
    have e2:decide ((64:Int) < (((c :: s).length:Nat):Int))=false:=by simp at h2 ⊢; omega
    have e3:decide ((c :: s).length≤64)=true:=by simp at h2 ⊢; omega
    have e4:idx (c :: s) 0=some c:=rfl; rw [e1,e2,e3,e4]; cases h3:isLet c <;> simp [h3]
theorem W9 (s:Str) (hs:s.length < 4611686018427387904):AZ s=some (isName s):=by
 unfold AZ
 have:=lC (F:=fun k (_:Unit) i=>wL s k i) (l:=s) (body:=fun (i:Nat) x3 _ r=>aA (if !(isLet x3) then (if (i:Int) == 0 then some true else aA (idx s (i:Int)) fun x5=>some (!(iE x5))) else some false) fun b2=>if b2 then some false else r ())
  (fin:=fun _=>some ((decide (1≤(s.length:Int))) && (decide ((s.length:Int)≤64)))) hs (fun k s i=>rfl) ()
 rw [this]
 have key:∀ (t:Str) (i:Nat),t=s.drop i→lD (fun (i:Nat) x3 (_:Unit) r=>aA (if !(isLet x3) then (if (i:Int) == 0 then some true else aA (idx s (i:Int)) fun x5=>some (!(iE x5))) else some false) fun b2=>if b2 then some false else r ())
   (fun _=>some ((decide (1≤(s.length:Int))) && (decide ((s.length:Int)≤64)))) i t ()=some ((decide (1≤s.length) && decide (s.length≤64)) && ((if i=0 then (match t with | c :: _=>isLet c | []=>true) else true) && t.all fun c=>isLet c || iE c)):=by
  intro t
  induction t with
  | nil=>
   intro i _; rw [lD]; have e1:decide ((1:Int)≤(s.length:Int))=decide (1≤s.length):=by congr 1; simp; omega
   have e2:decide ((s.length:Int)≤64)=decide (s.length≤64):=by congr 1; simp; omega
   rw [e1,e2]; simp
  | cons c t ih=>
   intro i ht
   have hi:i < s.length:=by
    rcases Nat.lt_or_ge i s.length with h | h
    · exact h
    · rw [List.drop_eq_nil_of_le h] at ht; cases ht
   have hc:=List.drop_eq_getElem_cons hi; rw [←ht] at hc; have e1:c=s[i]:=(List.cons.inj hc).1; have e2:=(List.cons.inj hc).2; rw [lD,kL hi,←e1]; simp only [ak]; rw [ih (i + 1) e2]; by_cases h0:i=0
   ·
    subst h0; cases h1:isLet c <;> simp [h1]
   ·
    have:((i:Int) == 0)=false:=by simp; omega
    rw [this]; cases h1:isLet c <;> cases h2:iE c <;> simp [h1,h2,h0]
 rw [key s 0 rfl]; unfold isName; cases s with
 | nil=>simp
 | cons c s=>simp [Bool.and_assoc]
theorem A_ (s:Str) (hs:s.length < 4611686018427387904):lW s=some (pI s)∧ql s=some (pI s):=by
 unfold lW ql pI nJ; rw [KG s hs,W9 s hs]; constructor
 · cases isName s <;> simp
 ·
  simp only [ak,Option.some.injEq]; cases isName s <;> simp [Bool.not_or,Bool.and_assoc]
theorem IE (s:Str):rA s=iU s:=rfl
theorem Mq (s:Str):∃ n,iU s=some n:=by
 have:(iU s).isSome=true:=by
  unfold iU; simp only [apply_ite Option.isSome,Option.isSome_some,ite_self]
 exact Option.isSome_iff_exists.1 this
end Go.Ft
namespace Go.Ft
open Go
attribute [local congr] iH
def wU (s:Str):Bool:=decide (1≤s.length) && decide (s.length≤64)
def QE (a b:Str):Int:=(qL a b).getD 0
theorem Zc {a b:Str} (ha:a.length < 4611686018427387904) (hb:b.length < 4611686018427387904):qp a b=some (QE a b)∧qL a b=some (QE a b):=by
 obtain ⟨c,h1,h2⟩:=Tt ha hb; unfold QE; rw [h2]; exact ⟨h1,rfl⟩
def M6 :Option Str→List Str→Bool
 | _,[]=>true
 | p,k :: r=>wU k && (match p with | none=>true | some q=>decide (QE q k < 0)) && M6 (some k) r
theorem OP (s:Str):((decide ((s.length:Int) < 1)) || (decide (64 < (s.length:Int))))=!wU s:=by
 unfold wU; rw [Bool.eq_iff_iff]; simp only [Bool.or_eq_true,Bool.not_eq_true',Bool.and_eq_false_iff,decide_eq_true_eq,decide_eq_false_iff_not]; omega
theorem key_eq (s:Str):FV s=some (wU s):=by
 unfold FV wU; simp only [Option.some.injEq]; rw [Bool.eq_iff_iff]; simp only [Bool.and_eq_true,decide_eq_true_eq]; omega
def Dj (l:List Str) (i:Nat):Option Str:=if i=0 then none else l[i - 1]?
theorem UJ {v:av} (hv:v.bulk < 4611686018427387904):∀ (k i:Nat),v.keys.length < k + i→i≤v.keys.length→
  oG v k (i:Int)=some (M6 (Dj v.keys i) (v.keys.drop i))∧
  mE v k (i:Int)=some (M6 (Dj v.keys i) (v.keys.drop i) && ((v.keys.length:Int) == (v.dW.length:Int)))
 | 0,i,h,h'=>by omega
 | k + 1,i,h,h'=>by
  have hlen:=Nb v; rw [oG,mE]; by_cases hi:i < v.keys.length
  ·
   have hm:v.keys[i]∈v.keys:=List.getElem_mem hi; have hb:=Na hm; rw [List.drop_eq_getElem_cons hi,if_pos (by simp; omega),if_pos (by simp; omega),kL hi]; simp only [ak,OP,key_eq,M6]; obtain ⟨ih1,ih2⟩:=UJ hv k (i + 1) (by omega) (by omega); have hp:Dj v.keys (i + 1)=some v.keys[i]:=by simp [Dj,hi]
   rw [hp] at ih1 ih2; rw [kK (by omega),ih1,ih2]; by_cases h0:i=0
   ·
    subst h0; have hp0:Dj v.keys 0=none:=rfl; rw [hp0]; cases wU v.keys[0] <;> simp
   ·
    have hi1:i - 1 < v.keys.length:=by omega
    have hm1:v.keys[i - 1]∈v.keys:=List.getElem_mem hi1; have hb1:=Na hm1; have hp0:Dj v.keys i=some v.keys[i - 1]:=by simp [Dj,h0,hi1]
    have e1:bI ((i:Int) - 1)=((i - 1:Nat):Int):=by rw [Mk (by omega)]; omega
    obtain ⟨c1,c2⟩:=Zc (a:=v.keys[i - 1]) (b:=v.keys[i]) (by omega) (by omega); have hpos:decide ((0:Int) < (i:Int))=true:=by simp; omega
    rw [hp0,e1,hpos,kL hi1]; simp only [ak,c1,c2,if_true]
    have hn:decide (QE v.keys[i - 1] v.keys[i] < 0)=!decide (0≤QE v.keys[i - 1] v.keys[i]):=by
     by_cases h:0≤QE v.keys[i - 1] v.keys[i] <;> simp [h] <;> omega
    rw [hn]; cases wU v.keys[i] <;> cases decide (0≤QE v.keys[i - 1] v.keys[i]) <;> simp
  ·
   have:i=v.keys.length:=by omega
   subst this; simp [M6]
theorem QT {v:av} (hv:v.bulk < 4611686018427387904):wF v=some (((v.keys.length:Int) == (v.dW.length:Int)) && M6 none v.keys)∧sD v=some (((v.keys.length:Int) == (v.dW.length:Int)) && M6 none v.keys):=by
 have hlen:=Nb v; obtain ⟨h1,h2⟩:=UJ hv BIG 0 (by have:=jV; omega) (by omega); have hp0:Dj v.keys 0=none:=rfl; rw [hp0,List.drop_zero] at h1 h2; unfold wF sD; rw [show (0:Int)=((0:Nat):Int) from rfl,h1,h2]; by_cases h:(v.keys.length:Int)=(v.dW.length:Int)
 · simp [h]
 ·
  have:((v.keys.length:Int) == (v.dW.length:Int))=false:=by simpa using h
  simp [this]; intro hh; exact absurd hh h
def GX (v:av):Bool:=
 (((((v.kind == 1) || (!v.lJ)) && ((v.kind == 2) || (v.mG == 0))) && ((v.kind == 3) || (v.nu == ([]:Str)))) && (((v.kind == 4) || (v.kind == 5)) || ((v.dW.length:Int) == 0))) && ((v.kind == 5) || ((v.keys.length:Int) == 0))
theorem aay (v:av):A8 v=some (GX v):=by
 unfold A8 GX
 have hl:decide (0 < (v.dW.length:Int))=!((v.dW.length:Int) == 0):=by
  cases h:v.dW <;> simp; omega
 rw [hl]; have hk:∀ n:Int,(v.kind != n)=!(v.kind == n):=fun n=>rfl; have hi:(v.mG != 0)=!(v.mG == 0):=rfl; rw [hk,hk,hk,hk,hk,hi]; generalize (v.kind == 1)=a1; generalize (v.kind == 2)=a2; generalize (v.kind == 3)=a3; generalize (v.kind == 4)=a4; generalize (v.kind == 5)=a5; generalize v.lJ=b; generalize (v.mG == 0)=c; generalize (v.nu == ([]:Str))=d; generalize ((v.dW.length:Int) == 0)=e; generalize ((v.keys.length:Int) == 0)=f; revert a1 a2 a3 a4 a5 b c d e f; decide
def Cn (v:av) (level:Nat):Int:=
 if 16 < level then 13
 else if (decide (v.kind < 0)) || (decide (5 < v.kind)) || !GX v then 1
 else if (decide (v.mG < (-9007199254740992))) || (decide (9007199254740992 < v.mG)) then 2
 else if ((decide (4096 < (v.nu.length:Int))) || (decide (1024 < (v.dW.length:Int)))) || (decide (1024 < (v.keys.length:Int))) then 3
 else if v.kind == 5 && !(((v.keys.length:Int) == (v.dW.length:Int)) && M6 none v.keys) then 1
 else if (((v.kind == 4) || (v.kind == 5)) && ((v.dW.length:Int) == 0)) && level == 16 then 13
 else 0
theorem Zb {v:av} (hv:v.bulk < 4611686018427387904) (level:Nat):yF v (level:Int)=some (Cn v level):=by
 unfold yF Cn xI; have h16:decide ((16:Int) < (level:Int))=decide (16 < level):=by congr 1; simp; omega
 have abx:((level:Int) == 16)=(level == 16):=by
  rw [Bool.eq_iff_iff]; simp only [beq_iff_eq]; omega
 rw [h16,abx,(QT hv).1]; change (if decide (16 < level)=true then some 13 else aA (if (decide (v.kind < 0) || decide (5 < v.kind))=true then some true else aA (some (GX v)) fun x1=>some (!x1)) _)=_
 by_cases h0:16 < level
 · simp [h0]
 ·
  simp only [h0,decide_false,Bool.false_eq_true,if_false,ak]; cases h1:(decide (v.kind < 0) || decide (5 < v.kind)) with
  | true=>simp
  | false=>
   cases h2:GX v with
   | false=>simp
   | true=>
    simp only [Bool.false_eq_true,if_false,Bool.not_true,ak,Bool.or_self]; split
    · rfl
    ·
     split
     · rfl
     · cases h3:(v.kind == 5) <;> cases h4:(((v.keys.length:Int) == (v.dW.length:Int)) && M6 none v.keys) <;> simp <;> (first | rfl | (split <;> rfl))
mutual
def Er :av→Nat→Int
 | ⟨a,b,c,d,l,f⟩,level=>if Cn ⟨a,b,c,d,l,f⟩ level != 0 then Cn ⟨a,b,c,d,l,f⟩ level else FD l (level + 1)
def FD :List av→Nat→Int
 | [],_=>0
 | x :: r,level=>if Er x level != 0 then Er x level else FD r level
end
theorem TV (v:av) (level:Nat):Er v level=if Cn v level != 0 then Cn v level else FD v.dW (level + 1):=by cases v; rw [Er]
theorem ado {go:av→Int→Option Int} {level:Nat}:∀ (l:List av) (i:Nat),(∀ x∈l,go x ((level + 1:Nat):Int)=some (Er x (level + 1)))→
  lD (fun _ e1 (_:Unit) r=>aA (go e1 ((level + 1:Nat):Int)) fun e2=>if e2 != 0 then some e2 else r ()) (fun _=>some 0) i l ()=some (FD l (level + 1))
 | [],i,_=>by simp [lD,FD]
 | x :: r,i,h=>by
  rw [lD,h x (by simp),FD]; simp only [ak]; rw [ado r (i + 1) (fun y hy=>h y (by simp [hy]))]; split <;> rfl
theorem Rj :∀ (n:Nat) (v:av) (level:Nat),v.bulk≤n→v.bulk < 4611686018427387904→level≤17→nH (n + 1) v (level:Int)=some (Er v level)
 | 0,v,_,h,_,_=>by have:=v.vE; omega
 | n + 1,v,level,h,hB,hlv=>by
  have hl:=M_ v; rw [TV]; unfold nH zK; have h16:decide ((16:Int) < (level:Int))=decide (16 < level):=by congr 1; simp; omega
  have abx:((level:Int) == 16)=(level == 16):=by
   rw [Bool.eq_iff_iff]; simp only [beq_iff_eq]; omega
  rw [h16,abx,(QT hB).2,aay]; unfold Cn; by_cases h0:16 < level
  · simp [h0]
  ·
   have hw:bI ((level:Int) + 1)=((level + 1:Nat):Int):=kK (by omega); have:=lC (F:=fun k (_:Unit) i=>uF (nH (n + 1)) v (level:Int) k i) (l:=v.dW) (body:=fun _ e1 _ r=>aA (nH (n + 1) e1 ((level + 1:Nat):Int)) fun e2=>if e2 != 0 then some e2 else r ()) (fin:=fun _=>some 0) (by omega) (fun k s i=>by rw [←hw]; rfl) (); rw [this,ado v.dW 0 fun x hx=>Rj n x (level + 1) (by have:=D9 hx; omega) (by have:=D9 hx; omega) (by omega)]; simp only [h0,decide_false,Bool.false_eq_true,if_false,ak]; cases h1:(decide (v.kind < 0) || decide (5 < v.kind)) with
   | true=>simp
   | false=>
    cases h2:GX v with
    | false=>simp
    | true=>
     simp only [Bool.false_eq_true,if_false,Bool.not_true,ak,Bool.or_self]; split
     · simp
     ·
      split
      · simp
      ·
       have h4:decide ((4:Int)≤v.kind)=((v.kind == 4) || (v.kind == 5)):=by
        simp only [Bool.or_eq_false_iff,decide_eq_false_iff_not] at h1; rw [Bool.eq_iff_iff]; simp only [Bool.or_eq_true,decide_eq_true_eq,beq_iff_eq]; omega
       rw [h4]
       cases h3:(v.kind == 5) <;> cases h5:(((v.keys.length:Int) == (v.dW.length:Int)) && M6 none v.keys) <;> simp <;> (first | rfl | (split <;> simp <;> rename_i hq <;> (first
        | exact fun hh=>absurd hq.2 (hh hq.1.1 hq.1.2)
        | exact fun a b c=>absurd ⟨⟨a,b⟩,c⟩ hq)))
theorem aao {v:av} (h:v.bulk < 4611686018427387904):A9 v=some (Er v 1):=by
 obtain ⟨n,hn,hn2⟩:=zo; unfold A9 Hl; rw [hn]; exact Rj n v 1 (by omega) h (by omega)
def JY (c:Int):Bool × Option Int:=if c != 0 then (false,some c) else (true,none)
theorem acg {v:av} (hv:v.bulk < 4611686018427387904) (level:Nat):kR none (level:Int) v=some (JY (Cn v level)):=by
 unfold kR JY; simp only [Zb hv,ak]; by_cases h:Cn v level=0 <;> simp [h]
theorem ZK {go:Option Int→av→Int→Option (Bool × Option Int)} {level:Nat}:∀ (l:List av) (i:Nat),(∀ x∈l,go none x ((level + 1:Nat):Int)=some (JY (Er x (level + 1))))→
  lD (fun _ x1 (s1:Option Int) r=>iA (go s1 x1 ((level + 1:Nat):Int)) fun b1 s2=>if !b1 then some (false,s2) else r s2) (fun s1=>some (true,s1)) i l none=some (JY (FD l (level + 1)))
 | [],i,_=>by simp [lD,FD,JY]
 | x :: r,i,h=>by
  rw [lD,h x (by simp),FD]; by_cases hc:Er x (level + 1)=0
  ·
   simp only [hc,JY,bne_self_eq_false,Bool.false_eq_true,if_false,aC,Bool.not_true]; rw [ZK r (i + 1) (fun y hy=>h y (by simp [hy]))]; rfl
  · simp [hc,JY]
theorem Wq :∀ (n:Nat) (v:av) (level:Nat),v.bulk≤n→v.bulk < 4611686018427387904→level≤17→nk kR (n + 1) none v (level:Int)=some (JY (Er v level))
 | 0,v,_,h,_,_=>by have:=v.vE; omega
 | n + 1,v,level,h,hB,hlv=>by
  have hl:=M_ v; rw [TV]; unfold nk xH; rw [acg hB]; by_cases h0:Cn v level=0
  ·
   have aeh:level≤16:=by
    rcases Nat.lt_or_ge 16 level with h | h
    · unfold Cn at h0; simp [h] at h0
    · exact h
   have hw:bI ((level:Int) + 1)=((level + 1:Nat):Int):=kK (by omega); have:=lC (F:=fun k s i=>su (nk kR (n + 1)) v (level:Int) k s i) (l:=v.dW) (body:=fun _ x1 (s1:Option Int) r=>iA (nk kR (n + 1) s1 x1 ((level + 1:Nat):Int)) fun b1 s2=>if !b1 then some (false,s2) else r s2) (fin:=fun s1=>some (true,s1)) (by omega) (fun k s i=>by rw [←hw]; rfl) none; simp only [h0,JY,bne_self_eq_false,Bool.false_eq_true,if_false,aC,Bool.not_true]; rw [this,ZK v.dW 0 fun x hx=>Wq n x (level + 1) (by have:=D9 hx; omega) (by have:=D9 hx; omega) (by omega)]; rfl
  · simp [h0,JY]
theorem UN {v:av} (h:v.bulk < 4611686018427387904):o7 v=some (Er v 1):=by
 obtain ⟨n,hn,hn2⟩:=zo; unfold o7 EP; rw [hn,show (1:Int)=((1:Nat):Int) from rfl,Wq n v 1 (by omega) h (by omega)]; unfold JY; by_cases hc:Er v 1=0 <;> simp [hc]
end Go.Ft
namespace Go.Ft
open Go
attribute [local congr] iH
def Kc (v:av):Bool:=(((((v.kind == 0) && (!v.lJ)) && (v.mG == 0)) && (v.nu == ([]:Str))) && ((v.dW.length:Int) == 0)) && ((v.keys.length:Int) == 0)
theorem zero_eq (v:av):zM v=some (Kc v):=rfl
theorem U2 (v:av):FW v (av.mk 0 false 0 ([]:Str) [] [])=some (Kc v):=by
 obtain ⟨n,hn,hn2⟩:=zo; obtain ⟨m,hm⟩:∃ m,n=m + 1:=⟨n - 1,by omega⟩; have hB:BIG=(m + 1) + 1:=by omega
 unfold FW; rw [hB,vO,BJ]
 have hz:Kc v=!(((((v.kind != 0) || (!(v.lJ == false))) || (v.mG != 0)) || (!(v.nu == ([]:Str)))) || ((v.dW.length:Int) != (([]:List av).length:Int)) || ((v.keys.length:Int) != (([]:List Str).length:Int))):=by
  unfold Kc; have hk:(v.kind != 0)=!(v.kind == 0):=rfl; have hi:(v.mG != 0)=!(v.mG == 0):=rfl; have hl:((v.dW.length:Int) != (([]:List av).length:Int))=!((v.dW.length:Int) == 0):=rfl; have hks:((v.keys.length:Int) != (([]:List Str).length:Int))=!((v.keys.length:Int) == 0):=rfl; rw [hk,hi,hl,hks]; generalize (v.kind == 0)=a; generalize v.lJ=b; generalize (v.mG == 0)=c; generalize (v.nu == ([]:Str))=d; generalize ((v.dW.length:Int) == 0)=e; generalize ((v.keys.length:Int) == 0)=f; revert a b c d e f; decide
 cases h:(((((v.kind != 0) || (!(v.lJ == false))) || (v.mG != 0)) || (!(v.nu == ([]:Str)))) || ((v.dW.length:Int) != (([]:List av).length:Int)) || ((v.keys.length:Int) != (([]:List Str).length:Int))) with
 | true=>
  rw [hz,h]; rfl
 | false=>
  rw [hz,h]; simp only [Bool.or_eq_false_iff] at h; have hl:v.dW=[]:=by have:=h.1.2; simpa using this
  have hk:v.keys=[]:=by have:=h.2; simpa using this
  simp only [Bool.false_eq_true,if_false,Bool.not_false]; rw [hB,wN,hk]; simp only [List.length_nil,Int.lt_irrefl,decide_false,Bool.false_eq_true,if_false,Int.ofNat_zero,Int.natCast_zero]; rw [hB,wM,hl]; simp
def Cb (e:aj):Bool:=
 if e.kind == 1 then (e.args.length:Int) == 0 else if e.kind == 2 then (e.args.length:Int) == 0 else if e.kind == 3 then (e.args.length:Int) == 1 else if e.kind == 6 then (e.args.length:Int) == 1
 else if e.kind == 4 then (e.args.length:Int) == 2 else if e.kind == 7 then (e.args.length:Int) == 2 else if e.kind == 8 then (e.args.length:Int) == 3 else ((e.kind == 5) || (e.kind == 9)) || (e.kind == 10)
theorem ZG (e:aj):AL e=some (Cb e):=by
 unfold AL Cb; simp only [apply_ite some]
def Dr (e:aj):Bool:=!((decide (e.kind < 1)) || (decide (10 < e.kind)))
theorem abM (e:aj) (h:Dr e=true):uJ e=some (Cb e):=by
 unfold uJ Cb; unfold Dr at h; simp only [Bool.not_eq_true',Bool.or_eq_false_iff,decide_eq_false_iff_not] at h; simp only [apply_ite some]
 have hh:¬ e.kind=1→¬ e.kind=2→¬ e.kind=3→¬ e.kind=6→¬ e.kind=4→¬ e.kind=7→¬ e.kind=8→(((e.kind == 5) || (e.kind == 9)) || (e.kind == 10))=true:=by
  intro h1 h2 h3 h6 h4 h7 h8; simp only [Bool.or_eq_true,beq_iff_eq]; omega
 by_cases h1:e.kind=1
 · simp [h1]
 by_cases h2:e.kind=2
 · simp [h2]
 by_cases h3:e.kind=3
 · simp [h3]
 by_cases h6:e.kind=6
 · simp [h6]
 by_cases h4:e.kind=4
 · simp [h4]
 by_cases h7:e.kind=7
 · simp [h7]
 by_cases h8:e.kind=8
 · simp [h8]
 rw [hh h1 h2 h3 h6 h4 h7 h8]
 all_goals simp [h1,h2,h3,h4,h6,h7,h8]
def FJ (s:Str):Int:=(iU s).getD 0
theorem G6 (s:Str):iU s=some (FJ s):=by
 obtain ⟨n,h⟩:=Mq s; unfold FJ; rw [h]; rfl
def H9 (e:aj):Bool:=
 if e.kind == 2 then pI e.name else if e.kind == 3 then pI e.name else if e.kind == 5 then pI e.name else if e.kind == 6 then (e.name == ([33]:Str)) || (e.name == ([45]:Str))
 else if e.kind == 7 then decide (0 < FJ e.name) else e.name == ([]:Str)
theorem QF (e:aj) (h:e.bulk < 4611686018427387904):uH e=some (H9 e)∧AJ e=some (H9 e):=by
 have hn:=VD e; obtain ⟨p1,p2⟩:=A_ e.name (by omega); unfold uH AJ H9; rw [p1,p2,IE,G6]; simp only [ak,apply_ite some,and_self]
theorem aeA (l:List Str) (hl:l.length < 4611686018427387904):gI l jK=some (l.any fun k=>!wU k):=by
 unfold gI je; have:=lC (F:=fun k (_:Unit) i=>gH l jK k i) (l:=l) (body:=fun (i:Nat) e1 _ r=>aA (jK e1) fun x1=>if x1 then some (i:Int) else r ()) (fin:=fun _=>some (-1)) hl (fun k s i=>rfl) (); rw [this]
 have key:∀ (t:List Str) (i:Nat),aA (lD (fun (i:Nat) e1 (_:Unit) r=>aA (jK e1) fun x1=>if x1 then some (i:Int) else r ()) (fun _=>some (-1)) i t ()) (fun x1=>some (decide (0≤x1)))=some (t.any fun k=>!wU k):=by
  intro t
  induction t with
  | nil=>intro i; rfl
  | cons c t ih=>
   intro i; rw [lD]; have e1:jK c=some (!wU c):=by unfold jK; rw [OP]
   rw [e1]; simp only [ak,List.any_cons]; cases h:wU c with
   | false=>simp
   | true=>
    simp only [Bool.not_true,Bool.false_eq_true,if_false,Bool.false_or]; exact ih (i + 1)
 exact key l 0
def Lj (e:aj):Bool:=if e.kind != 10 then (e.keys.length:Int) == 0 else ((e.keys.length:Int) == (e.args.length:Int)) && !(e.keys.any fun k=>!wU k)
theorem abq (e:aj) (h:e.bulk < 4611686018427387904):uI e=some (Lj e):=by
 have hk:=Ei e; unfold uI Lj; rw [aeA e.keys (by omega)]; split
 · rfl
 · cases ((e.keys.length:Int) == (e.args.length:Int)) <;> simp
theorem Zg (e:aj) (h:e.bulk < 4611686018427387904):qj e BIG 0=some (!(e.keys.any fun k=>!wU k) && ((e.keys.length:Int) == (e.args.length:Int))):=by
 have hk:=Ei e
 have:=lC (F:=fun k (_:Unit) i=>qj e k i) (l:=e.keys) (body:=fun (i:Nat) e2 _ r=>aA (if decide ((e2.length:Int) < 1) then some true else aA (idx e.keys (i:Int)) fun e3=>some (decide (64 < (e3.length:Int)))) fun b4=>if b4 then some false else r ())
  (fin:=fun _=>some ((e.keys.length:Int) == (e.args.length:Int))) (by omega) (fun k s i=>rfl) ()
 rw [this]
 have key:∀ (t:List Str) (i:Nat),t=e.keys.drop i→lD (fun (i:Nat) e2 (_:Unit) r=>aA (if decide ((e2.length:Int) < 1) then some true else aA (idx e.keys (i:Int)) fun e3=>some (decide (64 < (e3.length:Int)))) fun b4=>if b4 then some false else r ())
   (fun _=>some ((e.keys.length:Int) == (e.args.length:Int))) i t ()=some (!(t.any fun k=>!wU k) && ((e.keys.length:Int) == (e.args.length:Int))):=by
  intro t
  induction t with
  | nil=>intro i _; rfl
  | cons c t ih=>
   intro i ht
   have hi:i < e.keys.length:=by
    rcases Nat.lt_or_ge i e.keys.length with h | h
    · exact h
    · rw [List.drop_eq_nil_of_le h] at ht; cases ht
   have hc:=List.drop_eq_getElem_cons hi; rw [←ht] at hc; have e1:c=e.keys[i]:=(List.cons.inj hc).1; have e2:=(List.cons.inj hc).2; rw [lD,kL hi,←e1]; simp only [ak,List.any_cons]; rw [ih (i + 1) e2]; have e3:=OP c; cases h1:decide ((List.length c:Int) < 1) <;> rw [h1] at e3
   ·
    simp only [Bool.false_or] at e3; simp only [Bool.false_eq_true,if_false,ak,e3]; cases wU c <;> simp
   ·
    simp only [Bool.true_or] at e3
    have:wU c=false:=by
     cases h:wU c with
     | false=>rfl
     | true=>rw [h] at e3; cases e3
    simp [this]
 exact key e.keys 0 rfl
def Gn (e:aj):Bool:=Dr e && ((e.kind == 1) || Kc e.value) && H9 e && Cb e && Lj e
theorem TJ (e:aj) (h:Cb e=true):Dr e=true:=by
 unfold Cb at h; unfold Dr; simp only [Bool.not_eq_true',Bool.or_eq_false_iff,decide_eq_false_iff_not]; by_cases h1:e.kind=1
 · omega
 by_cases h2:e.kind=2
 · omega
 by_cases h3:e.kind=3
 · omega
 by_cases h6:e.kind=6
 · omega
 by_cases h4:e.kind=4
 · omega
 by_cases h7:e.kind=7
 · omega
 by_cases h8:e.kind=8
 · omega
 simp [h1,h2,h3,h4,h6,h7,h8] at h; omega
theorem Vz (e:aj) (h:e.bulk < 4611686018427387904):yL e=some (Gn e):=by
 unfold yL Gn; rw [ZG,(QF e h).2,U2,Zg e h]; have hk:=TJ e; unfold Lj; have hne:(e.kind != 1)=!(e.kind == 1):=rfl; rw [hne]; cases h1:Cb e with
 | false=>cases (e.kind == 1) <;> simp
 | true=>
  rw [hk h1]; cases h2:H9 e with
  | false=>cases (e.kind == 1) <;> simp
  | true=>
   cases h3:(e.kind == 1) <;> cases h4:Kc e.value <;> simp <;> (first | done | (split <;> simp [Bool.and_comm]))
theorem Nw (y:List (Str × Int)) (s t:Str) (n:Int):uO (vJ y s n) t=if t=s then n else uO y t:=by
 induction y with
 | nil=>by_cases h:t=s <;> simp [vJ,uO,h]
 | cons a y ih=>
  obtain ⟨k,v⟩:=a; unfold vJ; by_cases h:s=k
  ·
   subst h; simp only [beq_self_eq_true,if_true]; unfold uO; by_cases h2:t=s
   · simp [h2]
   ·
    have:(t == s)=false:=beq_eq_false_iff_ne.2 h2; simp [this,h2]
  ·
   have:(s == k)=false:=beq_eq_false_iff_ne.2 h; rw [this]; simp only [Bool.false_eq_true,if_false]; unfold uO; by_cases h2:t=k
   ·
    subst h2; have:¬ t=s:=fun hh=>h hh.symm; simp [this]
   ·
    have h3:(t == k)=false:=beq_eq_false_iff_ne.2 h2; rw [h3]; simp only [Bool.false_eq_true,if_false]; exact ih
def MI :List Str→List Str→Bool
 | _,[]=>false
 | seen,s :: r=>seen.contains s || MI (seen ++ [s]) r
theorem aax (l:List Str) (hl:l.length < 4611686018427387904):p9 l=some (MI [] l):=by
 unfold p9; have:=lC (F:=fun k s i=>mJ l k i s) (l:=l) (body:=fun _ s1 (y1:List (Str × Int)) r=>if decide (1 < (uO (vJ y1 s1 (bI ((uO y1 s1) + 1))) s1)) then some true else r (vJ y1 s1 (bI ((uO y1 s1) + 1)))) (fin:=fun _=>some false) hl (fun k s i=>rfl) []; rw [this]
 have key:∀ (t:List Str) (i:Nat) (y:List (Str × Int)) (seen:List Str),(∀ s,uO y s=if s∈seen then 1 else 0)→
   lD (fun _ s1 (y1:List (Str × Int)) r=>if decide (1 < (uO (vJ y1 s1 (bI ((uO y1 s1) + 1))) s1)) then some true else r (vJ y1 s1 (bI ((uO y1 s1) + 1)))) (fun _=>some false) i t y=some (MI seen t):=by
  intro t
  induction t with
  | nil=>intro i y seen _; rfl
  | cons c t ih=>
   intro i y seen hy; rw [lD,MI,Nw,if_pos rfl,hy c]; by_cases hc:c∈seen
   ·
    have:bI 2=2:=by decide
    simp [hc,this]
   ·
    have:bI ((0:Int) + 1)=1:=by decide
    simp only [hc,if_false,this]; have e:seen.contains c=false:=by simpa using hc
    rw [e]; simp only [Int.lt_irrefl,decide_false,Bool.false_eq_true,if_false,Bool.false_or]; refine ih (i + 1) _ (seen ++ [c]) fun s=>?_; rw [Nw,hy s]; by_cases h1:s=c
    · subst h1; simp
    · simp [h1]
 exact key l 0 [] [] (fun s=>by simp [uO])
theorem P_ (l:List Str) (i:Nat) (hi:i < l.length) (hl:l.length < 4611686018427387904) (go:Int→Option Bool):∀ (k j:Nat),i < k + j→j≤i→
  rz l (i:Int) go k (j:Int)=if ((l.take i).drop j).contains l[i] then some true else go ((i + 1:Nat):Int)
 | 0,j,h,h'=>by omega
 | k + 1,j,h,h'=>by
  rw [rz]; by_cases hj:j < i
  ·
   have hlt:j < (l.take i).length:=by simp; omega
   rw [if_pos (by simpa using hj),kL hi,kL (by omega),List.drop_eq_getElem_cons hlt]; simp only [ak,List.contains_cons,List.getElem_take]; cases h1:(l[i] == l[j]) with
   | true=>simp
   | false=>
    simp only [Bool.false_eq_true,if_false,Bool.false_or]; rw [kK (by omega)]; exact P_ l i hi hl go k (j + 1) (by omega) (by omega)
  ·
   have:j=i:=by omega
   subst this; rw [if_neg (by simp),kK (by omega)]; have:(List.take j l).drop j=[]:=List.drop_eq_nil_of_le (by simp; omega); rw [this]; simp
theorem Nf (l:List Str) (hl:l.length < 4611686018427387904):∀ (k i:Nat),l.length < k + i→i≤l.length→nA l k (i:Int)=some (MI (l.take i) (l.drop i))
 | 0,i,h,h'=>by omega
 | k + 1,i,h,h'=>by
  rw [nA]; by_cases hi:i < l.length
  ·
   rw [if_pos (by simpa using hi),List.drop_eq_getElem_cons hi,MI]; have:=P_ l i hi hl (nA l k) BIG 0 (by have:=jV; omega) (by omega); rw [show (0:Int)=((0:Nat):Int) from rfl,this,List.drop_zero,Nf l hl k (i + 1) (by omega) (by omega)]; have e:List.take (i + 1) l=List.take i l ++ [l[i]]:=by rw [List.take_add_one,List.getElem?_eq_getElem hi]; rfl
   rw [e]; cases (l.take i).contains l[i] <;> simp
  ·
   have:i=l.length:=by omega
   subst this; simp [MI]
theorem WG (l:List Str) (hl:l.length < 4611686018427387904):AB l=some (MI [] l):=by
 have:=Nf l hl BIG 0 (by have:=jV; omega) (by omega); simpa [AB] using this
def EC (e:aj) (level:Nat):Int:=
 if 16 < level then 13 else if !Gn e then 1 else if e.kind == 1 && (Er e.value 1 != 0) then Er e.value 1 else if decide (1024 < (e.args.length:Int)) then 3 else if MI [] e.keys then 7 else 0
theorem Xd (e:aj) (h:e.bulk < 4611686018427387904) (level:Nat):wO e (level:Int)=some (EC e level):=by
 have hk:=Ei e; have hv:=IY e; unfold wO EC; have h16:decide ((16:Int) < (level:Int))=decide (16 < level):=by congr 1; simp; omega
 rw [h16,zero_eq,(QF e h).1,abq e h,UN (by omega),aax e.keys (by omega)]; by_cases h0:16 < level
 · simp [h0]
 ·
  simp only [h0,decide_false,Bool.false_eq_true,if_false,ak]; have hkd:((decide (e.kind < 1)) || (decide (10 < e.kind)))=!Dr e:=by simp [Dr]
  have hne:(e.kind != 1)=!(e.kind == 1):=rfl; rw [hkd,hne]; unfold Gn; cases h1:Dr e with
  | false=>simp
  | true=>
   rw [abM e h1]
   cases h3:(e.kind == 1) <;> cases h4:Kc e.value <;> cases h5:H9 e <;> cases h6:Cb e <;> cases h7:Lj e <;> simp <;>
    (first | done | (split <;> (first | rfl | (split <;> (first | rfl | (split <;> rfl))))))
end Go.Ft
namespace Go.Ft
open Go
attribute [local congr] iH
mutual
def PI :aj→Nat→Int
 | ⟨a,b,c,l,f⟩,level=>if EC ⟨a,b,c,l,f⟩ level != 0 then EC ⟨a,b,c,l,f⟩ level else M8 l (level + 1)
def M8 :List aj→Nat→Int
 | [],_=>0
 | x :: r,level=>if PI x level != 0 then PI x level else M8 r level
end
theorem TR (e:aj) (level:Nat):PI e level=if EC e level != 0 then EC e level else M8 e.args (level + 1):=by cases e; rw [PI]
theorem EN {go:aj→Int→Option Int} {level:Nat}:∀ (l:List aj) (i:Nat),(∀ x∈l,go x ((level + 1:Nat):Int)=some (PI x (level + 1)))→
  lD (fun _ e1 (_:Unit) r=>aA (go e1 ((level + 1:Nat):Int)) fun e2=>if e2 != 0 then some e2 else r ()) (fun _=>some 0) i l ()=some (M8 l (level + 1))
 | [],i,_=>by simp [lD,M8]
 | x :: r,i,h=>by
  rw [lD,h x (by simp),M8]; simp only [ak]; rw [EN r (i + 1) (fun y hy=>h y (by simp [hy]))]; split <;> rfl
theorem JW :∀ (n:Nat) (e:aj) (level:Nat),e.bulk≤n→e.bulk < 4611686018427387904→level≤17→j4 (n + 1) e (level:Int)=some (PI e level)∧nD (n + 1) e (level:Int)=some (PI e level)
 | 0,e,_,h,_,_=>by have:=e.vE; omega
 | n + 1,e,level,h,hB,hlv=>by
  have hl:=NP e; have hv:=IY e; have hks:=Ei e; have hw:bI ((level:Int) + 1)=((level + 1:Nat):Int):=kK (by omega); constructor
  ·
   rw [TR]; unfold j4 uG; have:=lC (F:=fun k (_:Unit) i=>p8 (j4 (n + 1)) e (level:Int) k i) (l:=e.args) (body:=fun _ e1 _ r=>aA (j4 (n + 1) e1 ((level + 1:Nat):Int)) fun e2=>if e2 != 0 then some e2 else r ()) (fin:=fun _=>some 0) (by omega) (fun k s i=>by rw [←hw]; rfl) (); rw [Xd e hB,this]; simp only [ak]; by_cases h0:EC e level=0
   ·
    have aeh:level≤16:=by
     rcases Nat.lt_or_ge 16 level with h | h
     · unfold EC at h0; simp [h] at h0
     · exact h
    rw [EN e.args 0 fun x hx=>(JW n x (level + 1) (by have:=rP hx; omega) (by have:=rP hx; omega) (by omega)).1]; simp [h0]
   · simp [h0]
  ·
   rw [TR]; unfold nD zG; have:=lC (F:=fun k (_:Unit) i=>uz (nD (n + 1)) e (level:Int) k i) (l:=e.args) (body:=fun _ e1 _ r=>aA (nD (n + 1) e1 ((level + 1:Nat):Int)) fun e2=>if e2 != 0 then some e2 else r ()) (fin:=fun _=>some 0) (by omega) (fun k s i=>by rw [←hw]; rfl) (); have h16:decide ((16:Int) < (level:Int))=decide (16 < level):=by congr 1; simp; omega
   rw [Vz e hB,aao (by omega),WG e.keys (by omega),this,h16]; by_cases h0:16 < level
   · simp [EC,h0]
   ·
    rw [EN e.args 0 fun x hx=>(JW n x (level + 1) (by have:=rP hx; omega) (by have:=rP hx; omega) (by omega)).2]; unfold EC; simp only [h0,decide_false,Bool.false_eq_true,if_false,ak]; cases Gn e with
    | false=>simp
    | true=>
     simp only [Bool.not_true,Bool.false_eq_true,if_false]; cases h1:(e.kind == 1 && (Er e.value 1 != 0)) with
     | true=>
      have:Er e.value 1≠0:=by simp at h1; exact h1.2
      simp [this]
     | false=>
      simp only [Bool.false_eq_true,if_false]; by_cases h2:(1024:Int) < (e.args.length:Int)
      · simp [h2]
      ·
       simp only [h2,decide_false,Bool.false_eq_true,if_false]; cases MI [] e.keys <;> simp
def xval (e:aj):Int:=if 4096 < ecnt e then 15 else PI e 1
theorem YH {e:aj} (h:e.bulk < 4611686018427387904):pF e=some (xval e)∧AP e=some (xval e):=by
 obtain ⟨n,hn,hn2⟩:=zo; obtain ⟨c1,c2⟩:=count_eq h; obtain ⟨v1,v2⟩:=JW n e 1 (by omega) h (by omega); unfold pF AP xval BL Hf; rw [c1,c2,hn]; have:decide ((4096:Int) < (ecnt e:Int))=decide (4096 < ecnt e):=by congr 1; simp; omega
 simp only [ak,this]; rw [show (1:Int)=((1:Nat):Int) from rfl,v1,v2]; by_cases h4:4096 < ecnt e <;> simp [h4]
inductive Ty where
 | leaf (k:Int)
 | nest (k:Int) (t:Ty)
namespace Ty
def api :Ty→kJ
 | leaf k=>⟨k,[]⟩
 | nest k t=>⟨k,[t.api]⟩
def wf :Ty→Prop
 | leaf k=>0≤k∧k≤7∧k≠5∧k≠6
 | nest k t=>(k=5∨k=6)∧t.wf
def dep :Ty→Nat
 | leaf _=>1
 | nest _ t=>1 + t.dep
def kind :Ty→Int
 | leaf k=>k
 | nest k _=>k
theorem ady (t:Ty):t.api.kind=t.kind:=by cases t <;> rfl
theorem UD (t:Ty):1≤t.dep:=by cases t <;> simp [dep] <;> omega
end Ty
theorem KO {k:Int} (h:0≤k∧k≤7):∃ s,zy k=some s∧(s == ([]:Str))=false:=by
 obtain ⟨n,rfl⟩:∃ n:Nat,k=n:=⟨k.toNat,by omega⟩; have hn:n < 8:=by omega
 match n,hn with
 | 0,_=>exact ⟨_,rfl,rfl⟩
 | 1,_=>exact ⟨_,rfl,rfl⟩
 | 2,_=>exact ⟨_,rfl,rfl⟩
 | 3,_=>exact ⟨_,rfl,rfl⟩
 | 4,_=>exact ⟨_,rfl,rfl⟩
 | 5,_=>exact ⟨_,rfl,rfl⟩
 | 6,_=>exact ⟨_,rfl,rfl⟩
 | 7,_=>exact ⟨_,rfl,rfl⟩
theorem Xx {k:Int} (h:¬ (0≤k∧k≤7)):zy k=some []:=by
 unfold zy; rw [if_pos (by simp; omega)]
theorem WH :∀ (k level:Nat) (t:kJ),18≤k + level→level≤17→∃ c,lN k (level:Int) t=some c∧zJ k t (level:Int)=some c∧(c=0→∃ T:Ty,T.wf∧t=T.api∧T.dep + level≤17)
 | 0,level,t,h,h'=>by omega
 | k + 1,level,t,h,h'=>by
  rw [lN,zJ,IL]; have h16:decide ((16:Int) < (level:Int))=decide (16 < level):=by congr 1; simp; omega
  rw [h16]; by_cases h0:16 < level
  · exact ⟨13,by simp [h0],by simp [h0],by simp⟩
  ·
   simp only [h0,decide_false,Bool.false_eq_true,if_false]; by_cases hk:0≤t.kind∧t.kind≤7
   ·
    obtain ⟨s,hs,hs2⟩:=KO hk; have hb:(decide (t.kind < 0) || decide (7 < t.kind))=false:=by simp; omega
    rw [hs,hb]; simp only [ak,hs2,qh,Ns,Bool.false_eq_true,if_false]; cases hn:((t.kind == 5) || (t.kind == 6)) with
    | false=>
     simp only [Bool.false_and,Bool.not_false,Bool.true_and,Bool.false_eq_true,if_false,ak,if_true]; cases he:t.elem with
     | nil=>
      refine ⟨0,by simp,by simp,fun _=>⟨.leaf t.kind,?_,?_,?_⟩⟩
      · simp at hn; exact ⟨hk.1,hk.2,hn.1,hn.2⟩
      · cases t; simp at he; subst he; rfl
      · simp only [Ty.dep]; omega
     | cons x r=>exact ⟨1,by first | (simp; done) | (simp; omega),by first | (simp; done) | (simp; omega),by simp⟩
    | true=>
     simp only [Bool.true_and,Bool.not_true,Bool.false_and,ak,Bool.false_eq_true,if_false]; have hnk:t.kind=5∨t.kind=6:=by simpa using hn
     match he:t.elem with
     | []=>exact ⟨1,by simp,by simp,by simp⟩
     | [x]=>
      obtain ⟨c,c1,c2,c3⟩:=WH k (level + 1) x (by omega) (by omega); have hw:bI ((level:Int) + 1)=((level + 1:Nat):Int):=kK (by omega); refine ⟨c,?_,?_,fun hc=>?_⟩
      · rw [hw,←c1]; simp [idx]
      · rw [hw,←c2]; simp [idx]
      ·
       obtain ⟨T,w1,w2,w3⟩:=c3 hc; refine ⟨.nest t.kind T,⟨hnk,w1⟩,?_,?_⟩
       · cases t; simp at he; subst he; simp [Ty.api,w2]
       · simp only [Ty.dep]; omega
     | x :: y :: r=>
      have hl:(((x :: y :: r).length:Int) != 1)=true:=by simp only [List.length_cons,bne_iff_ne]; omega
      exact ⟨1,by simp only [hl,if_true,ak],by simp only [hl,if_true],by simp⟩
   ·
    have hb:(decide (t.kind < 0) || decide (7 < t.kind))=true:=by simp; omega
    rw [Xx hk,hb]; exact ⟨1,by simp,by simp,by simp⟩
theorem ZL :∀ (T:Ty) (k level:Nat),T.wf→T.dep + level≤17→18≤k + level→lN k (level:Int) T.api=some 0
 | .leaf a,0,level,_,h,h'=>by simp only [Ty.dep] at h; omega
 | .leaf a,k + 1,level,hw,h,h'=>by
  simp only [Ty.dep] at h; have h16:decide ((16:Int) < (level:Int))=false:=decide_eq_false (by omega); obtain ⟨s,hs,hs2⟩:=KO (k:=a) ⟨hw.1,hw.2.1⟩; have hn:((a == 5) || (a == 6))=false:=by simp; exact ⟨hw.2.2.1,hw.2.2.2⟩
  simp [lN,h16,Ty.api,hs,beq_eq_false_iff_ne.1 hs2,qh,hn]
 | .nest a T,0,level,_,h,h'=>by simp only [Ty.dep] at h; have:=T.UD; omega
 | .nest a T,k + 1,level,hw,h,h'=>by
  simp only [Ty.dep] at h; have hd:=T.UD; have h16:decide ((16:Int) < (level:Int))=false:=decide_eq_false (by omega); have hn:((a == 5) || (a == 6))=true:=by simpa using hw.1
  obtain ⟨s,hs,hs2⟩:=KO (k:=a) (by rcases hw.1 with h | h <;> omega); have hw64:bI ((level:Int) + 1)=((level + 1:Nat):Int):=kK (by omega); have:=ZL T k (level + 1) hw.2 (by omega) (by omega); rw [←this,←hw64]; simp [lN,h16,Ty.api,hs,beq_eq_false_iff_ne.1 hs2,qh,hn,idx]
def Sl (t:kJ):Int:=(xK t).getD 0
theorem YO (t:kJ):xK t=some (Sl t)∧Hg t=some (Sl t)∧(Sl t=0→∃ T:Ty,T.wf∧t=T.api∧T.dep≤16):=by
 obtain ⟨c,c1,c2,c3⟩:=WH BIG 1 t (by have:=jV; omega) (by omega); have e1:xK t=some c:=c1; have e2:Hg t=some c:=c2; have:Sl t=c:=by unfold Sl; rw [e1]; rfl
 rw [this]; exact ⟨e1,e2,fun h=>by obtain ⟨T,a,b,d⟩:=c3 h; exact ⟨T,a,b,by omega⟩⟩
theorem YN {T:Ty} (h:T.wf) (hd:T.dep≤16):Sl T.api=0:=by
 have:=ZL T BIG 1 h (by omega) (by have:=jV; omega); have e1:xK T.api=some 0:=this; unfold Sl; rw [e1]; rfl
end Go.Ft
namespace Go.Ft
open Go
attribute [local congr] iH
def ZT :kJ:=kJ.mk 0 []
def sc (k:Int):Ty:=.leaf k
def adl (x:Option (kJ × Bool)):Option (kJ × Int):=
 iA x fun x6 ok1=>if !ok1 then some (ZT,9) else aA (Hg x6) fun x7=>if x7 != 0 then some (ZT,13) else some (x6,0)
def RES (x y:Option (kJ × Int)):Prop:=∃ (T:Ty) (c:Int),T.wf∧T.dep≤16∧(c≠0→T=sc 0)∧x=some (T.api,c)∧y=some (T.api,c)
theorem RES.mk {x:Option (kJ × Int)} {y:Option (kJ × Bool)} (T:Ty) (b:Bool) (hx:x=some (if b then (T.api,0) else (ZT,9))) (hy:y=some (T.api,b)) (hw:b=true→T.wf∧T.dep≤16):RES x (adl y):=by
 subst hx hy; unfold adl; cases b with
 | false=>exact ⟨sc 0,9,by simp [sc,Ty.wf],by simp [sc,Ty.dep],fun _=>rfl,rfl,rfl⟩
 | true=>
  obtain ⟨h1,h2⟩:=hw rfl; refine ⟨T,0,h1,h2,fun h=>absurd rfl h,rfl,?_⟩; simp only [aC,Bool.not_true,Bool.false_eq_true,if_false,(YO _).2.1,YN h1 h2]; rfl
end Go.Ft
namespace Go.Ft
open Go
attribute [local congr] iH
theorem len1 {α:Type} {l:List α} (h:l.length=1):∃ a,l=[a]:=by
 match l,h with
 | [a],_=>exact ⟨a,rfl⟩
end Go.Ft
namespace Go.Ft
open Go
attribute [local congr] iH
def ZV :av:=av.mk 0 false 0 ([]:Str) [] []
end Go.Ft
namespace Go.Ft
open Go
attribute [local congr] iH
theorem Zl {α:Type} {l t:List α} {d:α} {i:Nat} (h:d :: t=l.drop i):∃ hi:i < l.length,d=l[i]∧t=l.drop (i + 1):=by
 have hi:i < l.length:=by
  rcases Nat.lt_or_ge i l.length with h' | h'
  · exact h'
  · rw [List.drop_eq_nil_of_le h'] at h; cases h
 have hc:=List.drop_eq_getElem_cons hi; rw [←h] at hc; exact ⟨hi,(List.cons.inj hc).1,(List.cons.inj hc).2⟩
end Go.Ft
namespace Go.Ft
open Go
attribute [local congr] iH
mutual
def lev :av→Nat
 | ⟨k,_,_,_,l,_⟩=>if (k == 4) || (k == 5) then ac0 l 2 else 1
def ac0 :List av→Nat→Nat
 | [],n=>n
 | x :: r,n=>ac0 r (max n (1 + lev x))
end
mutual
def vok :av→Bool
 | ⟨a,b,c,d,l,f⟩=>(Cn ⟨a,b,c,d,l,f⟩ 1 == 0) && ach l
def ach :List av→Bool
 | []=>true
 | x :: r=>vok x && ach r
end
def VV (v:av):Prop:=vok v=true∧lev v≤16
end Go.Ft
namespace Go.Ft
open Go
attribute [local congr] iH
def dg (u:Nat):UInt8:=UInt8.ofNat (48 + u)
theorem Lp {u:Nat} (h:u < 10):(dg u).toNat=48 + u:=by
 unfold dg; rw [UInt8.toNat_ofNat',Nat.mod_eq_of_lt (by omega)]
theorem X0 {u:Nat} (h:u < 10):iE (dg u)=true:=by
 unfold iE; rw [Lp h]; simp; omega
theorem H_ :∀ (k m u:Nat),u < 10 ^ k→u < 10 ^ m→0 < k→0 < m→vK k u=vK m u
 | 0,_,_,_,_,h,_=>by omega
 | _,0,_,_,_,_,h=>by omega
 | k + 1,m + 1,u,h,h',_,_=>by
  rw [vK,vK]; by_cases hu:u < 10
  · rw [if_pos hu,if_pos hu]
  ·
   rw [if_neg hu,if_neg hu]
   have hk:0 < k:=by
    rcases Nat.eq_zero_or_pos k with h0 | h0
    · subst h0; omega
    · exact h0
   have hm:0 < m:=by
    rcases Nat.eq_zero_or_pos m with h0 | h0
    · subst h0; omega
    · exact h0
   rw [H_ k m (u / 10) (by rw [Nat.pow_succ] at h; omega) (by rw [Nat.pow_succ] at h'; omega) hk hm]
theorem Ra :∀ (k u:Nat),u < 10 ^ k→0 < k→(vK k u).length≤k
 | 0,_,_,h=>by omega
 | k + 1,u,h,_=>by
  rw [vK]; split
  · simp
  ·
   rename_i hu
   have hk:0 < k:=by
    rcases Nat.eq_zero_or_pos k with h0 | h0
    · subst h0; omega
    · exact h0
   have:=Ra k (u / 10) (by rw [Nat.pow_succ] at h; omega) hk; simp only [List.length_append,List.length_singleton]; omega
theorem Lm {u:Nat} (h:u < 10):vK 20 u=[dg u]:=by rw [vK,if_pos h]; rfl
theorem Rb {u:Nat} (h:¬ u < 10) (hb:u < 100000000000000000000):vK 20 u=vK 20 (u / 10) ++ [dg (u % 10)]:=by
 have e:vK 20 u=vK 19 (u / 10) ++ [dg (u % 10)]:=by rw [vK,if_neg h]; rfl
 rw [e,H_ 19 20 (u / 10) (by have:(10:Nat) ^ 19=10000000000000000000:=(by decide); omega) (by have:(10:Nat) ^ 20=100000000000000000000:=(by decide); omega) (by omega) (by omega)]
attribute [local irreducible] vK
def PY :Str→Nat→Nat
 | [],acc=>acc
 | c :: r,acc=>PY r (acc * 10 + (c.toNat - 48))
def tq (acc:Nat) (s:Str):Nat:=PY s acc
theorem wG (acc:Nat):tq acc []=acc:=rfl
theorem mo (acc:Nat) (c:UInt8) (s:Str):tq acc (c :: s)=tq (acc * 10 + (c.toNat - 48)) s:=by simp only [tq,PY]
theorem Iz :∀ (s t:Str) (acc:Nat),PY (s ++ t) acc=PY t (PY s acc)
 | [],t,acc=>rfl
 | c :: s,t,acc=>by rw [List.cons_append,PY,PY,Iz s t]
theorem IB (s t:Str) (acc:Nat):tq acc (s ++ t)=tq (tq acc s) t:=Iz s t acc
theorem T9 :∀ (s:Str) (acc:Nat),acc≤tq acc s
 | [],acc=>Nat.le_refl _
 | c :: s,acc=>by rw [mo]; have:=T9 s (acc * 10 + (c.toNat - 48)); omega
def VP (s:Str):Prop:=s≠[]∧(∀ c∈s,iE c=true)∧(1 < s.length→(s.head?.map UInt8.toNat)≠some 48)
theorem wX :∀ (n u:Nat),u≤n→u < 100000000000000000000→VP (vK 20 u)∧tq 0 (vK 20 u)=u∧(0 < u→((vK 20 u).head?.map UInt8.toNat)≠some 48)
 | n,u,h,hb=>by
  by_cases hu:u < 10
  ·
   rw [Lm hu]; refine ⟨⟨by simp,fun c hc=>?_,fun h=>by simp at h⟩,?_,fun hp=>?_⟩
   · rw [List.mem_singleton.1 hc]; exact X0 hu
   · simp [mo,wG,Lp hu]
   · simp [Lp hu]; omega
  ·
   match n,h with
   | 0,h=>omega
   | n + 1,h=>
    obtain ⟨⟨h1,h2,h3⟩,h4,h5⟩:=wX n (u / 10) (by omega) (by omega); rw [Rb hu hb]
    have hh:((vK 20 (u / 10) ++ [dg (u % 10)]).head?.map UInt8.toNat)=((vK 20 (u / 10)).head?.map UInt8.toNat):=by
     cases hd:vK 20 (u / 10) with
     | nil=>exact absurd hd h1
     | cons a l=>rfl
    refine ⟨⟨by simp,fun c hc=>?_,fun _=>?_⟩,?_,fun _=>?_⟩
    ·
     rcases List.mem_append.1 hc with hc | hc
     · exact h2 c hc
     · rw [List.mem_singleton.1 hc]; exact X0 (by omega)
    · rw [hh]; exact h5 (by omega)
    ·
     rw [IB,h4]; simp only [mo,wG,Lp (show u % 10 < 10 from by omega)]; omega
    · rw [hh]; exact h5 (by omega)
theorem qo {c:UInt8} (h:iE c=true):48≤c.toNat∧c.toNat≤57:=by
 unfold iE at h; simp only [Bool.and_eq_true,decide_eq_true_eq] at h; omega
theorem aae {c:UInt8} (h:iE c=true):c=dg (c.toNat - 48):=by
 have:=qo h; apply UInt8.toNat_inj.1; rw [Lp (by omega)]; omega
theorem TY :∀ (s:Str) (acc:Nat),(∀ c∈s,iE c=true)→tq acc s < (acc + 1) * 10 ^ s.length
 | [],acc,_=>by simp [mo,wG]
 | c :: s,acc,h=>by
  have hc:=qo (h c (by simp)); have:=TY s (acc * 10 + (c.toNat - 48)) fun x hx=>h x (by simp [hx]); rw [mo,List.length_cons,Nat.pow_succ]
  have e:(acc * 10 + (c.toNat - 48) + 1) * 10 ^ s.length≤(acc + 1) * (10 ^ s.length * 10):=by
   rw [Nat.mul_comm (10 ^ s.length) 10,←Nat.mul_assoc]; exact Nat.mul_le_mul_right _ (by omega)
  omega
theorem LB :∀ (n:Nat) (s:Str),s.length≤n→VP s→s.length≤19→vK 20 (tq 0 s)=s∧(1 < s.length→10≤tq 0 s)∧(s.length=1→tq 0 s < 10)
 | 0,s,h,hc,_=>by
  have:=List.length_pos_iff.2 hc.1; omega
 | n + 1,s,h,⟨h1,h2,h3⟩,h19=>by
  by_cases hl:s.length=1
  ·
   obtain ⟨c,rfl⟩:=len1 hl; have hd:=h2 c (by simp); have hn:=qo hd; have e:tq 0 [c]=c.toNat - 48:=by simp [mo,wG]
   rw [e,Lm (by omega),←aae hd]; exact ⟨rfl,fun h=>by simp at h,fun _=>by omega⟩
  ·
   have hpos:=List.length_pos_iff.2 h1; have hs:s=s.dropLast ++ [s.getLast h1]:=(List.dropLast_concat_getLast h1).symm; have hdl:s.dropLast.length=s.length - 1:=List.length_dropLast; have hd:=h2 (s.getLast h1) (List.getLast_mem h1); have hn:=qo hd; have hne:s.dropLast≠[]:=fun h=>by rw [h] at hdl; simp at hdl; omega
   have hhd:s.dropLast.head?=s.head?:=by
    cases s with
    | nil=>exact absurd rfl h1
    | cons a l=>cases l with
     | nil=>simp at hl
     | cons b r=>rfl
   have hz:=h3 (by omega); have hcd:VP s.dropLast:=⟨hne,fun c hc=>h2 c ((List.dropLast_sublist s).subset hc),fun _=>by rw [hhd]; exact hz⟩; obtain ⟨i1,i2,i3⟩:=LB n s.dropLast (by omega) hcd (by omega)
   have hv:tq 0 s=tq 0 s.dropLast * 10 + ((s.getLast h1).toNat - 48):=by
    conv=>lhs; rw [hs]
    rw [IB]; rfl
   have hp:1≤tq 0 s.dropLast:=by
    by_cases h10:s.dropLast.length=1
    ·
     obtain ⟨a,ha⟩:=len1 h10; have ha1:iE a=true:=h2 a ((List.dropLast_sublist s).subset (by rw [ha]; simp)); have ha2:=qo ha1; rw [←hhd,ha] at hz; simp only [List.head?_cons,Option.map_some,ne_eq,Option.some.injEq] at hz; rw [ha]; simp only [mo,wG]; omega
    · have:=i2 (by omega); omega
   have hlt:=TY s 0 h2
   have h20:tq 0 s < 100000000000000000000:=by
    have:(10:Nat) ^ s.length≤10 ^ 19:=Nat.pow_le_pow_right (by omega) h19; have e19:(10:Nat) ^ 19=10000000000000000000:=by decide
    omega
   refine ⟨?_,fun _=>by omega,fun h=>absurd h hl⟩; rw [Rb (by omega) h20]; have e1:tq 0 s / 10=tq 0 s.dropLast:=by omega
   have e2:tq 0 s % 10=(s.getLast h1).toNat - 48:=by omega
   rw [e1,e2,i1,←aae hd]; exact hs.symm
theorem Uv :∀ (s:Str) (acc:Nat),(∀ c∈s,iE c=true)→tq acc s < 18446744073709551616→E9 acc s=(0,tq acc s)
 | [],acc,_,_=>rfl
 | c :: s,acc,h,hb=>by
  have hc:=qo (h c (by simp)); have hg:=T9 s (acc * 10 + (c.toNat - 48)); rw [mo] at hb ⊢; rw [E9,if_pos hc,if_neg (by omega),if_neg (by omega)]; exact Uv s _ (fun x hx=>h x (by simp [hx])) hb
theorem R3 {u:Nat} (h:u < 9223372036854775808):Bt (vK 20 u)=(0,(u:Int)):=by
 obtain ⟨⟨h1,h2,h3⟩,h4,h5⟩:=wX u u (Nat.le_refl _) (by omega); cases hd:vK 20 u with
 | nil=>exact absurd hd h1
 | cons c r=>
  rw [hd] at h2 h4; have hc:=qo (h2 c (by simp)); unfold Bt; have e1:¬ (c.toNat=43∨c.toNat=45):=by omega
  have hm:=Uv (c :: r) 0 h2 (by omega); rw [h4] at hm; have e45:¬ c.toNat=45:=by omega
  have e43:¬ c.toNat=43:=by omega
  simp only [e43,e45,or_self,if_false,hm,reduceCtorEq]; simp; omega
theorem U7 {s:Str} (hs:s.length≤16):∀ (t:Str) (i acc:Nat),t=s.drop i→acc < 10 ^ i→
  ∃ n ok,lD (fun (i:Nat) c (n1:Int) r=>aA (m_ c) fun x3=>if !x3 then some ((0:Int),false) else aA (idx s (i:Int)) fun x4=>r (bI ((bI ((bI (10 * n1)) + (x4.toNat:Int))) - 48))) (fun n1=>some (n1,(decide (n1≤9007199254740992)))) i t (acc:Int)=some (n,ok)∧
   (ok=true↔(∀ c∈t,iE c=true)∧tq acc t≤9007199254740992)∧(ok=true→n=tq acc t):=by
 intro t
 induction t with
 | nil=>
  intro i acc ht ha; refine ⟨_,_,rfl,?_,fun _=>rfl⟩; simp [mo,wG]; omega
 | cons c t ih=>
  intro i acc ht ha; obtain ⟨hi,e1,e2⟩:=Zl ht; rw [lD,Y7,ak,kL hi,←e1]; simp only [ak]; cases hd:iE c with
  | false=>
   refine ⟨0,false,rfl,?_,fun h=>by cases h⟩; simp [hd]
  | true=>
   have hc:=qo hd; have h16:(10:Nat) ^ i≤10 ^ 15:=Nat.pow_le_pow_right (by omega) (by omega); have e15:(10:Nat) ^ 15=1000000000000000:=by decide
   simp only [Bool.not_true,Bool.false_eq_true,if_false]
   have ew:bI ((bI ((bI (10 * (acc:Int))) + (c.toNat:Int))) - 48)=((acc * 10 + (c.toNat - 48):Nat):Int):=by
    rw [Mk (n:=10 * (acc:Int)) (by omega),Mk (n:=10 * (acc:Int) + (c.toNat:Int)) (by omega),Mk (by omega)]; omega
   rw [ew]; obtain ⟨n,ok,q1,q2,q3⟩:=ih (i + 1) (acc * 10 + (c.toNat - 48)) e2 (by rw [Nat.pow_succ]; omega); refine ⟨n,ok,q1,?_,q3⟩; rw [q2,mo]; simp [hd]
theorem Y9 (s:Str):∃ n ok,wh s=some (n,ok)∧(ok=true→∃ u:Nat,n=u∧s=vK 20 u∧u≤9007199254740992)∧∀ u:Nat,s=vK 20 u→u≤9007199254740992→ok=true∧n=u:=by
 unfold wh; by_cases h0:s=[]∨16 < s.length
 ·
  have e:((s == ([]:Str)) || (decide (16 < (s.length:Int))))=true:=by
   rcases h0 with h | h
   · simp [h]
   · simp; right; omega
  rw [if_pos e]; simp only [ak,if_true]; refine ⟨0,false,rfl,(fun h=>by cases h),fun u h1 h2=>?_⟩; obtain ⟨⟨q1,_,_⟩,_,_⟩:=wX u u (Nat.le_refl _) (by omega); have hl:=Ra 16 u (by have:(10:Nat) ^ 16=10000000000000000:=(by decide); omega) (by omega); rw [H_ 16 20 u (by have:(10:Nat) ^ 16=10000000000000000:=(by decide); omega) (by have:(10:Nat) ^ 20=100000000000000000000:=(by decide); omega) (by omega) (by omega),←h1] at hl; rcases h0 with h | h
  · rw [h1] at h; exact absurd h q1
  · omega
 ·
  have hne:s≠[]:=fun h=>h0 (.inl h); have hlen:s.length≤16:=by omega
  have hpos:=List.length_pos_iff.2 hne; have e:((s == ([]:Str)) || (decide (16 < (s.length:Int))))=false:=by simp [hne]; omega
  rw [if_neg (by rw [e]; simp)]; obtain ⟨n,ok,q1,q2,q3⟩:=U7 hlen s 0 0 rfl (by simp)
  have hF:qK s BIG 0 0=some (n,ok):=by
   rw [lC (F:=fun k n1 i=>qK s k n1 i) (l:=s) (body:=fun (i:Nat) c (n1:Int) r=>aA (m_ c) fun x3=>if !x3 then some ((0:Int),false) else aA (idx s (i:Int)) fun x4=>r (bI ((bI ((bI (10 * n1)) + (x4.toNat:Int))) - 48))) (fin:=fun n1=>some (n1,(decide (n1≤9007199254740992)))) (by omega) (fun k s i=>rfl) 0]; exact q1
  have zero:∀ (c:UInt8) (r:Str),s=c :: r→idx s 0=some c:=fun c r h=>by rw [h]; rfl
  obtain ⟨c,r,hcr⟩:∃ c r,s=c :: r:=by
   cases s with
   | nil=>exact absurd rfl hne
   | cons c r=>exact ⟨c,r,rfl⟩
  have hb1:(if decide (1 < (s.length:Int))=true then aA (idx s 0) fun x1=>some ((x1.toNat:Int) == 48) else some false)=some ((decide (1 < s.length)) && ((c.toNat:Int) == 48)):=by
   rw [zero c r hcr]; by_cases h1:1 < s.length
   · rw [if_pos (by simp; omega),ak]; simp [h1]
   · rw [if_neg (by simp; omega)]; simp [h1]
  rw [hb1,ak]; by_cases hz:1 < s.length∧c.toNat=48
  ·
   rw [if_pos (by simp [hz.1]; omega)]; refine ⟨0,false,rfl,(fun h=>by cases h),fun u h1 h2=>?_⟩; obtain ⟨⟨_,_,q⟩,_,_⟩:=wX u u (Nat.le_refl _) (by omega); rw [←h1] at q; have:=q hz.1; rw [hcr] at this; simp [hz.2] at this
  ·
   rw [if_neg (by simp; intro h; omega),hF]; refine ⟨n,ok,rfl,fun h=>?_,fun u h1 h2=>?_⟩
   ·
    obtain ⟨d1,d2⟩:=q2.1 h; have hcan:VP s:=⟨hne,d1,fun h1=>by rw [hcr]; simp; omega⟩; exact ⟨tq 0 s,q3 h,(LB _ s (Nat.le_refl _) hcan (by omega)).1.symm,d2⟩
   ·
    obtain ⟨⟨_,q5,_⟩,q4,_⟩:=wX u u (Nat.le_refl _) (by omega); rw [←h1] at q5 q4; have hok:ok=true:=q2.2 ⟨q5,by omega⟩; exact ⟨hok,by rw [q3 hok,q4]⟩
end Go.Ft
namespace Go.Ft
open Go
attribute [local congr] iH
def toX {α:Type} (p:α × Int):iG dX α:=if p.2=0 then .ok p.1 else .bad ⟨p.2⟩
def okV (v:av):av × Int:=(v,0)
@[simp] theorem adS (v:av):toX (okV v)=.ok v:=rfl
def GV (p:av × Int) (N:Nat):Prop:=(p.2=0→VV p.1∧p.1.bulk≤N)∧(p.2≠0→p.1=ZV)
theorem GV.ok {v:av} {N:Nat} (h:VV v) (hb:v.bulk≤N):GV (okV v) N:=⟨fun _=>⟨h,hb⟩,fun h=>absurd rfl h⟩
end Go.Ft
namespace Go.Ft
open Go
attribute [local congr] iH
theorem ac2 {α:Type} (a:α) (l:List α):idx (a :: l) 0=some a:=rfl
end Go.Ft
namespace Go.Ft
open Go
attribute [local congr] iH
theorem Rc :∀ (t:Str) (i:Nat) (s:Str),lD (fun (i:Nat) c (_:Unit) r=>aA (lX c) fun x3=>if !x3 then some false else r ()) (fun _=>iA (strconv_Atoi s) fun n1 Q7=>some ((Q7.isNone) && (decide (n1≤9007199254740992)))) i t ()=
  if t.all iE then iA (strconv_Atoi s) fun n1 Q7=>some ((Q7.isNone) && (decide (n1≤9007199254740992))) else some false
 | [],i,s=>by simp [lD]
 | c :: t,i,s=>by
  have ih:=Rc t (i + 1) s; rw [lD]; by_cases hd:iE c=true
  ·
   have e:lX c=some true:=by rw [Un,hd]
   rw [e,ak,if_neg (by simp)]; refine ih.trans ?_; simp [hd]
  ·
   have hd':iE c=false:=by simpa using hd
   have e:lX c=some false:=by rw [Un,hd']
   rw [e,ak,if_pos (by simp)]; simp [hd']
theorem PZ :∀ (s:Str) (acc:Nat),acc * 10 ^ s.length≤tq acc s
 | [],acc=>by simp [wG]
 | c :: s,acc=>by
  have ih:=PZ s (acc * 10 + (c.toNat - 48)); rw [mo,List.length_cons,Nat.pow_succ]; have:acc * (10 ^ s.length * 10)=acc * 10 * 10 ^ s.length:=by rw [Nat.mul_comm (10 ^ s.length) 10,←Nat.mul_assoc]
  rw [this]; exact Nat.le_trans (Nat.mul_le_mul_right _ (Nat.le_add_right _ _)) ih
theorem QM :∀ (s:Str) (acc v:Nat),E9 acc s=(0,v)→v=tq acc s
 | [],acc,v,h=>by simp [E9] at h; rw [wG,h]
 | c :: s,acc,v,h=>by
  rw [E9] at h; rw [mo]; split at h
  ·
   split at h
   · cases h
   ·
    split at h
    · cases h
    · exact QM s _ v h
  · cases h
theorem Ye {s:Str} (h:VP s) (h0:(Bt s).1=0):(Bt s).2=(tq 0 s:Int)∧tq 0 s < 9223372036854775808:=by
 obtain ⟨h1,h2,_⟩:=h; obtain ⟨c,r,rfl⟩:∃ c r,s=c :: r:=by cases s with | nil=>exact absurd rfl h1 | cons c r=>exact ⟨c,r,rfl⟩
 have hc:=qo (h2 c (by simp)); have e1:¬ c.toNat=43:=by omega
 have e2:¬ c.toNat=45:=by omega
 unfold Bt at h0 ⊢; simp only [e1,e2,or_self,if_false,ne_eq,not_false_eq_true,true_and,false_and,reduceCtorEq] at h0 ⊢; cases hm:E9 0 (c :: r) with
 | mk a v=>
  rw [hm] at h0; simp only at h0 ⊢; by_cases a1:a=1
  · simp [a1] at h0
  ·
   by_cases a2:a=2
   · simp [a2] at h0
   ·
    rw [if_neg a1,if_neg a2] at h0 ⊢; by_cases hv:9223372036854775808≤v
    · rw [if_pos hv] at h0; cases h0
    ·
     rw [if_neg hv]
     have ha:a=0:=by
      have:∀ (s:Str) (acc:Nat),(E9 acc s).1=0∨(E9 acc s).1=1∨(E9 acc s).1=2:=by
       intro s
       induction s with
       | nil=>intro acc; simp [E9]
       | cons c s ih=>
        intro acc; rw [E9]; split
        ·
         split
         · simp
         ·
          split
          · simp
          · exact ih _
        · simp
      have:=this (c :: r) 0; rw [hm] at this; simp only at this; omega
     subst ha; have:=QM _ _ _ hm; exact ⟨by rw [this],by omega⟩
theorem X4 {s:Str} (hs:s.length≤281474976710656):∃ b,qM s=some b∧(b=true→∃ u:Nat,s=vK 20 u∧u≤9007199254740992)∧∀ u:Nat,s=vK 20 u→u≤9007199254740992→b=true:=by
 unfold qM; by_cases h0:s=[]
 ·
  subst h0; refine ⟨false,rfl,(fun h=>by cases h),fun u h1 h2=>?_⟩; have:=(wX u u (Nat.le_refl _) (by omega)).1.1; exact absurd h1.symm this
 obtain ⟨c,r,rfl⟩:∃ c r,s=c :: r:=by cases s with | nil=>exact absurd rfl h0 | cons c r=>exact ⟨c,r,rfl⟩
 have e0:((c :: r) == ([]:Str))=false:=rfl; simp only [e0,Bool.false_eq_true,if_false]; by_cases h1:1 < (c :: r).length∧c.toNat=48
 ·
  have e1:decide ((1:Int) < ((c :: r).length:Int))=true:=decide_eq_true (by omega); refine ⟨false,?_,(fun h=>by cases h),fun u h2 h3=>?_⟩
  ·
   rw [if_pos e1]; simp [ac2,h1.2]
  ·
   have:=(wX u u (Nat.le_refl _) (by omega)).1.2.2; rw [←h2] at this; exact absurd (by simp [h1.2]) (this h1.1)
 ·
  have e1:(aA (if decide ((1:Int) < ((c :: r).length:Int)) then aA (idx (c :: r) 0) fun x1=>some ((x1.toNat:Int) == 48) else some false) fun b1=>if b1 then some false else j5 (c :: r) BIG 0)=j5 (c :: r) BIG 0:=by
   by_cases h2:1 < (c :: r).length
   ·
    rw [if_pos (decide_eq_true (by omega))]; have:((c.toNat:Int) == 48)=false:=by rw [beq_eq_false_iff_ne]; intro h; exact h1 ⟨h2,by omega⟩
    simp [ac2,this]
   ·
    rw [if_neg (by simp only [decide_eq_true_eq]; omega)]; rfl
  rw [e1]; have sc:=lC (F:=fun k (_:Unit) i=>j5 (c :: r) k i) (l:=c :: r) (body:=fun (i:Nat) c (_:Unit) r=>aA (lX c) fun x3=>if !x3 then some false else r ()) (fin:=fun _=>iA (strconv_Atoi (c :: r)) fun n1 Q7=>some ((Q7.isNone) && (decide (n1≤9007199254740992)))) (by omega) (fun k s i=>rfl) (); rw [sc,Rc]; by_cases hd:∀ x∈c :: r,iE x=true
  ·
   have hcan:VP (c :: r):=⟨by simp,hd,fun h2=>by simp; intro h; exact h1 ⟨h2,h⟩⟩; rw [if_pos (by rw [List.all_eq_true]; exact hd),strconv_Atoi,if_pos hs,aC]; refine ⟨_,rfl,fun hb=>?_,fun u h2 h3=>?_⟩
   ·
    simp only [Bool.and_eq_true,decide_eq_true_eq] at hb
    have h0:(Bt (c :: r)).1=0:=by
     by_cases hz:(Bt (c :: r)).1=0
     · exact hz
     · rw [if_neg hz] at hb; simp at hb
    obtain ⟨a1,a2⟩:=Ye hcan h0
    have hlen:(c :: r).length≤19:=by
     rcases Nat.lt_or_ge 19 (c :: r).length with h | h
     ·
      exfalso; have hc:=qo (hd c (by simp)); have hlow:=PZ r (0 * 10 + (c.toNat - 48)); have hne:c.toNat≠48:=fun h2=>h1 ⟨by omega,h2⟩; rw [mo] at a2; simp only [List.length_cons] at h; have hp:10 ^ 19≤10 ^ r.length:=Nat.pow_le_pow_right (by omega) (by omega); have h19:(10:Nat) ^ 19=10000000000000000000:=by decide
      have:1 * 10 ^ r.length≤(0 * 10 + (c.toNat - 48)) * 10 ^ r.length:=Nat.mul_le_mul_right _ (by omega); omega
     · exact h
    refine ⟨tq 0 (c :: r),(LB _ _ (Nat.le_refl _) hcan hlen).1.symm,?_⟩; rw [a1] at hb; omega
   ·
    rw [h2,R3 (by omega)]; simp; omega
  ·
   rw [if_neg (by rw [List.all_eq_true]; exact hd)]; refine ⟨false,rfl,(fun h=>by cases h),fun u h2 h3=>?_⟩; have:=(wX u u (Nat.le_refl _) (by omega)).1.2.1; rw [←h2] at this; exact absurd this hd
end Go.Ft
namespace Go.Ft
open Go
attribute [local congr] iH
def CS (t:au):Bool:=(jk t).getD false
theorem Y5 {t:au} (h:t.text.length≤281474976710656):jk t=some (CS t):=by
 have:(jk t).isSome=true:=by
  unfold jk; rw [KG _ (by omega)]; obtain ⟨b,hb,_⟩:=X4 h; rw [hb]
  repeat' split
  all_goals rfl
 unfold CS; cases hp:jk t with
 | none=>rw [hp] at this; cases this
 | some b=>rfl
theorem SI {t:au} (h:t.kind=4):CS t=true:=by simp [CS,jk,h]
theorem Xu {t:au} (h:CS t=true):t.kind=1∨t.kind=2∨t.kind=3∨t.kind=4:=by
 unfold CS jk at h; by_cases h1:t.kind=1
 · exact .inl h1
 by_cases h2:t.kind=2
 · exact .inr (.inl h2)
 by_cases h3:t.kind=3
 · exact .inr (.inr (.inl h3))
 by_cases h4:t.kind=4
 · exact .inr (.inr (.inr h4))
 simp [h1,h2,h3,h4] at h
def yh (ts:List au):Prop:=ts.length≤65536∧∀ t∈ts,t.text.length≤1048576
def wH (ts:List au) (i:Nat):au:=match ts[i]? with
 | some t=>if CS t then t else au.mk 0 [] 0
 | none=>au.mk 0 [] 0
def qC (ts:List au) (i:Nat) (op:Str):Bool:=((wH ts i).kind == 4) && ((wH ts i).text == op)
def miss (ts:List au) (i:Nat):Int:=if ts.length≤i then 4 else 5
theorem OE {ts:List au} (h:yh ts) (i:Nat):jl (ah.mk ts (i:Int))=some (wH ts i,ah.mk ts (i:Int)):=by
 unfold jl wH; by_cases hi:i < ts.length
 ·
  have ht:=h.2 ts[i] (List.getElem_mem hi); have e:decide (((i:Nat):Int) < (ts.length:Int))=true:=decide_eq_true (by omega); simp only [e,if_true,kL hi,ak,Y5 (t:=ts[i]) (by omega),List.getElem?_eq_getElem hi]; cases CS ts[i] <;> simp
 ·
  have e:decide (((i:Nat):Int) < (ts.length:Int))=false:=decide_eq_false (by omega); simp only [e,Bool.false_eq_true,if_false,ak,List.getElem?_eq_none (Nat.le_of_not_lt hi)]
theorem lK {ts:List au} (h:yh ts) {i:Nat} (hi:i≤ts.length) (op:Str):dK (ah.mk ts (i:Int)) op=some (qC ts i op,ah.mk ts ((if qC ts i op then i + 1 else i:Nat):Int)):=by
 have:=h.1; unfold dK rE; rw [OE h,aC,aC]; show (if (!(qC ts i op))=true then _ else _)=_; cases qC ts i op with
 | true=>rw [if_neg (by simp),kK (by omega)]; rfl
 | false=>rw [if_pos (by simp)]; rfl
theorem mR {ts:List au} {i:Nat} {op:Str} (h:qC ts i op=true):∃ hi:i < ts.length,ts[i].kind=4∧ts[i].text=op∧CS ts[i]=true:=by
 unfold qC wH at h; cases hx:ts[i]? with
 | none=>rw [hx] at h; simp at h
 | some t=>
  rw [hx] at h; obtain ⟨hi,ht⟩:=List.getElem?_eq_some_iff.1 hx; cases ho:CS t with
  | false=>simp [ho] at h
  | true=>
   simp [ho] at h; exact ⟨hi,by rw [ht]; exact h.1,by rw [ht]; exact h.2,by rw [ht]; exact ho⟩
theorem xu {ts:List au} (h:yh ts) (i:Nat) (op:Str):oH ts (i:Int) op=some (qC ts i op):=by
 unfold oH; by_cases hi:i < ts.length
 ·
  have e:decide (((i:Nat):Int) < (ts.length:Int))=true:=decide_eq_true (by omega); simp only [e,if_true,kL hi,ak]; unfold qC wH; rw [List.getElem?_eq_getElem hi]; simp only; by_cases h4:ts[i].kind=4
  · rw [if_pos (by simpa using h4),SI h4,if_pos rfl]; simp [h4]
  ·
   rw [if_neg (by simpa using h4)]; cases CS ts[i] <;> simp [h4]
 ·
  have e:decide (((i:Nat):Int) < (ts.length:Int))=false:=decide_eq_false (by omega); simp only [e,Bool.false_eq_true,if_false,ak]; cases hc:qC ts i op with
  | false=>rfl
  | true=>obtain ⟨h1,_⟩:=mR hc; omega
theorem wI (ts:List au) (i:Nat):kD ts (i:Int)=some (miss ts i):=by
 unfold kD miss; by_cases hi:ts.length≤i
 · rw [if_pos (decide_eq_true (by omega)),if_pos hi]
 · rw [if_neg (by simp; omega),if_neg hi]
theorem F6 {ts:List au} (h:yh ts) (i:Nat):jm (ah.mk ts (i:Int))=some (if (wH ts i).kind=0 then (.bad (ay.mk (i:Int) (miss ts i)),ah.mk ts (i:Int)) else (.ok (wH ts i),ah.mk ts (i:Int))):=by
 unfold jm gM; by_cases hi:ts.length≤i
 ·
  have ht:(wH ts i).kind=0:=by unfold wH; rw [List.getElem?_eq_none hi]
  rw [if_pos (decide_eq_true (show (ts.length:Int)≤(i:Int) by omega)),if_pos ht]; simp [gy,miss,hi]
 ·
  rw [if_neg (by simp; omega),OE h,aC]; by_cases hk:(wH ts i).kind=0
  ·
   rw [if_pos (by simpa using hk),if_pos hk]; simp [gy,miss,hi]
  · rw [if_neg (by simpa using hk),if_neg hk]
theorem yB {ts:List au} (h:yh ts) {i:Nat} (hi:i≤ts.length) (op:Str):fA (ah.mk ts (i:Int)) op=some (if qC ts i op then (.ok (),ah.mk ts ((i + 1:Nat):Int)) else (.bad (ay.mk (i:Int) (miss ts i)),ah.mk ts (i:Int))):=by
 unfold fA; rw [F6 h]; by_cases hk:(wH ts i).kind=0
 ·
  have ho:qC ts i op=false:=by unfold qC; rw [hk]; rfl
  rw [if_pos hk,ho,if_neg (by simp)]; rfl
 ·
  rw [if_neg hk]; show iA _ _=_; rw [lK h hi,aC]; cases ho:qC ts i op with
  | true=>rfl
  | false=>
   have hlt:¬ ts.length≤i:=fun hl=>hk (by unfold wH; rw [List.getElem?_eq_none hl]); simp [gy,gM,miss,hlt]
end Go.Ft
namespace Go.Ft
open Go
attribute [local congr] iH
def RE (ts:List au) (i0:Nat) (P:Option (iG ay aj × ah)) (R:Option (aj × Int × Int)):Prop:=
 (∃ (e:aj) (j:Nat),i0 < j∧j≤ts.length∧e.bulk≤2097152 * (j - i0)∧P=some (.ok e,ah.mk ts (j:Int))∧R=some (e,(j:Int),0))∨
 (∃ (j:Nat) (c:Int) (x:aj),i0≤j∧j≤ts.length∧c≠0∧P=some (.bad (ay.mk (j:Int) c),ah.mk ts (j:Int))∧R=some (x,(j:Int),c))
theorem Mw :((0:Int) != 0)=false:=rfl
theorem xR (ts:List au) (i:Nat):miss ts i≠0:=by unfold miss; split <;> decide
theorem KN {c:Int} (h:c≠0):(c != 0)=true:=by simpa using h
theorem adt (k:Int) (n:Str) (a b c:aj):(aj.mk k n (av.mk 0 false 0 ([]:Str) [] []) [a,b,c] []).bulk=12 + n.length + a.bulk + b.bulk + c.bulk:=by
 simp [aj.bulk,aj.o9,av.bulk,av.o9]; omega
theorem aai (k:Int) (n:Str) (a b:aj):(aj.mk k n (av.mk 0 false 0 ([]:Str) [] []) [a,b] []).bulk=12 + n.length + a.bulk + b.bulk:=by
 simp [aj.bulk,aj.o9,av.bulk,av.o9]; omega
theorem aaj (k:Int) (n:Str) (a:aj):(aj.mk k n (av.mk 0 false 0 ([]:Str) [] []) [a] []).bulk=12 + n.length + a.bulk:=by
 simp [aj.bulk,aj.o9,av.bulk,av.o9]; omega
theorem VH {ts:List au} (h:yh ts) {k k' i:Nat} (ho:RE ts i (aU k (ah.mk ts (i:Int)) 2) (dn k' ts (i:Int) 2))
  (hc:∀ j,i < j→j≤ts.length→RE ts j (aM k (ah.mk ts (j:Int))) (bZ k' ts (j:Int))):
  RE ts i (aM (k + 1) (ah.mk ts (i:Int))) (bZ (k' + 1) ts (i:Int)):=by
 have hN:=h.1; rw [aM,kG,bZ,sV]; rcases ho with ⟨e,j,h1,h2,hb,hP,hR⟩ | ⟨j,c,x,h1,h2,hc0,hP,hR⟩
 ·
  rw [hP,hR,gY,aB,lK h h2,aC]; simp only [Mw,Bool.false_eq_true,if_false,xu h,ak]; cases hq:qC ts j [63] with
  | false=>
   simp only [Bool.not_false,if_true,Bool.false_eq_true,if_false]; exact .inl ⟨e,j,h1,h2,hb,rfl,rfl⟩
  | true=>
   obtain ⟨hj,_⟩:=mR hq; simp only [Bool.not_true,if_true,Bool.false_eq_true,if_false]; rw [kK (by omega)]; rcases hc (j + 1) (by omega) (by omega) with ⟨e2,j2,g1,g2,gb,gP,gR⟩ | ⟨j2,c2,x2,g1,g2,gc,gP,gR⟩
   ·
    rw [gP,gR,gY,aB,yB h g2]; simp only [Mw,Bool.false_eq_true,if_false,xu h,ak]; cases hq2:qC ts j2 [58] with
    | false=>
     simp only [Bool.not_false,if_true,Bool.false_eq_true,if_false,fJ,wI,ak]; exact .inr ⟨j2,_,_,by omega,g2,xR ts j2,rfl,rfl⟩
    | true=>
     obtain ⟨hj2,_⟩:=mR hq2; simp only [Bool.not_true,if_true,Bool.false_eq_true,if_false,gY]; rw [kK (by omega)]; rcases hc (j2 + 1) (by omega) (by omega) with ⟨e3,j3,f1,f2,fb,fP,fR⟩ | ⟨j3,c3,x3,f1,f2,fc,fP,fR⟩
     ·
      rw [fP,fR,gY,aB]; exact .inl ⟨_,j3,by omega,f2,by rw [adt]; simp only [List.length_nil]; omega,rfl,rfl⟩
     ·
      rw [fP,fR,fJ,aB]; exact .inr ⟨j3,c3,_,by omega,f2,fc,rfl,rfl⟩
   ·
    rw [gP,gR,fJ,aB,if_pos (KN gc)]; exact .inr ⟨j2,c2,_,by omega,g2,gc,rfl,rfl⟩
 ·
  rw [hP,hR,fJ,aB]; simp only [KN hc0,if_true,ak]; exact .inr ⟨j,c,x,h1,h2,hc0,rfl,rfl⟩
def opAt (ts:List au) (i:Nat) (n:Int):Bool:=((wH ts i).kind == 4) && (FJ (wH ts i).text == n)
theorem Ur {ts:List au} {i:Nat} {n:Int} (h:opAt ts i n=true):∃ hi:i < ts.length,wH ts i=ts[i]∧ts[i].kind=4∧FJ ts[i].text=n:=by
 unfold opAt wH at h; unfold wH; cases hx:ts[i]? with
 | none=>rw [hx] at h; simp at h
 | some t=>
  rw [hx] at h; obtain ⟨hi,ht⟩:=List.getElem?_eq_some_iff.1 hx; cases ho:CS t with
  | false=>simp [ho] at h
  | true=>
   simp [ho] at h; exact ⟨hi,by simp [ho,ht],by rw [ht]; exact h.1,by rw [ht]; exact h.2⟩
theorem Qt {ts:List au} (i:Nat) (n:Int):(aA (if decide ((i:Int) < (ts.length:Int)) then aA (idx ts (i:Int)) fun e3=>some (e3.kind == 4) else some false) fun b1=>
  if b1 then aA (idx ts (i:Int)) fun e4=>aA (rA e4.text) fun x5=>some (x5 == n) else some false)=some (opAt ts i n):=by
 by_cases hi:i < ts.length
 ·
  rw [if_pos (decide_eq_true (by omega))]; simp only [kL hi,ak,IE,G6]; unfold opAt wH; rw [List.getElem?_eq_getElem hi]; simp only; by_cases h4:ts[i].kind=4
  · rw [if_pos (by simpa using h4),SI h4,if_pos rfl]; simp [h4]
  ·
   rw [if_neg (by simpa using h4)]; cases CS ts[i] <;> simp [h4]
 ·
  rw [if_neg (by simp; omega)]; cases hc:opAt ts i n with
  | false=>rfl
  | true=>obtain ⟨h1,_⟩:=Ur hc; omega
theorem Vb {ts:List au} (i:Nat) (n:Int):(if (wH ts i).kind != 4 then some true else aA (iU (wH ts i).text) fun x4=>some (x4 != n))=some (!opAt ts i n):=by
 unfold opAt; rw [G6]; by_cases h4:(wH ts i).kind=4
 · rw [if_neg (by simp [h4])]; simp [h4,bne]
 · rw [if_pos (by simpa using h4)]; simp [h4]
theorem Ir {α β γ:Type} (x:Option α) (f:α→Option β) (g:β→Option γ):aA x (fun a=>aA (f a) g)=aA (aA x f) g:=by cases x <;> rfl
theorem FR {ts:List au} {go:List au→Int→Int→Option (aj × Int × Int)} {n:Int} {m j:Nat} {c c1:Int} {e:aj} (hs:c1≠0∨opAt ts j n=false∨(n=4∧c≠0)):jB go ts n (m + 1) (j:Int) c1 c e=some (e,(j:Int),c1):=by
 rw [jB]; by_cases h0:c1=0
 ·
  subst h0; have e0:((0:Int) == 0)=true:=rfl; simp only [e0,Bool.true_and]; rw [Ir,Qt,ak]; rcases hs with hs | hs | ⟨hs,hc⟩
  · exact absurd rfl hs
  · rw [hs]; rfl
  ·
   subst hs; have:(c == 0)=false:=by simpa using hc
   rw [if_neg (by rw [this]; simp)]
 ·
  have e0:(c1 == 0)=false:=by simpa using h0
  simp only [e0,Bool.false_and,Bool.false_eq_true,if_false,ak]
theorem Uq {ts:List au} (h:yh ts) {k k' i0:Nat} {n:Int} (hn:2≤n∧n≤6) (hop:∀ j,i0 < j→j≤ts.length→RE ts j (aU k (ah.mk ts (j:Int)) (bI (n + 1))) (dn k' ts (j:Int) (bI (n + 1)))):
  ∀ (m m' i:Nat) (c:Int) (e:aj),ts.length < m + i→ts.length < m' + i→i0 < i→i≤ts.length→e.bulk≤2097152 * (i - i0)→(n=4→c=0)→
  RE ts i0 (iN (aU k) n m e (ah.mk ts (i:Int))) (jB (dn k') ts n m' (i:Int) 0 c e)
 | 0,m',i,c,e,h1,_,_,h2,_,_=>by omega
 | m + 1,0,i,c,e,_,h1,_,h2,_,_=>by omega
 | m + 1,m' + 1,i,c,e,hm,hm',h1,h2,hb,hc4=>by
  have hN:=h.1; rw [iN,jB,OE h,aC,Vb,ak]; cases hq:opAt ts i n with
  | false=>
   simp only [Bool.not_false,if_true]; have:=FR (go:=dn k') (m:=m') (c:=c) (c1:=0) (e:=e) (.inr (.inl hq)); rw [jB] at this; rw [this]; exact .inl ⟨e,i,h1,h2,hb,rfl,rfl⟩
  | true=>
   obtain ⟨hi,htk,hk4,hs⟩:=Ur hq; have htx:=h.2 ts[i] (List.getElem_mem hi); have e0:((0:Int) == 0)=true:=rfl; simp only [e0,Bool.true_and]; rw [Ir,Qt,ak,hq]
   have hcond:(true && ((c == 0) || (n != 4)))=true:=by
    by_cases h4:n=4
    · simp [hc4 h4]
    · simp [h4]
   rw [if_neg (by simp),if_pos hcond,htk]; show RE ts i0 (gy (aU k (ah.mk ts (bI ((i:Int) + 1))) (bI (n + 1))) _ _) _; rw [kK (by omega)]; rcases hop (i + 1) (by omega) (by omega) with ⟨e2,j,g1,g2,gb,gP,gR⟩ | ⟨j,c2,x2,g1,g2,gc,gP,gR⟩
   ·
    rw [gP,gR,gY,aB,kL hi,ak]; have hb2:(aj.mk 7 ts[i].text (av.mk 0 false 0 ([]:Str) [] []) [e,e2] []).bulk≤2097152 * (j - i0):=by rw [aai]; omega
    by_cases h4:n=4
    ·
     subst h4; rw [if_pos (by rfl),hc4 rfl]; obtain ⟨m2,rfl⟩:∃ m2,m'=m2 + 1:=⟨m' - 1,by omega⟩; rw [FR (.inr (.inr ⟨rfl,by decide⟩))]; exact .inl ⟨_,j,by omega,g2,hb2,rfl,rfl⟩
    ·
     rw [if_neg (by simpa using h4)]; exact Uq h hn hop m m' j _ _ (by omega) (by omega) (by omega) g2 hb2 (fun h=>absurd h h4)
   ·
    rw [gP,gR,fJ,aB,kL hi,ak]; obtain ⟨m2,rfl⟩:∃ m2,m'=m2 + 1:=⟨m' - 1,by omega⟩; rw [FR (.inl gc)]; exact .inr ⟨j,c2,_,by omega,g2,gc,rfl,rfl⟩
theorem Za {ts:List au} (h:yh ts) {k k' i:Nat} {n:Int} (hn:2≤n∧n≤6) (h1:RE ts i (aU k (ah.mk ts (i:Int)) (bI (n + 1))) (dn k' ts (i:Int) (bI (n + 1))))
  (hop:∀ j,i < j→j≤ts.length→RE ts j (aU k (ah.mk ts (j:Int)) (bI (n + 1))) (dn k' ts (j:Int) (bI (n + 1)))):
  RE ts i (aU (k + 1) (ah.mk ts (i:Int)) n) (dn (k' + 1) ts (i:Int) n):=by
 have hN:=h.1; have h7:(n == 7)=false:=by rw [beq_eq_false_iff_ne]; omega
 have hB:=jV; rw [aU,jD,dn,pY,if_neg (by rw [h7]; simp),if_neg (by rw [h7]; simp)]; rcases h1 with ⟨e,j,g1,g2,gb,gP,gR⟩ | ⟨j,c,x,g1,g2,gc,gP,gR⟩
 ·
  rw [gP,gR,gY,aB]; exact Uq h hn hop BIG BIG j 0 e (by omega) (by omega) g1 g2 gb (fun _=>rfl)
 ·
  rw [gP,gR,fJ,aB]; obtain ⟨b,hb,_⟩:=zo; rw [hb,FR (.inl gc)]; exact .inr ⟨j,c,x,g1,g2,gc,rfl,rfl⟩
theorem Xt {ts:List au} {k k' i:Nat} (h1:RE ts i (bN k (ah.mk ts (i:Int))) (fu k' ts (i:Int))):
  RE ts i (aU (k + 1) (ah.mk ts (i:Int)) 7) (dn (k' + 1) ts (i:Int) 7):=by
 rw [aU,jD,dn,pY,if_pos (by decide),if_pos (by decide)]; rcases h1 with ⟨e,j,g1,g2,gb,gP,gR⟩ | ⟨j,c,x,g1,g2,gc,gP,gR⟩
 · rw [gP,gR]; exact .inl ⟨e,j,g1,g2,gb,rfl,rfl⟩
 · rw [gP,gR]; exact .inr ⟨j,c,x,g1,g2,gc,rfl,rfl⟩
theorem aeB :∃ b,BIG=b + 3:=⟨BIG - 3,by decide⟩
theorem Sd {ts:List au} (h:yh ts) {k k' i:Nat} (hi:i≤ts.length) (hch:RE ts i (bU k (ah.mk ts (i:Int))) (fK k' ts (i:Int)))
  (hu:∀ j,i < j→j≤ts.length→RE ts j (bN k (ah.mk ts (j:Int))) (fu k' ts (j:Int))):
  RE ts i (bN (k + 1) (ah.mk ts (i:Int))) (fu (k' + 1) ts (i:Int)):=by
 have hN:=h.1; obtain ⟨b,hb⟩:=aeB; have w01:bI (0 + 1)=1:=by decide
 have w11:bI (1 + 1)=2:=by decide
 have i0:idx ([([33]:Str),([45]:Str)]:List Str) 0=some [33]:=rfl; have i1:idx ([([33]:Str),([45]:Str)]:List Str) 1=some [45]:=rfl; rw [bN,mP,fu,zF,hb,iT]; rw [if_pos (by decide),i0,ak,lK h hi,aC]; simp only [xu h,ak]
 have un:∀ op:Str,qC ts i op=true→RE ts i (gy (bN k (ah.mk ts ((i + 1:Nat):Int))) (fun e1 y4=>some (.bad e1,y4)) fun x3 y3=>some (.ok (aj.mk 6 op (av.mk 0 false 0 ([]:Str) [] []) [x3] []),y3))
   (lq (fu k' ts (bI ((i:Int) + 1))) fun x6 g_ e1=>aA (idx ts (i:Int)) fun e2=>some ((aj.mk 6 e2.text (av.mk 0 false 0 ([]:Str) [] []) [x6] []),g_,e1)):=fun op ho=>by
  obtain ⟨hlt,hk,ht,_⟩:=mR ho; have htx:=h.2 ts[i] (List.getElem_mem hlt); rw [ht] at htx; rw [kK (by omega)]; rcases hu (i + 1) (by omega) (by omega) with ⟨e,j,g1,g2,gb,gP,gR⟩ | ⟨j,c,x,g1,g2,gc,gP,gR⟩
  ·
   rw [gP,gR,gY,aB,kL hlt,ak,ht]; exact .inl ⟨_,j,by omega,g2,by rw [aaj]; omega,rfl,rfl⟩
  ·
   rw [gP,gR,fJ,aB,kL hlt,ak]; exact .inr ⟨j,c,_,by omega,g2,gc,rfl,rfl⟩
 cases h1:qC ts i [33] with
 | true=>
  simp only [if_true,Bool.not_true,Bool.false_eq_true,if_false,ak]; exact un _ h1
 | false=>
  simp only [if_true,Bool.not_false,Bool.false_eq_true,if_false,ak]; rw [w01,iT,if_pos (by decide),i1,ak,lK h hi,aC]; cases h2:qC ts i [45] with
  | true=>
   simp only [if_true,Bool.not_true,Bool.false_eq_true,if_false]; exact un _ h2
  | false=>
   simp only [if_true,Bool.not_false,Bool.false_eq_true,if_false]; rw [w11,iT,if_neg (by decide)]; rcases hch with ⟨e,j,g1,g2,gb,gP,gR⟩ | ⟨j,c,x,g1,g2,gc,gP,gR⟩
   · rw [gP,gR]; exact .inl ⟨e,j,g1,g2,gb,rfl,rfl⟩
   · rw [gP,gR]; exact .inr ⟨j,c,x,g1,g2,gc,rfl,rfl⟩
end Go.Ft
namespace Go.Ft
open Go
attribute [local congr] iH
def nameAt (ts:List au) (i:Nat):Bool:=((wH ts i).kind == 1) && pI (wH ts i).text
theorem Vo {ts:List au} {i:Nat} (h:nameAt ts i=true):∃ hi:i < ts.length,wH ts i=ts[i]:=by
 unfold nameAt wH at h; unfold wH; cases hx:ts[i]? with
 | none=>rw [hx] at h; simp at h
 | some t=>
  rw [hx] at h; obtain ⟨hi,ht⟩:=List.getElem?_eq_some_iff.1 hx; cases ho:CS t with
  | false=>simp [ho] at h
  | true=>exact ⟨hi,by simp [ho,ht]⟩
theorem EO {s:Str} (hs:s.length≤1048576) (hn:isName s=true):nJ s=some (!pI s):=by
 obtain ⟨p1,_⟩:=A_ s (by omega); unfold lW at p1; rw [KG s (by omega),ak,if_pos hn] at p1; cases hw:nJ s with
 | none=>rw [hw] at p1; cases p1
 | some b=>rw [hw] at p1; simp at p1; rw [←p1]
theorem Dk {t:au} (hk:t.kind=1) (hs:t.text.length≤1048576):CS t=isName t.text:=by
 unfold CS jk; rw [if_pos (by simpa using hk),KG _ (by omega)]; rfl
theorem KA {s:Str} (hs:s.length≤1048576) (h:pI s=true):isName s=true:=by
 obtain ⟨p1,_⟩:=A_ s (by omega); unfold lW at p1; rw [KG s (by omega),ak,h] at p1; cases hn:isName s with
 | true=>rfl
 | false=>rw [hn] at p1; simp at p1
theorem WZ {ts:List au} (h:yh ts) (i:Nat):(aA (if decide ((ts.length:Int)≤(i:Int)) then some true else aA (idx ts (i:Int)) fun e2=>some (e2.kind != 1)) fun b3=>
  if b3 then some true else aA (idx ts (i:Int)) fun e3=>aA (ql e3.text) fun x6=>some (!x6))=some (!nameAt ts i):=by
 unfold nameAt wH; by_cases hi:i < ts.length
 ·
  have ht:=h.2 ts[i] (List.getElem_mem hi); rw [if_neg (by simp; omega)]; simp only [kL hi,ak,(A_ ts[i].text (by omega)).2,List.getElem?_eq_getElem hi]; by_cases h1:ts[i].kind=1
  ·
   rw [if_neg (by simp [h1]),Dk h1 ht]; cases hn:isName ts[i].text with
   | true=>simp [h1]
   | false=>
    cases hp:pI ts[i].text with
    | true=>rw [KA ht hp] at hn; cases hn
    | false=>simp
  ·
   rw [if_pos (by simpa using h1)]; cases CS ts[i] <;> simp [h1]
 ·
  rw [if_pos (by simp; omega),List.getElem?_eq_none (Nat.le_of_not_lt hi)]; rfl
theorem Fu {ts:List au} (h:yh ts) {k k' i0:Nat} (hc:∀ j,i0 < j→j≤ts.length→RE ts j (aM k (ah.mk ts (j:Int))) (bZ k' ts (j:Int))):
  ∀ (m m' i:Nat) (e:aj),ts.length < m + i→ts.length < m' + i→i0 < i→i≤ts.length→e.bulk≤2097152 * (i - i0)→
  RE ts i0 (gB (aM k) m e (ah.mk ts (i:Int))) (lV (bZ k') ts 0 m' (i:Int) e)
 | 0,m',i,e,h1,_,_,h2,_=>by omega
 | m + 1,0,i,e,_,h1,_,h2,_=>by omega
 | m + 1,m' + 1,i,e,hm,hm',h1,h2,hb=>by
  have hN:=h.1; rw [gB,lV,lK h h2,aC]; have e0:((0:Int) == 0)=true:=rfl; simp only [e0,if_true,xu h,ak]; cases hd:qC ts i [46] with
  | true=>
   obtain ⟨hi,_⟩:=mR hd; simp only [if_true,ak]; rw [kK (by omega),F6 h]; have hr:=WZ h (i + 1); rw [Ir,hr,ak]; cases hn:nameAt ts (i + 1) with
   | true=>
    obtain ⟨hlt,htk⟩:=Vo hn; unfold nameAt at hn; simp only [Bool.and_eq_true,beq_iff_eq] at hn; have htx:=h.2 ts[i + 1] (List.getElem_mem hlt); rw [htk] at hn ⊢; rw [if_neg (by omega)]; simp only [Bool.not_true,Bool.false_eq_true,if_false,gY]; rw [if_neg (by simp [hn.1]),EO htx (KA htx hn.2),hn.2,ak,if_neg (by simp),kL hlt,ak]; show RE ts i0 (gB (aM k) m _ (ah.mk ts (bI (((i + 1:Nat):Int) + 1)))) _; rw [kK (by omega)]; exact Fu h hc m m' (i + 1 + 1) _ (by omega) (by omega) (by omega) (by omega) (by rw [aaj]; omega)
   | false=>
    simp only [Bool.not_false,if_true,wI,ak]; by_cases hk0:(wH ts (i + 1)).kind=0
    ·
     rw [if_pos hk0,fJ]; exact .inr ⟨i + 1,_,_,by omega,by omega,xR ts (i + 1),rfl,rfl⟩
    ·
     rw [if_neg hk0,gY]
     have hlt:i + 1 < ts.length:=by
      rcases Nat.lt_or_ge (i + 1) ts.length with hh | hh
      · exact hh
      · exfalso; apply hk0; unfold wH; rw [List.getElem?_eq_none hh]
     have hms:miss ts (i + 1)=5:=by unfold miss; rw [if_neg (by omega)]
     have htk:wH ts (i + 1)=ts[i + 1]∧CS ts[i + 1]=true:=by
      unfold wH at hk0 ⊢; rw [List.getElem?_eq_getElem hlt] at hk0 ⊢; simp only at hk0 ⊢; cases ho:CS ts[i + 1] with
      | true=>exact ⟨rfl,rfl⟩
      | false=>rw [ho] at hk0; simp at hk0
     have htx:=h.2 ts[i + 1] (List.getElem_mem hlt)
     have hb1:(if ((wH ts (i + 1)).kind != 1)=true then some true else nJ (wH ts (i + 1)).text)=some true:=by
      by_cases h1k:(wH ts (i + 1)).kind=1
      ·
       rw [if_neg (by simp [h1k])]; unfold nameAt at hn; rw [h1k] at hn; have hp:pI (wH ts (i + 1)).text=false:=by simpa using hn
       rw [htk.1] at h1k hp ⊢; have:=Dk h1k htx; rw [htk.2] at this; rw [EO htx this.symm,hp]; rfl
      · rw [if_pos (by simpa using h1k)]
     rw [hb1,ak,if_pos rfl]; show RE ts i0 (gy (some (.bad (ay.mk ((i + 1:Nat):Int) 5),ah.mk ts ((i + 1:Nat):Int))) _ _) _; rw [fJ,hms]; exact .inr ⟨i + 1,5,_,by omega,by omega,by decide,rfl,rfl⟩
  | false=>
   simp only [if_true,Bool.false_eq_true,if_false,ak]; rw [lK h h2,aC]; cases hbk:qC ts i [91] with
   | true=>
    obtain ⟨hi,_⟩:=mR hbk; simp only [if_true,ak,Bool.false_eq_true,if_false]; rw [kK (by omega)]; rcases hc (i + 1) (by omega) (by omega) with ⟨e2,j,g1,g2,gb,gP,gR⟩ | ⟨j,c2,x2,g1,g2,gc,gP,gR⟩
    ·
     rw [gP,gR,gY,aB,yB h g2]; simp only [Mw,Bool.false_eq_true,if_false,xu h,ak]; cases hq:qC ts j [93] with
     | false=>
      simp only [Bool.not_false,if_true,Bool.false_eq_true,if_false,fJ,wI,ak]; exact .inr ⟨j,_,_,by omega,g2,xR ts j,rfl,rfl⟩
     | true=>
      obtain ⟨hj,_⟩:=mR hq; simp only [Bool.not_true,if_true,Bool.false_eq_true,if_false,gY]; rw [kK (by omega)]; exact Fu h hc m m' (j + 1) _ (by omega) (by omega) (by omega) (by omega) (by rw [aai]; simp only [List.length_nil]; omega)
    ·
     rw [gP,gR,fJ,aB,if_pos (KN gc)]; exact .inr ⟨j,c2,_,by omega,g2,gc,rfl,rfl⟩
   | false=>
    simp only [Bool.false_eq_true,if_false,ak]; exact .inl ⟨e,i,h1,h2,hb,rfl,rfl⟩
end Go.Ft
namespace Go.Ft
open Go
attribute [local congr] iH
theorem Tx {ts:List au} {go:List au→Int→Option (aj × Int × Int)} {c:Int} (hc:c≠0) {m:Nat} {j:Int} {e:aj}:lV go ts c (m + 1) j e=some (e,j,c):=by
 rw [lV]; have e0:(c == 0)=false:=by simpa using hc
 simp only [e0,Bool.false_eq_true,if_false,ak]
theorem Tz {ts:List au} (h:yh ts) {k k' i:Nat} (ha:RE ts i (cu k (ah.mk ts (i:Int))) (gL k' ts (i:Int)))
  (hc:∀ j,i < j→j≤ts.length→RE ts j (aM k (ah.mk ts (j:Int))) (bZ k' ts (j:Int))):
  RE ts i (bU (k + 1) (ah.mk ts (i:Int))) (fK (k' + 1) ts (i:Int)):=by
 have hN:=h.1; have hB:=jV; rw [bU,mQ,fK,zH]; rcases ha with ⟨e,j,g1,g2,gb,gP,gR⟩ | ⟨j,c,x,g1,g2,gc,gP,gR⟩
 ·
  rw [gP,gR,gY,aB]; exact Fu h hc BIG BIG j e (by omega) (by omega) g1 g2 gb
 ·
  rw [gP,gR,fJ,aB]; obtain ⟨b,hb,_⟩:=zo; rw [hb,Tx gc]; exact .inr ⟨j,c,x,g1,g2,gc,rfl,rfl⟩
theorem QU {ts:List au} {i:Nat} {a b:Str} (hab:a≠b) (ha:qC ts i a=true):qC ts i b=false:=by
 cases hb:qC ts i b with
 | false=>rfl
 | true=>
  obtain ⟨_,_,h1,_⟩:=mR ha; obtain ⟨_,_,h2,_⟩:=mR hb; exact absurd (h1.symm.trans h2) hab
def RL (ts:List au) (i0:Nat) (P:Option (iG ay (List aj) × ah)) (R:Option (List aj × List Str × Int × Int)):Prop:=
 (∃ (l:List aj) (j:Nat),i0 < j∧j≤ts.length∧(l.map aj.bulk).sum≤2097152 * (j - i0)∧P=some (.ok l,ah.mk ts (j:Int))∧R=some (l,[],(j:Int),0))∨
 (∃ (j:Nat) (c:Int) (x:List aj) (y:List Str),i0≤j∧j≤ts.length∧c≠0∧P=some (.bad (ay.mk (j:Int) c),ah.mk ts (j:Int))∧R=some (x,y,(j:Int),c))
theorem N8 {ts:List au} (h:yh ts) {k k' i0:Nat} {cl:Str} (hcl:cl≠[44]) (hc:∀ j,i0≤j→j≤ts.length→RE ts j (aM k (ah.mk ts (j:Int))) (bZ k' ts (j:Int))):
  ∀ (m m' i:Nat) (out:List aj),ts.length < m + i→ts.length < m' + i→i0≤i→i≤ts.length→out.length + i0≤i→(out.map aj.bulk).sum≤2097152 * (i - i0)→
  RL ts i0 (jI (aM k) cl m out (ah.mk ts (i:Int))) (nC (bZ k') ts cl false m' (i:Int) out [])
 | 0,m',i,out,h1,_,_,h2,_,_=>by omega
 | m + 1,0,i,out,_,h1,_,h2,_,_=>by omega
 | m + 1,m' + 1,i,out,hm,hm',h1,h2,hl,hb=>by
  have hN:=h.1; have hL:Fy=4294967296:=rfl; rw [jI,nC,if_neg (by simp)]; rcases hc i h1 h2 with ⟨e,j,g1,g2,gb,gP,gR⟩ | ⟨j,c,x,g1,g2,gc,gP,gR⟩
  ·
   rw [gP,gR,gY,aB,bf (by simp; omega),ak,lK h g2,aC]; simp only [Mw,Bool.false_eq_true,if_false,xu h,ak]
   have hs:((out ++ [e]).map aj.bulk).sum≤2097152 * (j - i0):=by
    rw [List.map_append,List.sum_append]; simp; omega
   cases hq:qC ts j [44] with
   | true=>
    obtain ⟨hj,_⟩:=mR hq; have hq2:=QU (Ne.symm hcl) hq; simp only [hq2,Bool.false_eq_true,if_false,Bool.not_true,if_true,ak]; rw [kK (by omega)]; exact N8 h hcl hc m m' (j + 1) (out ++ [e]) (by omega) (by omega) (by omega) (by omega) (by simp; omega) (by omega)
   | false=>
    simp only [Bool.not_false,if_true,Bool.false_eq_true,if_false]; rw [yB h g2]; cases hq2:qC ts j cl with
    | true=>
     obtain ⟨hj,_⟩:=mR hq2; simp only [if_true,gY,ak]; rw [kK (by omega)]; exact .inl ⟨_,j + 1,by omega,by omega,by omega,rfl,rfl⟩
    | false=>
     simp only [Bool.false_eq_true,if_false,fJ,wI,ak]; exact .inr ⟨j,_,_,_,by omega,g2,xR ts j,rfl,rfl⟩
  ·
   rw [gP,gR,fJ,aB,if_pos (KN gc)]; exact .inr ⟨j,c,_,_,by omega,g2,gc,rfl,rfl⟩
theorem VX {ts:List au} (h:yh ts) {k k' i:Nat} (hi:i≤ts.length) {cl:Str} (hcl:cl≠[44]) (hc:∀ j,i≤j→j≤ts.length→RE ts j (aM k (ah.mk ts (j:Int))) (bZ k' ts (j:Int))):
  RL ts i (bR (k + 1) (ah.mk ts (i:Int)) cl) (eY (k' + 1) ts (i:Int) cl false):=by
 have hN:=h.1; have hB:=jV; rw [bR,nM,eY,yK,lK h hi,aC]; simp only [xu h,ak]; cases hq:qC ts i cl with
 | true=>
  obtain ⟨hj,_⟩:=mR hq; simp only [if_true]; rw [kK (by omega)]; exact .inl ⟨[],i + 1,by omega,by omega,by simp,rfl,rfl⟩
 | false=>
  simp only [Bool.false_eq_true,if_false]; exact N8 h hcl hc BIG BIG i [] (by omega) (by omega) (Nat.le_refl _) hi (by simp) (by simp)
end Go.Ft
namespace Go.Ft
open Go
attribute [local congr] iH
def IW (ts:List au) (i:Nat):Bool:=((wH ts i).kind == 1) || ((wH ts i).kind == 3)
theorem WJ {ts:List au} {i:Nat} (h:(wH ts i).kind≠0):∃ hi:i < ts.length,wH ts i=ts[i]∧CS ts[i]=true:=by
 unfold wH at h ⊢; cases hx:ts[i]? with
 | none=>rw [hx] at h; exact absurd rfl h
 | some t=>
  rw [hx] at h; obtain ⟨hi,ht⟩:=List.getElem?_eq_some_iff.1 hx; cases ho:CS t with
  | false=>simp [ho] at h
  | true=>exact ⟨hi,by simp [ho,ht],by rw [ht]; exact ho⟩
theorem XI {ts:List au} {i:Nat} (h:IW ts i=true):∃ hi:i < ts.length,wH ts i=ts[i]∧CS ts[i]=true:=by
 refine WJ fun h0=>?_; unfold IW at h; rw [h0] at h; cases h
theorem Y4 {ts:List au} (h:yh ts) (i:Nat):(if decide ((ts.length:Int)≤(i:Int)) then some true else aA (idx ts (i:Int)) fun e1=>aA (FU e1) fun x2=>some (!x2))=some (!IW ts i):=by
 unfold IW wH; by_cases hi:i < ts.length
 ·
  have ht:=h.2 ts[i] (List.getElem_mem hi); rw [if_neg (by simp; omega)]; simp only [kL hi,ak,List.getElem?_eq_getElem hi,FU]; by_cases h1:ts[i].kind=1
  ·
   rw [if_pos (by simpa using h1),W9 _ (by omega),ak,ak,Dk h1 ht]; cases isName ts[i].text <;> simp [h1]
  ·
   rw [if_neg (by simpa using h1),ak,ak]; by_cases h3:ts[i].kind=3
   ·
    have:CS ts[i]=decide ((ts[i].text.length:Int)≤4096):=by unfold CS jk; simp [h3]
    rw [this]; cases decide ((ts[i].text.length:Int)≤4096) <;> simp [h3]
   ·
    have b1:(ts[i].kind == 1)=false:=by simpa using h1
    have b3:(ts[i].kind == 3)=false:=by simpa using h3
    cases CS ts[i] <;> simp [b1,b3]
 ·
  rw [if_pos (by simp; omega),List.getElem?_eq_none (Nat.le_of_not_lt hi)]; rfl
def RX (ts:List au) (i0:Nat) (P:Option (iG ay aj × ah)) (R:Option (List aj × List Str × Int × Int)):Prop:=
 (∃ (l:List aj) (ks:List Str) (j:Nat),i0 < j∧j≤ts.length∧(l.map aj.bulk).sum + (ks.map fun z:Str=>z.length + 1).sum≤2097152 * (j - i0)∧P=some (.ok (aj.mk 10 ([]:Str) (av.mk 0 false 0 ([]:Str) [] []) l ks),ah.mk ts (j:Int))∧R=some (l,ks,(j:Int),0))∨
 (∃ (j:Nat) (c:Int) (x:List aj) (y:List Str),i0≤j∧j≤ts.length∧c≠0∧P=some (.bad (ay.mk (j:Int) c),ah.mk ts (j:Int))∧R=some (x,y,(j:Int),c))
theorem NN {ts:List au} (h:yh ts) {k k' i0:Nat} (hc:∀ j,i0≤j→j≤ts.length→RE ts j (aM k (ah.mk ts (j:Int))) (bZ k' ts (j:Int))):
  ∀ (m m' i:Nat) (l:List aj) (ks:List Str),ts.length < m + i→ts.length < m' + i→i0≤i→i≤ts.length→l.length + i0≤i→ks.length + i0≤i→(l.map aj.bulk).sum + (ks.map fun z:Str=>z.length + 1).sum≤2097152 * (i - i0)→
  RX ts i0 (iB (aM k) m (aj.mk 10 ([]:Str) (av.mk 0 false 0 ([]:Str) [] []) l ks) (ah.mk ts (i:Int))) (nC (bZ k') ts [125] true m' (i:Int) l ks)
 | 0,m',i,l,ks,h1,_,_,h2,_,_,_=>by omega
 | m + 1,0,i,l,ks,_,h1,_,h2,_,_,_=>by omega
 | m + 1,m' + 1,i,l,ks,hm,hm',h1,h2,hl,hk,hb=>by
  have hN:=h.1; have hL:Fy=4294967296:=rfl; rw [iB,nC,if_pos rfl,Y4 h,ak,F6 h]; cases hq:IW ts i with
  | false=>
   simp only [Bool.not_false,if_true,wI,ak]; by_cases h0:(wH ts i).kind=0
   ·
    rw [if_pos h0,fJ]; exact .inr ⟨i,_,_,_,h1,h2,xR ts i,rfl,rfl⟩
   ·
    obtain ⟨hi,htk,_⟩:=WJ h0; have hms:miss ts i=5:=by unfold miss; rw [if_neg (by omega)]
    rw [if_neg h0,gY]
    have hcnd:(((wH ts i).kind != 1) && ((wH ts i).kind != 3))=true:=by
     unfold IW at hq; simp only [Bool.or_eq_false_iff] at hq; simp [bne,hq.1,hq.2]
    rw [if_pos hcnd]; show RX ts i0 (gy (some (.bad (ay.mk ((i:Nat):Int) 5),ah.mk ts (i:Int))) _ _) _; rw [fJ,hms]; exact .inr ⟨i,5,_,_,h1,h2,by decide,rfl,rfl⟩
  | true=>
   obtain ⟨hi,htk,_⟩:=XI hq; have htx:=h.2 ts[i] (List.getElem_mem hi); have h0:(wH ts i).kind≠0:=fun h0=>by unfold IW at hq; rw [h0] at hq; cases hq
   have hcnd:(((wH ts i).kind != 1) && ((wH ts i).kind != 3))=false:=by
    unfold IW at hq; simp only [Bool.or_eq_true] at hq; rcases hq with hq | hq <;> simp [bne,hq]
   rw [if_neg h0,gY,if_neg (by rw [hcnd]; simp),htk]; simp only [Bool.not_true,Bool.false_eq_true,if_false,kL hi,ak]; rw [bf (by simp; omega),ak,kK (by omega),yB h (by omega)]; simp only [xu h,ak]; cases hq1:qC ts (i + 1) [58] with
   | false=>
    simp only [Bool.not_false,if_true,Bool.false_eq_true,if_false,fJ,wI,ak]; exact .inr ⟨i + 1,_,_,_,by omega,by omega,xR ts (i + 1),rfl,rfl⟩
   | true=>
    obtain ⟨hi1,_⟩:=mR hq1; simp only [Bool.not_true,if_true,Bool.false_eq_true,if_false,gY]; rw [kK (by omega)]; rcases hc (i + 1 + 1) (by omega) (by omega) with ⟨e,j,g1,g2,gb,gP,gR⟩ | ⟨j,c,x,g1,g2,gc,gP,gR⟩
    ·
     rw [gP,gR,gY,aB,bf (by simp; omega),ak,lK h g2,aC]; simp only [Mw,Bool.false_eq_true,if_false,xu h,ak]
     have hs:((l ++ [e]).map aj.bulk).sum + ((ks ++ [ts[i].text]).map fun z:Str=>z.length + 1).sum≤2097152 * (j - i0):=by
      simp only [List.map_append,List.sum_append,List.map_cons,List.map_nil,List.sum_cons,List.sum_nil]; omega
     cases hq2:qC ts j [44] with
     | true=>
      obtain ⟨hj,_⟩:=mR hq2; have hq3:qC ts j [125]=false:=QU (by decide) hq2; simp only [hq3,Bool.false_eq_true,if_false,Bool.not_true,if_true,ak]; rw [kK (by omega)]; exact NN h hc m m' (j + 1) (l ++ [e]) (ks ++ [ts[i].text]) (by omega) (by omega) (by omega) (by omega) (by simp; omega) (by simp; omega) (by omega)
     | false=>
      simp only [Bool.not_false,if_true,Bool.false_eq_true,if_false]; rw [yB h g2]; cases hq3:qC ts j [125] with
      | true=>
       obtain ⟨hj,_⟩:=mR hq3; simp only [if_true,gY,ak]; rw [kK (by omega)]; exact .inl ⟨_,_,j + 1,by omega,by omega,by omega,rfl,rfl⟩
      | false=>
       simp only [Bool.false_eq_true,if_false,fJ,wI,ak]; exact .inr ⟨j,_,_,_,by omega,g2,xR ts j,rfl,rfl⟩
    ·
     rw [gP,gR,fJ,aB,if_pos (KN gc)]; exact .inr ⟨j,c,_,_,by omega,g2,gc,rfl,rfl⟩
theorem VB {ts:List au} (h:yh ts) {k k' i:Nat} (hi:i≤ts.length) (hc:∀ j,i≤j→j≤ts.length→RE ts j (aM k (ah.mk ts (j:Int))) (bZ k' ts (j:Int))):
  RX ts i (bK (k + 1) (ah.mk ts (i:Int))) (eY (k' + 1) ts (i:Int) [125] true):=by
 have hN:=h.1; have hB:=jV; rw [bK,lF,eY,yK,lK h hi,aC]; simp only [xu h,ak]; cases hq:qC ts i [125] with
 | true=>
  obtain ⟨hj,_⟩:=mR hq; simp only [if_true]; rw [kK (by omega)]; exact .inl ⟨[],[],i + 1,by omega,by omega,by simp,rfl,rfl⟩
 | false=>
  simp only [Bool.false_eq_true,if_false]; exact NN h hc BIG BIG i [] [] (by omega) (by omega) (Nat.le_refl _) hi (by simp) (by simp) (by simp)
end Go.Ft
namespace Go.Ft
open Go
attribute [local congr] iH
theorem Pt (k:Int) (n:Str) (l:List aj) (ks:List Str):(aj.mk k n (av.mk 0 false 0 ([]:Str) [] []) l ks).bulk=12 + n.length + (l.map aj.bulk).sum + (ks.map fun z:Str=>z.length + 1).sum:=by
 rw [aj.oD,aj.vF]; simp [av.bulk,av.o9]; omega
theorem Dn (v:av):(aj.mk 1 ([]:Str) v [] []).bulk=5 + v.bulk:=by
 simp [aj.bulk,aj.o9]; omega
theorem Ut {t:au} (h:t.kind=2) (hs:t.text.length≤1048576):(CS t=true∧∃ u:Nat,u≤9007199254740992∧strconv_Atoi t.text=some ((u:Int),none)∧wh t.text=some ((u:Int),true))∨(CS t=false∧∃ n,wh t.text=some (n,false)):=by
 obtain ⟨b,d1,d2,d3⟩:=X4 (s:=t.text) (by omega); obtain ⟨n,ok,r1,r2,r3⟩:=Y9 t.text; have ho:CS t=b:=by unfold CS jk; rw [h]; simp [d1]
 cases hb:b with
 | true=>
  left; obtain ⟨u,hu,hl⟩:=d2 hb; obtain ⟨e1,e2⟩:=r3 u hu hl; refine ⟨by rw [ho,hb],u,hl,?_,by rw [r1,e1,e2]⟩; rw [strconv_Atoi,if_pos (by omega),hu,R3 (by omega)]; rfl
 | false=>
  right; refine ⟨by rw [ho,hb],n,?_⟩; cases hok:ok with
  | false=>rw [r1,hok]
  | true=>
   obtain ⟨u,_,hs2,hl⟩:=r2 hok; rw [d3 u hs2 hl] at hb; cases hb
theorem Vn :isName [110,117,108,108]=true:=by decide
theorem Vm :isName [116,114,117,101]=true:=by decide
theorem SQ :isName [102,97,108,115,101]=true:=by decide
theorem UM {ts:List au} (h:yh ts) {k k' i:Nat} (hi:i < ts.length) (hk1:ts[i].kind=1) (hok:CS ts[i]=true)
  (hargs:∀ j,i < j→j≤ts.length→RL ts j (bR k (ah.mk ts (j:Int)) [41]) (eY k' ts (j:Int) [41] false)):
  RE ts i (cO (k + 1) (ah.mk ts ((i + 1:Nat):Int)) ts[i].text) (h_ (k' + 1) ts (i:Int)):=by
 have hN:=h.1; have htx:=h.2 ts[i] (List.getElem_mem hi); have hnm:=Dk hk1 htx; rw [hok] at hnm; rw [cO,nK,h_,yJ,kL hi,ak]; have w1:bI ((i:Int) + 1)=((i + 1:Nat):Int):=kK (by omega); by_cases h1:ts[i].text=[110,117,108,108]
 ·
  rw [if_pos (by simpa using h1),if_pos (by simpa using h1)]; exact .inl ⟨_,i + 1,by omega,by omega,by rw [Dn]; simp [av.bulk,av.o9],rfl,by rw [w1]; rfl⟩
 ·
  rw [if_neg (by simpa using h1),if_neg (by simpa using h1)]; by_cases h2:ts[i].text=[116,114,117,101]
  ·
   rw [if_pos (by simpa using h2),h2]; exact .inl ⟨_,i + 1,by omega,by omega,by rw [Dn]; simp [av.bulk,av.o9],rfl,by rw [w1]; rfl⟩
  ·
   rw [if_neg (by simpa using h2)]; by_cases h3:ts[i].text=[102,97,108,115,101]
   ·
    rw [if_pos (by simpa using h3),h3]; exact .inl ⟨_,i + 1,by omega,by omega,by rw [Dn]; simp [av.bulk,av.o9],rfl,by rw [w1]; rfl⟩
   ·
    rw [if_neg (by simpa using h3)]; have hp:pI ts[i].text=true:=by unfold pI; rw [←hnm]; simp [h1,h2,h3]
    rw [(A_ ts[i].text (by omega)).2,hp,ak,EO htx hnm.symm,hp,ak,if_neg (by simp),if_neg (by simp),lK h (by omega),aC,w1,xu h,ak]; cases hq:qC ts (i + 1) [40] with
    | false=>
     simp only [Bool.not_false,if_true,Bool.false_eq_true,if_false]; exact .inl ⟨_,i + 1,by omega,by omega,by rw [Pt]; simp; omega,rfl,rfl⟩
    | true=>
     obtain ⟨hlt,_⟩:=mR hq; simp only [Bool.not_true,if_true,Bool.false_eq_true,if_false]; have w2:bI ((i:Int) + 2)=((i + 1 + 1:Nat):Int):=by rw [bg (by omega) (by omega)]; omega
     rw [w2]; rcases hargs (i + 1 + 1) (by omega) (by omega) with ⟨l,j,g1,g2,gb,gP,gR⟩ | ⟨j,c,x,y,g1,g2,gc,gP,gR⟩
     ·
      rw [gP,gR,gY,aG]; exact .inl ⟨_,j,by omega,g2,by rw [Pt]; simp; omega,rfl,rfl⟩
     ·
      rw [gP,gR,fJ,aG]; exact .inr ⟨j,c,_,by omega,g2,gc,rfl,rfl⟩
theorem VU {ts:List au} (h:yh ts) {k k' i:Nat} (hi0:i≤ts.length)
  (hc:∀ j,i < j→j≤ts.length→RE ts j (aM (k + 1) (ah.mk ts (j:Int))) (bZ k' ts (j:Int)))
  (hargs:∀ j,i < j→j≤ts.length→RL ts j (bR k (ah.mk ts (j:Int)) [41]) (eY k' ts (j:Int) [41] false))
  (hlist:∀ j,i < j→j≤ts.length→RL ts j (bR (k + 1) (ah.mk ts (j:Int)) [93]) (eY k' ts (j:Int) [93] false))
  (ac8:∀ j,i < j→j≤ts.length→RX ts j (bK (k + 1) (ah.mk ts (j:Int))) (eY k' ts (j:Int) [125] true)):
  RE ts i (cu (k + 1 + 1) (ah.mk ts (i:Int))) (gL (k' + 1 + 1) ts (i:Int)):=by
 have hN:=h.1; rw [cu,nL,gL,BI,F6 h]; by_cases hi:ts.length≤i
 ·
  have ht:(wH ts i).kind=0:=by unfold wH; rw [List.getElem?_eq_none hi]
  rw [if_pos (decide_eq_true (by omega)),if_pos ht,fJ]; have:miss ts i=4:=by unfold miss; rw [if_pos hi]
  rw [this]; exact .inr ⟨i,4,_,Nat.le_refl _,hi0,by decide,rfl,rfl⟩
 have hlt:i < ts.length:=by omega
 have hms:miss ts i=5:=by unfold miss; rw [if_neg hi]
 have htx:=h.2 ts[i] (List.getElem_mem hlt); have w1:bI ((i:Int) + 1)=((i + 1:Nat):Int):=kK (by omega); rw [if_neg (show ¬ decide ((ts.length:Int)≤(i:Int))=true by simp; omega),kL hlt,ak,hms]; have htk:wH ts i=if CS ts[i] then ts[i] else au.mk 0 [] 0:=by unfold wH; rw [List.getElem?_eq_getElem hlt]
 cases hok:CS ts[i] with
 | false=>
  rw [hok] at htk; rw [htk]; show RE ts i (gy (some (.bad (ay.mk ((i:Nat):Int) 5),ah.mk ts (i:Int))) _ _) _; rw [fJ]; have bad:∀ x:aj,RE ts i (some (.bad (ay.mk ((i:Nat):Int) 5),ah.mk ts (i:Int))) (some (x,(i:Int),5)):=fun x=>.inr ⟨i,5,x,Nat.le_refl _,hi0,by decide,rfl,rfl⟩; by_cases h2:ts[i].kind=2
  ·
   rw [if_pos (by simpa using h2)]; rcases Ut h2 htx with ⟨h3,_⟩ | ⟨_,n,hn⟩
   · rw [hok] at h3; cases h3
   · rw [hn,aC,if_neg (by simp)]; exact bad _
  ·
   rw [if_neg (by simpa using h2)]; by_cases h3:ts[i].kind=3
   ·
    have:CS ts[i]=decide ((ts[i].text.length:Int)≤4096):=by unfold CS jk; simp [h3]
    rw [hok] at this; rw [if_pos (by simpa using h3),if_neg (by rw [←this]; simp)]; exact bad _
   ·
    rw [if_neg (by simpa using h3)]; by_cases h1:ts[i].kind=1
    ·
     have hnm:=Dk h1 htx; rw [hok] at hnm; have n1:ts[i].text≠[110,117,108,108]:=fun e=>by rw [e,Vn] at hnm; cases hnm
     have n2:ts[i].text≠[116,114,117,101]:=fun e=>by rw [e,Vm] at hnm; cases hnm
     have n3:ts[i].text≠[102,97,108,115,101]:=fun e=>by rw [e,SQ] at hnm; cases hnm
     have hp:pI ts[i].text=false:=by unfold pI; rw [←hnm]; rfl
     rw [if_pos (by simpa using h1),h_,yJ,kL hlt,ak,if_neg (by simpa using n1),if_neg (by simpa using n2),if_neg (by simpa using n3),(A_ ts[i].text (by omega)).2,hp,ak,if_pos (by simp)]; exact bad _
    ·
     rw [if_neg (by simpa using h1)]; have h4:ts[i].kind≠4:=fun e=>by rw [SI e] at hok; cases hok
     rw [if_neg (by simpa using h4)]; exact bad _
 | true=>
  rw [hok,if_pos rfl] at htk; have hk:=Xu hok; rw [htk,if_neg (by omega),gY]; rcases hk with h1 | h2 | h3 | h4
  ·
   rw [if_neg (by simp [h1]),if_neg (by simp [h1]),if_pos (by simpa using h1),if_neg (by simp [h1]),if_neg (by simp [h1]),if_pos (by simpa using h1)]; show RE ts i (gy (cO (k + 1) (ah.mk ts (bI ((i:Int) + 1))) ts[i].text) _ _) _; rw [w1]; rcases UM h hlt h1 hok hargs with ⟨e,j,g1,g2,gb,gP,gR⟩ | ⟨j,c,x,g1,g2,gc,gP,gR⟩
   · rw [gP,gR]; exact .inl ⟨e,j,g1,g2,gb,rfl,rfl⟩
   · rw [gP,gR]; exact .inr ⟨j,c,x,g1,g2,gc,rfl,rfl⟩
  ·
   rw [if_pos (by simpa using h2),if_pos (by simpa using h2)]; rcases Ut h2 htx with ⟨_,u,hu,ha,hr⟩ | ⟨h3,_⟩
   ·
    rw [ha,hr,aC,aC,if_pos rfl]; have hbk:(aj.mk 1 ([]:Str) (av.mk 2 false (u:Int) ([]:Str) [] []) [] []).bulk≤2097152 * (i + 1 - i):=by rw [Dn]; simp [av.bulk,av.o9]
    exact .inl ⟨aj.mk 1 ([]:Str) (av.mk 2 false (u:Int) ([]:Str) [] []) [] [],i + 1,by omega,by omega,hbk,by rw [←w1]; rfl,by rw [←w1]; rfl⟩
   · rw [hok] at h3; cases h3
  ·
   have:CS ts[i]=decide ((ts[i].text.length:Int)≤4096):=by unfold CS jk; simp [h3]
   rw [hok] at this; rw [if_neg (by simp [h3]),if_pos (by simpa using h3),if_neg (by simp [h3]),if_pos (by simpa using h3),if_pos this.symm]; have hbk:(aj.mk 1 ([]:Str) (av.mk 3 false 0 ts[i].text [] []) [] []).bulk≤2097152 * (i + 1 - i):=by rw [Dn]; simp [av.bulk,av.o9]; omega
   exact .inl ⟨aj.mk 1 ([]:Str) (av.mk 3 false 0 ts[i].text [] []) [] [],i + 1,by omega,by omega,hbk,by rw [←w1]; rfl,by rw [←w1]; rfl⟩
  ·
   have hop:∀ op,qC ts i op=(ts[i].text == op):=fun op=>by unfold qC; rw [htk,h4]; rfl
   rw [if_neg (by simp [h4]),if_neg (by simp [h4]),if_neg (by simp [h4]),if_neg (by simp [h4]),if_neg (by simp [h4]),if_neg (by simp [h4]),if_pos (by simpa using h4),eT,uy,kL hlt,ak,lK h hi0,aC,hop]; by_cases h40:ts[i].text=[40]
   ·
    have e40:(ts[i].text == ([40]:Str))=true:=by simpa using h40
    simp only [e40,if_true]; rw [w1]; rcases hc (i + 1) (by omega) (by omega) with ⟨e,j,g1,g2,gb,gP,gR⟩ | ⟨j,c,x,g1,g2,gc,gP,gR⟩
    ·
     rw [gP,gR,gY,aB,yB h g2]; have e0:((0:Int) == 0)=true:=rfl; simp only [e0,if_true,xu h,ak,Mw,Bool.false_eq_true,if_false]; cases hq:qC ts j [41] with
     | true=>
      obtain ⟨hj,_⟩:=mR hq; simp only [Bool.not_true,if_true,Bool.false_eq_true,if_false,gY]; rw [kK (by omega)]; exact .inl ⟨e,j + 1,by omega,by omega,by omega,rfl,rfl⟩
     | false=>
      simp only [Bool.not_false,if_true,Bool.false_eq_true,if_false,fJ,wI,ak,KN (xR ts j)]; exact .inr ⟨j,_,_,by omega,g2,xR ts j,rfl,rfl⟩
    ·
     have e0:(c == 0)=false:=by simpa using gc
     rw [gP,gR,fJ,aB]; simp only [e0,Bool.false_eq_true,if_false,ak,KN gc,if_true]; exact .inr ⟨j,c,_,by omega,g2,gc,rfl,rfl⟩
   ·
    have e40:(ts[i].text == ([40]:Str))=false:=by simpa using h40
    simp only [e40,Bool.false_eq_true,if_false]; rw [lK h hi0,aC,hop]; by_cases h91:ts[i].text=[91]
    ·
     have e91:(ts[i].text == ([91]:Str))=true:=by simpa using h91
     simp only [e91,if_true]; rw [w1]; rcases hlist (i + 1) (by omega) (by omega) with ⟨l,j,g1,g2,gb,gP,gR⟩ | ⟨j,c,x,y,g1,g2,gc,gP,gR⟩
     ·
      rw [gP,gR,gY,aG]; exact .inl ⟨_,j,by omega,g2,by rw [Pt]; simp; omega,rfl,rfl⟩
     ·
      rw [gP,gR,fJ,aG]; exact .inr ⟨j,c,_,by omega,g2,gc,rfl,rfl⟩
    ·
     have e91:(ts[i].text == ([91]:Str))=false:=by simpa using h91
     simp only [e91,Bool.false_eq_true,if_false]; rw [lK h hi0,aC,hop]; by_cases adi:ts[i].text=[123]
     ·
      have abD:(ts[i].text == ([123]:Str))=true:=by simpa using adi
      simp only [abD,if_true]; rw [w1]; rcases ac8 (i + 1) (by omega) (by omega) with ⟨l,ks,j,g1,g2,gb,gP,gR⟩ | ⟨j,c,x,y,g1,g2,gc,gP,gR⟩
      ·
       rw [gP,gR,gY,aG]; exact .inl ⟨_,j,by omega,g2,by rw [Pt]; simp only [List.length_nil]; omega,rfl,rfl⟩
      ·
       rw [gP,gR,fJ,aG]; exact .inr ⟨j,c,_,by omega,g2,gc,rfl,rfl⟩
     ·
      have abD:(ts[i].text == ([123]:Str))=false:=by simpa using adi
      simp only [abD,Bool.false_eq_true,if_false]; exact .inr ⟨i,5,_,Nat.le_refl _,hi0,by decide,rfl,rfl⟩
end Go.Ft
namespace Go.Ft
open Go
attribute [local congr] iH
theorem w7 (n:Int) (h:2≤n∧n≤6):bI (n + 1)=n + 1:=bg (by omega) (by omega)
theorem Vh {ts:List au} (h:yh ts):∀ (k:Nat),
  (∀ k' i,i≤ts.length→30 * (ts.length - i) + 20≤k→30 * (ts.length - i) + 20≤k'→RE ts i (aM k (ah.mk ts (i:Int))) (bZ k' ts (i:Int)))∧
  (∀ (k' i:Nat) (n:Int),2≤n→n≤7→i≤ts.length→((30 * (ts.length - i) + 19:Nat):Int) - n≤(k:Int)→((30 * (ts.length - i) + 19:Nat):Int) - n≤(k':Int)→RE ts i (aU k (ah.mk ts (i:Int)) n) (dn k' ts (i:Int) n))∧
  (∀ k' i,i≤ts.length→30 * (ts.length - i) + 10≤k→30 * (ts.length - i) + 10≤k'→RE ts i (bN k (ah.mk ts (i:Int))) (fu k' ts (i:Int)))∧
  (∀ k' i,i≤ts.length→30 * (ts.length - i) + 9≤k→30 * (ts.length - i) + 9≤k'→RE ts i (bU k (ah.mk ts (i:Int))) (fK k' ts (i:Int)))∧
  (∀ k' i,i≤ts.length→30 * (ts.length - i) + 8≤k→30 * (ts.length - i) + 8≤k'→RE ts i (cu k (ah.mk ts (i:Int))) (gL k' ts (i:Int)))∧
  (∀ k' i cl,cl≠[44]→i≤ts.length→30 * (ts.length - i) + 21≤k→30 * (ts.length - i) + 21≤k'→RL ts i (bR k (ah.mk ts (i:Int)) cl) (eY k' ts (i:Int) cl false))∧
  (∀ k' i,i≤ts.length→30 * (ts.length - i) + 21≤k→30 * (ts.length - i) + 21≤k'→RX ts i (bK k (ah.mk ts (i:Int))) (eY k' ts (i:Int) [125] true)):=by
 intro k
 induction k using Nat.strongRecOn with
 | _ k ih=>
  have hN:=h.1; refine ⟨?_,?_,?_,?_,?_,?_,?_⟩
  ·
   intro k' i hi h1 h2; obtain ⟨q,rfl⟩:∃ q,k=q + 1:=⟨k - 1,by omega⟩; obtain ⟨q',rfl⟩:∃ q',k'=q' + 1:=⟨k' - 1,by omega⟩; obtain ⟨c1,c2,_⟩:=ih q (by omega); exact VH h (c2 q' i 2 (by omega) (by omega) hi (by omega) (by omega)) fun j hj hj2=>c1 q' j hj2 (by omega) (by omega)
  ·
   intro k' i n n2 n7 hi h1 h2; obtain ⟨q,rfl⟩:∃ q,k=q + 1:=⟨k - 1,by omega⟩; obtain ⟨q',rfl⟩:∃ q',k'=q' + 1:=⟨k' - 1,by omega⟩; obtain ⟨_,c2,c3,_⟩:=ih q (by omega); by_cases e7:n=7
   ·
    subst e7; exact Xt (c3 q' i hi (by omega) (by omega))
   ·
    have hn:2≤n∧n≤6:=⟨n2,by omega⟩; refine Za h hn ?_ ?_
    · rw [w7 n hn]; exact c2 q' i (n + 1) (by omega) (by omega) hi (by omega) (by omega)
    ·
     intro j hj hj2; rw [w7 n hn]; exact c2 q' j (n + 1) (by omega) (by omega) hj2 (by omega) (by omega)
  ·
   intro k' i hi h1 h2; obtain ⟨q,rfl⟩:∃ q,k=q + 1:=⟨k - 1,by omega⟩; obtain ⟨q',rfl⟩:∃ q',k'=q' + 1:=⟨k' - 1,by omega⟩; obtain ⟨_,_,c3,c4,_⟩:=ih q (by omega); exact Sd h hi (c4 q' i hi (by omega) (by omega)) fun j hj hj2=>c3 q' j hj2 (by omega) (by omega)
  ·
   intro k' i hi h1 h2; obtain ⟨q,rfl⟩:∃ q,k=q + 1:=⟨k - 1,by omega⟩; obtain ⟨q',rfl⟩:∃ q',k'=q' + 1:=⟨k' - 1,by omega⟩; obtain ⟨c1,_,_,_,c5,_⟩:=ih q (by omega); exact Tz h (c5 q' i hi (by omega) (by omega)) fun j hj hj2=>c1 q' j hj2 (by omega) (by omega)
  ·
   intro k' i hi h1 h2; obtain ⟨q,rfl⟩:∃ q,k=q + 1 + 1:=⟨k - 2,by omega⟩; obtain ⟨q',rfl⟩:∃ q',k'=q' + 1 + 1:=⟨k' - 2,by omega⟩; obtain ⟨c1,_,_,_,_,c6,c7⟩:=ih (q + 1) (by omega); obtain ⟨_,_,_,_,_,d6,_⟩:=ih q (by omega); exact VU h hi (fun j hj hj2=>c1 q' j hj2 (by omega) (by omega)) (fun j hj hj2=>d6 q' j _ (by decide) hj2 (by omega) (by omega)) (fun j hj hj2=>c6 q' j _ (by decide) hj2 (by omega) (by omega)) (fun j hj hj2=>c7 q' j hj2 (by omega) (by omega))
  ·
   intro k' i cl hcl hi h1 h2; obtain ⟨q,rfl⟩:∃ q,k=q + 1:=⟨k - 1,by omega⟩; obtain ⟨q',rfl⟩:∃ q',k'=q' + 1:=⟨k' - 1,by omega⟩; obtain ⟨c1,_⟩:=ih q (by omega); exact VX h hi hcl fun j hj hj2=>c1 q' j hj2 (by omega) (by omega)
  ·
   intro k' i hi h1 h2; obtain ⟨q,rfl⟩:∃ q,k=q + 1:=⟨k - 1,by omega⟩; obtain ⟨q',rfl⟩:∃ q',k'=q' + 1:=⟨k' - 1,by omega⟩; obtain ⟨c1,_⟩:=ih q (by omega); exact VB h hi fun j hj hj2=>c1 q' j hj2 (by omega) (by omega)
theorem X5 {ts:List au} (h:yh ts):RE ts 0 (oI (ah.mk ts 0)) (Ae ts 0):=by
 have hN:=h.1; have hB:=jV; exact (Vh h BIG).1 BIG 0 (Nat.zero_le _) (by omega) (by omega)
end Go.Ft
namespace Go.Ft
open Go
attribute [local congr] iH
theorem GU {n:Int} (h:-9223372036854775808≤n∧n < 9223372036854775808):bI n=n:=Od (by omega) (by omega)
theorem Ws {i j:Nat} (h:i + j < 9223372036854775808):bI ((i:Int) + (j:Int))=((i + j:Nat):Int):=by rw [GU (by omega)]; omega
theorem Hw {α:Type} {l:List α} {i:Nat} (h:i < l.length):idx l (i:Int)=some (l[i]):=by rw [OQ,List.getElem?_eq_getElem h]
def mK (c:UInt8):Bool:=(((decide (97≤(c.toNat:Int))) && (decide ((c.toNat:Int)≤122))) || ((decide (65≤(c.toNat:Int))) && (decide ((c.toNat:Int)≤90)))) || ((c.toNat:Int) == 95)
def isDigit (c:UInt8):Bool:=(decide (48≤(c.toNat:Int))) && (decide ((c.toNat:Int)≤57))
def isWord (c:UInt8):Bool:=mK c || isDigit c
theorem nO {c:UInt8}:isDigit c=true↔48≤c.toNat∧c.toNat≤57:=by simp [isDigit]; omega
theorem xX {c:UInt8}:mK c=true↔(97≤c.toNat∧c.toNat≤122)∨(65≤c.toNat∧c.toNat≤90)∨c.toNat=95:=by simp [mK]; omega
@[simp] theorem letter_eq (c:UInt8):pG c=some (mK c):=rfl
@[simp] theorem digit_eq (c:UInt8):o8 c=some (isDigit c):=rfl
@[simp] theorem Kr (c:UInt8):vN c=some (mK c):=rfl
@[simp] theorem Ay (c:UInt8):m_ c=some (isDigit c):=rfl
@[simp] theorem Xy (c:UInt8):rF c=some (isWord c):=by
 unfold rF isWord; simp; cases mK c <;> simp
def span (p:UInt8→Bool) (l:Str):Nat:=(l.takeWhile p).length
@[simp] theorem acr (p:UInt8→Bool):span p []=0:=rfl
theorem ko (p:UInt8→Bool) (c:UInt8) (l:Str):span p (c :: l)=if p c then span p l + 1 else 0:=by
 unfold span; rw [List.takeWhile_cons]; split <;> simp
theorem xL (p:UInt8→Bool) (l:Str):span p l≤l.length:=by
 induction l with
 | nil=>simp
 | cons c l ih=>rw [ko]; split <;> simp <;> omega
theorem PL {p:UInt8→Bool} {cls:UInt8→Option Bool} (hc:∀ c,cls c=some (p c)) (s:Str) (hs:s.length < 4611686018427387904):
  ∀ (k i:Nat),s.length < k + i→i≤s.length→oL s cls k (i:Int)=some ((i + span p (s.drop i):Nat):Int)
 | 0,i,h,h'=>by omega
 | k + 1,i,h,h'=>by
  rw [oL]; by_cases hi:i < s.length
  ·
   rw [List.drop_eq_getElem_cons hi,ko]; have h1:((i:Int) < (s.length:Int)):=by omega
   simp only [h1,decide_true,if_true,Hw hi,ak,hc]; cases e:p s[i] with
   | false=>simp
   | true=>
    simp only [if_true]; rw [show (i:Int) + 1=((i:Int) + (1:Nat)) from rfl,Ws (by omega),PL hc s hs k (i + 1) (by omega) (by omega)]; simp only [Option.some.injEq,Int.natCast_inj]; omega
  ·
   have:i=s.length:=by omega
   subst this; simp
theorem J4 {p:UInt8→Bool} {cls:UInt8→Option Bool} (hc:∀ c,cls c=some (p c)) {s:Str} (hs:s.length < 4611686018427387904) {i:Nat} (h:i≤s.length):
  uf s (i:Int) cls=some ((i + span p (s.drop i):Nat):Int):=PL hc s hs BIG i (by unfold BIG; omega) h
theorem NQ (s:Str) (hs:s.length < 4611686018427387904) (a:Nat):∀ (k n:Nat),s.length < k + (a + n)→a + n≤s.length→
  qm s (a:Int) k (n:Int)=some ((n + span isDigit (s.drop (a + n)):Nat):Int)
 | 0,n,h,h'=>by omega
 | k + 1,n,h,h'=>by
  rw [qm,Ws (by omega)]; by_cases hi:a + n < s.length
  ·
   rw [List.drop_eq_getElem_cons hi,ko]; have h1:(((a + n:Nat):Int) < (s.length:Int)):=by omega
   simp only [h1,decide_true,if_true,Hw hi,ak,Ay]; cases e:isDigit s[a + n] with
   | false=>simp
   | true=>
    simp only [if_true]; rw [show (n:Int) + 1=((n:Int) + (1:Nat)) from rfl,Ws (by omega),NQ s hs a k (n + 1) (by omega) (by omega)]; simp only [Option.some.injEq,Int.natCast_inj]; rw [show a + (n + 1)=a + n + 1 from rfl]; omega
  ·
   have e:a + n=s.length:=by omega
   rw [e]; simp
theorem TU (s:Str) (hs:s.length < 4611686018427387904) (a:Nat):∀ (k n:Nat),s.length < k + (a + n)→a + n≤s.length→
  tX s (a:Int) k (n:Int)=some ((n + span isWord (s.drop (a + n)):Nat):Int)
 | 0,n,h,h'=>by omega
 | k + 1,n,h,h'=>by
  rw [tX,Ws (by omega)]; by_cases hi:a + n < s.length
  ·
   rw [List.drop_eq_getElem_cons hi,ko]; have h1:(((a + n:Nat):Int) < (s.length:Int)):=by omega
   simp only [h1,decide_true,if_true,Hw hi,ak,Ay,Kr]
   have e:(if mK s[a + n]=true then some true else some (isDigit s[a + n]))=some (isWord s[a + n]):=by
    unfold isWord; cases mK s[a + n] <;> simp
   rw [e]; simp only [ak]; cases e:isWord s[a + n] with
   | false=>simp
   | true=>
    simp only [if_true]; rw [show (n:Int) + 1=((n:Int) + (1:Nat)) from rfl,Ws (by omega),TU s hs a k (n + 1) (by omega) (by omega)]; simp only [Option.some.injEq,Int.natCast_inj]; rw [show a + (n + 1)=a + n + 1 from rfl]; omega
  ·
   have e:a + n=s.length:=by omega
   rw [e]; simp
theorem VG {s:Str} (hs:s.length < 4611686018427387904) {a:Nat} (h:a≤s.length):yN s (a:Int)=some ((span isDigit (s.drop a):Nat):Int):=by
 have:=NQ s hs a BIG 0 (by unfold BIG; omega) (by omega); simpa [yN] using this
theorem TT {s:Str} (hs:s.length < 4611686018427387904) {a:Nat} (h:a≤s.length):AU s (a:Int)=some ((span isWord (s.drop a):Nat):Int):=by
 have:=TU s hs a BIG 0 (by unfold BIG; omega) (by omega); simpa [AU] using this
def Dt (c:UInt8):Option Nat:=if isDigit c then some (c.toNat - 48) else if 97≤c.toNat∧c.toNat≤102 then some (c.toNat - 87) else if 65≤c.toNat∧c.toNat≤70 then some (c.toNat - 55) else none
def QX (c:UInt8):Int:=match Dt c with | some n=>n | none=>-1
theorem JM {c:UInt8} {n:Nat} (h:Dt c=some n):n < 16:=by
 unfold Dt at h; split at h
 · rename_i hd; rw [nO] at hd; cases h; omega
 ·
  split at h
  · cases h; omega
  ·
   split at h
   · cases h; omega
   · cases h
theorem JC {c d:UInt8} (h:d.toNat≤c.toNat):(c - d).toNat=c.toNat - d.toNat:=UInt8.toNat_sub_of_le c d (UInt8.le_iff_toNat_le.2 h)
theorem Te (c:UInt8):rG c=some (QX c):=by
 have hlt:=c.toNat_lt; unfold rG QX Dt; simp only [digit_eq,ak]; by_cases hd:isDigit c=true
 ·
  simp only [hd,if_true]; rw [nO] at hd; rw [JC (by simpa using hd.1)]; rfl
 ·
  simp only [Bool.not_eq_true] at hd; simp only [hd,Bool.false_eq_true,if_false]; by_cases h1:97≤c.toNat∧c.toNat≤102
  ·
   rw [if_pos (by simp; omega),if_pos h1,JC (by simpa using h1.1)]; have:(97:UInt8).toNat=97:=rfl; rw [this,GU (by omega)]; simp only [Option.some.injEq]; omega
  ·
   rw [if_neg (by simp; omega),if_neg h1]; by_cases h2:65≤c.toNat∧c.toNat≤70
   ·
    rw [if_pos (by simp; omega),if_pos h2,JC (by simpa using h2.1)]; have:(65:UInt8).toNat=65:=rfl; rw [this,GU (by omega)]; simp only [Option.some.injEq]; omega
   · rw [if_neg (by simp; omega),if_neg h2]
theorem Ov (c:UInt8):Ec c=some (QX c):=by
 have hlt:=c.toNat_lt; unfold Ec QX Dt; simp only [Ay,ak]; by_cases hd:isDigit c=true
 ·
  simp only [hd,if_true]; rw [nO] at hd; rw [GU (by omega)]; simp only [Option.some.injEq]; omega
 ·
  simp only [Bool.not_eq_true] at hd; simp only [hd,Bool.false_eq_true,if_false]; by_cases h1:97≤c.toNat∧c.toNat≤102
  ·
   rw [if_pos (by simp; omega),if_pos h1,GU (by omega)]; simp only [Option.some.injEq]; omega
  ·
   rw [if_neg (by simp; omega),if_neg h1]; by_cases h2:65≤c.toNat∧c.toNat≤70
   ·
    rw [if_pos (by simp; omega),if_pos h2,GU (by omega)]; simp only [Option.some.injEq]; omega
   · rw [if_neg (by simp; omega),if_neg h2]
theorem yA {c:UInt8} {n:Nat} (h:Dt c=some n):QX c=n:=by unfold QX; rw [h]
theorem Bf {c:UInt8} (h:Dt c=none):QX c=-1:=by unfold QX; rw [h]
def chr :Str→UInt8 × Nat × Int
 | []=>(0,0,5)
 | c :: r=>if c.toNat < 32 then (0,0,5) else if c.toNat≠92 then (c,1,0) else
  match r with
  | []=>(0,0,4)
  | d :: r=>if d.toNat=34∨d.toNat=92 then (d,2,0) else if d.toNat=110 then (10,2,0) else if d.toNat=116 then (9,2,0) else if d.toNat=120 then
    match r with
    | []=>(0,0,4)
    | a :: r=>match Dt a with
     | none=>(0,0,5)
     | some x=>match r with
      | []=>(0,0,4)
      | b :: _=>match Dt b with
       | none=>(0,0,5)
       | some y=>(UInt8.ofNat (16 * x + y),4,0)
   else (0,0,5)
theorem UF :∀ {l:Str},(chr l).2.2=0→0 < (chr l).2.1∧(chr l).2.1≤l.length
 | [],h=>by simp [chr] at h
 | c :: r,h=>by
  unfold chr at h ⊢; by_cases h1:c.toNat < 32
  · simp [h1] at h
  ·
   by_cases h2:c.toNat≠92
   · simp [h1,h2]
   ·
    simp only [h1,h2,if_false] at h ⊢; cases r with
    | nil=>simp at h
    | cons d r=>
     simp only at h ⊢; by_cases h3:d.toNat=34∨d.toNat=92
     · simp [h3]
     ·
      by_cases h4:d.toNat=110
      · simp [h4]
      ·
       by_cases h5:d.toNat=116
       · simp [h5]
       ·
        by_cases h6:d.toNat=120
        ·
         simp only [h3,h4,h5,h6,if_false,if_true] at h ⊢; cases r with
         | nil=>simp at h
         | cons a r=>
          simp only at h ⊢; cases ha:Dt a with
          | none=>simp [ha] at h
          | some x=>
           simp only [ha] at h ⊢; cases r with
           | nil=>simp at h
           | cons b r=>
            simp only at h ⊢; cases hb:Dt b with
            | none=>simp [hb] at h
            | some y=>simp
        · simp [h3,h4,h5,h6] at h
theorem getD_drop {s:Str} {i:Nat} (h:i < s.length):s.drop i=s.getD i 0 :: s.drop (i + 1):=by
 rw [List.drop_eq_getElem_cons h,List.getD_eq_getElem?_getD,List.getElem?_eq_getElem h,Option.getD_some]
theorem dflt :(default:UInt8)=0:=rfl
theorem Y3 {s:Str} (hs:s.length < 4611686018427387904) {i:Nat} (hi:i + 1 < s.length) (h1:(s.getD i 0).toNat=92) (h2:(s.getD (i + 1) 0).toNat=120):
  wK s (i:Int)=some ((chr (s.drop i)).1,((chr (s.drop i)).2.1:Int),(chr (s.drop i)).2.2):=by
 rw [getD_drop (by omega),getD_drop hi]; unfold chr; unfold wK; obtain ⟨m,hm⟩:∃ m,BIG=m + 3:=⟨BIG - 3,rfl⟩; rw [hm]; by_cases h4:i + 2 < s.length
 ·
  rw [getD_drop (by omega:i + 1 + 1 < s.length)]; simp (disch:=omega) only [jZ,Ov,dflt,h2,bg,bq,bW,bf,bA,if_pos,if_neg,ak,aC,aB,aG,aH,aK,aJ,aI,decide_eq_true_eq,beq_iff_eq,bne_iff_ne,ne_eq,Bool.and_eq_true,Bool.or_eq_true,Bool.not_eq_true',Bool.not_eq_true,decide_eq_false_iff_not,beq_eq_false_iff_ne,bne_eq_false_iff_eq,Int.toNat_add,Int.toNat_natCast,Int.reduceToNat,Int.zero_add,Int.add_zero,Nat.add_zero,Nat.zero_add,Bool.true_and,Bool.and_true,Bool.false_and,Bool.and_false,Bool.true_or,Bool.or_true,Bool.false_or,Bool.or_false,Bool.not_true,Bool.not_false,Bool.false_eq_true,Bool.true_eq_false,reduceCtorEq,not_true_eq_false,not_false_eq_true,if_true,if_false,decide_true,decide_false]; cases ha:Dt (s.getD (i + 1 + 1) 0) with
  | none=>simp (disch:=omega) only [Bf ha,bg,bq,bW,bf,bA,if_pos,if_neg,ak,aC,aB,aG,aH,aK,aJ,aI,decide_eq_true_eq,beq_iff_eq,bne_iff_ne,ne_eq,Bool.and_eq_true,Bool.or_eq_true,Bool.not_eq_true',Bool.not_eq_true,decide_eq_false_iff_not,beq_eq_false_iff_ne,bne_eq_false_iff_eq,Int.toNat_add,Int.toNat_natCast,Int.reduceToNat,Int.zero_add,Int.add_zero,Nat.add_zero,Nat.zero_add,Bool.true_and,Bool.and_true,Bool.false_and,Bool.and_false,Bool.true_or,Bool.or_true,Bool.false_or,Bool.or_false,Bool.not_true,Bool.not_false,Bool.false_eq_true,Bool.true_eq_false,reduceCtorEq,not_true_eq_false,not_false_eq_true,if_true,if_false,decide_true,decide_false]; rfl
  | some x=>
   have hx:=JM ha; by_cases h5:i + 3 < s.length
   ·
    rw [getD_drop (by omega:i + 1 + 1 + 1 < s.length)]; simp (disch:=omega) only [jZ,Ov,dflt,yA ha,bg,bq,bW,bf,bA,if_pos,if_neg,ak,aC,aB,aG,aH,aK,aJ,aI,decide_eq_true_eq,beq_iff_eq,bne_iff_ne,ne_eq,Bool.and_eq_true,Bool.or_eq_true,Bool.not_eq_true',Bool.not_eq_true,decide_eq_false_iff_not,beq_eq_false_iff_ne,bne_eq_false_iff_eq,Int.toNat_add,Int.toNat_natCast,Int.reduceToNat,Int.zero_add,Int.add_zero,Nat.add_zero,Nat.zero_add,Bool.true_and,Bool.and_true,Bool.false_and,Bool.and_false,Bool.true_or,Bool.or_true,Bool.false_or,Bool.or_false,Bool.not_true,Bool.not_false,Bool.false_eq_true,Bool.true_eq_false,reduceCtorEq,not_true_eq_false,not_false_eq_true,if_true,if_false,decide_true,decide_false]; cases hb:Dt (s.getD (i + 1 + 1 + 1) 0) with
    | none=>simp (disch:=omega) only [Bf hb,bg,bq,bW,bf,bA,if_pos,if_neg,ak,aC,aB,aG,aH,aK,aJ,aI,decide_eq_true_eq,beq_iff_eq,bne_iff_ne,ne_eq,Bool.and_eq_true,Bool.or_eq_true,Bool.not_eq_true',Bool.not_eq_true,decide_eq_false_iff_not,beq_eq_false_iff_ne,bne_eq_false_iff_eq,Int.toNat_add,Int.toNat_natCast,Int.reduceToNat,Int.zero_add,Int.add_zero,Nat.add_zero,Nat.zero_add,Bool.true_and,Bool.and_true,Bool.false_and,Bool.and_false,Bool.true_or,Bool.or_true,Bool.false_or,Bool.or_false,Bool.not_true,Bool.not_false,Bool.false_eq_true,Bool.true_eq_false,reduceCtorEq,not_true_eq_false,not_false_eq_true,if_true,if_false,decide_true,decide_false]; rfl
    | some y=>
     have hy:=JM hb; simp (disch:=omega) only [yA hb,jZ,bg,bq,bW,bf,bA,if_pos,if_neg,ak,aC,aB,aG,aH,aK,aJ,aI,decide_eq_true_eq,beq_iff_eq,bne_iff_ne,ne_eq,Bool.and_eq_true,Bool.or_eq_true,Bool.not_eq_true',Bool.not_eq_true,decide_eq_false_iff_not,beq_eq_false_iff_ne,bne_eq_false_iff_eq,Int.toNat_add,Int.toNat_natCast,Int.reduceToNat,Int.zero_add,Int.add_zero,Nat.add_zero,Nat.zero_add,Bool.true_and,Bool.and_true,Bool.false_and,Bool.and_false,Bool.true_or,Bool.or_true,Bool.false_or,Bool.or_false,Bool.not_true,Bool.not_false,Bool.false_eq_true,Bool.true_eq_false,reduceCtorEq,not_true_eq_false,not_false_eq_true,if_true,if_false,decide_true,decide_false]
     have:byteOf (16 * (16 * 0 + (x:Int)) + (y:Int))=UInt8.ofNat (16 * x + y):=by
      apply UInt8.toNat_inj.1; have e1:((byteOf (16 * (16 * 0 + (x:Int)) + (y:Int))).toNat:Int)=16 * (16 * 0 + (x:Int)) + (y:Int):=NW (by omega) (by omega); have e2:(UInt8.ofNat (16 * x + y)).toNat=16 * x + y:=by simp; omega
      omega
     rw [this]; rfl
   ·
    rw [List.drop_eq_nil_of_le (by omega:s.length≤i + 1 + 1 + 1)]; simp (disch:=omega) only [jZ,Ov,dflt,yA ha,bg,bq,bW,bf,bA,if_pos,if_neg,ak,aC,aB,aG,aH,aK,aJ,aI,decide_eq_true_eq,beq_iff_eq,bne_iff_ne,ne_eq,Bool.and_eq_true,Bool.or_eq_true,Bool.not_eq_true',Bool.not_eq_true,decide_eq_false_iff_not,beq_eq_false_iff_ne,bne_eq_false_iff_eq,Int.toNat_add,Int.toNat_natCast,Int.reduceToNat,Int.zero_add,Int.add_zero,Nat.add_zero,Nat.zero_add,Bool.true_and,Bool.and_true,Bool.false_and,Bool.and_false,Bool.true_or,Bool.or_true,Bool.false_or,Bool.or_false,Bool.not_true,Bool.not_false,Bool.false_eq_true,Bool.true_eq_false,reduceCtorEq,not_true_eq_false,not_false_eq_true,if_true,if_false,decide_true,decide_false]; rfl
 ·
  rw [List.drop_eq_nil_of_le (by omega:s.length≤i + 1 + 1)]; simp (disch:=omega) only [jZ,h2,bg,bq,bW,bf,bA,if_pos,if_neg,ak,aC,aB,aG,aH,aK,aJ,aI,decide_eq_true_eq,beq_iff_eq,bne_iff_ne,ne_eq,Bool.and_eq_true,Bool.or_eq_true,Bool.not_eq_true',Bool.not_eq_true,decide_eq_false_iff_not,beq_eq_false_iff_ne,bne_eq_false_iff_eq,Int.toNat_add,Int.toNat_natCast,Int.reduceToNat,Int.zero_add,Int.add_zero,Nat.add_zero,Nat.zero_add,Bool.true_and,Bool.and_true,Bool.false_and,Bool.and_false,Bool.true_or,Bool.or_true,Bool.false_or,Bool.or_false,Bool.not_true,Bool.not_false,Bool.false_eq_true,Bool.true_eq_false,reduceCtorEq,not_true_eq_false,not_false_eq_true,if_true,if_false,decide_true,decide_false]; rfl
theorem Y6 {s:Str} (hs:s.length < 4611686018427387904) {i:Nat} (hi:i < s.length):l7 s (i:Int)=some ((chr (s.drop i)).1,((chr (s.drop i)).2.1:Int),(chr (s.drop i)).2.2):=by
 by_cases h1:(s.getD i 0).toNat=92
 ·
  by_cases h2:i + 1 < s.length
  ·
   by_cases h3:(s.getD (i + 1) 0).toNat=120
   ·
    rw [←Y3 hs h2 h1 h3]; unfold l7; simp (disch:=omega) only [dflt,bg,bq,bW,bf,bA,if_pos,if_neg,ak,aC,aB,aG,aH,aK,aJ,aI,decide_eq_true_eq,beq_iff_eq,bne_iff_ne,ne_eq,Bool.and_eq_true,Bool.or_eq_true,Bool.not_eq_true',Bool.not_eq_true,decide_eq_false_iff_not,beq_eq_false_iff_ne,bne_eq_false_iff_eq,Int.toNat_add,Int.toNat_natCast,Int.reduceToNat,Int.zero_add,Int.add_zero,Nat.add_zero,Nat.zero_add,Bool.true_and,Bool.and_true,Bool.false_and,Bool.and_false,Bool.true_or,Bool.or_true,Bool.false_or,Bool.or_false,Bool.not_true,Bool.not_false,Bool.false_eq_true,Bool.true_eq_false,reduceCtorEq,not_true_eq_false,not_false_eq_true,if_true,if_false,decide_true,decide_false]
   ·
    rw [getD_drop hi,getD_drop h2]; unfold l7 chr; simp (disch:=omega) only [dflt,bg,bq,bW,bf,bA,if_pos,if_neg,ak,aC,aB,aG,aH,aK,aJ,aI,decide_eq_true_eq,beq_iff_eq,bne_iff_ne,ne_eq,Bool.and_eq_true,Bool.or_eq_true,Bool.not_eq_true',Bool.not_eq_true,decide_eq_false_iff_not,beq_eq_false_iff_ne,bne_eq_false_iff_eq,Int.toNat_add,Int.toNat_natCast,Int.reduceToNat,Int.zero_add,Int.add_zero,Nat.add_zero,Nat.zero_add,Bool.true_and,Bool.and_true,Bool.false_and,Bool.and_false,Bool.true_or,Bool.or_true,Bool.false_or,Bool.or_false,Bool.not_true,Bool.not_false,Bool.false_eq_true,Bool.true_eq_false,reduceCtorEq,not_true_eq_false,not_false_eq_true,if_true,if_false,decide_true,decide_false]; by_cases d1:(s.getD (i + 1) 0).toNat=34
    · simp (disch:=omega) only [bg,bq,bW,bf,bA,if_pos,if_neg,ak,aC,aB,aG,aH,aK,aJ,aI,decide_eq_true_eq,beq_iff_eq,bne_iff_ne,ne_eq,Bool.and_eq_true,Bool.or_eq_true,Bool.not_eq_true',Bool.not_eq_true,decide_eq_false_iff_not,beq_eq_false_iff_ne,bne_eq_false_iff_eq,Int.toNat_add,Int.toNat_natCast,Int.reduceToNat,Int.zero_add,Int.add_zero,Nat.add_zero,Nat.zero_add,Bool.true_and,Bool.and_true,Bool.false_and,Bool.and_false,Bool.true_or,Bool.or_true,Bool.false_or,Bool.or_false,Bool.not_true,Bool.not_false,Bool.false_eq_true,Bool.true_eq_false,reduceCtorEq,not_true_eq_false,not_false_eq_true,if_true,if_false,decide_true,decide_false]; rfl
    ·
     by_cases d2:(s.getD (i + 1) 0).toNat=92
     · simp (disch:=omega) only [bg,bq,bW,bf,bA,if_pos,if_neg,ak,aC,aB,aG,aH,aK,aJ,aI,decide_eq_true_eq,beq_iff_eq,bne_iff_ne,ne_eq,Bool.and_eq_true,Bool.or_eq_true,Bool.not_eq_true',Bool.not_eq_true,decide_eq_false_iff_not,beq_eq_false_iff_ne,bne_eq_false_iff_eq,Int.toNat_add,Int.toNat_natCast,Int.reduceToNat,Int.zero_add,Int.add_zero,Nat.add_zero,Nat.zero_add,Bool.true_and,Bool.and_true,Bool.false_and,Bool.and_false,Bool.true_or,Bool.or_true,Bool.false_or,Bool.or_false,Bool.not_true,Bool.not_false,Bool.false_eq_true,Bool.true_eq_false,reduceCtorEq,not_true_eq_false,not_false_eq_true,if_true,if_false,decide_true,decide_false]; rfl
     ·
      by_cases d3:(s.getD (i + 1) 0).toNat=110
      · simp (disch:=omega) only [bg,bq,bW,bf,bA,if_pos,if_neg,ak,aC,aB,aG,aH,aK,aJ,aI,decide_eq_true_eq,beq_iff_eq,bne_iff_ne,ne_eq,Bool.and_eq_true,Bool.or_eq_true,Bool.not_eq_true',Bool.not_eq_true,decide_eq_false_iff_not,beq_eq_false_iff_ne,bne_eq_false_iff_eq,Int.toNat_add,Int.toNat_natCast,Int.reduceToNat,Int.zero_add,Int.add_zero,Nat.add_zero,Nat.zero_add,Bool.true_and,Bool.and_true,Bool.false_and,Bool.and_false,Bool.true_or,Bool.or_true,Bool.false_or,Bool.or_false,Bool.not_true,Bool.not_false,Bool.false_eq_true,Bool.true_eq_false,reduceCtorEq,not_true_eq_false,not_false_eq_true,if_true,if_false,decide_true,decide_false]; rfl
      ·
       by_cases d4:(s.getD (i + 1) 0).toNat=116
       · simp (disch:=omega) only [bg,bq,bW,bf,bA,if_pos,if_neg,ak,aC,aB,aG,aH,aK,aJ,aI,decide_eq_true_eq,beq_iff_eq,bne_iff_ne,ne_eq,Bool.and_eq_true,Bool.or_eq_true,Bool.not_eq_true',Bool.not_eq_true,decide_eq_false_iff_not,beq_eq_false_iff_ne,bne_eq_false_iff_eq,Int.toNat_add,Int.toNat_natCast,Int.reduceToNat,Int.zero_add,Int.add_zero,Nat.add_zero,Nat.zero_add,Bool.true_and,Bool.and_true,Bool.false_and,Bool.and_false,Bool.true_or,Bool.or_true,Bool.false_or,Bool.or_false,Bool.not_true,Bool.not_false,Bool.false_eq_true,Bool.true_eq_false,reduceCtorEq,not_true_eq_false,not_false_eq_true,if_true,if_false,decide_true,decide_false]; rfl
       · simp (disch:=omega) only [bg,bq,bW,bf,bA,if_pos,if_neg,ak,aC,aB,aG,aH,aK,aJ,aI,decide_eq_true_eq,beq_iff_eq,bne_iff_ne,ne_eq,Bool.and_eq_true,Bool.or_eq_true,Bool.not_eq_true',Bool.not_eq_true,decide_eq_false_iff_not,beq_eq_false_iff_ne,bne_eq_false_iff_eq,Int.toNat_add,Int.toNat_natCast,Int.reduceToNat,Int.zero_add,Int.add_zero,Nat.add_zero,Nat.zero_add,Bool.true_and,Bool.and_true,Bool.false_and,Bool.and_false,Bool.true_or,Bool.or_true,Bool.false_or,Bool.or_false,Bool.not_true,Bool.not_false,Bool.false_eq_true,Bool.true_eq_false,reduceCtorEq,not_true_eq_false,not_false_eq_true,if_true,if_false,decide_true,decide_false]; rfl
  ·
   rw [getD_drop hi,List.drop_eq_nil_of_le (by omega:s.length≤i + 1)]; unfold l7 chr; simp (disch:=omega) only [dflt,bg,bq,bW,bf,bA,if_pos,if_neg,ak,aC,aB,aG,aH,aK,aJ,aI,decide_eq_true_eq,beq_iff_eq,bne_iff_ne,ne_eq,Bool.and_eq_true,Bool.or_eq_true,Bool.not_eq_true',Bool.not_eq_true,decide_eq_false_iff_not,beq_eq_false_iff_ne,bne_eq_false_iff_eq,Int.toNat_add,Int.toNat_natCast,Int.reduceToNat,Int.zero_add,Int.add_zero,Nat.add_zero,Nat.zero_add,Bool.true_and,Bool.and_true,Bool.false_and,Bool.and_false,Bool.true_or,Bool.or_true,Bool.false_or,Bool.or_false,Bool.not_true,Bool.not_false,Bool.false_eq_true,Bool.true_eq_false,reduceCtorEq,not_true_eq_false,not_false_eq_true,if_true,if_false,decide_true,decide_false]; rfl
 ·
  rw [getD_drop hi]; unfold l7 chr; by_cases h2:(s.getD i 0).toNat < 32
  · simp (disch:=omega) only [dflt,bg,bq,bW,bf,bA,if_pos,if_neg,ak,aC,aB,aG,aH,aK,aJ,aI,decide_eq_true_eq,beq_iff_eq,bne_iff_ne,ne_eq,Bool.and_eq_true,Bool.or_eq_true,Bool.not_eq_true',Bool.not_eq_true,decide_eq_false_iff_not,beq_eq_false_iff_ne,bne_eq_false_iff_eq,Int.toNat_add,Int.toNat_natCast,Int.reduceToNat,Int.zero_add,Int.add_zero,Nat.add_zero,Nat.zero_add,Bool.true_and,Bool.and_true,Bool.false_and,Bool.and_false,Bool.true_or,Bool.or_true,Bool.false_or,Bool.or_false,Bool.not_true,Bool.not_false,Bool.false_eq_true,Bool.true_eq_false,reduceCtorEq,not_true_eq_false,not_false_eq_true,if_true,if_false,decide_true,decide_false]; rfl
  · simp (disch:=omega) only [dflt,bg,bq,bW,bf,bA,if_pos,if_neg,ak,aC,aB,aG,aH,aK,aJ,aI,decide_eq_true_eq,beq_iff_eq,bne_iff_ne,ne_eq,Bool.and_eq_true,Bool.or_eq_true,Bool.not_eq_true',Bool.not_eq_true,decide_eq_false_iff_not,beq_eq_false_iff_ne,bne_eq_false_iff_eq,Int.toNat_add,Int.toNat_natCast,Int.reduceToNat,Int.zero_add,Int.add_zero,Nat.add_zero,Nat.zero_add,Bool.true_and,Bool.and_true,Bool.false_and,Bool.and_false,Bool.true_or,Bool.or_true,Bool.false_or,Bool.or_false,Bool.not_true,Bool.not_false,Bool.false_eq_true,Bool.true_eq_false,reduceCtorEq,not_true_eq_false,not_false_eq_true,if_true,if_false,decide_true,decide_false]; rfl
theorem Zd {s:Str} (hs:s.length < 4611686018427387904) {i:Nat} (hi:i < s.length) (h1:(s.getD i 0).toNat=92):
  sH s (i:Int)=some ((chr (s.drop i)).1,((chr (s.drop i)).2.1:Int)):=by
 unfold sH; rw [getD_drop hi]; unfold chr; by_cases h2:i + 1 < s.length
 ·
  rw [getD_drop h2]; simp (disch:=omega) only [dflt,bg,bq,bW,bf,bA,if_pos,if_neg,ak,aC,aB,aG,aH,aK,aJ,aI,decide_eq_true_eq,beq_iff_eq,bne_iff_ne,ne_eq,Bool.and_eq_true,Bool.or_eq_true,Bool.not_eq_true',Bool.not_eq_true,decide_eq_false_iff_not,beq_eq_false_iff_ne,bne_eq_false_iff_eq,Int.toNat_add,Int.toNat_natCast,Int.reduceToNat,Int.zero_add,Int.add_zero,Nat.add_zero,Nat.zero_add,Bool.true_and,Bool.and_true,Bool.false_and,Bool.and_false,Bool.true_or,Bool.or_true,Bool.false_or,Bool.or_false,Bool.not_true,Bool.not_false,Bool.false_eq_true,Bool.true_eq_false,reduceCtorEq,not_true_eq_false,not_false_eq_true,if_true,if_false,decide_true,decide_false]; by_cases d1:(s.getD (i + 1) 0).toNat=34
  · simp (disch:=omega) only [bg,bq,bW,bf,bA,if_pos,if_neg,ak,aC,aB,aG,aH,aK,aJ,aI,decide_eq_true_eq,beq_iff_eq,bne_iff_ne,ne_eq,Bool.and_eq_true,Bool.or_eq_true,Bool.not_eq_true',Bool.not_eq_true,decide_eq_false_iff_not,beq_eq_false_iff_ne,bne_eq_false_iff_eq,Int.toNat_add,Int.toNat_natCast,Int.reduceToNat,Int.zero_add,Int.add_zero,Nat.add_zero,Nat.zero_add,Bool.true_and,Bool.and_true,Bool.false_and,Bool.and_false,Bool.true_or,Bool.or_true,Bool.false_or,Bool.or_false,Bool.not_true,Bool.not_false,Bool.false_eq_true,Bool.true_eq_false,reduceCtorEq,not_true_eq_false,not_false_eq_true,if_true,if_false,decide_true,decide_false]; rfl
  ·
   by_cases d2:(s.getD (i + 1) 0).toNat=92
   · simp (disch:=omega) only [bg,bq,bW,bf,bA,if_pos,if_neg,ak,aC,aB,aG,aH,aK,aJ,aI,decide_eq_true_eq,beq_iff_eq,bne_iff_ne,ne_eq,Bool.and_eq_true,Bool.or_eq_true,Bool.not_eq_true',Bool.not_eq_true,decide_eq_false_iff_not,beq_eq_false_iff_ne,bne_eq_false_iff_eq,Int.toNat_add,Int.toNat_natCast,Int.reduceToNat,Int.zero_add,Int.add_zero,Nat.add_zero,Nat.zero_add,Bool.true_and,Bool.and_true,Bool.false_and,Bool.and_false,Bool.true_or,Bool.or_true,Bool.false_or,Bool.or_false,Bool.not_true,Bool.not_false,Bool.false_eq_true,Bool.true_eq_false,reduceCtorEq,not_true_eq_false,not_false_eq_true,if_true,if_false,decide_true,decide_false]; rfl
   ·
    by_cases d3:(s.getD (i + 1) 0).toNat=110
    · simp (disch:=omega) only [bg,bq,bW,bf,bA,if_pos,if_neg,ak,aC,aB,aG,aH,aK,aJ,aI,decide_eq_true_eq,beq_iff_eq,bne_iff_ne,ne_eq,Bool.and_eq_true,Bool.or_eq_true,Bool.not_eq_true',Bool.not_eq_true,decide_eq_false_iff_not,beq_eq_false_iff_ne,bne_eq_false_iff_eq,Int.toNat_add,Int.toNat_natCast,Int.reduceToNat,Int.zero_add,Int.add_zero,Nat.add_zero,Nat.zero_add,Bool.true_and,Bool.and_true,Bool.false_and,Bool.and_false,Bool.true_or,Bool.or_true,Bool.false_or,Bool.or_false,Bool.not_true,Bool.not_false,Bool.false_eq_true,Bool.true_eq_false,reduceCtorEq,not_true_eq_false,not_false_eq_true,if_true,if_false,decide_true,decide_false]; rfl
    ·
     by_cases d4:(s.getD (i + 1) 0).toNat=116
     · simp (disch:=omega) only [bg,bq,bW,bf,bA,if_pos,if_neg,ak,aC,aB,aG,aH,aK,aJ,aI,decide_eq_true_eq,beq_iff_eq,bne_iff_ne,ne_eq,Bool.and_eq_true,Bool.or_eq_true,Bool.not_eq_true',Bool.not_eq_true,decide_eq_false_iff_not,beq_eq_false_iff_ne,bne_eq_false_iff_eq,Int.toNat_add,Int.toNat_natCast,Int.reduceToNat,Int.zero_add,Int.add_zero,Nat.add_zero,Nat.zero_add,Bool.true_and,Bool.and_true,Bool.false_and,Bool.and_false,Bool.true_or,Bool.or_true,Bool.false_or,Bool.or_false,Bool.not_true,Bool.not_false,Bool.false_eq_true,Bool.true_eq_false,reduceCtorEq,not_true_eq_false,not_false_eq_true,if_true,if_false,decide_true,decide_false]; rfl
     ·
      by_cases d5:(s.getD (i + 1) 0).toNat=120
      ·
       simp (disch:=omega) only [bg,bq,bW,bf,bA,if_pos,if_neg,ak,aC,aB,aG,aH,aK,aJ,aI,decide_eq_true_eq,beq_iff_eq,bne_iff_ne,ne_eq,Bool.and_eq_true,Bool.or_eq_true,Bool.not_eq_true',Bool.not_eq_true,decide_eq_false_iff_not,beq_eq_false_iff_ne,bne_eq_false_iff_eq,Int.toNat_add,Int.toNat_natCast,Int.reduceToNat,Int.zero_add,Int.add_zero,Nat.add_zero,Nat.zero_add,Bool.true_and,Bool.and_true,Bool.false_and,Bool.and_false,Bool.true_or,Bool.or_true,Bool.false_or,Bool.or_false,Bool.not_true,Bool.not_false,Bool.false_eq_true,Bool.true_eq_false,reduceCtorEq,not_true_eq_false,not_false_eq_true,if_true,if_false,decide_true,decide_false]; by_cases h4:i + 2 < s.length
       ·
        rw [show s.drop (i + 1 + 1)=s.getD (i + 2) 0 :: s.drop (i + 3) from getD_drop (by omega)]; by_cases h5:i + 3 < s.length
        ·
         rw [show s.drop (i + 3)=s.getD (i + 3) 0 :: s.drop (i + 4) from getD_drop (by omega)]; simp (disch:=omega) only [Te,dflt,bg,bq,bW,bf,bA,if_pos,if_neg,ak,aC,aB,aG,aH,aK,aJ,aI,decide_eq_true_eq,beq_iff_eq,bne_iff_ne,ne_eq,Bool.and_eq_true,Bool.or_eq_true,Bool.not_eq_true',Bool.not_eq_true,decide_eq_false_iff_not,beq_eq_false_iff_ne,bne_eq_false_iff_eq,Int.toNat_add,Int.toNat_natCast,Int.reduceToNat,Int.zero_add,Int.add_zero,Nat.add_zero,Nat.zero_add,Bool.true_and,Bool.and_true,Bool.false_and,Bool.and_false,Bool.true_or,Bool.or_true,Bool.false_or,Bool.or_false,Bool.not_true,Bool.not_false,Bool.false_eq_true,Bool.true_eq_false,reduceCtorEq,not_true_eq_false,not_false_eq_true,if_true,if_false,decide_true,decide_false]; cases ha:Dt (s.getD (i + 2) 0) with
         | none=>simp (disch:=omega) only [Bf ha,bg,bq,bW,bf,bA,if_pos,if_neg,ak,aC,aB,aG,aH,aK,aJ,aI,decide_eq_true_eq,beq_iff_eq,bne_iff_ne,ne_eq,Bool.and_eq_true,Bool.or_eq_true,Bool.not_eq_true',Bool.not_eq_true,decide_eq_false_iff_not,beq_eq_false_iff_ne,bne_eq_false_iff_eq,Int.toNat_add,Int.toNat_natCast,Int.reduceToNat,Int.zero_add,Int.add_zero,Nat.add_zero,Nat.zero_add,Bool.true_and,Bool.and_true,Bool.false_and,Bool.and_false,Bool.true_or,Bool.or_true,Bool.false_or,Bool.or_false,Bool.not_true,Bool.not_false,Bool.false_eq_true,Bool.true_eq_false,reduceCtorEq,not_true_eq_false,not_false_eq_true,if_true,if_false,decide_true,decide_false]; rfl
         | some x=>
          have hx:=JM ha; simp (disch:=omega) only [yA ha,bg,bq,bW,bf,bA,if_pos,if_neg,ak,aC,aB,aG,aH,aK,aJ,aI,decide_eq_true_eq,beq_iff_eq,bne_iff_ne,ne_eq,Bool.and_eq_true,Bool.or_eq_true,Bool.not_eq_true',Bool.not_eq_true,decide_eq_false_iff_not,beq_eq_false_iff_ne,bne_eq_false_iff_eq,Int.toNat_add,Int.toNat_natCast,Int.reduceToNat,Int.zero_add,Int.add_zero,Nat.add_zero,Nat.zero_add,Bool.true_and,Bool.and_true,Bool.false_and,Bool.and_false,Bool.true_or,Bool.or_true,Bool.false_or,Bool.or_false,Bool.not_true,Bool.not_false,Bool.false_eq_true,Bool.true_eq_false,reduceCtorEq,not_true_eq_false,not_false_eq_true,if_true,if_false,decide_true,decide_false]; cases hb:Dt (s.getD (i + 3) 0) with
          | none=>simp (disch:=omega) only [Bf hb,bg,bq,bW,bf,bA,if_pos,if_neg,ak,aC,aB,aG,aH,aK,aJ,aI,decide_eq_true_eq,beq_iff_eq,bne_iff_ne,ne_eq,Bool.and_eq_true,Bool.or_eq_true,Bool.not_eq_true',Bool.not_eq_true,decide_eq_false_iff_not,beq_eq_false_iff_ne,bne_eq_false_iff_eq,Int.toNat_add,Int.toNat_natCast,Int.reduceToNat,Int.zero_add,Int.add_zero,Nat.add_zero,Nat.zero_add,Bool.true_and,Bool.and_true,Bool.false_and,Bool.and_false,Bool.true_or,Bool.or_true,Bool.false_or,Bool.or_false,Bool.not_true,Bool.not_false,Bool.false_eq_true,Bool.true_eq_false,reduceCtorEq,not_true_eq_false,not_false_eq_true,if_true,if_false,decide_true,decide_false]; rfl
          | some y=>
           have hy:=JM hb; simp (disch:=omega) only [yA hb,bg,bq,bW,bf,bA,if_pos,if_neg,ak,aC,aB,aG,aH,aK,aJ,aI,decide_eq_true_eq,beq_iff_eq,bne_iff_ne,ne_eq,Bool.and_eq_true,Bool.or_eq_true,Bool.not_eq_true',Bool.not_eq_true,decide_eq_false_iff_not,beq_eq_false_iff_ne,bne_eq_false_iff_eq,Int.toNat_add,Int.toNat_natCast,Int.reduceToNat,Int.zero_add,Int.add_zero,Nat.add_zero,Nat.zero_add,Bool.true_and,Bool.and_true,Bool.false_and,Bool.and_false,Bool.true_or,Bool.or_true,Bool.false_or,Bool.or_false,Bool.not_true,Bool.not_false,Bool.false_eq_true,Bool.true_eq_false,reduceCtorEq,not_true_eq_false,not_false_eq_true,if_true,if_false,decide_true,decide_false]
           have:byteOf (16 * (x:Int) + (y:Int))=UInt8.ofNat (16 * x + y):=by
            apply UInt8.toNat_inj.1; have e1:((byteOf (16 * (x:Int) + (y:Int))).toNat:Int)=16 * (x:Int) + (y:Int):=NW (by omega) (by omega); have e2:(UInt8.ofNat (16 * x + y)).toNat=16 * x + y:=by simp; omega
            omega
           rw [this]; rfl
        ·
         rw [List.drop_eq_nil_of_le (by omega:s.length≤i + 3)]; simp (disch:=omega) only [Te,bg,bq,bW,bf,bA,if_pos,if_neg,ak,aC,aB,aG,aH,aK,aJ,aI,decide_eq_true_eq,beq_iff_eq,bne_iff_ne,ne_eq,Bool.and_eq_true,Bool.or_eq_true,Bool.not_eq_true',Bool.not_eq_true,decide_eq_false_iff_not,beq_eq_false_iff_ne,bne_eq_false_iff_eq,Int.toNat_add,Int.toNat_natCast,Int.reduceToNat,Int.zero_add,Int.add_zero,Nat.add_zero,Nat.zero_add,Bool.true_and,Bool.and_true,Bool.false_and,Bool.and_false,Bool.true_or,Bool.or_true,Bool.false_or,Bool.or_false,Bool.not_true,Bool.not_false,Bool.false_eq_true,Bool.true_eq_false,reduceCtorEq,not_true_eq_false,not_false_eq_true,if_true,if_false,decide_true,decide_false]; cases ha:Dt (s.getD (i + 2) 0) <;> rfl
       ·
        rw [List.drop_eq_nil_of_le (by omega:s.length≤i + 1 + 1)]; simp (disch:=omega) only [bg,bq,bW,bf,bA,if_pos,if_neg,ak,aC,aB,aG,aH,aK,aJ,aI,decide_eq_true_eq,beq_iff_eq,bne_iff_ne,ne_eq,Bool.and_eq_true,Bool.or_eq_true,Bool.not_eq_true',Bool.not_eq_true,decide_eq_false_iff_not,beq_eq_false_iff_ne,bne_eq_false_iff_eq,Int.toNat_add,Int.toNat_natCast,Int.reduceToNat,Int.zero_add,Int.add_zero,Nat.add_zero,Nat.zero_add,Bool.true_and,Bool.and_true,Bool.false_and,Bool.and_false,Bool.true_or,Bool.or_true,Bool.false_or,Bool.or_false,Bool.not_true,Bool.not_false,Bool.false_eq_true,Bool.true_eq_false,reduceCtorEq,not_true_eq_false,not_false_eq_true,if_true,if_false,decide_true,decide_false]; rfl
      · simp (disch:=omega) only [bg,bq,bW,bf,bA,if_pos,if_neg,ak,aC,aB,aG,aH,aK,aJ,aI,decide_eq_true_eq,beq_iff_eq,bne_iff_ne,ne_eq,Bool.and_eq_true,Bool.or_eq_true,Bool.not_eq_true',Bool.not_eq_true,decide_eq_false_iff_not,beq_eq_false_iff_ne,bne_eq_false_iff_eq,Int.toNat_add,Int.toNat_natCast,Int.reduceToNat,Int.zero_add,Int.add_zero,Nat.add_zero,Nat.zero_add,Bool.true_and,Bool.and_true,Bool.false_and,Bool.and_false,Bool.true_or,Bool.or_true,Bool.false_or,Bool.or_false,Bool.not_true,Bool.not_false,Bool.false_eq_true,Bool.true_eq_false,reduceCtorEq,not_true_eq_false,not_false_eq_true,if_true,if_false,decide_true,decide_false]; rfl
 ·
  rw [List.drop_eq_nil_of_le (by omega:s.length≤i + 1)]; simp (disch:=omega) only [bg,bq,bW,bf,bA,if_pos,if_neg,ak,aC,aB,aG,aH,aK,aJ,aI,decide_eq_true_eq,beq_iff_eq,bne_iff_ne,ne_eq,Bool.and_eq_true,Bool.or_eq_true,Bool.not_eq_true',Bool.not_eq_true,decide_eq_false_iff_not,beq_eq_false_iff_ne,bne_eq_false_iff_eq,Int.toNat_add,Int.toNat_natCast,Int.reduceToNat,Int.zero_add,Int.add_zero,Nat.add_zero,Nat.zero_add,Bool.true_and,Bool.and_true,Bool.false_and,Bool.and_false,Bool.true_or,Bool.or_true,Bool.false_or,Bool.or_false,Bool.not_true,Bool.not_false,Bool.false_eq_true,Bool.true_eq_false,reduceCtorEq,not_true_eq_false,not_false_eq_true,if_true,if_false,decide_true,decide_false]; rfl
theorem Vq {s:Str} (hs:s.length < 4611686018427387904) {i:Nat} (hi:i < s.length) (h1:(s.getD i 0).toNat=92) (he:(chr (s.drop i)).2.2≠0):
  wS s (i:Int)=some ((chr (s.drop i)).2.2 == 4):=by
 unfold wS; rw [getD_drop hi] at he ⊢; simp (disch:=omega) only [bg,bq,bW,bf,bA,if_pos,if_neg,ak,aC,aB,aG,aH,aK,aJ,aI,decide_eq_true_eq,beq_iff_eq,bne_iff_ne,ne_eq,Bool.and_eq_true,Bool.or_eq_true,Bool.not_eq_true',Bool.not_eq_true,decide_eq_false_iff_not,beq_eq_false_iff_ne,bne_eq_false_iff_eq,Int.toNat_add,Int.toNat_natCast,Int.reduceToNat,Int.zero_add,Int.add_zero,Nat.add_zero,Nat.zero_add,Bool.true_and,Bool.and_true,Bool.false_and,Bool.and_false,Bool.true_or,Bool.or_true,Bool.false_or,Bool.or_false,Bool.not_true,Bool.not_false,Bool.false_eq_true,Bool.true_eq_false,reduceCtorEq,not_true_eq_false,not_false_eq_true,if_true,if_false,decide_true,decide_false]; rw [List.take_length]; generalize s.drop (i + 1)=r at he ⊢; generalize s.getD i 0=c at he h1 ⊢; have NH:¬ c.toNat < 32:=by omega
 have Vx:¬ c.toNat≠92:=by omega
 match r with
 | []=>simp [chr,NH,Vx]
 | [d]=>
  by_cases d5:d=120
  · subst d5; simp [chr,NH,Vx]
  ·
   have:d.toNat≠120:=fun h=>d5 (UInt8.toNat_inj.1 h); simp only [chr,NH,Vx,if_false] at he ⊢; simp [d5]; revert he
   repeat' split
   all_goals simp
 | [d,a]=>
  by_cases d5:d=120
  ·
   subst d5; simp [chr,NH,Vx,idx]; rw [Te]; cases ha:Dt a with
   | none=>simp [Bf ha]
   | some x=>simp [yA ha]
  ·
   have:d.toNat≠120:=fun h=>d5 (UInt8.toNat_inj.1 h); have d5':¬ (d.toNat:Int)=120:=by omega
   simp only [chr,NH,Vx,if_false] at he ⊢; simp [d5,idx,d5']; revert he
   repeat' split
   all_goals simp
 | d :: a :: b :: r=>
  simp only [chr,NH,Vx,if_false] at he ⊢; have hl:¬ ((r.length:Int) + 1 + 1 + 1=2):=by omega
  simp [hl]; revert he
  repeat' split
  all_goals simp
def txt :Nat→Str→Nat→Str→Str × Nat × Int
 | _,_,_,[]=>([],0,4)
 | k + 1,b,n,_ :: r=>txt k b n r
 | 0,b,n,c :: r=>if c.toNat=34 then (if 4096 < b.length then ([],0,3) else (b,n + 1,0)) else
   if (chr (c :: r)).2.2=0 then txt ((chr (c :: r)).2.1 - 1) (b ++ [(chr (c :: r)).1]) (n + (chr (c :: r)).2.1) r else ([],0,(chr (c :: r)).2.2)
theorem P7 :∀ (k:Nat) (b:Str) (n:Nat) (r:Str),k≤r.length→txt k b n r=txt 0 b n (r.drop k)
 | 0,b,n,r,_=>by simp
 | k + 1,b,n,[],h=>by simp at h
 | k + 1,b,n,c :: r,h=>by rw [txt,P7 k b n r (by simpa using h)]; simp
theorem Ke (b:Str) (n:Nat) (c:UInt8) (r:Str):txt 0 b n (c :: r)=if c.toNat=34 then (if 4096 < b.length then ([],0,3) else (b,n + 1,0)) else
  if (chr (c :: r)).2.2=0 then txt 0 (b ++ [(chr (c :: r)).1]) (n + (chr (c :: r)).2.1) ((c :: r).drop (chr (c :: r)).2.1) else ([],0,(chr (c :: r)).2.2):=by
 rw [txt]; split
 · rfl
 ·
  split
  ·
   rename_i h; obtain ⟨h1,h2⟩:=UF h; rw [P7 _ _ _ _ (by simp at h2; omega)]; congr 1; obtain ⟨m,hm⟩:∃ m,(chr (c :: r)).2.1=m + 1:=⟨(chr (c :: r)).2.1 - 1,by omega⟩; rw [hm]; simp
  · rfl
def SX (a:Nat) (x:Str × Nat × Int):au × Int × Int:=if x.2.2=0 then (⟨3,x.1,a⟩,((a + x.2.1:Nat):Int),0) else (⟨0,[],0⟩,0,x.2.2)
def U4 (x:Str × Nat × Int):au × Int × Int:=if x.2.2=0 then (⟨3,x.1,0⟩,(x.2.1:Int),0) else (⟨0,[],0⟩,0,x.2.2)
theorem Zr {l:Str} (h:(chr l).2.2≠0):(chr l).2.1=0:=by
 revert h; unfold chr
 repeat' split
 all_goals simp
theorem VL {c:UInt8} {r:Str} (h1:¬ c.toNat < 32) (h2:c.toNat≠92):chr (c :: r)=(c,1,0):=by
 show (if c.toNat < 32 then _ else _)=_; rw [if_neg h1,if_pos h2]
theorem Zq {c:UInt8} {r:Str} (h1:c.toNat < 32):chr (c :: r)=(0,0,5):=by
 show (if c.toNat < 32 then _ else _)=_; rw [if_pos h1]
theorem KT {s:Str} (hs:s.length≤2147483648) (a:Nat):∀ (k i:Nat) (b:Str),s.length < k + i→i≤s.length→a≤i→b.length≤i→
  ow s (a:Int) k (i:Int) b=some (SX a (txt 0 b (i - a) (s.drop i)))
 | 0,i,b,h,h',_,_=>by omega
 | k + 1,i,b,h,h',ha,hb=>by
  rw [ow]; by_cases hi:i < s.length
  ·
   rw [getD_drop hi,Ke]; simp (disch:=omega) only [dflt,bg,bq,bW,bf,bA,if_pos,if_neg,ak,aC,aB,aG,aH,aK,aJ,aI,decide_eq_true_eq,beq_iff_eq,bne_iff_ne,ne_eq,Bool.and_eq_true,Bool.or_eq_true,Bool.not_eq_true',Bool.not_eq_true,decide_eq_false_iff_not,beq_eq_false_iff_ne,bne_eq_false_iff_eq,Int.toNat_add,Int.toNat_natCast,Int.reduceToNat,Int.zero_add,Int.add_zero,Nat.add_zero,Nat.zero_add,Bool.true_and,Bool.and_true,Bool.false_and,Bool.and_false,Bool.true_or,Bool.or_true,Bool.false_or,Bool.or_false,Bool.not_true,Bool.not_false,Bool.false_eq_true,Bool.true_eq_false,reduceCtorEq,not_true_eq_false,not_false_eq_true,if_true,if_false,decide_true,decide_false]; have hd:=getD_drop hi; by_cases NI:(s.getD i 0).toNat=34
   ·
    simp (disch:=omega) only [bg,bq,bW,bf,bA,if_pos,if_neg,ak,aC,aB,aG,aH,aK,aJ,aI,decide_eq_true_eq,beq_iff_eq,bne_iff_ne,ne_eq,Bool.and_eq_true,Bool.or_eq_true,Bool.not_eq_true',Bool.not_eq_true,decide_eq_false_iff_not,beq_eq_false_iff_ne,bne_eq_false_iff_eq,Int.toNat_add,Int.toNat_natCast,Int.reduceToNat,Int.zero_add,Int.add_zero,Nat.add_zero,Nat.zero_add,Bool.true_and,Bool.and_true,Bool.false_and,Bool.and_false,Bool.true_or,Bool.or_true,Bool.false_or,Bool.or_false,Bool.not_true,Bool.not_false,Bool.false_eq_true,Bool.true_eq_false,reduceCtorEq,not_true_eq_false,not_false_eq_true,if_true,if_false,decide_true,decide_false]; by_cases hl:4096 < b.length
    · simp (disch:=omega) only [bg,bq,bW,bf,bA,if_pos,if_neg,ak,aC,aB,aG,aH,aK,aJ,aI,decide_eq_true_eq,beq_iff_eq,bne_iff_ne,ne_eq,Bool.and_eq_true,Bool.or_eq_true,Bool.not_eq_true',Bool.not_eq_true,decide_eq_false_iff_not,beq_eq_false_iff_ne,bne_eq_false_iff_eq,Int.toNat_add,Int.toNat_natCast,Int.reduceToNat,Int.zero_add,Int.add_zero,Nat.add_zero,Nat.zero_add,Bool.true_and,Bool.and_true,Bool.false_and,Bool.and_false,Bool.true_or,Bool.or_true,Bool.false_or,Bool.or_false,Bool.not_true,Bool.not_false,Bool.false_eq_true,Bool.true_eq_false,reduceCtorEq,not_true_eq_false,not_false_eq_true,if_true,if_false,decide_true,decide_false]; rfl
    · simp (disch:=omega) only [bg,bq,bW,bf,bA,if_pos,if_neg,ak,aC,aB,aG,aH,aK,aJ,aI,decide_eq_true_eq,beq_iff_eq,bne_iff_ne,ne_eq,Bool.and_eq_true,Bool.or_eq_true,Bool.not_eq_true',Bool.not_eq_true,decide_eq_false_iff_not,beq_eq_false_iff_ne,bne_eq_false_iff_eq,Int.toNat_add,Int.toNat_natCast,Int.reduceToNat,Int.zero_add,Int.add_zero,Nat.add_zero,Nat.zero_add,Bool.true_and,Bool.and_true,Bool.false_and,Bool.and_false,Bool.true_or,Bool.or_true,Bool.false_or,Bool.or_false,Bool.not_true,Bool.not_false,Bool.false_eq_true,Bool.true_eq_false,reduceCtorEq,not_true_eq_false,not_false_eq_true,if_true,if_false,decide_true,decide_false]; simp only [SX,if_true]; congr 4; omega
   ·
    simp (disch:=omega) only [bg,bq,bW,bf,bA,if_pos,if_neg,ak,aC,aB,aG,aH,aK,aJ,aI,decide_eq_true_eq,beq_iff_eq,bne_iff_ne,ne_eq,Bool.and_eq_true,Bool.or_eq_true,Bool.not_eq_true',Bool.not_eq_true,decide_eq_false_iff_not,beq_eq_false_iff_ne,bne_eq_false_iff_eq,Int.toNat_add,Int.toNat_natCast,Int.reduceToNat,Int.zero_add,Int.add_zero,Nat.add_zero,Nat.zero_add,Bool.true_and,Bool.and_true,Bool.false_and,Bool.and_false,Bool.true_or,Bool.or_true,Bool.false_or,Bool.or_false,Bool.not_true,Bool.not_false,Bool.false_eq_true,Bool.true_eq_false,reduceCtorEq,not_true_eq_false,not_false_eq_true,if_true,if_false,decide_true,decide_false]; by_cases NH:(s.getD i 0).toNat=92
    ·
     simp (disch:=omega) only [Zd (by omega) hi NH,bg,bq,bW,bf,bA,if_pos,if_neg,ak,aC,aB,aG,aH,aK,aJ,aI,decide_eq_true_eq,beq_iff_eq,bne_iff_ne,ne_eq,Bool.and_eq_true,Bool.or_eq_true,Bool.not_eq_true',Bool.not_eq_true,decide_eq_false_iff_not,beq_eq_false_iff_ne,bne_eq_false_iff_eq,Int.toNat_add,Int.toNat_natCast,Int.reduceToNat,Int.zero_add,Int.add_zero,Nat.add_zero,Nat.zero_add,Bool.true_and,Bool.and_true,Bool.false_and,Bool.and_false,Bool.true_or,Bool.or_true,Bool.false_or,Bool.or_false,Bool.not_true,Bool.not_false,Bool.false_eq_true,Bool.true_eq_false,reduceCtorEq,not_true_eq_false,not_false_eq_true,if_true,if_false,decide_true,decide_false]; rw [hd]; by_cases he:(chr (s.getD i 0 :: s.drop (i + 1))).2.2=0
     ·
      obtain ⟨n1,n2⟩:=UF he; rw [←hd] at n2; rw [List.length_drop] at n2; have happ:app b [(chr (s.getD i 0 :: s.drop (i + 1))).1]=some (b ++ [(chr (s.getD i 0 :: s.drop (i + 1))).1]):=bf (by simp [Fy]; omega); rw [←hd] at n1 he happ ⊢; simp (disch:=omega) only [he,happ,bg,bq,bW,bf,bA,if_pos,if_neg,ak,aC,aB,aG,aH,aK,aJ,aI,decide_eq_true_eq,beq_iff_eq,bne_iff_ne,ne_eq,Bool.and_eq_true,Bool.or_eq_true,Bool.not_eq_true',Bool.not_eq_true,decide_eq_false_iff_not,beq_eq_false_iff_ne,bne_eq_false_iff_eq,Int.toNat_add,Int.toNat_natCast,Int.reduceToNat,Int.zero_add,Int.add_zero,Nat.add_zero,Nat.zero_add,Bool.true_and,Bool.and_true,Bool.false_and,Bool.and_false,Bool.true_or,Bool.or_true,Bool.false_or,Bool.or_false,Bool.not_true,Bool.not_false,Bool.false_eq_true,Bool.true_eq_false,reduceCtorEq,not_true_eq_false,not_false_eq_true,if_true,if_false,decide_true,decide_false]; rw [show (i:Int) + ((chr (s.drop i)).2.1:Int)=((i + (chr (s.drop i)).2.1:Nat):Int) from by omega]; rw [KT hs a k (i + (chr (s.drop i)).2.1) _ (by omega) (by omega) (by omega) (by simp; omega)]; rw [List.drop_drop]; congr 4; omega
     ·
      rw [←hd] at he ⊢; rw [Zr he]; simp (disch:=omega) only [Vq (by omega) hi NH he,bg,bq,bW,bf,bA,if_pos,if_neg,ak,aC,aB,aG,aH,aK,aJ,aI,decide_eq_true_eq,beq_iff_eq,bne_iff_ne,ne_eq,Bool.and_eq_true,Bool.or_eq_true,Bool.not_eq_true',Bool.not_eq_true,decide_eq_false_iff_not,beq_eq_false_iff_ne,bne_eq_false_iff_eq,Int.toNat_add,Int.toNat_natCast,Int.reduceToNat,Int.zero_add,Int.add_zero,Nat.add_zero,Nat.zero_add,Bool.true_and,Bool.and_true,Bool.false_and,Bool.and_false,Bool.true_or,Bool.or_true,Bool.false_or,Bool.or_false,Bool.not_true,Bool.not_false,Bool.false_eq_true,Bool.true_eq_false,reduceCtorEq,not_true_eq_false,not_false_eq_true,if_true,if_false,decide_true,decide_false]; by_cases h4:(chr (s.drop i)).2.2=4
      · simp (disch:=omega) only [h4,bg,bq,bW,bf,bA,if_pos,if_neg,ak,aC,aB,aG,aH,aK,aJ,aI,decide_eq_true_eq,beq_iff_eq,bne_iff_ne,ne_eq,Bool.and_eq_true,Bool.or_eq_true,Bool.not_eq_true',Bool.not_eq_true,decide_eq_false_iff_not,beq_eq_false_iff_ne,bne_eq_false_iff_eq,Int.toNat_add,Int.toNat_natCast,Int.reduceToNat,Int.zero_add,Int.add_zero,Nat.add_zero,Nat.zero_add,Bool.true_and,Bool.and_true,Bool.false_and,Bool.and_false,Bool.true_or,Bool.or_true,Bool.false_or,Bool.or_false,Bool.not_true,Bool.not_false,Bool.false_eq_true,Bool.true_eq_false,reduceCtorEq,not_true_eq_false,not_false_eq_true,if_true,if_false,decide_true,decide_false]; simp [SX]
      ·
       simp (disch:=omega) only [h4,bg,bq,bW,bf,bA,if_pos,if_neg,ak,aC,aB,aG,aH,aK,aJ,aI,decide_eq_true_eq,beq_iff_eq,bne_iff_ne,ne_eq,Bool.and_eq_true,Bool.or_eq_true,Bool.not_eq_true',Bool.not_eq_true,decide_eq_false_iff_not,beq_eq_false_iff_ne,bne_eq_false_iff_eq,Int.toNat_add,Int.toNat_natCast,Int.reduceToNat,Int.zero_add,Int.add_zero,Nat.add_zero,Nat.zero_add,Bool.true_and,Bool.and_true,Bool.false_and,Bool.and_false,Bool.true_or,Bool.or_true,Bool.false_or,Bool.or_false,Bool.not_true,Bool.not_false,Bool.false_eq_true,Bool.true_eq_false,reduceCtorEq,not_true_eq_false,not_false_eq_true,if_true,if_false,decide_true,decide_false]
       have h5:(chr (s.drop i)).2.2=5:=by
        revert he h4; unfold chr
        repeat' split
        all_goals simp
       simp [SX,h5]
    ·
     by_cases h32:(s.getD i 0).toNat < 32
     · rw [Zq h32]; simp (disch:=omega) only [bg,bq,bW,bf,bA,if_pos,if_neg,ak,aC,aB,aG,aH,aK,aJ,aI,decide_eq_true_eq,beq_iff_eq,bne_iff_ne,ne_eq,Bool.and_eq_true,Bool.or_eq_true,Bool.not_eq_true',Bool.not_eq_true,decide_eq_false_iff_not,beq_eq_false_iff_ne,bne_eq_false_iff_eq,Int.toNat_add,Int.toNat_natCast,Int.reduceToNat,Int.zero_add,Int.add_zero,Nat.add_zero,Nat.zero_add,Bool.true_and,Bool.and_true,Bool.false_and,Bool.and_false,Bool.true_or,Bool.or_true,Bool.false_or,Bool.or_false,Bool.not_true,Bool.not_false,Bool.false_eq_true,Bool.true_eq_false,reduceCtorEq,not_true_eq_false,not_false_eq_true,if_true,if_false,decide_true,decide_false]; rfl
     ·
      rw [VL h32 NH]; have happ:app b [s.getD i 0]=some (b ++ [s.getD i 0]):=bf (by simp [Fy]; omega); simp (disch:=omega) only [happ,bg,bq,bW,bf,bA,if_pos,if_neg,ak,aC,aB,aG,aH,aK,aJ,aI,decide_eq_true_eq,beq_iff_eq,bne_iff_ne,ne_eq,Bool.and_eq_true,Bool.or_eq_true,Bool.not_eq_true',Bool.not_eq_true,decide_eq_false_iff_not,beq_eq_false_iff_ne,bne_eq_false_iff_eq,Int.toNat_add,Int.toNat_natCast,Int.reduceToNat,Int.zero_add,Int.add_zero,Nat.add_zero,Nat.zero_add,Bool.true_and,Bool.and_true,Bool.false_and,Bool.and_false,Bool.true_or,Bool.or_true,Bool.false_or,Bool.or_false,Bool.not_true,Bool.not_false,Bool.false_eq_true,Bool.true_eq_false,reduceCtorEq,not_true_eq_false,not_false_eq_true,if_true,if_false,decide_true,decide_false]; rw [show (i:Int) + 1=((i + 1:Nat):Int) from rfl,KT hs a k (i + 1) _ (by omega) (by omega) (by omega) (by simp; omega)]; simp only [List.drop_succ_cons,List.drop_zero]; rw [show i + 1 - a=i - a + 1 from by omega]
  ·
   have e:i=s.length:=by omega
   rw [e]; simp (disch:=omega) only [bg,bq,bW,bf,bA,if_pos,if_neg,ak,aC,aB,aG,aH,aK,aJ,aI,decide_eq_true_eq,beq_iff_eq,bne_iff_ne,ne_eq,Bool.and_eq_true,Bool.or_eq_true,Bool.not_eq_true',Bool.not_eq_true,decide_eq_false_iff_not,beq_eq_false_iff_ne,bne_eq_false_iff_eq,Int.toNat_add,Int.toNat_natCast,Int.reduceToNat,Int.zero_add,Int.add_zero,Nat.add_zero,Nat.zero_add,Bool.true_and,Bool.and_true,Bool.false_and,Bool.and_false,Bool.true_or,Bool.or_true,Bool.false_or,Bool.or_false,Bool.not_true,Bool.not_false,Bool.false_eq_true,Bool.true_eq_false,reduceCtorEq,not_true_eq_false,not_false_eq_true,if_true,if_false,decide_true,decide_false]; simp [txt,SX]
theorem XC {s:Str} (hs:s.length≤2147483648) {a:Nat} (h:a < s.length):yQ s (a:Int)=some (SX a (txt 0 [] 1 (s.drop (a + 1)))):=by
 unfold yQ; simp (disch:=omega) only [bg,bq,bW,bf,bA,if_pos,if_neg,ak,aC,aB,aG,aH,aK,aJ,aI,decide_eq_true_eq,beq_iff_eq,bne_iff_ne,ne_eq,Bool.and_eq_true,Bool.or_eq_true,Bool.not_eq_true',Bool.not_eq_true,decide_eq_false_iff_not,beq_eq_false_iff_ne,bne_eq_false_iff_eq,Int.toNat_add,Int.toNat_natCast,Int.reduceToNat,Int.zero_add,Int.add_zero,Nat.add_zero,Nat.zero_add,Bool.true_and,Bool.and_true,Bool.false_and,Bool.and_false,Bool.true_or,Bool.or_true,Bool.false_or,Bool.or_false,Bool.not_true,Bool.not_false,Bool.false_eq_true,Bool.true_eq_false,reduceCtorEq,not_true_eq_false,not_false_eq_true,if_true,if_false,decide_true,decide_false]; rw [show (a:Int) + 1=((a + 1:Nat):Int) from rfl,KT hs a BIG (a + 1) [] (by unfold BIG; omega) (by omega) (by omega) (by simp)]; rw [show a + 1 - a=1 from by omega]
theorem Qo {s:Str} (hs:s.length≤2147483648) (a:Nat):∀ (k i:Nat) (b:Str),s.length < k + i→i≤s.length→a≤i→b.length≤i→
  tY s (a:Int) k b (i:Int)=some (U4 (txt 0 b (i - a) (s.drop i)))
 | 0,i,b,h,h',_,_=>by omega
 | k + 1,i,b,h,h',ha,hb=>by
  rw [tY]; by_cases hi:i < s.length
  ·
   rw [getD_drop hi,Ke]; simp (disch:=omega) only [dflt,bg,bq,bW,bf,bA,if_pos,if_neg,ak,aC,aB,aG,aH,aK,aJ,aI,decide_eq_true_eq,beq_iff_eq,bne_iff_ne,ne_eq,Bool.and_eq_true,Bool.or_eq_true,Bool.not_eq_true',Bool.not_eq_true,decide_eq_false_iff_not,beq_eq_false_iff_ne,bne_eq_false_iff_eq,Int.toNat_add,Int.toNat_natCast,Int.reduceToNat,Int.zero_add,Int.add_zero,Nat.add_zero,Nat.zero_add,Bool.true_and,Bool.and_true,Bool.false_and,Bool.and_false,Bool.true_or,Bool.or_true,Bool.false_or,Bool.or_false,Bool.not_true,Bool.not_false,Bool.false_eq_true,Bool.true_eq_false,reduceCtorEq,not_true_eq_false,not_false_eq_true,if_true,if_false,decide_true,decide_false]; have hd:=getD_drop hi; by_cases NI:(s.getD i 0).toNat=34
   ·
    simp (disch:=omega) only [bg,bq,bW,bf,bA,if_pos,if_neg,ak,aC,aB,aG,aH,aK,aJ,aI,decide_eq_true_eq,beq_iff_eq,bne_iff_ne,ne_eq,Bool.and_eq_true,Bool.or_eq_true,Bool.not_eq_true',Bool.not_eq_true,decide_eq_false_iff_not,beq_eq_false_iff_ne,bne_eq_false_iff_eq,Int.toNat_add,Int.toNat_natCast,Int.reduceToNat,Int.zero_add,Int.add_zero,Nat.add_zero,Nat.zero_add,Bool.true_and,Bool.and_true,Bool.false_and,Bool.and_false,Bool.true_or,Bool.or_true,Bool.false_or,Bool.or_false,Bool.not_true,Bool.not_false,Bool.false_eq_true,Bool.true_eq_false,reduceCtorEq,not_true_eq_false,not_false_eq_true,if_true,if_false,decide_true,decide_false]; by_cases hl:4096 < b.length
    · simp (disch:=omega) only [bg,bq,bW,bf,bA,if_pos,if_neg,ak,aC,aB,aG,aH,aK,aJ,aI,decide_eq_true_eq,beq_iff_eq,bne_iff_ne,ne_eq,Bool.and_eq_true,Bool.or_eq_true,Bool.not_eq_true',Bool.not_eq_true,decide_eq_false_iff_not,beq_eq_false_iff_ne,bne_eq_false_iff_eq,Int.toNat_add,Int.toNat_natCast,Int.reduceToNat,Int.zero_add,Int.add_zero,Nat.add_zero,Nat.zero_add,Bool.true_and,Bool.and_true,Bool.false_and,Bool.and_false,Bool.true_or,Bool.or_true,Bool.false_or,Bool.or_false,Bool.not_true,Bool.not_false,Bool.false_eq_true,Bool.true_eq_false,reduceCtorEq,not_true_eq_false,not_false_eq_true,if_true,if_false,decide_true,decide_false]; rfl
    · simp (disch:=omega) only [bg,bq,bW,bf,bA,if_pos,if_neg,ak,aC,aB,aG,aH,aK,aJ,aI,decide_eq_true_eq,beq_iff_eq,bne_iff_ne,ne_eq,Bool.and_eq_true,Bool.or_eq_true,Bool.not_eq_true',Bool.not_eq_true,decide_eq_false_iff_not,beq_eq_false_iff_ne,bne_eq_false_iff_eq,Int.toNat_add,Int.toNat_natCast,Int.reduceToNat,Int.zero_add,Int.add_zero,Nat.add_zero,Nat.zero_add,Bool.true_and,Bool.and_true,Bool.false_and,Bool.and_false,Bool.true_or,Bool.or_true,Bool.false_or,Bool.or_false,Bool.not_true,Bool.not_false,Bool.false_eq_true,Bool.true_eq_false,reduceCtorEq,not_true_eq_false,not_false_eq_true,if_true,if_false,decide_true,decide_false]; simp only [U4,if_true]; congr 3; omega
   ·
    simp (disch:=omega) only [Y6 (by omega) hi,bg,bq,bW,bf,bA,if_pos,if_neg,ak,aC,aB,aG,aH,aK,aJ,aI,decide_eq_true_eq,beq_iff_eq,bne_iff_ne,ne_eq,Bool.and_eq_true,Bool.or_eq_true,Bool.not_eq_true',Bool.not_eq_true,decide_eq_false_iff_not,beq_eq_false_iff_ne,bne_eq_false_iff_eq,Int.toNat_add,Int.toNat_natCast,Int.reduceToNat,Int.zero_add,Int.add_zero,Nat.add_zero,Nat.zero_add,Bool.true_and,Bool.and_true,Bool.false_and,Bool.and_false,Bool.true_or,Bool.or_true,Bool.false_or,Bool.or_false,Bool.not_true,Bool.not_false,Bool.false_eq_true,Bool.true_eq_false,reduceCtorEq,not_true_eq_false,not_false_eq_true,if_true,if_false,decide_true,decide_false]; rw [←hd]; by_cases he:(chr (s.drop i)).2.2=0
    ·
     obtain ⟨n1,n2⟩:=UF he; rw [List.length_drop] at n2; have happ:app b [(chr (s.drop i)).1]=some (b ++ [(chr (s.drop i)).1]):=bf (by simp [Fy]; omega); simp (disch:=omega) only [he,happ,bg,bq,bW,bf,bA,if_pos,if_neg,ak,aC,aB,aG,aH,aK,aJ,aI,decide_eq_true_eq,beq_iff_eq,bne_iff_ne,ne_eq,Bool.and_eq_true,Bool.or_eq_true,Bool.not_eq_true',Bool.not_eq_true,decide_eq_false_iff_not,beq_eq_false_iff_ne,bne_eq_false_iff_eq,Int.toNat_add,Int.toNat_natCast,Int.reduceToNat,Int.zero_add,Int.add_zero,Nat.add_zero,Nat.zero_add,Bool.true_and,Bool.and_true,Bool.false_and,Bool.and_false,Bool.true_or,Bool.or_true,Bool.false_or,Bool.or_false,Bool.not_true,Bool.not_false,Bool.false_eq_true,Bool.true_eq_false,reduceCtorEq,not_true_eq_false,not_false_eq_true,if_true,if_false,decide_true,decide_false]; rw [show (i:Int) + ((chr (s.drop i)).2.1:Int)=((i + (chr (s.drop i)).2.1:Nat):Int) from by omega]; rw [Qo hs a k (i + (chr (s.drop i)).2.1) _ (by omega) (by omega) (by omega) (by simp; omega)]; rw [List.drop_drop]; congr 4; omega
    ·
     simp (disch:=omega) only [he,bg,bq,bW,bf,bA,if_pos,if_neg,ak,aC,aB,aG,aH,aK,aJ,aI,decide_eq_true_eq,beq_iff_eq,bne_iff_ne,ne_eq,Bool.and_eq_true,Bool.or_eq_true,Bool.not_eq_true',Bool.not_eq_true,decide_eq_false_iff_not,beq_eq_false_iff_ne,bne_eq_false_iff_eq,Int.toNat_add,Int.toNat_natCast,Int.reduceToNat,Int.zero_add,Int.add_zero,Nat.add_zero,Nat.zero_add,Bool.true_and,Bool.and_true,Bool.false_and,Bool.and_false,Bool.true_or,Bool.or_true,Bool.false_or,Bool.or_false,Bool.not_true,Bool.not_false,Bool.false_eq_true,Bool.true_eq_false,reduceCtorEq,not_true_eq_false,not_false_eq_true,if_true,if_false,decide_true,decide_false]; simp [U4,he]
  ·
   have e:i=s.length:=by omega
   rw [e]; simp (disch:=omega) only [bg,bq,bW,bf,bA,if_pos,if_neg,ak,aC,aB,aG,aH,aK,aJ,aI,decide_eq_true_eq,beq_iff_eq,bne_iff_ne,ne_eq,Bool.and_eq_true,Bool.or_eq_true,Bool.not_eq_true',Bool.not_eq_true,decide_eq_false_iff_not,beq_eq_false_iff_ne,bne_eq_false_iff_eq,Int.toNat_add,Int.toNat_natCast,Int.reduceToNat,Int.zero_add,Int.add_zero,Nat.add_zero,Nat.zero_add,Bool.true_and,Bool.and_true,Bool.false_and,Bool.and_false,Bool.true_or,Bool.or_true,Bool.false_or,Bool.or_false,Bool.not_true,Bool.not_false,Bool.false_eq_true,Bool.true_eq_false,reduceCtorEq,not_true_eq_false,not_false_eq_true,if_true,if_false,decide_true,decide_false]; simp [txt,U4]
theorem WW {s:Str} (hs:s.length≤2147483648) {a:Nat} (h:a < s.length):Dh s (a:Int)=some (U4 (txt 0 [] 1 (s.drop (a + 1)))):=by
 unfold Dh; simp (disch:=omega) only [bg,bq,bW,bf,bA,if_pos,if_neg,ak,aC,aB,aG,aH,aK,aJ,aI,decide_eq_true_eq,beq_iff_eq,bne_iff_ne,ne_eq,Bool.and_eq_true,Bool.or_eq_true,Bool.not_eq_true',Bool.not_eq_true,decide_eq_false_iff_not,beq_eq_false_iff_ne,bne_eq_false_iff_eq,Int.toNat_add,Int.toNat_natCast,Int.reduceToNat,Int.zero_add,Int.add_zero,Nat.add_zero,Nat.zero_add,Bool.true_and,Bool.and_true,Bool.false_and,Bool.and_false,Bool.true_or,Bool.or_true,Bool.false_or,Bool.or_false,Bool.not_true,Bool.not_false,Bool.false_eq_true,Bool.true_eq_false,reduceCtorEq,not_true_eq_false,not_false_eq_true,if_true,if_false,decide_true,decide_false]; rw [show (a:Int) + 1=((a + 1:Nat):Int) from rfl,Qo hs a BIG (a + 1) [] (by unfold BIG; omega) (by omega) (by omega) (by simp)]; rw [show a + 1 - a=1 from by omega]
def val (l:Str):Nat:=l.foldl (fun n c=>10 * n + (c.toNat - 48)) 0
def Ao :Nat:=9007199254740992
theorem Wv (l:Str):∀ n:Nat,n≤l.foldl (fun n (c:UInt8)=>10 * n + (c.toNat - 48)) n:=by
 induction l with
 | nil=>intro n; simp
 | cons c l ih=>intro n; simp only [List.foldl_cons]; exact Nat.le_trans (by omega) (ih _)
theorem QS {s:Str} (hs:s.length≤2147483648) (hd:∀ c∈s,isDigit c=true):∀ (k i n:Nat),s.length < k + i→i≤s.length→n≤10 * Ao + 9→
  oM s k (n:Int) (i:Int)=some (decide (Ao < (s.drop i).foldl (fun n (c:UInt8)=>10 * n + (c.toNat - 48)) n))
 | 0,i,n,h,h',_=>by omega
 | k + 1,i,n,h,h',hn=>by
  unfold Ao at hn; rw [oM]; by_cases hi:i < s.length
  ·
   have hdi:=hd s[i] (List.getElem_mem hi); rw [nO] at hdi; have e:=getD_drop hi; have e0:s.getD i 0=s[i]:=by rw [List.getD_eq_getElem?_getD,List.getElem?_eq_getElem hi,Option.getD_some]
   by_cases hm:n≤9007199254740992
   ·
    simp (disch:=omega) only [dflt,bg,bq,bW,bf,bA,if_pos,if_neg,ak,aC,aB,aG,aH,aK,aJ,aI,decide_eq_true_eq,beq_iff_eq,bne_iff_ne,ne_eq,Bool.and_eq_true,Bool.or_eq_true,Bool.not_eq_true',Bool.not_eq_true,decide_eq_false_iff_not,beq_eq_false_iff_ne,bne_eq_false_iff_eq,Int.toNat_add,Int.toNat_natCast,Int.reduceToNat,Int.zero_add,Int.add_zero,Nat.add_zero,Nat.zero_add,Bool.true_and,Bool.and_true,Bool.false_and,Bool.and_false,Bool.true_or,Bool.or_true,Bool.false_or,Bool.or_false,Bool.not_true,Bool.not_false,Bool.false_eq_true,Bool.true_eq_false,reduceCtorEq,not_true_eq_false,not_false_eq_true,if_true,if_false,decide_true,decide_false]; rw [e,e0,JC (by simpa using hdi.1)]; have h48:(48:UInt8).toNat=48:=rfl; rw [h48]; simp (disch:=omega) only [bg,bq,bW,bf,bA,if_pos,if_neg,ak,aC,aB,aG,aH,aK,aJ,aI,decide_eq_true_eq,beq_iff_eq,bne_iff_ne,ne_eq,Bool.and_eq_true,Bool.or_eq_true,Bool.not_eq_true',Bool.not_eq_true,decide_eq_false_iff_not,beq_eq_false_iff_ne,bne_eq_false_iff_eq,Int.toNat_add,Int.toNat_natCast,Int.reduceToNat,Int.zero_add,Int.add_zero,Nat.add_zero,Nat.zero_add,Bool.true_and,Bool.and_true,Bool.false_and,Bool.and_false,Bool.true_or,Bool.or_true,Bool.false_or,Bool.or_false,Bool.not_true,Bool.not_false,Bool.false_eq_true,Bool.true_eq_false,reduceCtorEq,not_true_eq_false,not_false_eq_true,if_true,if_false,decide_true,decide_false]; rw [show 10 * (n:Int) + ((s[i].toNat - 48:Nat):Int)=((10 * n + (s[i].toNat - 48):Nat):Int) from by omega,show (i:Int) + 1=((i + 1:Nat):Int) from rfl]; rw [QS hs hd k (i + 1) _ (by omega) (by omega) (by unfold Ao; omega)]
    rw [List.foldl_cons]
   ·
    simp (disch:=omega) only [bg,bq,bW,bf,bA,if_pos,if_neg,ak,aC,aB,aG,aH,aK,aJ,aI,decide_eq_true_eq,beq_iff_eq,bne_iff_ne,ne_eq,Bool.and_eq_true,Bool.or_eq_true,Bool.not_eq_true',Bool.not_eq_true,decide_eq_false_iff_not,beq_eq_false_iff_ne,bne_eq_false_iff_eq,Int.toNat_add,Int.toNat_natCast,Int.reduceToNat,Int.zero_add,Int.add_zero,Nat.add_zero,Nat.zero_add,Bool.true_and,Bool.and_true,Bool.false_and,Bool.and_false,Bool.true_or,Bool.or_true,Bool.false_or,Bool.or_false,Bool.not_true,Bool.not_false,Bool.false_eq_true,Bool.true_eq_false,reduceCtorEq,not_true_eq_false,not_false_eq_true,if_true,if_false,decide_true,decide_false]; have:=Wv (s.drop i) n; have h2:Ao < (s.drop i).foldl (fun n (c:UInt8)=>10 * n + (c.toNat - 48)) n:=by unfold Ao; omega
    simp [h2]; omega
  ·
   have e:i=s.length:=by omega
   rw [e]; simp (disch:=omega) only [bg,bq,bW,bf,bA,if_pos,if_neg,ak,aC,aB,aG,aH,aK,aJ,aI,decide_eq_true_eq,beq_iff_eq,bne_iff_ne,ne_eq,Bool.and_eq_true,Bool.or_eq_true,Bool.not_eq_true',Bool.not_eq_true,decide_eq_false_iff_not,beq_eq_false_iff_ne,bne_eq_false_iff_eq,Int.toNat_add,Int.toNat_natCast,Int.reduceToNat,Int.zero_add,Int.add_zero,Nat.add_zero,Nat.zero_add,Bool.true_and,Bool.and_true,Bool.false_and,Bool.and_false,Bool.true_or,Bool.or_true,Bool.false_or,Bool.or_false,Bool.not_true,Bool.not_false,Bool.false_eq_true,Bool.true_eq_false,reduceCtorEq,not_true_eq_false,not_false_eq_true,if_true,if_false,decide_true,decide_false]; simp [Ao]; omega
theorem XG {s:Str} (hs:s.length≤2147483648) (hd:∀ c∈s,isDigit c=true):zO s=some (decide (Ao < val s)):=by
 have:=QS hs hd BIG 0 0 (by unfold BIG; omega) (by omega) (by omega); rw [List.drop_zero] at this; exact this
theorem VA (l:Str):∀ n:Nat,n * 10 ^ l.length≤l.foldl (fun n (c:UInt8)=>10 * n + (c.toNat - 48)) n:=by
 induction l with
 | nil=>intro n; simp
 | cons c l ih=>
  intro n; simp only [List.foldl_cons,List.length_cons]; refine Nat.le_trans ?_ (ih _); rw [Nat.pow_succ,←Nat.mul_assoc,Nat.mul_right_comm]; exact Nat.mul_le_mul_right _ (by omega)
theorem Wu {c:UInt8} {l:Str} (hc:isDigit c=true) (h0:c.toNat≠48) (hl:16≤l.length):Ao < val (c :: l):=by
 rw [nO] at hc; have h1:=VA l (c.toNat - 48); have h2:10 ^ 16≤10 ^ l.length:=Nat.pow_le_pow_right (by omega) hl; have h3:10 ^ l.length≤(c.toNat - 48) * 10 ^ l.length:=Nat.le_mul_of_pos_left _ (by omega); have h4:val (c :: l)=l.foldl (fun n (c:UInt8)=>10 * n + (c.toNat - 48)) (c.toNat - 48):=by simp [val]
 rw [h4]; have h5:Ao < 10 ^ 16:=by decide
 omega
theorem Ui {s:Str} (hs:s.length≤16) (hd:∀ c∈s,isDigit c=true):∀ (k i n:Nat),s.length < k + i→i≤s.length→n < 10 ^ i→
  qK s k (n:Int) (i:Int)=some ((((s.drop i).foldl (fun n (c:UInt8)=>10 * n + (c.toNat - 48)) n:Nat):Int),decide ((s.drop i).foldl (fun n (c:UInt8)=>10 * n + (c.toNat - 48)) n≤Ao))
 | 0,i,n,h,h',_=>by omega
 | k + 1,i,n,h,h',hn=>by
  have h16:10 ^ i≤10 ^ 16:=Nat.pow_le_pow_right (by omega) (by omega); have hp:10 ^ 16=10000000000000000:=by decide
  rw [qK]; by_cases hi:i < s.length
  ·
   have hdi:=hd s[i] (List.getElem_mem hi); have hdj:=hdi; rw [nO] at hdj; have e:=getD_drop hi; have e0:s.getD i 0=s[i]:=by rw [List.getD_eq_getElem?_getD,List.getElem?_eq_getElem hi,Option.getD_some]
   rw [e,e0]; simp (disch:=omega) only [dflt,e0,Ay,hdi,bg,bq,bW,bf,bA,if_pos,if_neg,ak,aC,aB,aG,aH,aK,aJ,aI,decide_eq_true_eq,beq_iff_eq,bne_iff_ne,ne_eq,Bool.and_eq_true,Bool.or_eq_true,Bool.not_eq_true',Bool.not_eq_true,decide_eq_false_iff_not,beq_eq_false_iff_ne,bne_eq_false_iff_eq,Int.toNat_add,Int.toNat_natCast,Int.reduceToNat,Int.zero_add,Int.add_zero,Nat.add_zero,Nat.zero_add,Bool.true_and,Bool.and_true,Bool.false_and,Bool.and_false,Bool.true_or,Bool.or_true,Bool.false_or,Bool.or_false,Bool.not_true,Bool.not_false,Bool.false_eq_true,Bool.true_eq_false,reduceCtorEq,not_true_eq_false,not_false_eq_true,if_true,if_false,decide_true,decide_false]; rw [show 10 * (n:Int) + (s[i].toNat:Int) - 48=((10 * n + (s[i].toNat - 48):Nat):Int) from by omega,show (i:Int) + 1=((i + 1:Nat):Int) from rfl]; rw [Ui hs hd k (i + 1) _ (by omega) (by omega) (by rw [Nat.pow_succ]; omega)]; rw [List.foldl_cons]
  ·
   have e:i=s.length:=by omega
   rw [e]; simp (disch:=omega) only [bg,bq,bW,bf,bA,if_pos,if_neg,ak,aC,aB,aG,aH,aK,aJ,aI,decide_eq_true_eq,beq_iff_eq,bne_iff_ne,ne_eq,Bool.and_eq_true,Bool.or_eq_true,Bool.not_eq_true',Bool.not_eq_true,decide_eq_false_iff_not,beq_eq_false_iff_ne,bne_eq_false_iff_eq,Int.toNat_add,Int.toNat_natCast,Int.reduceToNat,Int.zero_add,Int.add_zero,Nat.add_zero,Nat.zero_add,Bool.true_and,Bool.and_true,Bool.false_and,Bool.and_false,Bool.true_or,Bool.or_true,Bool.false_or,Bool.or_false,Bool.not_true,Bool.not_false,Bool.false_eq_true,Bool.true_eq_false,reduceCtorEq,not_true_eq_false,not_false_eq_true,if_true,if_false,decide_true,decide_false]; simp [Ao]; omega
theorem Y8 {s:Str} (hd:∀ c∈s,isDigit c=true) (hne:s≠[]):wh s=if 16 < s.length∨(1 < s.length∧(s.getD 0 0).toNat=48) then some (0,false) else some ((val s:Int),decide (val s≤Ao)):=by
 unfold wh; have hb:(s == ([]:Str))=false:=by simpa using hne
 by_cases h1:16 < s.length
 ·
  have:decide ((16:Int) < (s.length:Int))=true:=by simp; omega
  rw [if_pos (show 16 < s.length∨(1 < s.length∧(s.getD 0 0).toNat=48) from .inl h1),hb,this]; rfl
 ·
  have h1':decide ((16:Int) < (s.length:Int))=false:=by simp; omega
  have hz:=Ui (s:=s) (by omega) hd BIG 0 0 (by unfold BIG; omega) (by omega) (by simp); by_cases h2:1 < s.length
  ·
   by_cases h3:(s.getD 0 0).toNat=48
   ·
    rw [if_pos (show 16 < s.length∨(1 < s.length∧(s.getD 0 0).toNat=48) from .inr ⟨h2,h3⟩),hb,h1']; simp (disch:=omega) only [dflt,bg,bq,bW,bf,bA,if_pos,if_neg,ak,aC,aB,aG,aH,aK,aJ,aI,decide_eq_true_eq,beq_iff_eq,bne_iff_ne,ne_eq,Bool.and_eq_true,Bool.or_eq_true,Bool.not_eq_true',Bool.not_eq_true,decide_eq_false_iff_not,beq_eq_false_iff_ne,bne_eq_false_iff_eq,Int.toNat_add,Int.toNat_natCast,Int.reduceToNat,Int.zero_add,Int.add_zero,Nat.add_zero,Nat.zero_add,Bool.true_and,Bool.and_true,Bool.false_and,Bool.and_false,Bool.true_or,Bool.or_true,Bool.false_or,Bool.or_false,Bool.not_true,Bool.not_false,Bool.false_eq_true,Bool.true_eq_false,reduceCtorEq,not_true_eq_false,not_false_eq_true,if_true,if_false,decide_true,decide_false]
   ·
    rw [if_neg (show ¬ (16 < s.length∨(1 < s.length∧(s.getD 0 0).toNat=48)) from by omega),hb,h1']; simp (disch:=omega) only [dflt,bg,bq,bW,bf,bA,if_pos,if_neg,ak,aC,aB,aG,aH,aK,aJ,aI,decide_eq_true_eq,beq_iff_eq,bne_iff_ne,ne_eq,Bool.and_eq_true,Bool.or_eq_true,Bool.not_eq_true',Bool.not_eq_true,decide_eq_false_iff_not,beq_eq_false_iff_ne,bne_eq_false_iff_eq,Int.toNat_add,Int.toNat_natCast,Int.reduceToNat,Int.zero_add,Int.add_zero,Nat.add_zero,Nat.zero_add,Bool.true_and,Bool.and_true,Bool.false_and,Bool.and_false,Bool.true_or,Bool.or_true,Bool.false_or,Bool.or_false,Bool.not_true,Bool.not_false,Bool.false_eq_true,Bool.true_eq_false,reduceCtorEq,not_true_eq_false,not_false_eq_true,if_true,if_false,decide_true,decide_false]; exact hz
  ·
   rw [if_neg (show ¬ (16 < s.length∨(1 < s.length∧(s.getD 0 0).toNat=48)) from by omega),hb,h1']; simp (disch:=omega) only [bg,bq,bW,bf,bA,if_pos,if_neg,ak,aC,aB,aG,aH,aK,aJ,aI,decide_eq_true_eq,beq_iff_eq,bne_iff_ne,ne_eq,Bool.and_eq_true,Bool.or_eq_true,Bool.not_eq_true',Bool.not_eq_true,decide_eq_false_iff_not,beq_eq_false_iff_ne,bne_eq_false_iff_eq,Int.toNat_add,Int.toNat_natCast,Int.reduceToNat,Int.zero_add,Int.add_zero,Nat.add_zero,Nat.zero_add,Bool.true_and,Bool.and_true,Bool.false_and,Bool.and_false,Bool.true_or,Bool.or_true,Bool.false_or,Bool.or_false,Bool.not_true,Bool.not_false,Bool.false_eq_true,Bool.true_eq_false,reduceCtorEq,not_true_eq_false,not_false_eq_true,if_true,if_false,decide_true,decide_false]; exact hz
end Go.Ft
namespace Go.Ft
open Go
def zw (s:Str):Bool:=((s == ([124,124]:Str)) || ((s == ([38,38]:Str)) || ((s == ([61,61]:Str)) || ((s == ([33,61]:Str)) || ((s == ([60,61]:Str)) || ((s == ([62,61]:Str)) || ((s == ([60]:Str)) || ((s == ([62]:Str)) || ((s == ([43]:Str)) || ((s == ([45]:Str)) || ((s == ([42]:Str)) || ((s == ([47]:Str)) || ((s == ([37]:Str)) || ((s == ([33]:Str)) || ((s == ([63]:Str)) || ((s == ([58]:Str)) || ((s == ([46]:Str)) || ((s == ([44]:Str)) || ((s == ([61]:Str)) || ((s == ([40]:Str)) || ((s == ([41]:Str)) || ((s == ([91]:Str)) || ((s == ([93]:Str)) || ((s == ([123]:Str)) || (s == ([125]:Str))))))))))))))))))))))))))
theorem SH {α:Type} (p q:Bool) (x y:α):(if (p || q)=true then x else y)=if p=true then x else if q=true then x else y:=by cases p <;> simp
theorem KU (s:Str) (a:Int) (k:Nat) (x:Int):jf s a (k + 1) x=if decide (x < (([2,1]:List Int).length:Int)) then
   aA (idx ([2,1]:List Int) x) fun n1=>
   if decide ((s.length:Int) < (bI (a + n1))) then jf s a k (bI (x + 1))
   else aA (sl s a (bI (a + n1))) fun s1=>if zw s1 then some ((au.mk 4 s1 a),(bI (a + n1)),0) else jf s a k (bI (x + 1))
  else some ((au.mk 0 ([]:Str) 0),0,5):=by
 have key:∀ (s1:Str) (x y:Option (au × Int × Int)),(if zw s1=true then x else y)=_:=fun s1 x y=>by unfold zw; simp only [SH]; rfl
 rw [jf]; congr 1; congr 1; funext n1; congr 1; congr 1; funext s1; exact (key s1 _ _).symm
attribute [local congr] iH
def opn :Str→Nat
 | a :: b :: _=>if zw [a,b] then 2 else if zw [a] then 1 else 0
 | [a]=>if zw [a] then 1 else 0
 | []=>0
theorem Kh {s:Str} {i:Nat} (h:i + 1 < s.length):(s.take (i + 2)).drop i=[s.getD i 0,s.getD (i + 1) 0]:=by
 rw [List.drop_take,getD_drop (by omega),getD_drop h]; rw [show i + 2 - i=2 from by omega]; rfl
theorem Ki {s:Str} {i:Nat} (h:i < s.length):(s.take (i + 1)).drop i=[s.getD i 0]:=by
 rw [List.drop_take,getD_drop h]; rw [show i + 1 - i=1 from by omega]; rfl
theorem abn {s:Str} (hs:s.length≤2147483648) {i:Nat} (h:i < s.length):qO s (i:Int)=
  some (if opn (s.drop i)=0 then (⟨0,[],0⟩,0,5) else (⟨4,(s.drop i).take (opn (s.drop i)),i⟩,((i + opn (s.drop i):Nat):Int),0)):=by
 unfold qO; obtain ⟨m,hm⟩:∃ m,BIG=m + 3:=⟨BIG - 3,rfl⟩; rw [hm,KU,KU,KU]; have e0:idx ([2,1]:List Int) 0=some 2:=rfl; have e1:idx ([2,1]:List Int) 1=some 1:=rfl; have el:(([2,1]:List Int).length:Int)=2:=rfl; rw [el]; by_cases h2:i + 1 < s.length
 ·
  rw [getD_drop h,getD_drop h2]; simp (disch:=omega) only [e0,e1,bg,bq,bW,bf,bA,if_pos,if_neg,ak,aC,aB,aG,aH,aK,aJ,aI,decide_eq_true_eq,beq_iff_eq,bne_iff_ne,ne_eq,Bool.and_eq_true,Bool.or_eq_true,Bool.not_eq_true',Bool.not_eq_true,decide_eq_false_iff_not,beq_eq_false_iff_ne,bne_eq_false_iff_eq,Int.toNat_add,Int.toNat_natCast,Int.reduceToNat,Int.zero_add,Int.add_zero,Nat.add_zero,Nat.zero_add,Bool.true_and,Bool.and_true,Bool.false_and,Bool.and_false,Bool.true_or,Bool.or_true,Bool.false_or,Bool.or_false,Bool.not_true,Bool.not_false,Bool.false_eq_true,Bool.true_eq_false,reduceCtorEq,not_true_eq_false,not_false_eq_true,if_true,if_false,decide_true,decide_false]; rw [Kh h2]; unfold opn; cases h3:zw [s.getD i 0,s.getD (i + 1) 0] with
  | true=>simp (disch:=omega) only [h3,bg,bq,bW,bf,bA,if_pos,if_neg,ak,aC,aB,aG,aH,aK,aJ,aI,decide_eq_true_eq,beq_iff_eq,bne_iff_ne,ne_eq,Bool.and_eq_true,Bool.or_eq_true,Bool.not_eq_true',Bool.not_eq_true,decide_eq_false_iff_not,beq_eq_false_iff_ne,bne_eq_false_iff_eq,Int.toNat_add,Int.toNat_natCast,Int.reduceToNat,Int.zero_add,Int.add_zero,Nat.add_zero,Nat.zero_add,Bool.true_and,Bool.and_true,Bool.false_and,Bool.and_false,Bool.true_or,Bool.or_true,Bool.false_or,Bool.or_false,Bool.not_true,Bool.not_false,Bool.false_eq_true,Bool.true_eq_false,reduceCtorEq,not_true_eq_false,not_false_eq_true,if_true,if_false,decide_true,decide_false]; rfl
  | false=>
   simp (disch:=omega) only [h3,bg,bq,bW,bf,bA,if_pos,if_neg,ak,aC,aB,aG,aH,aK,aJ,aI,decide_eq_true_eq,beq_iff_eq,bne_iff_ne,ne_eq,Bool.and_eq_true,Bool.or_eq_true,Bool.not_eq_true',Bool.not_eq_true,decide_eq_false_iff_not,beq_eq_false_iff_ne,bne_eq_false_iff_eq,Int.toNat_add,Int.toNat_natCast,Int.reduceToNat,Int.zero_add,Int.add_zero,Nat.add_zero,Nat.zero_add,Bool.true_and,Bool.and_true,Bool.false_and,Bool.and_false,Bool.true_or,Bool.or_true,Bool.false_or,Bool.or_false,Bool.not_true,Bool.not_false,Bool.false_eq_true,Bool.true_eq_false,reduceCtorEq,not_true_eq_false,not_false_eq_true,if_true,if_false,decide_true,decide_false]; rw [Ki h]; cases h4:zw [s.getD i 0] with
   | true=>simp (disch:=omega) only [h3,h4,bg,bq,bW,bf,bA,if_pos,if_neg,ak,aC,aB,aG,aH,aK,aJ,aI,decide_eq_true_eq,beq_iff_eq,bne_iff_ne,ne_eq,Bool.and_eq_true,Bool.or_eq_true,Bool.not_eq_true',Bool.not_eq_true,decide_eq_false_iff_not,beq_eq_false_iff_ne,bne_eq_false_iff_eq,Int.toNat_add,Int.toNat_natCast,Int.reduceToNat,Int.zero_add,Int.add_zero,Nat.add_zero,Nat.zero_add,Bool.true_and,Bool.and_true,Bool.false_and,Bool.and_false,Bool.true_or,Bool.or_true,Bool.false_or,Bool.or_false,Bool.not_true,Bool.not_false,Bool.false_eq_true,Bool.true_eq_false,reduceCtorEq,not_true_eq_false,not_false_eq_true,if_true,if_false,decide_true,decide_false]; rfl
   | false=>simp (disch:=omega) only [h3,h4,bg,bq,bW,bf,bA,if_pos,if_neg,ak,aC,aB,aG,aH,aK,aJ,aI,decide_eq_true_eq,beq_iff_eq,bne_iff_ne,ne_eq,Bool.and_eq_true,Bool.or_eq_true,Bool.not_eq_true',Bool.not_eq_true,decide_eq_false_iff_not,beq_eq_false_iff_ne,bne_eq_false_iff_eq,Int.toNat_add,Int.toNat_natCast,Int.reduceToNat,Int.zero_add,Int.add_zero,Nat.add_zero,Nat.zero_add,Bool.true_and,Bool.and_true,Bool.false_and,Bool.and_false,Bool.true_or,Bool.or_true,Bool.false_or,Bool.or_false,Bool.not_true,Bool.not_false,Bool.false_eq_true,Bool.true_eq_false,reduceCtorEq,not_true_eq_false,not_false_eq_true,if_true,if_false,decide_true,decide_false]
 ·
  rw [getD_drop h,List.drop_eq_nil_of_le (by omega:s.length≤i + 1)]; simp (disch:=omega) only [e0,e1,bg,bq,bW,bf,bA,if_pos,if_neg,ak,aC,aB,aG,aH,aK,aJ,aI,decide_eq_true_eq,beq_iff_eq,bne_iff_ne,ne_eq,Bool.and_eq_true,Bool.or_eq_true,Bool.not_eq_true',Bool.not_eq_true,decide_eq_false_iff_not,beq_eq_false_iff_ne,bne_eq_false_iff_eq,Int.toNat_add,Int.toNat_natCast,Int.reduceToNat,Int.zero_add,Int.add_zero,Nat.add_zero,Nat.zero_add,Bool.true_and,Bool.and_true,Bool.false_and,Bool.and_false,Bool.true_or,Bool.or_true,Bool.false_or,Bool.or_false,Bool.not_true,Bool.not_false,Bool.false_eq_true,Bool.true_eq_false,reduceCtorEq,not_true_eq_false,not_false_eq_true,if_true,if_false,decide_true,decide_false]; rw [Ki h]; unfold opn; cases h4:zw [s.getD i 0] with
  | true=>simp (disch:=omega) only [h4,bg,bq,bW,bf,bA,if_pos,if_neg,ak,aC,aB,aG,aH,aK,aJ,aI,decide_eq_true_eq,beq_iff_eq,bne_iff_ne,ne_eq,Bool.and_eq_true,Bool.or_eq_true,Bool.not_eq_true',Bool.not_eq_true,decide_eq_false_iff_not,beq_eq_false_iff_ne,bne_eq_false_iff_eq,Int.toNat_add,Int.toNat_natCast,Int.reduceToNat,Int.zero_add,Int.add_zero,Nat.add_zero,Nat.zero_add,Bool.true_and,Bool.and_true,Bool.false_and,Bool.and_false,Bool.true_or,Bool.or_true,Bool.false_or,Bool.or_false,Bool.not_true,Bool.not_false,Bool.false_eq_true,Bool.true_eq_false,reduceCtorEq,not_true_eq_false,not_false_eq_true,if_true,if_false,decide_true,decide_false]; rfl
  | false=>simp (disch:=omega) only [h4,bg,bq,bW,bf,bA,if_pos,if_neg,ak,aC,aB,aG,aH,aK,aJ,aI,decide_eq_true_eq,beq_iff_eq,bne_iff_ne,ne_eq,Bool.and_eq_true,Bool.or_eq_true,Bool.not_eq_true',Bool.not_eq_true,decide_eq_false_iff_not,beq_eq_false_iff_ne,bne_eq_false_iff_eq,Int.toNat_add,Int.toNat_natCast,Int.reduceToNat,Int.zero_add,Int.add_zero,Nat.add_zero,Nat.zero_add,Bool.true_and,Bool.and_true,Bool.false_and,Bool.and_false,Bool.true_or,Bool.or_true,Bool.false_or,Bool.or_false,Bool.not_true,Bool.not_false,Bool.false_eq_true,Bool.true_eq_false,reduceCtorEq,not_true_eq_false,not_false_eq_true,if_true,if_false,decide_true,decide_false]
theorem acu (s:Str) (a:Int):∀ k:Nat,gJ s a (k + 20) 0=aA (idx s a) fun c=>if zw [c] then some 1 else some 0:=by
 intro k; have d0:idx ([60,62,43,45,42,47,37,33,63,58,46,44,61,40,41,91,93,123,125]:Str) 0=some 60:=rfl; have d1:idx ([60,62,43,45,42,47,37,33,63,58,46,44,61,40,41,91,93,123,125]:Str) 1=some 62:=rfl; have d2:idx ([60,62,43,45,42,47,37,33,63,58,46,44,61,40,41,91,93,123,125]:Str) 2=some 43:=rfl; have d3:idx ([60,62,43,45,42,47,37,33,63,58,46,44,61,40,41,91,93,123,125]:Str) 3=some 45:=rfl; have d4:idx ([60,62,43,45,42,47,37,33,63,58,46,44,61,40,41,91,93,123,125]:Str) 4=some 42:=rfl; have d5:idx ([60,62,43,45,42,47,37,33,63,58,46,44,61,40,41,91,93,123,125]:Str) 5=some 47:=rfl; have d6:idx ([60,62,43,45,42,47,37,33,63,58,46,44,61,40,41,91,93,123,125]:Str) 6=some 37:=rfl; have d7:idx ([60,62,43,45,42,47,37,33,63,58,46,44,61,40,41,91,93,123,125]:Str) 7=some 33:=rfl; have d8:idx ([60,62,43,45,42,47,37,33,63,58,46,44,61,40,41,91,93,123,125]:Str) 8=some 63:=rfl; have d9:idx ([60,62,43,45,42,47,37,33,63,58,46,44,61,40,41,91,93,123,125]:Str) 9=some 58:=rfl; have d10:idx ([60,62,43,45,42,47,37,33,63,58,46,44,61,40,41,91,93,123,125]:Str) 10=some 46:=rfl; have d11:idx ([60,62,43,45,42,47,37,33,63,58,46,44,61,40,41,91,93,123,125]:Str) 11=some 44:=rfl; have d12:idx ([60,62,43,45,42,47,37,33,63,58,46,44,61,40,41,91,93,123,125]:Str) 12=some 61:=rfl; have d13:idx ([60,62,43,45,42,47,37,33,63,58,46,44,61,40,41,91,93,123,125]:Str) 13=some 40:=rfl; have d14:idx ([60,62,43,45,42,47,37,33,63,58,46,44,61,40,41,91,93,123,125]:Str) 14=some 41:=rfl; have d15:idx ([60,62,43,45,42,47,37,33,63,58,46,44,61,40,41,91,93,123,125]:Str) 15=some 91:=rfl
 have d16:idx ([60,62,43,45,42,47,37,33,63,58,46,44,61,40,41,91,93,123,125]:Str) 16=some 93:=rfl; have d17:idx ([60,62,43,45,42,47,37,33,63,58,46,44,61,40,41,91,93,123,125]:Str) 17=some 123:=rfl; have d18:idx ([60,62,43,45,42,47,37,33,63,58,46,44,61,40,41,91,93,123,125]:Str) 18=some 125:=rfl; cases hc:idx s a with
 | none=>rw [gJ]; simp [hc]
 | some c=>
  have f:∀ n:Nat,((c.toNat:Int) == ((UInt8.ofNat n).toNat:Int))=(c == UInt8.ofNat n):=by
   intro n; by_cases h:c=UInt8.ofNat n
   · subst h; simp
   ·
    have h':¬ c.toNat=(UInt8.ofNat n).toNat:=fun h2=>h (UInt8.toNat_inj.1 h2); have h3:¬ ((c.toNat:Int)=((UInt8.ofNat n).toNat:Int)):=by omega
    simp only [beq_eq_false_iff_ne.2 h,beq_eq_false_iff_ne.2 h3]
  have g:∀ i:Int,0≤i→i < 19→∀ m:Nat,∀ d:UInt8,idx ([60,62,43,45,42,47,37,33,63,58,46,44,61,40,41,91,93,123,125]:Str) i=some d→gJ s a (m + 1) i=if c == d then some 1 else gJ s a m (i + 1):=by
   intro i h0 h1 m d hd; rw [gJ]; simp (disch:=omega) only [hc,hd,bg,bq,bW,bf,bA,if_pos,if_neg,ak,aC,aB,aG,aH,aK,aJ,aI,decide_eq_true_eq,beq_iff_eq,bne_iff_ne,ne_eq,Bool.and_eq_true,Bool.or_eq_true,Bool.not_eq_true',Bool.not_eq_true,decide_eq_false_iff_not,beq_eq_false_iff_ne,bne_eq_false_iff_eq,Int.toNat_add,Int.toNat_natCast,Int.reduceToNat,Int.zero_add,Int.add_zero,Nat.add_zero,Nat.zero_add,Bool.true_and,Bool.and_true,Bool.false_and,Bool.and_false,Bool.true_or,Bool.or_true,Bool.false_or,Bool.or_false,Bool.not_true,Bool.not_false,Bool.false_eq_true,Bool.true_eq_false,reduceCtorEq,not_true_eq_false,not_false_eq_true,if_true,if_false,decide_true,decide_false]; have:=f d.toNat; rw [UInt8.ofNat_toNat] at this; by_cases h:c=d
   · subst h; simp
   ·
    have h':¬ (c.toNat:Int)=(d.toNat:Int):=fun h2=>h (UInt8.toNat_inj.1 (by omega)); simp [h,h']
  have z:∀ m:Nat,gJ s a (m + 1) 19=some 0:=by intro m; rw [gJ]; simp
  simp only [ak]; rw [g 0 (by omega) (by omega) (k + 19) 60 d0]; simp only [Int.reduceAdd]; rw [g 1 (by omega) (by omega) (k + 18) 62 d1]; simp only [Int.reduceAdd]; rw [g 2 (by omega) (by omega) (k + 17) 43 d2]; simp only [Int.reduceAdd]; rw [g 3 (by omega) (by omega) (k + 16) 45 d3]; simp only [Int.reduceAdd]; rw [g 4 (by omega) (by omega) (k + 15) 42 d4]; simp only [Int.reduceAdd]; rw [g 5 (by omega) (by omega) (k + 14) 47 d5]; simp only [Int.reduceAdd]; rw [g 6 (by omega) (by omega) (k + 13) 37 d6]; simp only [Int.reduceAdd]; rw [g 7 (by omega) (by omega) (k + 12) 33 d7]; simp only [Int.reduceAdd]; rw [g 8 (by omega) (by omega) (k + 11) 63 d8]; simp only [Int.reduceAdd]; rw [g 9 (by omega) (by omega) (k + 10) 58 d9]; simp only [Int.reduceAdd]; rw [g 10 (by omega) (by omega) (k + 9) 46 d10]; simp only [Int.reduceAdd]; rw [g 11 (by omega) (by omega) (k + 8) 44 d11]; simp only [Int.reduceAdd]; rw [g 12 (by omega) (by omega) (k + 7) 61 d12]; simp only [Int.reduceAdd]; rw [g 13 (by omega) (by omega) (k + 6) 40 d13]; simp only [Int.reduceAdd]; rw [g 14 (by omega) (by omega) (k + 5) 41 d14]; simp only [Int.reduceAdd]; rw [g 15 (by omega) (by omega) (k + 4) 91 d15]; simp only [Int.reduceAdd]; rw [g 16 (by omega) (by omega) (k + 3) 93 d16]; simp only [Int.reduceAdd]; rw [g 17 (by omega) (by omega) (k + 2) 123 d17]; simp only [Int.reduceAdd]; rw [g 18 (by omega) (by omega) (k + 1) 125 d18]; simp only [Int.reduceAdd]; rw [z]
  have key:zw [c]=((c == 60) || ((c == 62) || ((c == 43) || ((c == 45) || ((c == 42) || ((c == 47) || ((c == 37) || ((c == 33) || ((c == 63) || ((c == 58) || ((c == 46) || ((c == 44) || ((c == 61) || ((c == 40) || ((c == 41) || ((c == 91) || ((c == 93) || ((c == 123) || (c == 125))))))))))))))))))):=by
   simp [zw,List.cons_beq_cons]
  rw [key]; simp only [SH]
theorem adX (s:Str) (a:Int) (k:Nat) (b:Str) (hb:sl s a (bI (a + 2))=some b) (hl:b.length=2) (h0:bI (a + 2)≤s.length):
  gq s a (k + 7) 0=if zw b then some 2 else gJ s a BIG 0:=by
 have g:∀ i:Int,0≤i→i < 12→∀ m:Nat,∀ d:Str,sl ([124,124,38,38,61,61,33,61,60,61,62,61]:Str) i (i + 2)=some d→gq s a (m + 1) i=if b == d then some 2 else gq s a m (i + 2):=by
  intro i h1 h2 m d hd; rw [gq]; simp only [h0,decide_true,if_true,hb,ak]; rw [bg (by omega) (by omega),hd]; have h3:decide (i < 12)=true:=by simpa using h2
  simp only [h3,if_true,ak]
 have z:∀ m:Nat,gq s a (m + 1) 12=gJ s a BIG 0:=by intro m; rw [gq]; simp
 rw [g 0 (by omega) (by omega) (k + 6) [124,124] rfl,g _ (by omega) (by omega) (k + 5) [38,38] rfl,g _ (by omega) (by omega) (k + 4) [61,61] rfl,g _ (by omega) (by omega) (k + 3) [33,61] rfl,g _ (by omega) (by omega) (k + 2) [60,61] rfl,g _ (by omega) (by omega) (k + 1) [62,61] rfl]; rw [show (0:Int) + 2 + 2 + 2 + 2 + 2 + 2=12 from rfl,z]
 have key:zw b=((b == [124,124]) || ((b == [38,38]) || ((b == [61,61]) || ((b == [33,61]) || ((b == [60,61]) || (b == [62,61])))))):=by
  match b,hl with
  | [x,y],_=>simp [zw]
 rw [key]; simp only [SH]
end Go.Ft
