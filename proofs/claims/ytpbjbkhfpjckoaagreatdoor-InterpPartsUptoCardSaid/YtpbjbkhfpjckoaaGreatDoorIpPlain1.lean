/- Proved here: plain facts on the functional texts. -/
import Derived.Test.YtpbjbkhfpjckoaaGreatDoorIpPre1
import Derived.Test.YtpbjbkhfpjckoaaGreatDoorIpFt1
import Derived.Test.YtpbjbkhfpjckoaaGreatDoorIpPool1
set_option linter.unusedVariables false
set_option linter.unusedSimpArgs false
set_option linter.unusedSectionVars false
set_option maxHeartbeats 2000000
namespace Go.Ft
open Go
attribute [local congr] jQ
theorem Qt {α:Type} {f:α→Nat} {l:List α} {x:α} (h:x∈l):f x≤(l.map f).sum:=by
 induction l with
 | nil=>cases h
 | cons y l ih=>
  simp only [List.map_cons,List.sum_cons]; rcases List.mem_cons.1 h with rfl | h
  · omega
  · have:=ih h; omega
theorem KS {α:Type} {f:α→Nat} {l:List α} (h:∀ x,1≤f x):l.length≤(l.map f).sum:=by
 induction l with
 | nil=>simp
 | cons y l ih=>simp only [List.map_cons,List.sum_cons,List.length_cons]; have:=h y; omega
theorem ak.qO (v:ak):1≤v.bulk:=by rw [ak.o9]; omega
theorem ah.qO (v:ah):1≤v.bulk:=by rw [ah.o9]; omega
theorem aG.qO (v:aG):1≤v.bulk:=by rw [aG.o9]; omega
theorem Fv (v:ak):v.bT.length < v.bulk:=by rw [ak.o9,ak.sH]; have:=KS (l:=v.bT) ak.qO; omega
theorem u6 {v x:ak} (h:x∈v.bT):x.bulk < v.bulk:=by rw [ak.o9 v,ak.sH]; have:=Qt (f:=ak.bulk) h; omega
theorem Fx (v:ak):v.keys.length < v.bulk:=by rw [ak.o9]; have:=KS (l:=v.keys) (f:=fun z:Str=>z.length + 1) (fun x=>by omega); omega
theorem Fw {v:ak} {x:Str} (h:x∈v.keys):x.length < v.bulk:=by rw [ak.o9 v]; have:=Qt (f:=fun z:Str=>z.length + 1) h; omega
theorem Jp (e:ah):e.args.length < e.bulk:=by rw [ah.o9,ah.sH]; have:=KS (l:=e.args) ah.qO; omega
theorem pO {e x:ah} (h:x∈e.args):x.bulk < e.bulk:=by rw [ah.o9 e,ah.sH]; have:=Qt (f:=ah.bulk) h; omega
theorem Ci (v:ah):v.keys.length < v.bulk:=by rw [ah.o9]; have:=KS (l:=v.keys) (f:=fun z:Str=>z.length + 1) (fun x=>by omega); omega
theorem Xe (v:ah):v.name.length < v.bulk:=by rw [ah.o9]; omega
theorem EK (v:ah):v.value.bulk < v.bulk:=by rw [ah.o9]; omega
mutual
def ecnt :ah→Nat
 | ⟨_,_,_,args,_⟩=>1 + Gd args
def Gd :List ah→Nat
 | []=>0
 | x :: r=>ecnt x + Gd r
end
theorem KV (e:ah):ecnt e=1 + Gd e.args:=by cases e; rfl
theorem SY :∀ (l:List ah) (n:Nat),(∀ x∈l,ecnt x≤x.bulk)→Gd l≤(l.map ah.bulk).sum
 | [],_,_=>by simp [Gd]
 | x :: r,n,h=>by
  simp only [Gd,List.map_cons,List.sum_cons]; have:=h x (by simp); have:=SY r n fun y hy=>h y (by simp [hy]); omega
theorem VF :∀ (n:Nat) (e:ah),e.bulk≤n→ecnt e≤e.bulk
 | 0,e,h=>by have:=e.qO; omega
 | n + 1,e,h=>by
  rw [KV,ah.o9,ah.sH]; have:=SY e.args n fun x hx=>VF n x (by have:=pO hx; omega); omega
theorem UO {go:ah→Option Int}:∀ (l:List ah) (i s:Nat),(∀ x∈l,go x=some (ecnt x:Int))→s + Gd l < 4611686018427387904→
  j4 (fun _ e2 (n1:Int) r=>ay (go e2) fun x2=>r (bV (n1 + x2))) (fun n1=>some n1) i l (s:Int)=some ((s + Gd l:Nat):Int)
 | [],i,s,_,_=>by simp [j4,Gd]
 | x :: r,i,s,h,hs=>by
  simp only [Gd] at hs ⊢; rw [j4,h x (by simp)]; simp only [au]; have:bV ((s:Int) + (ecnt x:Int))=((s + ecnt x:Nat):Int):=by rw [V4 (by omega)]; omega
  rw [this,UO r (i + 1) (s + ecnt x) (fun y hy=>h y (by simp [hy])) (by omega)]; simp only [Option.some.injEq,Int.natCast_inj]; omega
theorem QL :∀ (n:Nat) (e:ah),e.bulk≤n→e.bulk < 4611686018427387904→kR (n + 1) e=some (ecnt e:Int)∧oo (n + 1) e=some (ecnt e:Int)
 | 0,e,h,_=>by have:=e.qO; omega
 | n + 1,e,h,hB=>by
  have hl:=Jp e; have hle:=VF _ e (Nat.le_refl _); rw [KV] at hle; constructor
  ·
   unfold kR vW; have:=jY (F:=fun k s i=>qJ (kR (n + 1)) e k s i) (l:=e.args) (body:=fun _ e2 (n1:Int) r=>ay (kR (n + 1) e2) fun x2=>r (bV (n1 + x2))) (fin:=fun n1=>some n1) (by omega) (fun k s i=>rfl) 1; rw [this,show (1:Int)=((1:Nat):Int) from rfl,UO e.args 0 1 (fun x hx=>(QL n x (by have:=pO hx; omega) (by have:=pO hx; omega)).1) (by omega),KV]
  ·
   unfold oo Am; have:=jY (F:=fun k s i=>vN (oo (n + 1)) e k s i) (l:=e.args) (body:=fun _ e2 (n1:Int) r=>ay (oo (n + 1) e2) fun x2=>r (bV (n1 + x2))) (fin:=fun n1=>some n1) (by omega) (fun k s i=>rfl) 1; rw [this,show (1:Int)=((1:Nat):Int) from rfl,UO e.args 0 1 (fun x hx=>(QL n x (by have:=pO hx; omega) (by have:=pO hx; omega)).2) (by omega),KV]
theorem wN :∃ n,BIG=n + 1∧9223372036854775807≤n:=⟨BIG - 1,by decide,by decide⟩
theorem count_eq {e:ah} (h:e.bulk < 4611686018427387904):yL e=some (ecnt e:Int)∧FE e=some (ecnt e:Int):=by
 obtain ⟨n,hn,hn2⟩:=wN; unfold yL FE; rw [hn]; exact QL n e (by omega) h
def isName (s:Str):Bool:=decide (1≤s.length) && decide (s.length≤64) && (match s with | c :: _=>isLet c | []=>false) && s.all fun c=>isLet c || dO c
def qm (s:Str):Bool:=isName s && !((s == ([116,114,117,101]:Str)) || (s == ([102,97,108,115,101]:Str)) || (s == ([110,117,108,108]:Str)))
theorem ad3 (s:Str) (hs:s.length < 4611686018427387904):pF s BIG 0=some (s.all fun c=>isLet c || dO c):=by
 have:=jY (F:=fun k (_:Unit) i=>pF s k i) (l:=s) (body:=fun (i:Nat) x3 _ r=>ay (if !(isLet x3) then ay (idx s (i:Int)) fun x5=>some (!(dO x5)) else some false) fun b2=>if b2 then some false else r ()) (fin:=fun _=>some true) hs (fun k s i=>rfl) (); rw [this]
 have key:∀ (t:Str) (i:Nat),t=s.drop i→j4 (fun (i:Nat) x3 (_:Unit) r=>ay (if !(isLet x3) then ay (idx s (i:Int)) fun x5=>some (!(dO x5)) else some false) fun b2=>if b2 then some false else r ()) (fun _=>some true) i t ()=some (t.all fun c=>isLet c || dO c):=by
  intro t
  induction t with
  | nil=>intro i _; rfl
  | cons c t ih=>
   intro i ht
   have hi:i < s.length:=by
    rcases Nat.lt_or_ge i s.length with h | h
    · exact h
    · rw [List.drop_eq_nil_of_le h] at ht; cases ht
   have hc:=List.drop_eq_getElem_cons hi; rw [←ht] at hc; have e1:c=s[i]:=(List.cons.inj hc).1; have e2:=(List.cons.inj hc).2; rw [j4,o7 hi,←e1]; simp only [au]; rw [ih (i + 1) e2]; cases h1:isLet c <;> cases h2:dO c <;> simp [h1,h2]
 exact key s 0 rfl
theorem LZ (s:Str) (hs:s.length < 4611686018427387904):vv s=some (isName s):=by
 unfold vv isName; rw [ad3 s hs]; by_cases h1:s.length < 1
 ·
  have:s=[]:=by cases s; rfl; simp at h1
  subst this; simp
 ·
  by_cases h2:64 < s.length
  ·
   have e1:decide ((64:Int) < (s.length:Int))=true:=by simp; omega
   have e2:decide (s.length≤64)=false:=by simp; omega
   simp [e1,e2]
  ·
   cases s with
   | nil=>simp at h1
   | cons c s=>
    have e1:decide ((((c :: s).length:Nat):Int) < 1)=false:=by simp; omega
    have e2:decide ((64:Int) < (((c :: s).length:Nat):Int))=false:=by simp at h2 ⊢; omega
    have e3:decide ((c :: s).length≤64)=true:=by simp at h2 ⊢; omega
    have e4:idx (c :: s) 0=some c:=rfl; rw [e1,e2,e3,e4]; cases h3:isLet c <;> simp [h3]
theorem Ye (s:Str) (hs:s.length < 4611686018427387904):BP s=some (isName s):=by
 unfold BP
 have:=jY (F:=fun k (_:Unit) i=>xH s k i) (l:=s) (body:=fun (i:Nat) x3 _ r=>ay (if !(isLet x3) then (if (i:Int) == 0 then some true else ay (idx s (i:Int)) fun x5=>some (!(dO x5))) else some false) fun b2=>if b2 then some false else r ())
  (fin:=fun _=>some ((decide (1≤(s.length:Int))) && (decide ((s.length:Int)≤64)))) hs (fun k s i=>rfl) ()
 rw [this]
 have key:∀ (t:Str) (i:Nat),t=s.drop i→j4 (fun (i:Nat) x3 (_:Unit) r=>ay (if !(isLet x3) then (if (i:Int) == 0 then some true else ay (idx s (i:Int)) fun x5=>some (!(dO x5))) else some false) fun b2=>if b2 then some false else r ())
   (fun _=>some ((decide (1≤(s.length:Int))) && (decide ((s.length:Int)≤64)))) i t ()=some ((decide (1≤s.length) && decide (s.length≤64)) && ((if i=0 then (match t with | c :: _=>isLet c | []=>true) else true) && t.all fun c=>isLet c || dO c)):=by
  intro t
  induction t with
  | nil=>
   intro i _; rw [j4]; have e1:decide ((1:Int)≤(s.length:Int))=decide (1≤s.length):=by congr 1; simp; omega
   have e2:decide ((s.length:Int)≤64)=decide (s.length≤64):=by congr 1; simp; omega
   rw [e1,e2]; simp
  | cons c t ih=>
   intro i ht
   have hi:i < s.length:=by
    rcases Nat.lt_or_ge i s.length with h | h
    · exact h
    · rw [List.drop_eq_nil_of_le h] at ht; cases ht
   have hc:=List.drop_eq_getElem_cons hi; rw [←ht] at hc; have e1:c=s[i]:=(List.cons.inj hc).1; have e2:=(List.cons.inj hc).2; rw [j4,o7 hi,←e1]; simp only [au]; rw [ih (i + 1) e2]; by_cases h0:i=0
   ·
    subst h0; cases h1:isLet c <;> simp [h1]
   ·
    have:((i:Int) == 0)=false:=by simp; omega
    rw [this]; cases h1:isLet c <;> cases h2:dO c <;> simp [h1,h2,h0]
 rw [key s 0 rfl]; unfold isName; cases s with
 | nil=>simp
 | cons c s=>simp [Bool.and_assoc]
theorem BX (s:Str) (hs:s.length < 4611686018427387904):mU s=some (qm s)∧qR s=some (qm s):=by
 unfold mU qR qm oC; rw [LZ s hs,Ye s hs]; constructor
 · cases isName s <;> simp
 ·
  simp only [au,Option.some.injEq]; cases isName s <;> simp [Bool.not_or,Bool.and_assoc]
theorem JU (s:Str):sK s=iA s:=rfl
theorem N8 (s:Str):∃ n,iA s=some n:=by
 have:(iA s).isSome=true:=by
  unfold iA; simp only [apply_ite Option.isSome,Option.isSome_some,ite_self]
 exact Option.isSome_iff_exists.1 this
end Go.Ft
namespace Go.Ft
open Go
attribute [local congr] jQ
def xQ (s:Str):Bool:=decide (1≤s.length) && decide (s.length≤64)
def Sn (a b:Str):Int:=(oz a b).getD 0
theorem aao {a b:Str} (ha:a.length < 4611686018427387904) (hb:b.length < 4611686018427387904):j6 a b=some (Sn a b)∧oz a b=some (Sn a b):=by
 obtain ⟨c,h1,h2⟩:=MX ha hb; unfold Sn; rw [h2]; exact ⟨h1,rfl⟩
def OX :Option Str→List Str→Bool
 | _,[]=>true
 | p,k :: r=>xQ k && (match p with | none=>true | some q=>decide (Sn q k < 0)) && OX (some k) r
theorem Qu (s:Str):((decide ((s.length:Int) < 1)) || (decide (64 < (s.length:Int))))=!xQ s:=by
 unfold xQ; rw [Bool.eq_iff_iff]; simp only [Bool.or_eq_true,Bool.not_eq_true',Bool.and_eq_false_iff,decide_eq_true_eq,decide_eq_false_iff_not]; omega
theorem key_eq (s:Str):Hu s=some (xQ s):=by
 unfold Hu xQ; simp only [Option.some.injEq]; rw [Bool.eq_iff_iff]; simp only [Bool.and_eq_true,decide_eq_true_eq]; omega
def Er (l:List Str) (i:Nat):Option Str:=if i=0 then none else l[i - 1]?
theorem VW {v:ak} (hv:v.bulk < 4611686018427387904):∀ (k i:Nat),v.keys.length < k + i→i≤v.keys.length→
  pq v k (i:Int)=some (OX (Er v.keys i) (v.keys.drop i))∧
  nu v k (i:Int)=some (OX (Er v.keys i) (v.keys.drop i) && ((v.keys.length:Int) == (v.bT.length:Int)))
 | 0,i,h,h'=>by omega
 | k + 1,i,h,h'=>by
  have hlen:=Fx v; rw [pq,nu]; by_cases hi:i < v.keys.length
  ·
   have hm:v.keys[i]∈v.keys:=List.getElem_mem hi; have hb:=Fw hm; rw [List.drop_eq_getElem_cons hi,if_pos (by simp; omega),if_pos (by simp; omega),o7 hi]; simp only [au,Qu,key_eq,OX]; obtain ⟨ih1,ih2⟩:=VW hv k (i + 1) (by omega) (by omega); have hp:Er v.keys (i + 1)=some v.keys[i]:=by simp [Er,hi]
   rw [hp] at ih1 ih2; rw [nW (by omega),ih1,ih2]; by_cases h0:i=0
   ·
    subst h0; have hp0:Er v.keys 0=none:=rfl; rw [hp0]; cases xQ v.keys[0] <;> simp
   ·
    have hi1:i - 1 < v.keys.length:=by omega
    have hm1:v.keys[i - 1]∈v.keys:=List.getElem_mem hi1; have hb1:=Fw hm1; have hp0:Er v.keys i=some v.keys[i - 1]:=by simp [Er,h0,hi1]
    have e1:bV ((i:Int) - 1)=((i - 1:Nat):Int):=by rw [V4 (by omega)]; omega
    obtain ⟨c1,c2⟩:=aao (a:=v.keys[i - 1]) (b:=v.keys[i]) (by omega) (by omega); have hpos:decide ((0:Int) < (i:Int))=true:=by simp; omega
    rw [hp0,e1,hpos,o7 hi1]; simp only [au,c1,c2,if_true]
    have hn:decide (Sn v.keys[i - 1] v.keys[i] < 0)=!decide (0≤Sn v.keys[i - 1] v.keys[i]):=by
     by_cases h:0≤Sn v.keys[i - 1] v.keys[i] <;> simp [h] <;> omega
    rw [hn]; cases xQ v.keys[i] <;> cases decide (0≤Sn v.keys[i - 1] v.keys[i]) <;> simp
  ·
   have:i=v.keys.length:=by omega
   subst this; simp [OX]
theorem SG {v:ak} (hv:v.bulk < 4611686018427387904):xA v=some (((v.keys.length:Int) == (v.bT.length:Int)) && OX none v.keys)∧um v=some (((v.keys.length:Int) == (v.bT.length:Int)) && OX none v.keys):=by
 have hlen:=Fx v; obtain ⟨h1,h2⟩:=VW hv BIG 0 (by have:=mg; omega) (by omega); have hp0:Er v.keys 0=none:=rfl; rw [hp0,List.drop_zero] at h1 h2; unfold xA um; rw [show (0:Int)=((0:Nat):Int) from rfl,h1,h2]; by_cases h:(v.keys.length:Int)=(v.bT.length:Int)
 · simp [h]
 ·
  have:((v.keys.length:Int) == (v.bT.length:Int))=false:=by simpa using h
  simp [this]; intro hh; exact absurd hh h
def IG (v:ak):Bool:=
 (((((v.kind == 1) || (!v.fU)) && ((v.kind == 2) || (v.kF == 0))) && ((v.kind == 3) || (v.kC == ([]:Str)))) && (((v.kind == 4) || (v.kind == 5)) || ((v.bT.length:Int) == 0))) && ((v.kind == 5) || ((v.keys.length:Int) == 0))
theorem abI (v:ak):BQ v=some (IG v):=by
 unfold BQ IG
 have hl:decide (0 < (v.bT.length:Int))=!((v.bT.length:Int) == 0):=by
  cases h:v.bT <;> simp; omega
 rw [hl]; have hk:∀ n:Int,(v.kind != n)=!(v.kind == n):=fun n=>rfl; have hi:(v.kF != 0)=!(v.kF == 0):=rfl; rw [hk,hk,hk,hk,hk,hi]; generalize (v.kind == 1)=a1; generalize (v.kind == 2)=a2; generalize (v.kind == 3)=a3; generalize (v.kind == 4)=a4; generalize (v.kind == 5)=a5; generalize v.fU=b; generalize (v.kF == 0)=c; generalize (v.kC == ([]:Str))=d; generalize ((v.bT.length:Int) == 0)=e; generalize ((v.keys.length:Int) == 0)=f; revert a1 a2 a3 a4 a5 b c d e f; decide
def Dl (v:ak) (level:Nat):Int:=
 if 16 < level then 13
 else if (decide (v.kind < 0)) || (decide (5 < v.kind)) || !IG v then 1
 else if (decide (v.kF < (-9007199254740992))) || (decide (9007199254740992 < v.kF)) then 2
 else if ((decide (4096 < (v.kC.length:Int))) || (decide (1024 < (v.bT.length:Int)))) || (decide (1024 < (v.keys.length:Int))) then 3
 else if v.kind == 5 && !(((v.keys.length:Int) == (v.bT.length:Int)) && OX none v.keys) then 1
 else if (((v.kind == 4) || (v.kind == 5)) && ((v.bT.length:Int) == 0)) && level == 16 then 13
 else 0
theorem aan {v:ak} (hv:v.bulk < 4611686018427387904) (level:Nat):zx v (level:Int)=some (Dl v level):=by
 unfold zx Dl yG; have h16:decide ((16:Int) < (level:Int))=decide (16 < level):=by congr 1; simp; omega
 have acK:((level:Int) == 16)=(level == 16):=by
  rw [Bool.eq_iff_iff]; simp only [beq_iff_eq]; omega
 rw [h16,acK,(SG hv).1]; change (if decide (16 < level)=true then some 13 else ay (if (decide (v.kind < 0) || decide (5 < v.kind))=true then some true else ay (some (IG v)) fun x1=>some (!x1)) _)=_
 by_cases h0:16 < level
 · simp [h0]
 ·
  simp only [h0,decide_false,Bool.false_eq_true,if_false,au]; cases h1:(decide (v.kind < 0) || decide (5 < v.kind)) with
  | true=>simp
  | false=>
   cases h2:IG v with
   | false=>simp
   | true=>
    simp only [Bool.false_eq_true,if_false,Bool.not_true,au,Bool.or_self]; split
    · rfl
    ·
     split
     · rfl
     · cases h3:(v.kind == 5) <;> cases h4:(((v.keys.length:Int) == (v.bT.length:Int)) && OX none v.keys) <;> simp <;> (first | rfl | (split <;> rfl))
mutual
def FV :ak→Nat→Int
 | ⟨a,b,c,d,l,f⟩,level=>if Dl ⟨a,b,c,d,l,f⟩ level != 0 then Dl ⟨a,b,c,d,l,f⟩ level else G7 l (level + 1)
def G7 :List ak→Nat→Int
 | [],_=>0
 | x :: r,level=>if FV x level != 0 then FV x level else G7 r level
end
theorem Vg (v:ak) (level:Nat):FV v level=if Dl v level != 0 then Dl v level else G7 v.bT (level + 1):=by cases v; rw [FV]
theorem aew {go:ak→Int→Option Int} {level:Nat}:∀ (l:List ak) (i:Nat),(∀ x∈l,go x ((level + 1:Nat):Int)=some (FV x (level + 1)))→
  j4 (fun _ e1 (_:Unit) r=>ay (go e1 ((level + 1:Nat):Int)) fun e2=>if e2 != 0 then some e2 else r ()) (fun _=>some 0) i l ()=some (G7 l (level + 1))
 | [],i,_=>by simp [j4,G7]
 | x :: r,i,h=>by
  rw [j4,h x (by simp),G7]; simp only [au]; rw [aew r (i + 1) (fun y hy=>h y (by simp [hy]))]; split <;> rfl
theorem Ti :∀ (n:Nat) (v:ak) (level:Nat),v.bulk≤n→v.bulk < 4611686018427387904→level≤17→ow (n + 1) v (level:Int)=some (FV v level)
 | 0,v,_,h,_,_=>by have:=v.qO; omega
 | n + 1,v,level,h,hB,hlv=>by
  have hl:=Fv v; rw [Vg]; unfold ow Aq; have h16:decide ((16:Int) < (level:Int))=decide (16 < level):=by congr 1; simp; omega
  have acK:((level:Int) == 16)=(level == 16):=by
   rw [Bool.eq_iff_iff]; simp only [beq_iff_eq]; omega
  rw [h16,acK,(SG hB).2,abI]; unfold Dl; by_cases h0:16 < level
  · simp [h0]
  ·
   have hw:bV ((level:Int) + 1)=((level + 1:Nat):Int):=nW (by omega); have:=jY (F:=fun k (_:Unit) i=>vP (ow (n + 1)) v (level:Int) k i) (l:=v.bT) (body:=fun _ e1 _ r=>ay (ow (n + 1) e1 ((level + 1:Nat):Int)) fun e2=>if e2 != 0 then some e2 else r ()) (fin:=fun _=>some 0) (by omega) (fun k s i=>by rw [←hw]; rfl) (); rw [this,aew v.bT 0 fun x hx=>Ti n x (level + 1) (by have:=u6 hx; omega) (by have:=u6 hx; omega) (by omega)]; simp only [h0,decide_false,Bool.false_eq_true,if_false,au]; cases h1:(decide (v.kind < 0) || decide (5 < v.kind)) with
   | true=>simp
   | false=>
    cases h2:IG v with
    | false=>simp
    | true=>
     simp only [Bool.false_eq_true,if_false,Bool.not_true,au,Bool.or_self]; split
     · simp
     ·
      split
      · simp
      ·
       have h4:decide ((4:Int)≤v.kind)=((v.kind == 4) || (v.kind == 5)):=by
        simp only [Bool.or_eq_false_iff,decide_eq_false_iff_not] at h1; rw [Bool.eq_iff_iff]; simp only [Bool.or_eq_true,decide_eq_true_eq,beq_iff_eq]; omega
       rw [h4]
       cases h3:(v.kind == 5) <;> cases h5:(((v.keys.length:Int) == (v.bT.length:Int)) && OX none v.keys) <;> simp <;> (first | rfl | (split <;> simp <;> rename_i hq <;> (first
        | exact fun hh=>absurd hq.2 (hh hq.1.1 hq.1.2)
        | exact fun a b c=>absurd ⟨⟨a,b⟩,c⟩ hq)))
theorem abC {v:ak} (h:v.bulk < 4611686018427387904):BU v=some (FV v 1):=by
 obtain ⟨n,hn,hn2⟩:=wN; unfold BU I7; rw [hn]; exact Ti n v 1 (by omega) h (by omega)
def K5 (c:Int):Bool × Option Int:=if c != 0 then (false,some c) else (true,none)
theorem adq {v:ak} (hv:v.bulk < 4611686018427387904) (level:Nat):lS none (level:Int) v=some (K5 (Dl v level)):=by
 unfold lS K5; simp only [aan hv,au]; by_cases h:Dl v level=0 <;> simp [h]
theorem aaS {go:Option Int→ak→Int→Option (Bool × Option Int)} {level:Nat}:∀ (l:List ak) (i:Nat),(∀ x∈l,go none x ((level + 1:Nat):Int)=some (K5 (FV x (level + 1))))→
  j4 (fun _ x1 (s1:Option Int) r=>je (go s1 x1 ((level + 1:Nat):Int)) fun b1 s2=>if !b1 then some (false,s2) else r s2) (fun s1=>some (true,s1)) i l none=some (K5 (G7 l (level + 1)))
 | [],i,_=>by simp [j4,G7,K5]
 | x :: r,i,h=>by
  rw [j4,h x (by simp),G7]; by_cases hc:FV x (level + 1)=0
  ·
   simp only [hc,K5,bne_self_eq_false,Bool.false_eq_true,if_false,aC,Bool.not_true]; rw [aaS r (i + 1) (fun y hy=>h y (by simp [hy]))]; rfl
  · simp [hc,K5]
theorem XO :∀ (n:Nat) (v:ak) (level:Nat),v.bulk≤n→v.bulk < 4611686018427387904→level≤17→nX lS (n + 1) none v (level:Int)=some (K5 (FV v level))
 | 0,v,_,h,_,_=>by have:=v.qO; omega
 | n + 1,v,level,h,hB,hlv=>by
  have hl:=Fv v; rw [Vg]; unfold nX yF; rw [adq hB]; by_cases h0:Dl v level=0
  ·
   have afg:level≤16:=by
    rcases Nat.lt_or_ge 16 level with h | h
    · unfold Dl at h0; simp [h] at h0
    · exact h
   have hw:bV ((level:Int) + 1)=((level + 1:Nat):Int):=nW (by omega); have:=jY (F:=fun k s i=>ug (nX lS (n + 1)) v (level:Int) k s i) (l:=v.bT) (body:=fun _ x1 (s1:Option Int) r=>je (nX lS (n + 1) s1 x1 ((level + 1:Nat):Int)) fun b1 s2=>if !b1 then some (false,s2) else r s2) (fin:=fun s1=>some (true,s1)) (by omega) (fun k s i=>by rw [←hw]; rfl) none; simp only [h0,K5,bne_self_eq_false,Bool.false_eq_true,if_false,aC,Bool.not_true]; rw [this,aaS v.bT 0 fun x hx=>XO n x (level + 1) (by have:=u6 hx; omega) (by have:=u6 hx; omega) (by omega)]; rfl
  · simp [h0,K5]
theorem V5 {v:ak} (h:v.bulk < 4611686018427387904):mX v=some (FV v 1):=by
 obtain ⟨n,hn,hn2⟩:=wN; unfold mX Gt; rw [hn,show (1:Int)=((1:Nat):Int) from rfl,XO n v 1 (by omega) h (by omega)]; unfold K5; by_cases hc:FV v 1=0 <;> simp [hc]
end Go.Ft
namespace Go.Ft
open Go
attribute [local congr] jQ
def Li (v:ak):Bool:=(((((v.kind == 0) && (!v.fU)) && (v.kF == 0)) && (v.kC == ([]:Str))) && ((v.bT.length:Int) == 0)) && ((v.keys.length:Int) == 0)
theorem zero_eq (v:ak):Au v=some (Li v):=rfl
theorem Wi (v:ak):Hw v (ak.mk 0 false 0 ([]:Str) [] [])=some (Li v):=by
 obtain ⟨n,hn,hn2⟩:=wN; obtain ⟨m,hm⟩:∃ m,n=m + 1:=⟨n - 1,by omega⟩; have hB:BIG=(m + 1) + 1:=by omega
 unfold Hw; rw [hB,wU,Cz]
 have hz:Li v=!(((((v.kind != 0) || (!(v.fU == false))) || (v.kF != 0)) || (!(v.kC == ([]:Str)))) || ((v.bT.length:Int) != (([]:List ak).length:Int)) || ((v.keys.length:Int) != (([]:List Str).length:Int))):=by
  unfold Li; have hk:(v.kind != 0)=!(v.kind == 0):=rfl; have hi:(v.kF != 0)=!(v.kF == 0):=rfl; have hl:((v.bT.length:Int) != (([]:List ak).length:Int))=!((v.bT.length:Int) == 0):=rfl; have hks:((v.keys.length:Int) != (([]:List Str).length:Int))=!((v.keys.length:Int) == 0):=rfl; rw [hk,hi,hl,hks]; generalize (v.kind == 0)=a; generalize v.fU=b; generalize (v.kF == 0)=c; generalize (v.kC == ([]:Str))=d; generalize ((v.bT.length:Int) == 0)=e; generalize ((v.keys.length:Int) == 0)=f; revert a b c d e f; decide
 cases h:(((((v.kind != 0) || (!(v.fU == false))) || (v.kF != 0)) || (!(v.kC == ([]:Str)))) || ((v.bT.length:Int) != (([]:List ak).length:Int)) || ((v.keys.length:Int) != (([]:List Str).length:Int))) with
 | true=>
  rw [hz,h]; rfl
 | false=>
  rw [hz,h]; simp only [Bool.or_eq_false_iff] at h; have hl:v.bT=[]:=by have:=h.1.2; simpa using this
  have hk:v.keys=[]:=by have:=h.2; simpa using this
  simp only [Bool.false_eq_true,if_false,Bool.not_false]; rw [hB,xJ,hk]; simp only [List.length_nil,Int.lt_irrefl,decide_false,Bool.false_eq_true,if_false,Int.ofNat_zero,Int.natCast_zero]; rw [hB,xI,hl]; simp
def C8 (e:ah):Bool:=
 if e.kind == 1 then (e.args.length:Int) == 0 else if e.kind == 2 then (e.args.length:Int) == 0 else if e.kind == 3 then (e.args.length:Int) == 1 else if e.kind == 6 then (e.args.length:Int) == 1
 else if e.kind == 4 then (e.args.length:Int) == 2 else if e.kind == 7 then (e.args.length:Int) == 2 else if e.kind == 8 then (e.args.length:Int) == 3 else ((e.kind == 5) || (e.kind == 9)) || (e.kind == 10)
theorem aaO (e:ah):BJ e=some (C8 e):=by
 unfold BJ C8; simp only [apply_ite some]
def ED (e:ah):Bool:=!((decide (e.kind < 1)) || (decide (10 < e.kind)))
theorem acY (e:ah) (h:ED e=true):vU e=some (C8 e):=by
 unfold vU C8; unfold ED at h; simp only [Bool.not_eq_true',Bool.or_eq_false_iff,decide_eq_false_iff_not] at h; simp only [apply_ite some]
 have hh:¬ e.kind=1→¬ e.kind=2→¬ e.kind=3→¬ e.kind=6→¬ e.kind=4→¬ e.kind=7→¬ e.kind=8→(((e.kind == 5) || (e.kind == 9)) || (e.kind == 10))=true:=by
  intro h1 h2 h3 h6 h4 h7 h8; simp only [Bool.or_eq_true,beq_iff_eq]; omega
 by_cases h1:e.kind=1
 · simp [h1]
 by_cases h2:e.kind=2
 · simp [h2]
 by_cases h3:e.kind=3
 · simp [h3]
 by_cases h6:e.kind=6
 · simp [h6]
 by_cases h4:e.kind=4
 · simp [h4]
 by_cases h7:e.kind=7
 · simp [h7]
 by_cases h8:e.kind=8
 · simp [h8]
 rw [hh h1 h2 h3 h6 h4 h7 h8]
 all_goals simp [h1,h2,h3,h4,h6,h7,h8]
def He (s:Str):Int:=(iA s).getD 0
theorem IQ (s:Str):iA s=some (He s):=by
 obtain ⟨n,h⟩:=N8 s; unfold He; rw [h]; rfl
def Jo (e:ah):Bool:=
 if e.kind == 2 then qm e.name else if e.kind == 3 then qm e.name else if e.kind == 5 then qm e.name else if e.kind == 6 then (e.name == ([33]:Str)) || (e.name == ([45]:Str))
 else if e.kind == 7 then decide (0 < He e.name) else e.name == ([]:Str)
theorem Sr (e:ah) (h:e.bulk < 4611686018427387904):vS e=some (Jo e)∧BI e=some (Jo e):=by
 have hn:=Xe e; obtain ⟨p1,p2⟩:=BX e.name (by omega); unfold vS BI Jo; rw [p1,p2,JU,IQ]; simp only [au,apply_ite some,and_self]
theorem afB (l:List Str) (hl:l.length < 4611686018427387904):gL l j5=some (l.any fun k=>!xQ k):=by
 unfold gL ji; have:=jY (F:=fun k (_:Unit) i=>gK l j5 k i) (l:=l) (body:=fun (i:Nat) e1 _ r=>ay (j5 e1) fun x1=>if x1 then some (i:Int) else r ()) (fin:=fun _=>some (-1)) hl (fun k s i=>rfl) (); rw [this]
 have key:∀ (t:List Str) (i:Nat),ay (j4 (fun (i:Nat) e1 (_:Unit) r=>ay (j5 e1) fun x1=>if x1 then some (i:Int) else r ()) (fun _=>some (-1)) i t ()) (fun x1=>some (decide (0≤x1)))=some (t.any fun k=>!xQ k):=by
  intro t
  induction t with
  | nil=>intro i; rfl
  | cons c t ih=>
   intro i; rw [j4]; have e1:j5 c=some (!xQ c):=by unfold j5; rw [Qu]
   rw [e1]; simp only [au,List.any_cons]; cases h:xQ c with
   | false=>simp
   | true=>
    simp only [Bool.not_true,Bool.false_eq_true,if_false,Bool.false_or]; exact ih (i + 1)
 exact key l 0
def MS (e:ah):Bool:=if e.kind != 10 then (e.keys.length:Int) == 0 else ((e.keys.length:Int) == (e.args.length:Int)) && !(e.keys.any fun k=>!xQ k)
theorem acF (e:ah) (h:e.bulk < 4611686018427387904):vT e=some (MS e):=by
 have hk:=Ci e; unfold vT MS; rw [afB e.keys (by omega)]; split
 · rfl
 · cases ((e.keys.length:Int) == (e.args.length:Int)) <;> simp
theorem aau (e:ah) (h:e.bulk < 4611686018427387904):qQ e BIG 0=some (!(e.keys.any fun k=>!xQ k) && ((e.keys.length:Int) == (e.args.length:Int))):=by
 have hk:=Ci e
 have:=jY (F:=fun k (_:Unit) i=>qQ e k i) (l:=e.keys) (body:=fun (i:Nat) e2 _ r=>ay (if decide ((e2.length:Int) < 1) then some true else ay (idx e.keys (i:Int)) fun e3=>some (decide (64 < (e3.length:Int)))) fun b4=>if b4 then some false else r ())
  (fin:=fun _=>some ((e.keys.length:Int) == (e.args.length:Int))) (by omega) (fun k s i=>rfl) ()
 rw [this]
 have key:∀ (t:List Str) (i:Nat),t=e.keys.drop i→j4 (fun (i:Nat) e2 (_:Unit) r=>ay (if decide ((e2.length:Int) < 1) then some true else ay (idx e.keys (i:Int)) fun e3=>some (decide (64 < (e3.length:Int)))) fun b4=>if b4 then some false else r ())
   (fun _=>some ((e.keys.length:Int) == (e.args.length:Int))) i t ()=some (!(t.any fun k=>!xQ k) && ((e.keys.length:Int) == (e.args.length:Int))):=by
  intro t
  induction t with
  | nil=>intro i _; rfl
  | cons c t ih=>
   intro i ht
   have hi:i < e.keys.length:=by
    rcases Nat.lt_or_ge i e.keys.length with h | h
    · exact h
    · rw [List.drop_eq_nil_of_le h] at ht; cases ht
   have hc:=List.drop_eq_getElem_cons hi; rw [←ht] at hc; have e1:c=e.keys[i]:=(List.cons.inj hc).1; have e2:=(List.cons.inj hc).2; rw [j4,o7 hi,←e1]; simp only [au,List.any_cons]; rw [ih (i + 1) e2]; have e3:=Qu c; cases h1:decide ((List.length c:Int) < 1) <;> rw [h1] at e3
   ·
    simp only [Bool.false_or] at e3; simp only [Bool.false_eq_true,if_false,au,e3]; cases xQ c <;> simp
   ·
    simp only [Bool.true_or] at e3
    have:xQ c=false:=by
     cases h:xQ c with
     | false=>rfl
     | true=>rw [h] at e3; cases e3
    simp [this]
 exact key e.keys 0 rfl
def Il (e:ah):Bool:=ED e && ((e.kind == 1) || Li e.value) && Jo e && C8 e && MS e
theorem U4 (e:ah) (h:C8 e=true):ED e=true:=by
 unfold C8 at h; unfold ED; simp only [Bool.not_eq_true',Bool.or_eq_false_iff,decide_eq_false_iff_not]; by_cases h1:e.kind=1
 · omega
 by_cases h2:e.kind=2
 · omega
 by_cases h3:e.kind=3
 · omega
 by_cases h6:e.kind=6
 · omega
 by_cases h4:e.kind=4
 · omega
 by_cases h7:e.kind=7
 · omega
 by_cases h8:e.kind=8
 · omega
 simp [h1,h2,h3,h4,h6,h7,h8] at h; omega
theorem Xb (e:ah) (h:e.bulk < 4611686018427387904):zH e=some (Il e):=by
 unfold zH Il; rw [aaO,(Sr e h).2,Wi,aau e h]; have hk:=U4 e; unfold MS; have hne:(e.kind != 1)=!(e.kind == 1):=rfl; rw [hne]; cases h1:C8 e with
 | false=>cases (e.kind == 1) <;> simp
 | true=>
  rw [hk h1]; cases h2:Jo e with
  | false=>cases (e.kind == 1) <;> simp
  | true=>
   cases h3:(e.kind == 1) <;> cases h4:Li e.value <;> simp <;> (first | done | (split <;> simp [Bool.and_comm]))
theorem Pg (y:List (Str × Int)) (s t:Str) (n:Int):sU (uq y s n) t=if t=s then n else sU y t:=by
 induction y with
 | nil=>by_cases h:t=s <;> simp [uq,sU,h]
 | cons a y ih=>
  obtain ⟨k,v⟩:=a; unfold uq; by_cases h:s=k
  ·
   subst h; simp only [beq_self_eq_true,if_true]; unfold sU; by_cases h2:t=s
   · simp [h2]
   ·
    have:(t == s)=false:=beq_eq_false_iff_ne.2 h2; simp [this,h2]
  ·
   have:(s == k)=false:=beq_eq_false_iff_ne.2 h; rw [this]; simp only [Bool.false_eq_true,if_false]; unfold sU; by_cases h2:t=k
   ·
    subst h2; have:¬ t=s:=fun hh=>h hh.symm; simp [this]
   ·
    have h3:(t == k)=false:=beq_eq_false_iff_ne.2 h2; rw [h3]; simp only [Bool.false_eq_true,if_false]; exact ih
def Ov :List Str→List Str→Bool
 | _,[]=>false
 | seen,s :: r=>seen.contains s || Ov (seen ++ [s]) r
theorem abH (l:List Str) (hl:l.length < 4611686018427387904):qI l=some (Ov [] l):=by
 unfold qI; have:=jY (F:=fun k s i=>nE l k i s) (l:=l) (body:=fun _ s1 (y1:List (Str × Int)) r=>if decide (1 < (sU (uq y1 s1 (bV ((sU y1 s1) + 1))) s1)) then some true else r (uq y1 s1 (bV ((sU y1 s1) + 1)))) (fin:=fun _=>some false) hl (fun k s i=>rfl) []; rw [this]
 have key:∀ (t:List Str) (i:Nat) (y:List (Str × Int)) (seen:List Str),(∀ s,sU y s=if s∈seen then 1 else 0)→
   j4 (fun _ s1 (y1:List (Str × Int)) r=>if decide (1 < (sU (uq y1 s1 (bV ((sU y1 s1) + 1))) s1)) then some true else r (uq y1 s1 (bV ((sU y1 s1) + 1)))) (fun _=>some false) i t y=some (Ov seen t):=by
  intro t
  induction t with
  | nil=>intro i y seen _; rfl
  | cons c t ih=>
   intro i y seen hy; rw [j4,Ov,Pg,if_pos rfl,hy c]; by_cases hc:c∈seen
   ·
    have:bV 2=2:=by decide
    simp [hc,this]
   ·
    have:bV ((0:Int) + 1)=1:=by decide
    simp only [hc,if_false,this]; have e:seen.contains c=false:=by simpa using hc
    rw [e]; simp only [Int.lt_irrefl,decide_false,Bool.false_eq_true,if_false,Bool.false_or]; refine ih (i + 1) _ (seen ++ [c]) fun s=>?_; rw [Pg,hy s]; by_cases h1:s=c
    · subst h1; simp
    · simp [h1]
 exact key l 0 [] [] (fun s=>by simp [sU])
theorem RQ (l:List Str) (i:Nat) (hi:i < l.length) (hl:l.length < 4611686018427387904) (go:Int→Option Bool):∀ (k j:Nat),i < k + j→j≤i→
  sJ l (i:Int) go k (j:Int)=if ((l.take i).drop j).contains l[i] then some true else go ((i + 1:Nat):Int)
 | 0,j,h,h'=>by omega
 | k + 1,j,h,h'=>by
  rw [sJ]; by_cases hj:j < i
  ·
   have hlt:j < (l.take i).length:=by simp; omega
   rw [if_pos (by simpa using hj),o7 hi,o7 (by omega),List.drop_eq_getElem_cons hlt]; simp only [au,List.contains_cons,List.getElem_take]; cases h1:(l[i] == l[j]) with
   | true=>simp
   | false=>
    simp only [Bool.false_eq_true,if_false,Bool.false_or]; rw [nW (by omega)]; exact RQ l i hi hl go k (j + 1) (by omega) (by omega)
  ·
   have:j=i:=by omega
   subst this; rw [if_neg (by simp),nW (by omega)]; have:(List.take j l).drop j=[]:=List.drop_eq_nil_of_le (by simp; omega); rw [this]; simp
theorem O1 (l:List Str) (hl:l.length < 4611686018427387904):∀ (k i:Nat),l.length < k + i→i≤l.length→nZ l k (i:Int)=some (Ov (l.take i) (l.drop i))
 | 0,i,h,h'=>by omega
 | k + 1,i,h,h'=>by
  rw [nZ]; by_cases hi:i < l.length
  ·
   rw [if_pos (by simpa using hi),List.drop_eq_getElem_cons hi,Ov]; have:=RQ l i hi hl (nZ l k) BIG 0 (by have:=mg; omega) (by omega); rw [show (0:Int)=((0:Nat):Int) from rfl,this,List.drop_zero,O1 l hl k (i + 1) (by omega) (by omega)]; have e:List.take (i + 1) l=List.take i l ++ [l[i]]:=by rw [List.take_add_one,List.getElem?_eq_getElem hi]; rfl
   rw [e]; cases (l.take i).contains l[i] <;> simp
  ·
   have:i=l.length:=by omega
   subst this; simp [Ov]
theorem XU (l:List Str) (hl:l.length < 4611686018427387904):BH l=some (Ov [] l):=by
 have:=O1 l hl BIG 0 (by have:=mg; omega) (by omega); simpa [BH] using this
def F6 (e:ah) (level:Nat):Int:=
 if 16 < level then 13 else if !Il e then 1 else if e.kind == 1 && (FV e.value 1 != 0) then FV e.value 1 else if decide (1024 < (e.args.length:Int)) then 3 else if Ov [] e.keys then 7 else 0
theorem Yj (e:ah) (h:e.bulk < 4611686018427387904) (level:Nat):xK e (level:Int)=some (F6 e level):=by
 have hk:=Ci e; have hv:=EK e; unfold xK F6; have h16:decide ((16:Int) < (level:Int))=decide (16 < level):=by congr 1; simp; omega
 rw [h16,zero_eq,(Sr e h).1,acF e h,V5 (by omega),abH e.keys (by omega)]; by_cases h0:16 < level
 · simp [h0]
 ·
  simp only [h0,decide_false,Bool.false_eq_true,if_false,au]; have hkd:((decide (e.kind < 1)) || (decide (10 < e.kind)))=!ED e:=by simp [ED]
  have hne:(e.kind != 1)=!(e.kind == 1):=rfl; rw [hkd,hne]; unfold Il; cases h1:ED e with
  | false=>simp
  | true=>
   rw [acY e h1]
   cases h3:(e.kind == 1) <;> cases h4:Li e.value <;> cases h5:Jo e <;> cases h6:C8 e <;> cases h7:MS e <;> simp <;>
    (first | done | (split <;> (first | rfl | (split <;> (first | rfl | (split <;> rfl))))))
end Go.Ft
namespace Go.Ft
open Go
attribute [local congr] jQ
mutual
def Rp :ah→Nat→Int
 | ⟨a,b,c,l,f⟩,level=>if F6 ⟨a,b,c,l,f⟩ level != 0 then F6 ⟨a,b,c,l,f⟩ level else OY l (level + 1)
def OY :List ah→Nat→Int
 | [],_=>0
 | x :: r,level=>if Rp x level != 0 then Rp x level else OY r level
end
theorem Vb (e:ah) (level:Nat):Rp e level=if F6 e level != 0 then F6 e level else OY e.args (level + 1):=by cases e; rw [Rp]
theorem Gq {go:ah→Int→Option Int} {level:Nat}:∀ (l:List ah) (i:Nat),(∀ x∈l,go x ((level + 1:Nat):Int)=some (Rp x (level + 1)))→
  j4 (fun _ e1 (_:Unit) r=>ay (go e1 ((level + 1:Nat):Int)) fun e2=>if e2 != 0 then some e2 else r ()) (fun _=>some 0) i l ()=some (OY l (level + 1))
 | [],i,_=>by simp [j4,OY]
 | x :: r,i,h=>by
  rw [j4,h x (by simp),OY]; simp only [au]; rw [Gq r (i + 1) (fun y hy=>h y (by simp [hy]))]; split <;> rfl
theorem K4 :∀ (n:Nat) (e:ah) (level:Nat),e.bulk≤n→e.bulk < 4611686018427387904→level≤17→kP (n + 1) e (level:Int)=some (Rp e level)∧oh (n + 1) e (level:Int)=some (Rp e level)
 | 0,e,_,h,_,_=>by have:=e.qO; omega
 | n + 1,e,level,h,hB,hlv=>by
  have hl:=Jp e; have hv:=EK e; have hks:=Ci e; have hw:bV ((level:Int) + 1)=((level + 1:Nat):Int):=nW (by omega); constructor
  ·
   rw [Vb]; unfold kP vR; have:=jY (F:=fun k (_:Unit) i=>qH (kP (n + 1)) e (level:Int) k i) (l:=e.args) (body:=fun _ e1 _ r=>ay (kP (n + 1) e1 ((level + 1:Nat):Int)) fun e2=>if e2 != 0 then some e2 else r ()) (fin:=fun _=>some 0) (by omega) (fun k s i=>by rw [←hw]; rfl) (); rw [Yj e hB,this]; simp only [au]; by_cases h0:F6 e level=0
   ·
    have afg:level≤16:=by
     rcases Nat.lt_or_ge 16 level with h | h
     · unfold F6 at h0; simp [h] at h0
     · exact h
    rw [Gq e.args 0 fun x hx=>(K4 n x (level + 1) (by have:=pO hx; omega) (by have:=pO hx; omega) (by omega)).1]; simp [h0]
   · simp [h0]
  ·
   rw [Vb]; unfold oh Ak; have:=jY (F:=fun k (_:Unit) i=>vL (oh (n + 1)) e (level:Int) k i) (l:=e.args) (body:=fun _ e1 _ r=>ay (oh (n + 1) e1 ((level + 1:Nat):Int)) fun e2=>if e2 != 0 then some e2 else r ()) (fin:=fun _=>some 0) (by omega) (fun k s i=>by rw [←hw]; rfl) (); have h16:decide ((16:Int) < (level:Int))=decide (16 < level):=by congr 1; simp; omega
   rw [Xb e hB,abC (by omega),XU e.keys (by omega),this,h16]; by_cases h0:16 < level
   · simp [F6,h0]
   ·
    rw [Gq e.args 0 fun x hx=>(K4 n x (level + 1) (by have:=pO hx; omega) (by have:=pO hx; omega) (by omega)).2]; unfold F6; simp only [h0,decide_false,Bool.false_eq_true,if_false,au]; cases Il e with
    | false=>simp
    | true=>
     simp only [Bool.not_true,Bool.false_eq_true,if_false]; cases h1:(e.kind == 1 && (FV e.value 1 != 0)) with
     | true=>
      have:FV e.value 1≠0:=by simp at h1; exact h1.2
      simp [this]
     | false=>
      simp only [Bool.false_eq_true,if_false]; by_cases h2:(1024:Int) < (e.args.length:Int)
      · simp [h2]
      ·
       simp only [h2,decide_false,Bool.false_eq_true,if_false]; cases Ov [] e.keys <;> simp
def xval (e:ah):Int:=if 4096 < ecnt e then 15 else Rp e 1
theorem ZP {e:ah} (h:e.bulk < 4611686018427387904):lT e=some (xval e)∧BK e=some (xval e):=by
 obtain ⟨n,hn,hn2⟩:=wN; obtain ⟨c1,c2⟩:=count_eq h; obtain ⟨v1,v2⟩:=K4 n e 1 (by omega) h (by omega); unfold lT BK xval CG I5; rw [c1,c2,hn]; have:decide ((4096:Int) < (ecnt e:Int))=decide (4096 < ecnt e):=by congr 1; simp; omega
 simp only [au,this]; rw [show (1:Int)=((1:Nat):Int) from rfl,v1,v2]; by_cases h4:4096 < ecnt e <;> simp [h4]
inductive Ty where
 | leaf (k:Int)
 | nest (k:Int) (t:Ty)
namespace Ty
def api :Ty→aG
 | leaf k=>⟨k,[]⟩
 | nest k t=>⟨k,[t.api]⟩
def wf :Ty→Prop
 | leaf k=>0≤k∧k≤7∧k≠5∧k≠6
 | nest k t=>(k=5∨k=6)∧t.wf
def dep :Ty→Nat
 | leaf _=>1
 | nest _ t=>1 + t.dep
def kind :Ty→Int
 | leaf k=>k
 | nest k _=>k
theorem aeE (t:Ty):t.api.kind=t.kind:=by cases t <;> rfl
theorem VH (t:Ty):1≤t.dep:=by cases t <;> simp [dep] <;> omega
end Ty
theorem Me {k:Int} (h:0≤k∧k≤7):∃ s,u7 k=some s∧(s == ([]:Str))=false:=by
 obtain ⟨n,rfl⟩:∃ n:Nat,k=n:=⟨k.toNat,by omega⟩; have hn:n < 8:=by omega
 match n,hn with
 | 0,_=>exact ⟨_,rfl,rfl⟩
 | 1,_=>exact ⟨_,rfl,rfl⟩
 | 2,_=>exact ⟨_,rfl,rfl⟩
 | 3,_=>exact ⟨_,rfl,rfl⟩
 | 4,_=>exact ⟨_,rfl,rfl⟩
 | 5,_=>exact ⟨_,rfl,rfl⟩
 | 6,_=>exact ⟨_,rfl,rfl⟩
 | 7,_=>exact ⟨_,rfl,rfl⟩
theorem YG {k:Int} (h:¬ (0≤k∧k≤7)):u7 k=some []:=by
 unfold u7; rw [if_pos (by simp; omega)]
theorem XV :∀ (k level:Nat) (t:aG),18≤k + level→level≤17→∃ c,kg k (level:Int) t=some c∧Ao k t (level:Int)=some c∧(c=0→∃ T:Ty,T.wf∧t=T.api∧T.dep + level≤17)
 | 0,level,t,h,h'=>by omega
 | k + 1,level,t,h,h'=>by
  rw [kg,Ao,JZ]; have h16:decide ((16:Int) < (level:Int))=decide (16 < level):=by congr 1; simp; omega
  rw [h16]; by_cases h0:16 < level
  · exact ⟨13,by simp [h0],by simp [h0],by simp⟩
  ·
   simp only [h0,decide_false,Bool.false_eq_true,if_false]; by_cases hk:0≤t.kind∧t.kind≤7
   ·
    obtain ⟨s,hs,hs2⟩:=Me hk; have hb:(decide (t.kind < 0) || decide (7 < t.kind))=false:=by simp; omega
    rw [hs,hb]; simp only [au,hs2,kJ,Pb,Bool.false_eq_true,if_false]; cases hn:((t.kind == 5) || (t.kind == 6)) with
    | false=>
     simp only [Bool.false_and,Bool.not_false,Bool.true_and,Bool.false_eq_true,if_false,au,if_true]; cases he:t.elem with
     | nil=>
      refine ⟨0,by simp,by simp,fun _=>⟨.leaf t.kind,?_,?_,?_⟩⟩
      · simp at hn; exact ⟨hk.1,hk.2,hn.1,hn.2⟩
      · cases t; simp at he; subst he; rfl
      · simp only [Ty.dep]; omega
     | cons x r=>exact ⟨1,by first | (simp; done) | (simp; omega),by first | (simp; done) | (simp; omega),by simp⟩
    | true=>
     simp only [Bool.true_and,Bool.not_true,Bool.false_and,au,Bool.false_eq_true,if_false]; have hnk:t.kind=5∨t.kind=6:=by simpa using hn
     match he:t.elem with
     | []=>exact ⟨1,by simp,by simp,by simp⟩
     | [x]=>
      obtain ⟨c,c1,c2,c3⟩:=XV k (level + 1) x (by omega) (by omega); have hw:bV ((level:Int) + 1)=((level + 1:Nat):Int):=nW (by omega); refine ⟨c,?_,?_,fun hc=>?_⟩
      · rw [hw,←c1]; simp [idx]
      · rw [hw,←c2]; simp [idx]
      ·
       obtain ⟨T,w1,w2,w3⟩:=c3 hc; refine ⟨.nest t.kind T,⟨hnk,w1⟩,?_,?_⟩
       · cases t; simp at he; subst he; simp [Ty.api,w2]
       · simp only [Ty.dep]; omega
     | x :: y :: r=>
      have hl:(((x :: y :: r).length:Int) != 1)=true:=by simp only [List.length_cons,bne_iff_ne]; omega
      exact ⟨1,by simp only [hl,if_true,au],by simp only [hl,if_true],by simp⟩
   ·
    have hb:(decide (t.kind < 0) || decide (7 < t.kind))=true:=by simp; omega
    rw [YG hk,hb]; exact ⟨1,by simp,by simp,by simp⟩
theorem aaU :∀ (T:Ty) (k level:Nat),T.wf→T.dep + level≤17→18≤k + level→kg k (level:Int) T.api=some 0
 | .leaf a,0,level,_,h,h'=>by simp only [Ty.dep] at h; omega
 | .leaf a,k + 1,level,hw,h,h'=>by
  simp only [Ty.dep] at h; have h16:decide ((16:Int) < (level:Int))=false:=decide_eq_false (by omega); obtain ⟨s,hs,hs2⟩:=Me (k:=a) ⟨hw.1,hw.2.1⟩; have hn:((a == 5) || (a == 6))=false:=by simp; exact ⟨hw.2.2.1,hw.2.2.2⟩
  simp [kg,h16,Ty.api,hs,beq_eq_false_iff_ne.1 hs2,kJ,hn]
 | .nest a T,0,level,_,h,h'=>by simp only [Ty.dep] at h; have:=T.VH; omega
 | .nest a T,k + 1,level,hw,h,h'=>by
  simp only [Ty.dep] at h; have hd:=T.VH; have h16:decide ((16:Int) < (level:Int))=false:=decide_eq_false (by omega); have hn:((a == 5) || (a == 6))=true:=by simpa using hw.1
  obtain ⟨s,hs,hs2⟩:=Me (k:=a) (by rcases hw.1 with h | h <;> omega); have hw64:bV ((level:Int) + 1)=((level + 1:Nat):Int):=nW (by omega); have:=aaU T k (level + 1) hw.2 (by omega) (by omega); rw [←this,←hw64]; simp [kg,h16,Ty.api,hs,beq_eq_false_iff_ne.1 hs2,kJ,hn,idx]
def Ui (t:aG):Int:=(mO t).getD 0
theorem ZU (t:aG):mO t=some (Ui t)∧I6 t=some (Ui t)∧(Ui t=0→∃ T:Ty,T.wf∧t=T.api∧T.dep≤16):=by
 obtain ⟨c,c1,c2,c3⟩:=XV BIG 1 t (by have:=mg; omega) (by omega); have e1:mO t=some c:=c1; have e2:I6 t=some c:=c2; have:Ui t=c:=by unfold Ui; rw [e1]; rfl
 rw [this]; exact ⟨e1,e2,fun h=>by obtain ⟨T,a,b,d⟩:=c3 h; exact ⟨T,a,b,by omega⟩⟩
theorem ZQ {T:Ty} (h:T.wf) (hd:T.dep≤16):Ui T.api=0:=by
 have:=aaU T BIG 1 h (by omega) (by have:=mg; omega); have e1:mO T.api=some 0:=this; unfold Ui; rw [e1]; rfl
end Go.Ft
namespace Go.Ft
open Go
attribute [local congr] jQ
def ZT :aG:=aG.mk 0 []
def sc (k:Int):Ty:=.leaf k
def aes (x:Option (aG × Bool)):Option (aG × Int):=
 je x fun x6 ok1=>if !ok1 then some (ZT,9) else ay (I6 x6) fun x7=>if x7 != 0 then some (ZT,13) else some (x6,0)
def RES (x y:Option (aG × Int)):Prop:=∃ (T:Ty) (c:Int),T.wf∧T.dep≤16∧(c≠0→T=sc 0)∧x=some (T.api,c)∧y=some (T.api,c)
theorem RES.mk {x:Option (aG × Int)} {y:Option (aG × Bool)} (T:Ty) (b:Bool) (hx:x=some (if b then (T.api,0) else (ZT,9))) (hy:y=some (T.api,b)) (hw:b=true→T.wf∧T.dep≤16):RES x (aes y):=by
 subst hx hy; unfold aes; cases b with
 | false=>exact ⟨sc 0,9,by simp [sc,Ty.wf],by simp [sc,Ty.dep],fun _=>rfl,rfl,rfl⟩
 | true=>
  obtain ⟨h1,h2⟩:=hw rfl; refine ⟨T,0,h1,h2,fun h=>absurd rfl h,rfl,?_⟩; simp only [aC,Bool.not_true,Bool.false_eq_true,if_false,(ZU _).2.1,ZQ h1 h2]; rfl
end Go.Ft
namespace Go.Ft
open Go
attribute [local congr] jQ
theorem len1 {α:Type} {l:List α} (h:l.length=1):∃ a,l=[a]:=by
 match l,h with
 | [a],_=>exact ⟨a,rfl⟩
end Go.Ft
namespace Go.Ft
open Go
attribute [local congr] jQ
def ZV :ak:=ak.mk 0 false 0 ([]:Str) [] []
end Go.Ft
namespace Go.Ft
open Go
attribute [local congr] jQ
def uS {α:Type} (f:α→α→Int):List α→List α→Int
 | [],[]=>0
 | [],_ :: _=>-1
 | _ :: _,[]=>1
 | x :: xs,y :: ys=>if f x y != 0 then f x y else uS f xs ys
theorem AL {α:Type} {l t:List α} {d:α} {i:Nat} (h:d :: t=l.drop i):∃ hi:i < l.length,d=l[i]∧t=l.drop (i + 1):=by
 have hi:i < l.length:=by
  rcases Nat.lt_or_ge i l.length with h' | h'
  · exact h'
  · rw [List.drop_eq_nil_of_le h'] at h; cases h
 have hc:=List.drop_eq_getElem_cons hi; rw [←h] at hc; exact ⟨hi,(List.cons.inj hc).1,(List.cons.inj hc).2⟩
theorem AP {α:Type} {l:List α} {i:Nat} (h:[]=l.drop i):l.length≤i:=by
 rcases Nat.lt_or_ge i l.length with h' | h'
 · rw [List.drop_eq_getElem_cons h'] at h; cases h
 · exact h'
theorem Jr {α:Type} {a b:List α} {cmp:α→α→Option Int} {f:α→α→Int} (hc:∀ x∈a,∀ y∈b,cmp x y=some (f x y)):∀ (s t:List α) (i:Nat),s=a.drop i→t=b.drop i→i≤a.length→i≤b.length→
  j4 (fun (i:Nat) e1 (_:Unit) r=>if decide ((b.length:Int)≤(i:Int)) then some 1 else ay (idx b (i:Int)) fun e2=>ay (cmp e1 e2) fun c1=>if c1 != 0 then some c1 else r ())
   (fun _=>if decide ((a.length:Int) < (b.length:Int)) then some (-1) else some 0) i s ()=some (uS f s t)
 | [],[],i,hs,ht,_,_=>by
  have h1:=AP hs; have h2:=AP ht; rw [j4,uS,if_neg (by simp; omega)]
 | [],y :: t,i,hs,ht,_,_=>by
  have h1:=AP hs; obtain ⟨h2,_,_⟩:=AL ht; rw [j4,uS,if_pos (by simp; omega)]
 | x :: s,[],i,hs,ht,_,_=>by
  have h2:=AP ht; rw [j4,uS,if_pos (by simp; omega)]
 | x :: s,y :: t,i,hs,ht,_,_=>by
  obtain ⟨h1,e1,e2⟩:=AL hs; obtain ⟨h2,e3,e4⟩:=AL ht; rw [j4,uS,if_neg (by simp; omega),o7 h2,au,←e3,hc x (by rw [e1]; exact List.getElem_mem h1) y (by rw [e3]; exact List.getElem_mem h2),au]; split
  · rfl
  · exact Jr hc s t (i + 1) e2 e4 (by omega) (by omega)
theorem sign_eq (b:Bool):l7 b=some (if b then -1 else 1):=by unfold l7; cases b <;> rfl
theorem M4 {α:Type} {a b:List α} {cmp:α→α→Option Int} {f:α→α→Int} {g:Int→Option Int} (hg:∀ x∈a,∀ y∈b,g (f x y)=some (f x y)) (hc:∀ x∈a,∀ y∈b,cmp x y=some (f x y)) (ha:a.length < 4611686018427387904) {F:Nat→Int→Option Int}
  (hF:∀ k (i:Nat),F (k + 1) (i:Int)=if (decide ((i:Int) < (a.length:Int))) && (decide ((i:Int) < (b.length:Int))) then ay (idx a (i:Int)) fun e1=>ay (idx b (i:Int)) fun e2=>ay (cmp e1 e2) fun c1=>if c1 != 0 then g c1 else F k (bV ((i:Int) + 1))
   else if (a.length:Int) == (b.length:Int) then some 0 else l7 (decide ((a.length:Int) < (b.length:Int)))):
  ∀ (s t:List α) (k i:Nat),s=a.drop i→t=b.drop i→i≤a.length→i≤b.length→a.length < k + i→F k (i:Int)=some (uS f s t)
 | _,_,0,i,_,_,_,_,h=>by omega
 | [],[],k + 1,i,hs,ht,_,_,_=>by
  have h1:=AP hs; have h2:=AP ht; rw [hF,uS,if_neg (by simp; omega),if_pos (by simp; omega)]
 | [],y :: t,k + 1,i,hs,ht,_,_,_=>by
  have h1:=AP hs; obtain ⟨h2,_,_⟩:=AL ht; rw [hF,uS,if_neg (by simp; omega),if_neg (by simp; omega),sign_eq,if_pos (by simp; omega)]
 | x :: s,[],k + 1,i,hs,ht,_,_,_=>by
  have h2:=AP ht; obtain ⟨h1,_,_⟩:=AL hs; rw [hF,uS,if_neg (by simp; omega),if_neg (by simp; omega),sign_eq,if_neg (by simp; omega)]
 | x :: s,y :: t,k + 1,i,hs,ht,_,_,hk=>by
  obtain ⟨h1,e1,e2⟩:=AL hs; obtain ⟨h2,e3,e4⟩:=AL ht; have hx:x∈a:=by rw [e1]; exact List.getElem_mem h1
  have hy:y∈b:=by rw [e3]; exact List.getElem_mem h2
  rw [hF,uS,if_pos (by simp; omega),o7 h1,au,o7 h2,au,←e1,←e3,hc x hx y hy,au]; split
  · exact hg x hx y hy
  ·
   rw [nW (by omega)]; exact M4 hg hc ha hF s t k (i + 1) e2 e4 (by omega) (by omega) (by omega)
mutual
def Cv :ak→ak→Int
 | ⟨k,b,n,s,l,ks⟩,y=>
  if ru k y.kind != 0 then ru k y.kind else if k == 1 then uR (!b && y.fU) (b && !y.fU) else if k == 2 then ru n y.kF else if k == 3 then F4 s y.kC else if k == 4 then JM l y.bT
  else if k == 5 then (if uS iJ ks y.keys != 0 then uS iJ ks y.keys else JM l y.bT) else 0
def JM :List ak→List ak→Int
 | [],[]=>0
 | [],_ :: _=>-1
 | _ :: _,[]=>1
 | x :: xs,y :: ys=>if Cv x y != 0 then Cv x y else JM xs ys
end
theorem O0 :∀ l m:List ak,JM l m=uS Cv l m
 | [],[]=>by rw [JM,uS]
 | [],_ :: _=>by rw [JM,uS]
 | _ :: _,[]=>by rw [JM,uS]
 | x :: xs,y :: ys=>by rw [JM,uS,O0 xs ys]
theorem P6 (x y:ak):Cv x y=if ru x.kind y.kind != 0 then ru x.kind y.kind else if x.kind == 1 then uR (!x.fU && y.fU) (x.fU && !y.fU) else if x.kind == 2 then ru x.kF y.kF else if x.kind == 3 then F4 x.kC y.kC else if x.kind == 4 then uS Cv x.bT y.bT
  else if x.kind == 5 then (if uS iJ x.keys y.keys != 0 then uS iJ x.keys y.keys else uS Cv x.bT y.bT) else 0:=by
 cases x; rw [Cv,O0]
theorem Tg (x y:Int):(if x != y then l7 (decide (x < y)) else some 0)=some (ru x y):=by
 unfold ru uR; rw [sign_eq]; by_cases h:x=y
 · subst h; simp
 ·
  by_cases h2:x < y
  · simp [h,h2]
  ·
   have:y < x:=by omega
   simp [h,h2,this]
theorem Sq (x y:Str):(if (iJ x y != 0)=true then l7 (decide (iJ x y < 0)) else some 0)=some (iJ x y):=by
 rw [sign_eq]; rcases (show iJ x y=-1∨iJ x y=0∨iJ x y=1 from Ms _ _) with h | h | h <;> simp [h]
theorem Ue :∀ (n:Nat) (a b:ak),a.bulk≤n→a.bulk < 4611686018427387904→b.bulk < 4611686018427387904→kZ (n + 1) a b=some (Cv a b)∧∀ m,2 * n + 2≤m→jF m a b=some (Cv a b)
 | 0,a,_,h,_,_=>by have:=a.qO; omega
 | n + 1,a,b,h,hA,hB=>by
  have hla:=Fv a; have hka:=Fx a; have hlb:=Fv b; have hkb:=Fx b
  have ih:∀ x∈a.bT,∀ y∈b.bT,kZ (n + 1) x y=some (Cv x y)∧∀ m,2 * n + 2≤m→jF m x y=some (Cv x y):=
   fun x hx y hy=>Ue n x y (by have:=u6 hx; omega) (by have:=u6 hx; omega) (by have:=u6 hy; omega)
  have ks:∀ x∈a.keys,x.length < 4611686018427387904:=fun x hx=>by have:=Fw hx; omega
  have ks':∀ x∈b.keys,x.length < 4611686018427387904:=fun x hx=>by have:=Fw hx; omega
  constructor
  ·
   rw [kZ,Dm,P6,qy,au]
   have hL:dY a.bT b.bT (kZ (n + 1))=some (uS Cv a.bT b.bT):=by
    unfold dY
    rw [jY (F:=fun k (_:Unit) i=>eU a.bT b.bT (kZ (n + 1)) k i) (l:=a.bT)
     (body:=fun (i:Nat) e1 (_:Unit) r=>if decide ((b.bT.length:Int)≤(i:Int)) then some 1 else ay (idx b.bT (i:Int)) fun e2=>ay (kZ (n + 1) e1 e2) fun c1=>if c1 != 0 then some c1 else r ())
     (fin:=fun _=>if decide ((a.bT.length:Int) < (b.bT.length:Int)) then some (-1) else some 0) (by omega) (fun k s i=>rfl) ()]
    exact Jr (fun x hx y hy=>(ih x hx y hy).1) _ _ 0 rfl rfl (by omega) (by omega)
   have hK:gU a.keys b.keys j6=some (uS iJ a.keys b.keys):=by
    unfold gU
    rw [jY (F:=fun k (_:Unit) i=>gD a.keys b.keys j6 k i) (l:=a.keys)
     (body:=fun (i:Nat) e1 (_:Unit) r=>if decide ((b.keys.length:Int)≤(i:Int)) then some 1 else ay (idx b.keys (i:Int)) fun e2=>ay (j6 e1 e2) fun c1=>if c1 != 0 then some c1 else r ())
     (fin:=fun _=>if decide ((a.keys.length:Int) < (b.keys.length:Int)) then some (-1) else some 0) (by omega) (fun k s i=>rfl) ()]
    exact Jr (fun x hx y hy=>Jb (ks x hx) (ks' y hy)) _ _ 0 rfl rfl (by omega) (by omega)
   rw [hL,hK,qy,MZ,au]
   have hb:(ay (xw a.fU) fun x1=>ay (xw b.fU) fun x2=>cmp_Compare_int x1 x2)=some (uR (!a.fU && b.fU) (a.fU && !b.fU)):=by
    unfold xw; cases a.fU <;> cases b.fU <;> simp [qy,ru]
   rw [hb]
   repeat' split
   all_goals rfl
  ·
   intro m hm; obtain ⟨m,rfl⟩:∃ q,m=q + 2:=⟨m - 2,by omega⟩; rw [jF,w9,P6,qb,Ap]
   have hL:sN (jF m) a.bT b.bT BIG 0=some (uS Cv a.bT b.bT):=
    M4 (g:=some) (fun x hx y hy=>rfl) (fun x hx y hy=>(ih x hx y hy).2 m (by omega)) (by omega) (F:=sN (jF m) a.bT b.bT) (fun k i=>rfl) _ _ BIG 0 rfl rfl (by omega) (by omega) (by have:=mg; omega)
   have hK:BS a.keys b.keys=some (uS iJ a.keys b.keys):=by
    unfold BS; refine M4 (g:=fun c=>if c != 0 then l7 (decide (c < 0)) else some 0) (fun x hx y hy=>Sq x y) (fun x hx y hy=>Uv (ks x hx) (ks' y hy)) (by omega) (F:=sM a.keys b.keys) (fun k i=>?_) _ _ BIG 0 rfl rfl (by omega) (by omega) (by have:=mg; omega); rw [sM]; congr 1; congr 1; funext e1; congr 1; funext e2; congr 1; funext c; by_cases hc:(c != 0)=true
    · rw [if_pos hc,if_pos hc,if_pos hc]
    · rw [if_neg hc,if_neg hc]
   rw [hL,hK,au]; by_cases hk:a.kind=b.kind
   ·
    have e1:(a.kind != b.kind)=false:=by simpa using hk
    have e2:(ru a.kind b.kind != 0)=false:=by simpa using zn.2 hk
    rw [e1,e2]; simp only [Bool.false_eq_true,if_false,Tg]
    have hb:(if (!(a.fU == b.fU))=true then l7 b.fU else some 0)=some (uR (!a.fU && b.fU) (a.fU && !b.fU)):=by
     rw [sign_eq]; cases a.fU <;> cases b.fU <;> rfl
    have hs:(if (!(a.kC == b.kC))=true then l7 (Go.Op.bytesLess a.kC b.kC) else some 0)=some (F4 a.kC b.kC):=by
     rw [sign_eq]; unfold F4 uR; by_cases h:a.kC=b.kC
     · rw [h]; simp [wX]
     · cases h1:Go.Op.bytesLess a.kC b.kC <;> simp [h]
    rw [hb,hs]
    repeat' split
    all_goals rfl
   ·
    have e1:(a.kind != b.kind)=true:=by simpa using hk
    have e2:(ru a.kind b.kind != 0)=true:=by simpa using fun h=>hk (zn.1 h)
    have:=Tg a.kind b.kind; rw [if_pos e1] at this; rw [if_pos e1,if_pos e2,this]
theorem NQ {a b:ak} (hA:a.bulk < 4611686018427387904) (hB:b.bulk < 4611686018427387904):Bb a b=some (Cv a b)∧Ar a b=some (Cv a b):=by
 obtain ⟨n,hn,hn2⟩:=wN; unfold Bb Ar; constructor
 · rw [hn]; exact (Ue n a b (by omega) hA hB).1
 · exact (Ue a.bulk a b (Nat.le_refl _) hA hB).2 BIG (by have:=mg; omega)
theorem Zn {a b:ak} (hA:a.bulk < 4611686018427387904) (hB:b.bulk < 4611686018427387904):JN a b=some (Cv a b == 0)∧za a b=some (Cv a b == 0):=by
 unfold JN za; rw [(NQ hA hB).1,(NQ hA hB).2]; exact ⟨rfl,rfl⟩
end Go.Ft
namespace Go.Ft
open Go
attribute [local congr] jQ
mutual
def lev :ak→Nat
 | ⟨k,_,_,_,l,_⟩=>if (k == 4) || (k == 5) then ad6 l 2 else 1
def ad6 :List ak→Nat→Nat
 | [],n=>n
 | x :: r,n=>ad6 r (max n (1 + lev x))
end
mutual
def vok :ak→Bool
 | ⟨a,b,c,d,l,f⟩=>(Dl ⟨a,b,c,d,l,f⟩ 1 == 0) && adr l
def adr :List ak→Bool
 | []=>true
 | x :: r=>vok x && adr r
end
def VV (v:ak):Prop:=vok v=true∧lev v≤16
end Go.Ft
namespace Go.Ft
open Go
attribute [local congr] jQ
def dg (u:Nat):UInt8:=UInt8.ofNat (48 + u)
theorem MV {u:Nat} (h:u < 10):(dg u).toNat=48 + u:=by
 unfold dg; rw [UInt8.toNat_ofNat',Nat.mod_eq_of_lt (by omega)]
theorem Y6 {u:Nat} (h:u < 10):dO (dg u)=true:=by
 unfold dO; rw [MV h]; simp; omega
theorem Jq :∀ (k m u:Nat),u < 10 ^ k→u < 10 ^ m→0 < k→0 < m→tY k u=tY m u
 | 0,_,_,_,_,h,_=>by omega
 | _,0,_,_,_,_,h=>by omega
 | k + 1,m + 1,u,h,h',_,_=>by
  rw [tY,tY]; by_cases hu:u < 10
  · rw [if_pos hu,if_pos hu]
  ·
   rw [if_neg hu,if_neg hu]
   have hk:0 < k:=by
    rcases Nat.eq_zero_or_pos k with h0 | h0
    · subst h0; omega
    · exact h0
   have hm:0 < m:=by
    rcases Nat.eq_zero_or_pos m with h0 | h0
    · subst h0; omega
    · exact h0
   rw [Jq k m (u / 10) (by rw [Nat.pow_succ] at h; omega) (by rw [Nat.pow_succ] at h'; omega) hk hm]
theorem S_ :∀ (k u:Nat),u < 10 ^ k→0 < k→(tY k u).length≤k
 | 0,_,_,h=>by omega
 | k + 1,u,h,_=>by
  rw [tY]; split
  · simp
  ·
   rename_i hu
   have hk:0 < k:=by
    rcases Nat.eq_zero_or_pos k with h0 | h0
    · subst h0; omega
    · exact h0
   have:=S_ k (u / 10) (by rw [Nat.pow_succ] at h; omega) hk; simp only [List.length_append,List.length_singleton]; omega
theorem MU {u:Nat} (h:u < 10):tY 20 u=[dg u]:=by rw [tY,if_pos h]; rfl
theorem Ta {u:Nat} (h:¬ u < 10) (hb:u < 100000000000000000000):tY 20 u=tY 20 (u / 10) ++ [dg (u % 10)]:=by
 have e:tY 20 u=tY 19 (u / 10) ++ [dg (u % 10)]:=by rw [tY,if_neg h]; rfl
 rw [e,Jq 19 20 (u / 10) (by have:(10:Nat) ^ 19=10000000000000000000:=(by decide); omega) (by have:(10:Nat) ^ 20=100000000000000000000:=(by decide); omega) (by omega) (by omega)]
attribute [local irreducible] tY
def RH :Str→Nat→Nat
 | [],acc=>acc
 | c :: r,acc=>RH r (acc * 10 + (c.toNat - 48))
def uO (acc:Nat) (s:Str):Nat:=RH s acc
theorem xB (acc:Nat):uO acc []=acc:=rfl
theorem ng (acc:Nat) (c:UInt8) (s:Str):uO acc (c :: s)=uO (acc * 10 + (c.toNat - 48)) s:=by simp only [uO,RH]
theorem JO :∀ (s t:Str) (acc:Nat),RH (s ++ t) acc=RH t (RH s acc)
 | [],t,acc=>rfl
 | c :: s,t,acc=>by rw [List.cons_append,RH,RH,JO s t]
theorem JQ (s t:Str) (acc:Nat):uO acc (s ++ t)=uO (uO acc s) t:=JO s t acc
theorem Vj :∀ (s:Str) (acc:Nat),acc≤uO acc s
 | [],acc=>Nat.le_refl _
 | c :: s,acc=>by rw [ng]; have:=Vj s (acc * 10 + (c.toNat - 48)); omega
def Xp (s:Str):Prop:=s≠[]∧(∀ c∈s,dO c=true)∧(1 < s.length→(s.head?.map UInt8.toNat)≠some 48)
theorem xR :∀ (n u:Nat),u≤n→u < 100000000000000000000→Xp (tY 20 u)∧uO 0 (tY 20 u)=u∧(0 < u→((tY 20 u).head?.map UInt8.toNat)≠some 48)
 | n,u,h,hb=>by
  by_cases hu:u < 10
  ·
   rw [MU hu]; refine ⟨⟨by simp,fun c hc=>?_,fun h=>by simp at h⟩,?_,fun hp=>?_⟩
   · rw [List.mem_singleton.1 hc]; exact Y6 hu
   · simp [ng,xB,MV hu]
   · simp [MV hu]; omega
  ·
   match n,h with
   | 0,h=>omega
   | n + 1,h=>
    obtain ⟨⟨h1,h2,h3⟩,h4,h5⟩:=xR n (u / 10) (by omega) (by omega); rw [Ta hu hb]
    have hh:((tY 20 (u / 10) ++ [dg (u % 10)]).head?.map UInt8.toNat)=((tY 20 (u / 10)).head?.map UInt8.toNat):=by
     cases hd:tY 20 (u / 10) with
     | nil=>exact absurd hd h1
     | cons a l=>rfl
    refine ⟨⟨by simp,fun c hc=>?_,fun _=>?_⟩,?_,fun _=>?_⟩
    ·
     rcases List.mem_append.1 hc with hc | hc
     · exact h2 c hc
     · rw [List.mem_singleton.1 hc]; exact Y6 (by omega)
    · rw [hh]; exact h5 (by omega)
    ·
     rw [JQ,h4]; simp only [ng,xB,MV (show u % 10 < 10 from by omega)]; omega
    · rw [hh]; exact h5 (by omega)
theorem qV {c:UInt8} (h:dO c=true):48≤c.toNat∧c.toNat≤57:=by
 unfold dO at h; simp only [Bool.and_eq_true,decide_eq_true_eq] at h; omega
theorem abo {c:UInt8} (h:dO c=true):c=dg (c.toNat - 48):=by
 have:=qV h; apply UInt8.toNat_inj.1; rw [MV (by omega)]; omega
theorem Vi :∀ (s:Str) (acc:Nat),(∀ c∈s,dO c=true)→uO acc s < (acc + 1) * 10 ^ s.length
 | [],acc,_=>by simp [ng,xB]
 | c :: s,acc,h=>by
  have hc:=qV (h c (by simp)); have:=Vi s (acc * 10 + (c.toNat - 48)) fun x hx=>h x (by simp [hx]); rw [ng,List.length_cons,Nat.pow_succ]
  have e:(acc * 10 + (c.toNat - 48) + 1) * 10 ^ s.length≤(acc + 1) * (10 ^ s.length * 10):=by
   rw [Nat.mul_comm (10 ^ s.length) 10,←Nat.mul_assoc]; exact Nat.mul_le_mul_right _ (by omega)
  omega
theorem M8 :∀ (n:Nat) (s:Str),s.length≤n→Xp s→s.length≤19→tY 20 (uO 0 s)=s∧(1 < s.length→10≤uO 0 s)∧(s.length=1→uO 0 s < 10)
 | 0,s,h,hc,_=>by
  have:=List.length_pos_iff.2 hc.1; omega
 | n + 1,s,h,⟨h1,h2,h3⟩,h19=>by
  by_cases hl:s.length=1
  ·
   obtain ⟨c,rfl⟩:=len1 hl; have hd:=h2 c (by simp); have hn:=qV hd; have e:uO 0 [c]=c.toNat - 48:=by simp [ng,xB]
   rw [e,MU (by omega),←abo hd]; exact ⟨rfl,fun h=>by simp at h,fun _=>by omega⟩
  ·
   have hpos:=List.length_pos_iff.2 h1; have hs:s=s.dropLast ++ [s.getLast h1]:=(List.dropLast_concat_getLast h1).symm; have hdl:s.dropLast.length=s.length - 1:=List.length_dropLast; have hd:=h2 (s.getLast h1) (List.getLast_mem h1); have hn:=qV hd; have hne:s.dropLast≠[]:=fun h=>by rw [h] at hdl; simp at hdl; omega
   have hhd:s.dropLast.head?=s.head?:=by
    cases s with
    | nil=>exact absurd rfl h1
    | cons a l=>cases l with
     | nil=>simp at hl
     | cons b r=>rfl
   have hz:=h3 (by omega); have hcd:Xp s.dropLast:=⟨hne,fun c hc=>h2 c ((List.dropLast_sublist s).subset hc),fun _=>by rw [hhd]; exact hz⟩; obtain ⟨i1,i2,i3⟩:=M8 n s.dropLast (by omega) hcd (by omega)
   have hv:uO 0 s=uO 0 s.dropLast * 10 + ((s.getLast h1).toNat - 48):=by
    conv=>lhs; rw [hs]
    rw [JQ]; rfl
   have hp:1≤uO 0 s.dropLast:=by
    by_cases h10:s.dropLast.length=1
    ·
     obtain ⟨a,ha⟩:=len1 h10; have ha1:dO a=true:=h2 a ((List.dropLast_sublist s).subset (by rw [ha]; simp)); have ha2:=qV ha1; rw [←hhd,ha] at hz; simp only [List.head?_cons,Option.map_some,ne_eq,Option.some.injEq] at hz; rw [ha]; simp only [ng,xB]; omega
    · have:=i2 (by omega); omega
   have hlt:=Vi s 0 h2
   have h20:uO 0 s < 100000000000000000000:=by
    have:(10:Nat) ^ s.length≤10 ^ 19:=Nat.pow_le_pow_right (by omega) h19; have e19:(10:Nat) ^ 19=10000000000000000000:=by decide
    omega
   refine ⟨?_,fun _=>by omega,fun h=>absurd h hl⟩; rw [Ta (by omega) h20]; have e1:uO 0 s / 10=uO 0 s.dropLast:=by omega
   have e2:uO 0 s % 10=(s.getLast h1).toNat - 48:=by omega
   rw [e1,e2,i1,←abo hd]; exact hs.symm
theorem Vx :∀ (s:Str) (acc:Nat),(∀ c∈s,dO c=true)→uO acc s < 18446744073709551616→GK acc s=(0,uO acc s)
 | [],acc,_,_=>rfl
 | c :: s,acc,h,hb=>by
  have hc:=qV (h c (by simp)); have hg:=Vj s (acc * 10 + (c.toNat - 48)); rw [ng] at hb ⊢; rw [GK,if_pos hc,if_neg (by omega),if_neg (by omega)]; exact Vx s _ (fun x hx=>h x (by simp [hx])) hb
theorem TU {u:Nat} (h:u < 9223372036854775808):Cn (tY 20 u)=(0,(u:Int)):=by
 obtain ⟨⟨h1,h2,h3⟩,h4,h5⟩:=xR u u (Nat.le_refl _) (by omega); cases hd:tY 20 u with
 | nil=>exact absurd hd h1
 | cons c r=>
  rw [hd] at h2 h4; have hc:=qV (h2 c (by simp)); unfold Cn; have e1:¬ (c.toNat=43∨c.toNat=45):=by omega
  have hm:=Vx (c :: r) 0 h2 (by omega); rw [h4] at hm; have e45:¬ c.toNat=45:=by omega
  have e43:¬ c.toNat=43:=by omega
  simp only [e43,e45,or_self,if_false,hm,reduceCtorEq]; simp; omega
theorem Wq {s:Str} (hs:s.length≤16):∀ (t:Str) (i acc:Nat),t=s.drop i→acc < 10 ^ i→
  ∃ n ok,j4 (fun (i:Nat) c (n1:Int) r=>ay (nS c) fun x3=>if !x3 then some ((0:Int),false) else ay (idx s (i:Int)) fun x4=>r (bV ((bV ((bV (10 * n1)) + (x4.toNat:Int))) - 48))) (fun n1=>some (n1,(decide (n1≤9007199254740992)))) i t (acc:Int)=some (n,ok)∧
   (ok=true↔(∀ c∈t,dO c=true)∧uO acc t≤9007199254740992)∧(ok=true→n=uO acc t):=by
 intro t
 induction t with
 | nil=>
  intro i acc ht ha; refine ⟨_,_,rfl,?_,fun _=>rfl⟩; simp [ng,xB]; omega
 | cons c t ih=>
  intro i acc ht ha; obtain ⟨hi,e1,e2⟩:=AL ht; rw [j4,aai,au,o7 hi,←e1]; simp only [au]; cases hd:dO c with
  | false=>
   refine ⟨0,false,rfl,?_,fun h=>by cases h⟩; simp [hd]
  | true=>
   have hc:=qV hd; have h16:(10:Nat) ^ i≤10 ^ 15:=Nat.pow_le_pow_right (by omega) (by omega); have e15:(10:Nat) ^ 15=1000000000000000:=by decide
   simp only [Bool.not_true,Bool.false_eq_true,if_false]
   have ew:bV ((bV ((bV (10 * (acc:Int))) + (c.toNat:Int))) - 48)=((acc * 10 + (c.toNat - 48):Nat):Int):=by
    rw [V4 (n:=10 * (acc:Int)) (by omega),V4 (n:=10 * (acc:Int) + (c.toNat:Int)) (by omega),V4 (by omega)]; omega
   rw [ew]; obtain ⟨n,ok,q1,q2,q3⟩:=ih (i + 1) (acc * 10 + (c.toNat - 48)) e2 (by rw [Nat.pow_succ]; omega); refine ⟨n,ok,q1,?_,q3⟩; rw [q2,ng]; simp [hd]
theorem aak (s:Str):∃ n ok,wZ s=some (n,ok)∧(ok=true→∃ u:Nat,n=u∧s=tY 20 u∧u≤9007199254740992)∧∀ u:Nat,s=tY 20 u→u≤9007199254740992→ok=true∧n=u:=by
 unfold wZ; by_cases h0:s=[]∨16 < s.length
 ·
  have e:((s == ([]:Str)) || (decide (16 < (s.length:Int))))=true:=by
   rcases h0 with h | h
   · simp [h]
   · simp; right; omega
  rw [if_pos e]; simp only [au,if_true]; refine ⟨0,false,rfl,(fun h=>by cases h),fun u h1 h2=>?_⟩; obtain ⟨⟨q1,_,_⟩,_,_⟩:=xR u u (Nat.le_refl _) (by omega); have hl:=S_ 16 u (by have:(10:Nat) ^ 16=10000000000000000:=(by decide); omega) (by omega); rw [Jq 16 20 u (by have:(10:Nat) ^ 16=10000000000000000:=(by decide); omega) (by have:(10:Nat) ^ 20=100000000000000000000:=(by decide); omega) (by omega) (by omega),←h1] at hl; rcases h0 with h | h
  · rw [h1] at h; exact absurd h q1
  · omega
 ·
  have hne:s≠[]:=fun h=>h0 (.inl h); have hlen:s.length≤16:=by omega
  have hpos:=List.length_pos_iff.2 hne; have e:((s == ([]:Str)) || (decide (16 < (s.length:Int))))=false:=by simp [hne]; omega
  rw [if_neg (by rw [e]; simp)]; obtain ⟨n,ok,q1,q2,q3⟩:=Wq hlen s 0 0 rfl (by simp)
  have hF:rV s BIG 0 0=some (n,ok):=by
   rw [jY (F:=fun k n1 i=>rV s k n1 i) (l:=s) (body:=fun (i:Nat) c (n1:Int) r=>ay (nS c) fun x3=>if !x3 then some ((0:Int),false) else ay (idx s (i:Int)) fun x4=>r (bV ((bV ((bV (10 * n1)) + (x4.toNat:Int))) - 48))) (fin:=fun n1=>some (n1,(decide (n1≤9007199254740992)))) (by omega) (fun k s i=>rfl) 0]; exact q1
  have zero:∀ (c:UInt8) (r:Str),s=c :: r→idx s 0=some c:=fun c r h=>by rw [h]; rfl
  obtain ⟨c,r,hcr⟩:∃ c r,s=c :: r:=by
   cases s with
   | nil=>exact absurd rfl hne
   | cons c r=>exact ⟨c,r,rfl⟩
  have hb1:(if decide (1 < (s.length:Int))=true then ay (idx s 0) fun x1=>some ((x1.toNat:Int) == 48) else some false)=some ((decide (1 < s.length)) && ((c.toNat:Int) == 48)):=by
   rw [zero c r hcr]; by_cases h1:1 < s.length
   · rw [if_pos (by simp; omega),au]; simp [h1]
   · rw [if_neg (by simp; omega)]; simp [h1]
  rw [hb1,au]; by_cases hz:1 < s.length∧c.toNat=48
  ·
   rw [if_pos (by simp [hz.1]; omega)]; refine ⟨0,false,rfl,(fun h=>by cases h),fun u h1 h2=>?_⟩; obtain ⟨⟨_,_,q⟩,_,_⟩:=xR u u (Nat.le_refl _) (by omega); rw [←h1] at q; have:=q hz.1; rw [hcr] at this; simp [hz.2] at this
  ·
   rw [if_neg (by simp; intro h; omega),hF]; refine ⟨n,ok,rfl,fun h=>?_,fun u h1 h2=>?_⟩
   ·
    obtain ⟨d1,d2⟩:=q2.1 h; have hcan:Xp s:=⟨hne,d1,fun h1=>by rw [hcr]; simp; omega⟩; exact ⟨uO 0 s,q3 h,(M8 _ s (Nat.le_refl _) hcan (by omega)).1.symm,d2⟩
   ·
    obtain ⟨⟨_,q5,_⟩,q4,_⟩:=xR u u (Nat.le_refl _) (by omega); rw [←h1] at q5 q4; have hok:ok=true:=q2.2 ⟨q5,by omega⟩; exact ⟨hok,by rw [q3 hok,q4]⟩
end Go.Ft
namespace Go.Ft
open Go
attribute [local congr] jQ
def toX {α:Type} (p:α × Int):g_ bY α:=if p.2=0 then .ok p.1 else .bad ⟨p.2⟩
def okV (v:ak):ak × Int:=(v,0)
def erV (c:Int):ak × Int:=(ZV,c)
@[simp] theorem aeX (v:ak):toX (okV v)=.ok v:=rfl
def GV (p:ak × Int) (N:Nat):Prop:=(p.2=0→VV p.1∧p.1.bulk≤N)∧(p.2≠0→p.1=ZV)
theorem GV.ok {v:ak} {N:Nat} (h:VV v) (hb:v.bulk≤N):GV (okV v) N:=⟨fun _=>⟨h,hb⟩,fun h=>absurd rfl h⟩
end Go.Ft
namespace Go.Ft
open Go
attribute [local congr] jQ
def aeA (b:ak × Int):ak × Int:=if b.2≠0 then erV b.2 else if b.1.kind≠1 then erV 9 else b
def uP (n:Str) (a b:ak × Int):ak × Int:=if a.2≠0 then erV a.2 else if a.1.kind≠1 then erV 9 else if a.1.fU=decide (n=[124,124]) then a else aeA b
end Go.Ft
namespace Go.Ft
open Go
attribute [local congr] jQ
theorem Jc {α:Type} {c:α→α→Int}:∀ l:List α,(∀ x∈l,c x x=0)→uS c l l=0
 | [],_=>by rw [uS]
 | x :: r,h=>by rw [uS,h x (by simp),Jc r fun y hy=>h y (by simp [hy])]; simp
theorem OZ :∀ (n:Nat) (v:ak),v.bulk≤n→Cv v v=0
 | 0,v,h=>by have:=v.qO; omega
 | n + 1,v,h=>by
  have h1:uS Cv v.bT v.bT=0:=Jc _ fun x hx=>OZ n x (by have:=u6 hx; omega); have h2:uS iJ v.keys v.keys=0:=Jc _ fun x _=>J4 x; have h3:∀ x:Int,ru x x=0:=fun x=>zn.2 rfl; rw [P6,h1,h2,h3,h3,Py]; have h4:uR (!v.fU && v.fU) (v.fU && !v.fU)=0:=by cases v.fU <;> rfl
  rw [h4]; simp
theorem QG {x:ah} {go:ah→ah→Option Bool} (hk:x.keys.length < 4611686018427387904) (ha:x.args.length < 4611686018427387904) (hv:x.value.bulk < 4611686018427387904) (h:∀ y∈x.args,go y y=some true):xF go x x=some true:=by
 have e1:za x.value x.value=some true:=by rw [(Zn hv hv).2,OZ _ _ (Nat.le_refl _)]; rfl
 rw [xF,e1]; simp only [bne_self_eq_false,beq_self_eq_true,Bool.not_true,Bool.or_self,Bool.false_eq_true,if_false,au]; rw [jY (F:=fun k (_:Unit) i=>vM go x x k i) (l:=x.keys) (body:=fun (i:Nat) e1 (_:Unit) r=>ay (idx x.keys (i:Int)) fun e2=>if !(e1 == e2) then some false else r ()) (fin:=fun _=>om go x x BIG 0) hk (fun k s i=>rfl) ()]
 have key:∀ (t:List Str) (i:Nat),t=x.keys.drop i→j4 (fun (i:Nat) e1 (_:Unit) r=>ay (idx x.keys (i:Int)) fun e2=>if !(e1 == e2) then some false else r ()) (fun _=>om go x x BIG 0) i t ()=om go x x BIG 0:=by
  intro t
  induction t with
  | nil=>intro i _; rfl
  | cons d t ih=>
   intro i ht
   have hi:i < x.keys.length:=by
    rcases Nat.lt_or_ge i x.keys.length with h | h
    · exact h
    · rw [List.drop_eq_nil_of_le h] at ht; cases ht
   have hc:=List.drop_eq_getElem_cons hi; rw [←ht] at hc; have e1':=(List.cons.inj hc).1; have e2':=(List.cons.inj hc).2; rw [j4,o7 hi,au,←e1',if_neg (by simp)]; exact ih (i + 1) e2'
 rw [key x.keys 0 rfl]; rw [jY (F:=fun k (_:Unit) i=>om go x x k i) (l:=x.args) (body:=fun (i:Nat) e1 (_:Unit) r=>ay (idx x.args (i:Int)) fun e2=>ay (go e1 e2) fun x1=>if !x1 then some false else r ()) (fin:=fun _=>some true) ha (fun k s i=>rfl) ()]
 have key2:∀ (t:List ah) (i:Nat),t=x.args.drop i→j4 (fun (i:Nat) e1 (_:Unit) r=>ay (idx x.args (i:Int)) fun e2=>ay (go e1 e2) fun x1=>if !x1 then some false else r ()) (fun _=>some true) i t ()=some true:=by
  intro t
  induction t with
  | nil=>intro i _; rfl
  | cons d t ih=>
   intro i ht
   have hi:i < x.args.length:=by
    rcases Nat.lt_or_ge i x.args.length with h | h
    · exact h
    · rw [List.drop_eq_nil_of_le h] at ht; cases ht
   have hc:=List.drop_eq_getElem_cons hi; rw [←ht] at hc; have e1':=(List.cons.inj hc).1; have e2':=(List.cons.inj hc).2; rw [j4,o7 hi,au,←e1',h d (by rw [e1']; exact List.getElem_mem hi),au,if_neg (by simp)]; exact ih (i + 1) e2'
 exact key2 x.args 0 rfl
theorem Pv :∀ (n:Nat) (e:ah),e.bulk≤n→e.bulk < 4611686018427387904→rT (n + 1) e e=some true
 | 0,e,h,_=>by have:=e.qO; omega
 | n + 1,e,h,hb=>by
  have ha:=Jp e; have hk:=Ci e; have hv:=EK e; rw [rT]; exact QG (by omega) (by omega) (by omega) fun x hx=>Pv n x (by have:=pO hx; omega) (by have:=pO hx; omega)
end Go.Ft
namespace Go.Ft
open Go
attribute [local congr] jQ
theorem aeb {α:Type} (a:α) (l:List α):idx (a :: l) 0=some a:=rfl
end Go.Ft
namespace Go.Ft
open Go
theorem VU :Cb=some true:=by decide +kernel
end Go.Ft
namespace Go.Ft
open Go
attribute [local congr] jQ
theorem Tc :∀ (t:Str) (i:Nat) (s:Str),j4 (fun (i:Nat) c (_:Unit) r=>ay (mV c) fun x3=>if !x3 then some false else r ()) (fun _=>je (strconv_Atoi s) fun n1 SX=>some ((SX.isNone) && (decide (n1≤9007199254740992)))) i t ()=
  if t.all dO then je (strconv_Atoi s) fun n1 SX=>some ((SX.isNone) && (decide (n1≤9007199254740992))) else some false
 | [],i,s=>by simp [j4]
 | c :: t,i,s=>by
  have ih:=Tc t (i + 1) s; rw [j4]; by_cases hd:dO c=true
  ·
   have e:mV c=some true:=by rw [Vt,hd]
   rw [e,au,if_neg (by simp)]; refine ih.trans ?_; simp [hd]
  ·
   have hd':dO c=false:=by simpa using hd
   have e:mV c=some false:=by rw [Vt,hd']
   rw [e,au,if_pos (by simp)]; simp [hd']
theorem RI :∀ (s:Str) (acc:Nat),acc * 10 ^ s.length≤uO acc s
 | [],acc=>by simp [xB]
 | c :: s,acc=>by
  have ih:=RI s (acc * 10 + (c.toNat - 48)); rw [ng,List.length_cons,Nat.pow_succ]; have:acc * (10 ^ s.length * 10)=acc * 10 * 10 ^ s.length:=by rw [Nat.mul_comm (10 ^ s.length) 10,←Nat.mul_assoc]
  rw [this]; exact Nat.le_trans (Nat.mul_le_mul_right _ (Nat.le_add_right _ _)) ih
theorem SB :∀ (s:Str) (acc v:Nat),GK acc s=(0,v)→v=uO acc s
 | [],acc,v,h=>by simp [GK] at h; rw [xB,h]
 | c :: s,acc,v,h=>by
  rw [GK] at h; rw [ng]; split at h
  ·
   split at h
   · cases h
   ·
    split at h
    · cases h
    · exact SB s _ v h
  · cases h
theorem Zj {s:Str} (h:Xp s) (h0:(Cn s).1=0):(Cn s).2=(uO 0 s:Int)∧uO 0 s < 9223372036854775808:=by
 obtain ⟨h1,h2,_⟩:=h; obtain ⟨c,r,rfl⟩:∃ c r,s=c :: r:=by cases s with | nil=>exact absurd rfl h1 | cons c r=>exact ⟨c,r,rfl⟩
 have hc:=qV (h2 c (by simp)); have e1:¬ c.toNat=43:=by omega
 have e2:¬ c.toNat=45:=by omega
 unfold Cn at h0 ⊢; simp only [e1,e2,or_self,if_false,ne_eq,not_false_eq_true,true_and,false_and,reduceCtorEq] at h0 ⊢; cases hm:GK 0 (c :: r) with
 | mk a v=>
  rw [hm] at h0; simp only at h0 ⊢; by_cases a1:a=1
  · simp [a1] at h0
  ·
   by_cases a2:a=2
   · simp [a2] at h0
   ·
    rw [if_neg a1,if_neg a2] at h0 ⊢; by_cases hv:9223372036854775808≤v
    · rw [if_pos hv] at h0; cases h0
    ·
     rw [if_neg hv]
     have ha:a=0:=by
      have:∀ (s:Str) (acc:Nat),(GK acc s).1=0∨(GK acc s).1=1∨(GK acc s).1=2:=by
       intro s
       induction s with
       | nil=>intro acc; simp [GK]
       | cons c s ih=>
        intro acc; rw [GK]; split
        ·
         split
         · simp
         ·
          split
          · simp
          · exact ih _
        · simp
      have:=this (c :: r) 0; rw [hm] at this; simp only at this; omega
     subst ha; have:=SB _ _ _ hm; exact ⟨by rw [this],by omega⟩
theorem Y8 {s:Str} (hs:s.length≤281474976710656):∃ b,rW s=some b∧(b=true→∃ u:Nat,s=tY 20 u∧u≤9007199254740992)∧∀ u:Nat,s=tY 20 u→u≤9007199254740992→b=true:=by
 unfold rW; by_cases h0:s=[]
 ·
  subst h0; refine ⟨false,rfl,(fun h=>by cases h),fun u h1 h2=>?_⟩; have:=(xR u u (Nat.le_refl _) (by omega)).1.1; exact absurd h1.symm this
 obtain ⟨c,r,rfl⟩:∃ c r,s=c :: r:=by cases s with | nil=>exact absurd rfl h0 | cons c r=>exact ⟨c,r,rfl⟩
 have e0:((c :: r) == ([]:Str))=false:=rfl; simp only [e0,Bool.false_eq_true,if_false]; by_cases h1:1 < (c :: r).length∧c.toNat=48
 ·
  have e1:decide ((1:Int) < ((c :: r).length:Int))=true:=decide_eq_true (by omega); refine ⟨false,?_,(fun h=>by cases h),fun u h2 h3=>?_⟩
  ·
   rw [if_pos e1]; simp [aeb,h1.2]
  ·
   have:=(xR u u (Nat.le_refl _) (by omega)).1.2.2; rw [←h2] at this; exact absurd (by simp [h1.2]) (this h1.1)
 ·
  have e1:(ay (if decide ((1:Int) < ((c :: r).length:Int)) then ay (idx (c :: r) 0) fun x1=>some ((x1.toNat:Int) == 48) else some false) fun b1=>if b1 then some false else kQ (c :: r) BIG 0)=kQ (c :: r) BIG 0:=by
   by_cases h2:1 < (c :: r).length
   ·
    rw [if_pos (decide_eq_true (by omega))]; have:((c.toNat:Int) == 48)=false:=by rw [beq_eq_false_iff_ne]; intro h; exact h1 ⟨h2,by omega⟩
    simp [aeb,this]
   ·
    rw [if_neg (by simp only [decide_eq_true_eq]; omega)]; rfl
  rw [e1]; have sc:=jY (F:=fun k (_:Unit) i=>kQ (c :: r) k i) (l:=c :: r) (body:=fun (i:Nat) c (_:Unit) r=>ay (mV c) fun x3=>if !x3 then some false else r ()) (fin:=fun _=>je (strconv_Atoi (c :: r)) fun n1 SX=>some ((SX.isNone) && (decide (n1≤9007199254740992)))) (by omega) (fun k s i=>rfl) (); rw [sc,Tc]; by_cases hd:∀ x∈c :: r,dO x=true
  ·
   have hcan:Xp (c :: r):=⟨by simp,hd,fun h2=>by simp; intro h; exact h1 ⟨h2,h⟩⟩; rw [if_pos (by rw [List.all_eq_true]; exact hd),strconv_Atoi,if_pos hs,aC]; refine ⟨_,rfl,fun hb=>?_,fun u h2 h3=>?_⟩
   ·
    simp only [Bool.and_eq_true,decide_eq_true_eq] at hb
    have h0:(Cn (c :: r)).1=0:=by
     by_cases hz:(Cn (c :: r)).1=0
     · exact hz
     · rw [if_neg hz] at hb; simp at hb
    obtain ⟨a1,a2⟩:=Zj hcan h0
    have hlen:(c :: r).length≤19:=by
     rcases Nat.lt_or_ge 19 (c :: r).length with h | h
     ·
      exfalso; have hc:=qV (hd c (by simp)); have hlow:=RI r (0 * 10 + (c.toNat - 48)); have hne:c.toNat≠48:=fun h2=>h1 ⟨by omega,h2⟩; rw [ng] at a2; simp only [List.length_cons] at h; have hp:10 ^ 19≤10 ^ r.length:=Nat.pow_le_pow_right (by omega) (by omega); have h19:(10:Nat) ^ 19=10000000000000000000:=by decide
      have:1 * 10 ^ r.length≤(0 * 10 + (c.toNat - 48)) * 10 ^ r.length:=Nat.mul_le_mul_right _ (by omega); omega
     · exact h
    refine ⟨uO 0 (c :: r),(M8 _ _ (Nat.le_refl _) hcan hlen).1.symm,?_⟩; rw [a1] at hb; omega
   ·
    rw [h2,TU (by omega)]; simp; omega
  ·
   rw [if_neg (by rw [List.all_eq_true]; exact hd)]; refine ⟨false,rfl,(fun h=>by cases h),fun u h2 h3=>?_⟩; have:=(xR u u (Nat.le_refl _) (by omega)).1.2.1; rw [←h2] at this; exact absurd this hd
end Go.Ft
namespace Go.Ft
open Go
attribute [local congr] jQ
def DV (t:av):Bool:=(jr t).getD false
theorem aag {t:av} (h:t.text.length≤281474976710656):jr t=some (DV t):=by
 have:(jr t).isSome=true:=by
  unfold jr; rw [LZ _ (by omega)]; obtain ⟨b,hb,_⟩:=Y8 h; rw [hb]
  repeat' split
  all_goals rfl
 unfold DV; cases hp:jr t with
 | none=>rw [hp] at this; cases this
 | some b=>rfl
theorem Uu {t:av} (h:t.kind=4):DV t=true:=by simp [DV,jr,h]
theorem YC {t:av} (h:DV t=true):t.kind=1∨t.kind=2∨t.kind=3∨t.kind=4:=by
 unfold DV jr at h; by_cases h1:t.kind=1
 · exact .inl h1
 by_cases h2:t.kind=2
 · exact .inr (.inl h2)
 by_cases h3:t.kind=3
 · exact .inr (.inr (.inl h3))
 by_cases h4:t.kind=4
 · exact .inr (.inr (.inr h4))
 simp [h1,h2,h3,h4] at h
def yX (ts:List av):Prop:=ts.length≤65536∧∀ t∈ts,t.text.length≤1048576
def xC (ts:List av) (i:Nat):av:=match ts[i]? with
 | some t=>if DV t then t else av.mk 0 [] 0
 | none=>av.mk 0 [] 0
def rD (ts:List av) (i:Nat) (op:Str):Bool:=((xC ts i).kind == 4) && ((xC ts i).text == op)
def miss (ts:List av) (i:Nat):Int:=if ts.length≤i then 4 else 5
theorem Qn {ts:List av} (h:yX ts) (i:Nat):jv (aj.mk ts (i:Int))=some (xC ts i,aj.mk ts (i:Int)):=by
 unfold jv xC; by_cases hi:i < ts.length
 ·
  have ht:=h.2 ts[i] (List.getElem_mem hi); have e:decide (((i:Nat):Int) < (ts.length:Int))=true:=decide_eq_true (by omega); simp only [e,if_true,o7 hi,au,aag (t:=ts[i]) (by omega),List.getElem?_eq_getElem hi]; cases DV ts[i] <;> simp
 ·
  have e:decide (((i:Nat):Int) < (ts.length:Int))=false:=decide_eq_false (by omega); simp only [e,Bool.false_eq_true,if_false,au,List.getElem?_eq_none (Nat.le_of_not_lt hi)]
theorem mE {ts:List av} (h:yX ts) {i:Nat} (hi:i≤ts.length) (op:Str):dK (aj.mk ts (i:Int)) op=some (rD ts i op,aj.mk ts ((if rD ts i op then i + 1 else i:Nat):Int)):=by
 have:=h.1; unfold dK sS; rw [Qn h,aC,aC]; show (if (!(rD ts i op))=true then _ else _)=_; cases rD ts i op with
 | true=>rw [if_neg (by simp),nW (by omega)]; rfl
 | false=>rw [if_pos (by simp)]; rfl
theorem nJ {ts:List av} {i:Nat} {op:Str} (h:rD ts i op=true):∃ hi:i < ts.length,ts[i].kind=4∧ts[i].text=op∧DV ts[i]=true:=by
 unfold rD xC at h; cases hx:ts[i]? with
 | none=>rw [hx] at h; simp at h
 | some t=>
  rw [hx] at h; obtain ⟨hi,ht⟩:=List.getElem?_eq_some_iff.1 hx; cases ho:DV t with
  | false=>simp [ho] at h
  | true=>
   simp [ho] at h; exact ⟨hi,by rw [ht]; exact h.1,by rw [ht]; exact h.2,by rw [ht]; exact ho⟩
theorem yg {ts:List av} (h:yX ts) (i:Nat) (op:Str):pz ts (i:Int) op=some (rD ts i op):=by
 unfold pz; by_cases hi:i < ts.length
 ·
  have e:decide (((i:Nat):Int) < (ts.length:Int))=true:=decide_eq_true (by omega); simp only [e,if_true,o7 hi,au]; unfold rD xC; rw [List.getElem?_eq_getElem hi]; simp only; by_cases h4:ts[i].kind=4
  · rw [if_pos (by simpa using h4),Uu h4,if_pos rfl]; simp [h4]
  ·
   rw [if_neg (by simpa using h4)]; cases DV ts[i] <;> simp [h4]
 ·
  have e:decide (((i:Nat):Int) < (ts.length:Int))=false:=decide_eq_false (by omega); simp only [e,Bool.false_eq_true,if_false,au]; cases hc:rD ts i op with
  | false=>rfl
  | true=>obtain ⟨h1,_⟩:=nJ hc; omega
theorem xE (ts:List av) (i:Nat):lq ts (i:Int)=some (miss ts i):=by
 unfold lq miss; by_cases hi:ts.length≤i
 · rw [if_pos (decide_eq_true (by omega)),if_pos hi]
 · rw [if_neg (by simp; omega),if_neg hi]
theorem HZ {ts:List av} (h:yX ts) (i:Nat):jy (aj.mk ts (i:Int))=some (if (xC ts i).kind=0 then (.bad (aA.mk (i:Int) (miss ts i)),aj.mk ts (i:Int)) else (.ok (xC ts i),aj.mk ts (i:Int))):=by
 unfold jy gW; by_cases hi:ts.length≤i
 ·
  have ht:(xC ts i).kind=0:=by unfold xC; rw [List.getElem?_eq_none hi]
  rw [if_pos (decide_eq_true (show (ts.length:Int)≤(i:Int) by omega)),if_pos ht]; simp [gG,miss,hi]
 ·
  rw [if_neg (by simp; omega),Qn h,aC]; by_cases hk:(xC ts i).kind=0
  ·
   rw [if_pos (by simpa using hk),if_pos hk]; simp [gG,miss,hi]
  · rw [if_neg (by simpa using hk),if_neg hk]
theorem zl {ts:List av} (h:yX ts) {i:Nat} (hi:i≤ts.length) (op:Str):fD (aj.mk ts (i:Int)) op=some (if rD ts i op then (.ok (),aj.mk ts ((i + 1:Nat):Int)) else (.bad (aA.mk (i:Int) (miss ts i)),aj.mk ts (i:Int))):=by
 unfold fD; rw [HZ h]; by_cases hk:(xC ts i).kind=0
 ·
  have ho:rD ts i op=false:=by unfold rD; rw [hk]; rfl
  rw [if_pos hk,ho,if_neg (by simp)]; rfl
 ·
  rw [if_neg hk]; show je _ _=_; rw [mE h hi,aC]; cases ho:rD ts i op with
  | true=>rfl
  | false=>
   have hlt:¬ ts.length≤i:=fun hl=>hk (by unfold xC; rw [List.getElem?_eq_none hl]); simp [gG,gW,miss,hlt]
end Go.Ft
namespace Go.Ft
open Go
attribute [local congr] jQ
def RE (ts:List av) (i0:Nat) (P:Option (g_ aA ah × aj)) (R:Option (ah × Int × Int)):Prop:=
 (∃ (e:ah) (j:Nat),i0 < j∧j≤ts.length∧e.bulk≤2097152 * (j - i0)∧P=some (.ok e,aj.mk ts (j:Int))∧R=some (e,(j:Int),0))∨
 (∃ (j:Nat) (c:Int) (x:ah),i0≤j∧j≤ts.length∧c≠0∧P=some (.bad (aA.mk (j:Int) c),aj.mk ts (j:Int))∧R=some (x,(j:Int),c))
theorem Ob :((0:Int) != 0)=false:=rfl
theorem yN (ts:List av) (i:Nat):miss ts i≠0:=by unfold miss; split <;> decide
theorem Md {c:Int} (h:c≠0):(c != 0)=true:=by simpa using h
theorem aez (k:Int) (n:Str) (a b c:ah):(ah.mk k n (ak.mk 0 false 0 ([]:Str) [] []) [a,b,c] []).bulk=12 + n.length + a.bulk + b.bulk + c.bulk:=by
 simp [ah.bulk,ah.mK,ak.bulk,ak.mK]; omega
theorem abv (k:Int) (n:Str) (a b:ah):(ah.mk k n (ak.mk 0 false 0 ([]:Str) [] []) [a,b] []).bulk=12 + n.length + a.bulk + b.bulk:=by
 simp [ah.bulk,ah.mK,ak.bulk,ak.mK]; omega
theorem abw (k:Int) (n:Str) (a:ah):(ah.mk k n (ak.mk 0 false 0 ([]:Str) [] []) [a] []).bulk=12 + n.length + a.bulk:=by
 simp [ah.bulk,ah.mK,ak.bulk,ak.mK]; omega
theorem Xi {ts:List av} (h:yX ts) {k k' i:Nat} (ho:RE ts i (aX k (aj.mk ts (i:Int)) 2) (dn k' ts (i:Int) 2))
  (hc:∀ j,i < j→j≤ts.length→RE ts j (aQ k (aj.mk ts (j:Int))) (b_ k' ts (j:Int))):
  RE ts i (aQ (k + 1) (aj.mk ts (i:Int))) (b_ (k' + 1) ts (i:Int)):=by
 have hN:=h.1; rw [aQ,lF,b_,uJ]; rcases ho with ⟨e,j,h1,h2,hb,hP,hR⟩ | ⟨j,c,x,h1,h2,hc0,hP,hR⟩
 ·
  rw [hP,hR,ig,aB,mE h h2,aC]; simp only [Ob,Bool.false_eq_true,if_false,yg h,au]; cases hq:rD ts j [63] with
  | false=>
   simp only [Bool.not_false,if_true,Bool.false_eq_true,if_false]; exact .inl ⟨e,j,h1,h2,hb,rfl,rfl⟩
  | true=>
   obtain ⟨hj,_⟩:=nJ hq; simp only [Bool.not_true,if_true,Bool.false_eq_true,if_false]; rw [nW (by omega)]; rcases hc (j + 1) (by omega) (by omega) with ⟨e2,j2,g1,g2,gb,gP,gR⟩ | ⟨j2,c2,x2,g1,g2,gc,gP,gR⟩
   ·
    rw [gP,gR,ig,aB,zl h g2]; simp only [Ob,Bool.false_eq_true,if_false,yg h,au]; cases hq2:rD ts j2 [58] with
    | false=>
     simp only [Bool.not_false,if_true,Bool.false_eq_true,if_false,fJ,xE,au]; exact .inr ⟨j2,_,_,by omega,g2,yN ts j2,rfl,rfl⟩
    | true=>
     obtain ⟨hj2,_⟩:=nJ hq2; simp only [Bool.not_true,if_true,Bool.false_eq_true,if_false,ig]; rw [nW (by omega)]; rcases hc (j2 + 1) (by omega) (by omega) with ⟨e3,j3,f1,f2,fb,fP,fR⟩ | ⟨j3,c3,x3,f1,f2,fc,fP,fR⟩
     ·
      rw [fP,fR,ig,aB]; exact .inl ⟨_,j3,by omega,f2,by rw [aez]; simp only [List.length_nil]; omega,rfl,rfl⟩
     ·
      rw [fP,fR,fJ,aB]; exact .inr ⟨j3,c3,_,by omega,f2,fc,rfl,rfl⟩
   ·
    rw [gP,gR,fJ,aB,if_pos (Md gc)]; exact .inr ⟨j2,c2,_,by omega,g2,gc,rfl,rfl⟩
 ·
  rw [hP,hR,fJ,aB]; simp only [Md hc0,if_true,au]; exact .inr ⟨j,c,x,h1,h2,hc0,rfl,rfl⟩
def opAt (ts:List av) (i:Nat) (n:Int):Bool:=((xC ts i).kind == 4) && (He (xC ts i).text == n)
theorem Vv {ts:List av} {i:Nat} {n:Int} (h:opAt ts i n=true):∃ hi:i < ts.length,xC ts i=ts[i]∧ts[i].kind=4∧He ts[i].text=n:=by
 unfold opAt xC at h; unfold xC; cases hx:ts[i]? with
 | none=>rw [hx] at h; simp at h
 | some t=>
  rw [hx] at h; obtain ⟨hi,ht⟩:=List.getElem?_eq_some_iff.1 hx; cases ho:DV t with
  | false=>simp [ho] at h
  | true=>
   simp [ho] at h; exact ⟨hi,by simp [ho,ht],by rw [ht]; exact h.1,by rw [ht]; exact h.2⟩
theorem Sc {ts:List av} (i:Nat) (n:Int):(ay (if decide ((i:Int) < (ts.length:Int)) then ay (idx ts (i:Int)) fun e3=>some (e3.kind == 4) else some false) fun b1=>
  if b1 then ay (idx ts (i:Int)) fun e4=>ay (sK e4.text) fun x5=>some (x5 == n) else some false)=some (opAt ts i n):=by
 by_cases hi:i < ts.length
 ·
  rw [if_pos (decide_eq_true (by omega))]; simp only [o7 hi,au,JU,IQ]; unfold opAt xC; rw [List.getElem?_eq_getElem hi]; simp only; by_cases h4:ts[i].kind=4
  · rw [if_pos (by simpa using h4),Uu h4,if_pos rfl]; simp [h4]
  ·
   rw [if_neg (by simpa using h4)]; cases DV ts[i] <;> simp [h4]
 ·
  rw [if_neg (by simp; omega)]; cases hc:opAt ts i n with
  | false=>rfl
  | true=>obtain ⟨h1,_⟩:=Vv hc; omega
theorem WA {ts:List av} (i:Nat) (n:Int):(if (xC ts i).kind != 4 then some true else ay (iA (xC ts i).text) fun x4=>some (x4 != n))=some (!opAt ts i n):=by
 unfold opAt; rw [IQ]; by_cases h4:(xC ts i).kind=4
 · rw [if_neg (by simp [h4])]; simp [h4,bne]
 · rw [if_pos (by simpa using h4)]; simp [h4]
theorem JG {α β γ:Type} (x:Option α) (f:α→Option β) (g:β→Option γ):ay x (fun a=>ay (f a) g)=ay (ay x f) g:=by cases x <;> rfl
theorem Hq {ts:List av} {go:List av→Int→Int→Option (ah × Int × Int)} {n:Int} {m j:Nat} {c c1:Int} {e:ah} (hs:c1≠0∨opAt ts j n=false∨(n=4∧c≠0)):jK go ts n (m + 1) (j:Int) c1 c e=some (e,(j:Int),c1):=by
 rw [jK]; by_cases h0:c1=0
 ·
  subst h0; have e0:((0:Int) == 0)=true:=rfl; simp only [e0,Bool.true_and]; rw [JG,Sc,au]; rcases hs with hs | hs | ⟨hs,hc⟩
  · exact absurd rfl hs
  · rw [hs]; rfl
  ·
   subst hs; have:(c == 0)=false:=by simpa using hc
   rw [if_neg (by rw [this]; simp)]
 ·
  have e0:(c1 == 0)=false:=by simpa using h0
  simp only [e0,Bool.false_and,Bool.false_eq_true,if_false,au]
theorem Vu {ts:List av} (h:yX ts) {k k' i0:Nat} {n:Int} (hn:2≤n∧n≤6) (hop:∀ j,i0 < j→j≤ts.length→RE ts j (aX k (aj.mk ts (j:Int)) (bV (n + 1))) (dn k' ts (j:Int) (bV (n + 1)))):
  ∀ (m m' i:Nat) (c:Int) (e:ah),ts.length < m + i→ts.length < m' + i→i0 < i→i≤ts.length→e.bulk≤2097152 * (i - i0)→(n=4→c=0)→
  RE ts i0 (iN (aX k) n m e (aj.mk ts (i:Int))) (jK (dn k') ts n m' (i:Int) 0 c e)
 | 0,m',i,c,e,h1,_,_,h2,_,_=>by omega
 | m + 1,0,i,c,e,_,h1,_,h2,_,_=>by omega
 | m + 1,m' + 1,i,c,e,hm,hm',h1,h2,hb,hc4=>by
  have hN:=h.1; rw [iN,jK,Qn h,aC,WA,au]; cases hq:opAt ts i n with
  | false=>
   simp only [Bool.not_false,if_true]; have:=Hq (go:=dn k') (m:=m') (c:=c) (c1:=0) (e:=e) (.inr (.inl hq)); rw [jK] at this; rw [this]; exact .inl ⟨e,i,h1,h2,hb,rfl,rfl⟩
  | true=>
   obtain ⟨hi,htk,hk4,hs⟩:=Vv hq; have htx:=h.2 ts[i] (List.getElem_mem hi); have e0:((0:Int) == 0)=true:=rfl; simp only [e0,Bool.true_and]; rw [JG,Sc,au,hq]
   have hcond:(true && ((c == 0) || (n != 4)))=true:=by
    by_cases h4:n=4
    · simp [hc4 h4]
    · simp [h4]
   rw [if_neg (by simp),if_pos hcond,htk]; show RE ts i0 (gG (aX k (aj.mk ts (bV ((i:Int) + 1))) (bV (n + 1))) _ _) _; rw [nW (by omega)]; rcases hop (i + 1) (by omega) (by omega) with ⟨e2,j,g1,g2,gb,gP,gR⟩ | ⟨j,c2,x2,g1,g2,gc,gP,gR⟩
   ·
    rw [gP,gR,ig,aB,o7 hi,au]; have hb2:(ah.mk 7 ts[i].text (ak.mk 0 false 0 ([]:Str) [] []) [e,e2] []).bulk≤2097152 * (j - i0):=by rw [abv]; omega
    by_cases h4:n=4
    ·
     subst h4; rw [if_pos (by rfl),hc4 rfl]; obtain ⟨m2,rfl⟩:∃ m2,m'=m2 + 1:=⟨m' - 1,by omega⟩; rw [Hq (.inr (.inr ⟨rfl,by decide⟩))]; exact .inl ⟨_,j,by omega,g2,hb2,rfl,rfl⟩
    ·
     rw [if_neg (by simpa using h4)]; exact Vu h hn hop m m' j _ _ (by omega) (by omega) (by omega) g2 hb2 (fun h=>absurd h h4)
   ·
    rw [gP,gR,fJ,aB,o7 hi,au]; obtain ⟨m2,rfl⟩:∃ m2,m'=m2 + 1:=⟨m' - 1,by omega⟩; rw [Hq (.inl gc)]; exact .inr ⟨j,c2,_,by omega,g2,gc,rfl,rfl⟩
theorem aal {ts:List av} (h:yX ts) {k k' i:Nat} {n:Int} (hn:2≤n∧n≤6) (h1:RE ts i (aX k (aj.mk ts (i:Int)) (bV (n + 1))) (dn k' ts (i:Int) (bV (n + 1))))
  (hop:∀ j,i < j→j≤ts.length→RE ts j (aX k (aj.mk ts (j:Int)) (bV (n + 1))) (dn k' ts (j:Int) (bV (n + 1)))):
  RE ts i (aX (k + 1) (aj.mk ts (i:Int)) n) (dn (k' + 1) ts (i:Int) n):=by
 have hN:=h.1; have h7:(n == 7)=false:=by rw [beq_eq_false_iff_ne]; omega
 have hB:=mg; rw [aX,jP,dn,qG,if_neg (by rw [h7]; simp),if_neg (by rw [h7]; simp)]; rcases h1 with ⟨e,j,g1,g2,gb,gP,gR⟩ | ⟨j,c,x,g1,g2,gc,gP,gR⟩
 ·
  rw [gP,gR,ig,aB]; exact Vu h hn hop BIG BIG j 0 e (by omega) (by omega) g1 g2 gb (fun _=>rfl)
 ·
  rw [gP,gR,fJ,aB]; obtain ⟨b,hb,_⟩:=wN; rw [hb,Hq (.inl gc)]; exact .inr ⟨j,c,x,g1,g2,gc,rfl,rfl⟩
theorem YB {ts:List av} {k k' i:Nat} (h1:RE ts i (bQ k (aj.mk ts (i:Int))) (fC k' ts (i:Int))):
  RE ts i (aX (k + 1) (aj.mk ts (i:Int)) 7) (dn (k' + 1) ts (i:Int) 7):=by
 rw [aX,jP,dn,qG,if_pos (by decide),if_pos (by decide)]; rcases h1 with ⟨e,j,g1,g2,gb,gP,gR⟩ | ⟨j,c,x,g1,g2,gc,gP,gR⟩
 · rw [gP,gR]; exact .inl ⟨e,j,g1,g2,gb,rfl,rfl⟩
 · rw [gP,gR]; exact .inr ⟨j,c,x,g1,g2,gc,rfl,rfl⟩
theorem afC :∃ b,BIG=b + 3:=⟨BIG - 3,by decide⟩
theorem Uf {ts:List av} (h:yX ts) {k k' i:Nat} (hi:i≤ts.length) (hch:RE ts i (bU k (aj.mk ts (i:Int))) (fK k' ts (i:Int)))
  (hu:∀ j,i < j→j≤ts.length→RE ts j (bQ k (aj.mk ts (j:Int))) (fC k' ts (j:Int))):
  RE ts i (bQ (k + 1) (aj.mk ts (i:Int))) (fC (k' + 1) ts (i:Int)):=by
 have hN:=h.1; obtain ⟨b,hb⟩:=afC; have w01:bV (0 + 1)=1:=by decide
 have w11:bV (1 + 1)=2:=by decide
 have i0:idx ([([33]:Str),([45]:Str)]:List Str) 0=some [33]:=rfl; have i1:idx ([([33]:Str),([45]:Str)]:List Str) 1=some [45]:=rfl; rw [bQ,nH,fC,Aj,hb,iX]; rw [if_pos (by decide),i0,au,mE h hi,aC]; simp only [yg h,au]
 have un:∀ op:Str,rD ts i op=true→RE ts i (gG (bQ k (aj.mk ts ((i + 1:Nat):Int))) (fun e1 y4=>some (.bad e1,y4)) fun x3 y3=>some (.ok (ah.mk 6 op (ak.mk 0 false 0 ([]:Str) [] []) [x3] []),y3))
   (lQ (fC k' ts (bV ((i:Int) + 1))) fun x6 iZ e1=>ay (idx ts (i:Int)) fun e2=>some ((ah.mk 6 e2.text (ak.mk 0 false 0 ([]:Str) [] []) [x6] []),iZ,e1)):=fun op ho=>by
  obtain ⟨hlt,hk,ht,_⟩:=nJ ho; have htx:=h.2 ts[i] (List.getElem_mem hlt); rw [ht] at htx; rw [nW (by omega)]; rcases hu (i + 1) (by omega) (by omega) with ⟨e,j,g1,g2,gb,gP,gR⟩ | ⟨j,c,x,g1,g2,gc,gP,gR⟩
  ·
   rw [gP,gR,ig,aB,o7 hlt,au,ht]; exact .inl ⟨_,j,by omega,g2,by rw [abw]; omega,rfl,rfl⟩
  ·
   rw [gP,gR,fJ,aB,o7 hlt,au]; exact .inr ⟨j,c,_,by omega,g2,gc,rfl,rfl⟩
 cases h1:rD ts i [33] with
 | true=>
  simp only [if_true,Bool.not_true,Bool.false_eq_true,if_false,au]; exact un _ h1
 | false=>
  simp only [if_true,Bool.not_false,Bool.false_eq_true,if_false,au]; rw [w01,iX,if_pos (by decide),i1,au,mE h hi,aC]; cases h2:rD ts i [45] with
  | true=>
   simp only [if_true,Bool.not_true,Bool.false_eq_true,if_false]; exact un _ h2
  | false=>
   simp only [if_true,Bool.not_false,Bool.false_eq_true,if_false]; rw [w11,iX,if_neg (by decide)]; rcases hch with ⟨e,j,g1,g2,gb,gP,gR⟩ | ⟨j,c,x,g1,g2,gc,gP,gR⟩
   · rw [gP,gR]; exact .inl ⟨e,j,g1,g2,gb,rfl,rfl⟩
   · rw [gP,gR]; exact .inr ⟨j,c,x,g1,g2,gc,rfl,rfl⟩
end Go.Ft
namespace Go.Ft
open Go
attribute [local congr] jQ
def nameAt (ts:List av) (i:Nat):Bool:=((xC ts i).kind == 1) && qm (xC ts i).text
theorem WM {ts:List av} {i:Nat} (h:nameAt ts i=true):∃ hi:i < ts.length,xC ts i=ts[i]:=by
 unfold nameAt xC at h; unfold xC; cases hx:ts[i]? with
 | none=>rw [hx] at h; simp at h
 | some t=>
  rw [hx] at h; obtain ⟨hi,ht⟩:=List.getElem?_eq_some_iff.1 hx; cases ho:DV t with
  | false=>simp [ho] at h
  | true=>exact ⟨hi,by simp [ho,ht]⟩
theorem Gs {s:Str} (hs:s.length≤1048576) (hn:isName s=true):oC s=some (!qm s):=by
 obtain ⟨p1,_⟩:=BX s (by omega); unfold mU at p1; rw [LZ s (by omega),au,if_pos hn] at p1; cases hw:oC s with
 | none=>rw [hw] at p1; cases p1
 | some b=>rw [hw] at p1; simp at p1; rw [←p1]
theorem Ew {t:av} (hk:t.kind=1) (hs:t.text.length≤1048576):DV t=isName t.text:=by
 unfold DV jr; rw [if_pos (by simpa using hk),LZ _ (by omega)]; rfl
theorem LV {s:Str} (hs:s.length≤1048576) (h:qm s=true):isName s=true:=by
 obtain ⟨p1,_⟩:=BX s (by omega); unfold mU at p1; rw [LZ s (by omega),au,h] at p1; cases hn:isName s with
 | true=>rfl
 | false=>rw [hn] at p1; simp at p1
theorem Yd {ts:List av} (h:yX ts) (i:Nat):(ay (if decide ((ts.length:Int)≤(i:Int)) then some true else ay (idx ts (i:Int)) fun e2=>some (e2.kind != 1)) fun b3=>
  if b3 then some true else ay (idx ts (i:Int)) fun e3=>ay (qR e3.text) fun x6=>some (!x6))=some (!nameAt ts i):=by
 unfold nameAt xC; by_cases hi:i < ts.length
 ·
  have ht:=h.2 ts[i] (List.getElem_mem hi); rw [if_neg (by simp; omega)]; simp only [o7 hi,au,(BX ts[i].text (by omega)).2,List.getElem?_eq_getElem hi]; by_cases h1:ts[i].kind=1
  ·
   rw [if_neg (by simp [h1]),Ew h1 ht]; cases hn:isName ts[i].text with
   | true=>simp [h1]
   | false=>
    cases hp:qm ts[i].text with
    | true=>rw [LV ht hp] at hn; cases hn
    | false=>simp
  ·
   rw [if_pos (by simpa using h1)]; cases DV ts[i] <;> simp [h1]
 ·
  rw [if_pos (by simp; omega),List.getElem?_eq_none (Nat.le_of_not_lt hi)]; rfl
theorem GX {ts:List av} (h:yX ts) {k k' i0:Nat} (hc:∀ j,i0 < j→j≤ts.length→RE ts j (aQ k (aj.mk ts (j:Int))) (b_ k' ts (j:Int))):
  ∀ (m m' i:Nat) (e:ah),ts.length < m + i→ts.length < m' + i→i0 < i→i≤ts.length→e.bulk≤2097152 * (i - i0)→
  RE ts i0 (gH (aQ k) m e (aj.mk ts (i:Int))) (mR (b_ k') ts 0 m' (i:Int) e)
 | 0,m',i,e,h1,_,_,h2,_=>by omega
 | m + 1,0,i,e,_,h1,_,h2,_=>by omega
 | m + 1,m' + 1,i,e,hm,hm',h1,h2,hb=>by
  have hN:=h.1; rw [gH,mR,mE h h2,aC]; have e0:((0:Int) == 0)=true:=rfl; simp only [e0,if_true,yg h,au]; cases hd:rD ts i [46] with
  | true=>
   obtain ⟨hi,_⟩:=nJ hd; simp only [if_true,au]; rw [nW (by omega),HZ h]; have hr:=Yd h (i + 1); rw [JG,hr,au]; cases hn:nameAt ts (i + 1) with
   | true=>
    obtain ⟨hlt,htk⟩:=WM hn; unfold nameAt at hn; simp only [Bool.and_eq_true,beq_iff_eq] at hn; have htx:=h.2 ts[i + 1] (List.getElem_mem hlt); rw [htk] at hn ⊢; rw [if_neg (by omega)]; simp only [Bool.not_true,Bool.false_eq_true,if_false,ig]; rw [if_neg (by simp [hn.1]),Gs htx (LV htx hn.2),hn.2,au,if_neg (by simp),o7 hlt,au]; show RE ts i0 (gH (aQ k) m _ (aj.mk ts (bV (((i + 1:Nat):Int) + 1)))) _; rw [nW (by omega)]; exact GX h hc m m' (i + 1 + 1) _ (by omega) (by omega) (by omega) (by omega) (by rw [abw]; omega)
   | false=>
    simp only [Bool.not_false,if_true,xE,au]; by_cases hk0:(xC ts (i + 1)).kind=0
    ·
     rw [if_pos hk0,fJ]; exact .inr ⟨i + 1,_,_,by omega,by omega,yN ts (i + 1),rfl,rfl⟩
    ·
     rw [if_neg hk0,ig]
     have hlt:i + 1 < ts.length:=by
      rcases Nat.lt_or_ge (i + 1) ts.length with hh | hh
      · exact hh
      · exfalso; apply hk0; unfold xC; rw [List.getElem?_eq_none hh]
     have hms:miss ts (i + 1)=5:=by unfold miss; rw [if_neg (by omega)]
     have htk:xC ts (i + 1)=ts[i + 1]∧DV ts[i + 1]=true:=by
      unfold xC at hk0 ⊢; rw [List.getElem?_eq_getElem hlt] at hk0 ⊢; simp only at hk0 ⊢; cases ho:DV ts[i + 1] with
      | true=>exact ⟨rfl,rfl⟩
      | false=>rw [ho] at hk0; simp at hk0
     have htx:=h.2 ts[i + 1] (List.getElem_mem hlt)
     have hb1:(if ((xC ts (i + 1)).kind != 1)=true then some true else oC (xC ts (i + 1)).text)=some true:=by
      by_cases h1k:(xC ts (i + 1)).kind=1
      ·
       rw [if_neg (by simp [h1k])]; unfold nameAt at hn; rw [h1k] at hn; have hp:qm (xC ts (i + 1)).text=false:=by simpa using hn
       rw [htk.1] at h1k hp ⊢; have:=Ew h1k htx; rw [htk.2] at this; rw [Gs htx this.symm,hp]; rfl
      · rw [if_pos (by simpa using h1k)]
     rw [hb1,au,if_pos rfl]; show RE ts i0 (gG (some (.bad (aA.mk ((i + 1:Nat):Int) 5),aj.mk ts ((i + 1:Nat):Int))) _ _) _; rw [fJ,hms]; exact .inr ⟨i + 1,5,_,by omega,by omega,by decide,rfl,rfl⟩
  | false=>
   simp only [if_true,Bool.false_eq_true,if_false,au]; rw [mE h h2,aC]; cases hbk:rD ts i [91] with
   | true=>
    obtain ⟨hi,_⟩:=nJ hbk; simp only [if_true,au,Bool.false_eq_true,if_false]; rw [nW (by omega)]; rcases hc (i + 1) (by omega) (by omega) with ⟨e2,j,g1,g2,gb,gP,gR⟩ | ⟨j,c2,x2,g1,g2,gc,gP,gR⟩
    ·
     rw [gP,gR,ig,aB,zl h g2]; simp only [Ob,Bool.false_eq_true,if_false,yg h,au]; cases hq:rD ts j [93] with
     | false=>
      simp only [Bool.not_false,if_true,Bool.false_eq_true,if_false,fJ,xE,au]; exact .inr ⟨j,_,_,by omega,g2,yN ts j,rfl,rfl⟩
     | true=>
      obtain ⟨hj,_⟩:=nJ hq; simp only [Bool.not_true,if_true,Bool.false_eq_true,if_false,ig]; rw [nW (by omega)]; exact GX h hc m m' (j + 1) _ (by omega) (by omega) (by omega) (by omega) (by rw [abv]; simp only [List.length_nil]; omega)
    ·
     rw [gP,gR,fJ,aB,if_pos (Md gc)]; exact .inr ⟨j,c2,_,by omega,g2,gc,rfl,rfl⟩
   | false=>
    simp only [Bool.false_eq_true,if_false,au]; exact .inl ⟨e,i,h1,h2,hb,rfl,rfl⟩
end Go.Ft
namespace Go.Ft
open Go
attribute [local congr] jQ
theorem UU {ts:List av} {go:List av→Int→Option (ah × Int × Int)} {c:Int} (hc:c≠0) {m:Nat} {j:Int} {e:ah}:mR go ts c (m + 1) j e=some (e,j,c):=by
 rw [mR]; have e0:(c == 0)=false:=by simpa using hc
 simp only [e0,Bool.false_eq_true,if_false,au]
theorem UW {ts:List av} (h:yX ts) {k k' i:Nat} (ha:RE ts i (cu k (aj.mk ts (i:Int))) (gV k' ts (i:Int)))
  (hc:∀ j,i < j→j≤ts.length→RE ts j (aQ k (aj.mk ts (j:Int))) (b_ k' ts (j:Int))):
  RE ts i (bU (k + 1) (aj.mk ts (i:Int))) (fK (k' + 1) ts (i:Int)):=by
 have hN:=h.1; have hB:=mg; rw [bU,nI,fK,Al]; rcases ha with ⟨e,j,g1,g2,gb,gP,gR⟩ | ⟨j,c,x,g1,g2,gc,gP,gR⟩
 ·
  rw [gP,gR,ig,aB]; exact GX h hc BIG BIG j e (by omega) (by omega) g1 g2 gb
 ·
  rw [gP,gR,fJ,aB]; obtain ⟨b,hb,_⟩:=wN; rw [hb,UU gc]; exact .inr ⟨j,c,x,g1,g2,gc,rfl,rfl⟩
theorem SI {ts:List av} {i:Nat} {a b:Str} (hab:a≠b) (ha:rD ts i a=true):rD ts i b=false:=by
 cases hb:rD ts i b with
 | false=>rfl
 | true=>
  obtain ⟨_,_,h1,_⟩:=nJ ha; obtain ⟨_,_,h2,_⟩:=nJ hb; exact absurd (h1.symm.trans h2) hab
def RL (ts:List av) (i0:Nat) (P:Option (g_ aA (List ah) × aj)) (R:Option (List ah × List Str × Int × Int)):Prop:=
 (∃ (l:List ah) (j:Nat),i0 < j∧j≤ts.length∧(l.map ah.bulk).sum≤2097152 * (j - i0)∧P=some (.ok l,aj.mk ts (j:Int))∧R=some (l,[],(j:Int),0))∨
 (∃ (j:Nat) (c:Int) (x:List ah) (y:List Str),i0≤j∧j≤ts.length∧c≠0∧P=some (.bad (aA.mk (j:Int) c),aj.mk ts (j:Int))∧R=some (x,y,(j:Int),c))
theorem PO {ts:List av} (h:yX ts) {k k' i0:Nat} {cl:Str} (hcl:cl≠[44]) (hc:∀ j,i0≤j→j≤ts.length→RE ts j (aQ k (aj.mk ts (j:Int))) (b_ k' ts (j:Int))):
  ∀ (m m' i:Nat) (out:List ah),ts.length < m + i→ts.length < m' + i→i0≤i→i≤ts.length→out.length + i0≤i→(out.map ah.bulk).sum≤2097152 * (i - i0)→
  RL ts i0 (jZ (aQ k) cl m out (aj.mk ts (i:Int))) (n_ (b_ k') ts cl false m' (i:Int) out [])
 | 0,m',i,out,h1,_,_,h2,_,_=>by omega
 | m + 1,0,i,out,_,h1,_,h2,_,_=>by omega
 | m + 1,m' + 1,i,out,hm,hm',h1,h2,hl,hb=>by
  have hN:=h.1; have hL:Gm=4294967296:=rfl; rw [jZ,n_,if_neg (by simp)]; rcases hc i h1 h2 with ⟨e,j,g1,g2,gb,gP,gR⟩ | ⟨j,c,x,g1,g2,gc,gP,gR⟩
  ·
   rw [gP,gR,ig,aB,bq (by simp; omega),au,mE h g2,aC]; simp only [Ob,Bool.false_eq_true,if_false,yg h,au]
   have hs:((out ++ [e]).map ah.bulk).sum≤2097152 * (j - i0):=by
    rw [List.map_append,List.sum_append]; simp; omega
   cases hq:rD ts j [44] with
   | true=>
    obtain ⟨hj,_⟩:=nJ hq; have hq2:=SI (Ne.symm hcl) hq; simp only [hq2,Bool.false_eq_true,if_false,Bool.not_true,if_true,au]; rw [nW (by omega)]; exact PO h hcl hc m m' (j + 1) (out ++ [e]) (by omega) (by omega) (by omega) (by omega) (by simp; omega) (by omega)
   | false=>
    simp only [Bool.not_false,if_true,Bool.false_eq_true,if_false]; rw [zl h g2]; cases hq2:rD ts j cl with
    | true=>
     obtain ⟨hj,_⟩:=nJ hq2; simp only [if_true,ig,au]; rw [nW (by omega)]; exact .inl ⟨_,j + 1,by omega,by omega,by omega,rfl,rfl⟩
    | false=>
     simp only [Bool.false_eq_true,if_false,fJ,xE,au]; exact .inr ⟨j,_,_,_,by omega,g2,yN ts j,rfl,rfl⟩
  ·
   rw [gP,gR,fJ,aB,if_pos (Md gc)]; exact .inr ⟨j,c,_,_,by omega,g2,gc,rfl,rfl⟩
theorem Xx {ts:List av} (h:yX ts) {k k' i:Nat} (hi:i≤ts.length) {cl:Str} (hcl:cl≠[44]) (hc:∀ j,i≤j→j≤ts.length→RE ts j (aQ k (aj.mk ts (j:Int))) (b_ k' ts (j:Int))):
  RL ts i (bS (k + 1) (aj.mk ts (i:Int)) cl) (fA (k' + 1) ts (i:Int) cl false):=by
 have hN:=h.1; have hB:=mg; rw [bS,oG,fA,zG,mE h hi,aC]; simp only [yg h,au]; cases hq:rD ts i cl with
 | true=>
  obtain ⟨hj,_⟩:=nJ hq; simp only [if_true]; rw [nW (by omega)]; exact .inl ⟨[],i + 1,by omega,by omega,by simp,rfl,rfl⟩
 | false=>
  simp only [Bool.false_eq_true,if_false]; exact PO h hcl hc BIG BIG i [] (by omega) (by omega) (Nat.le_refl _) hi (by simp) (by simp)
end Go.Ft
namespace Go.Ft
open Go
attribute [local congr] jQ
def J5 (ts:List av) (i:Nat):Bool:=((xC ts i).kind == 1) || ((xC ts i).kind == 3)
theorem XW {ts:List av} {i:Nat} (h:(xC ts i).kind≠0):∃ hi:i < ts.length,xC ts i=ts[i]∧DV ts[i]=true:=by
 unfold xC at h ⊢; cases hx:ts[i]? with
 | none=>rw [hx] at h; exact absurd rfl h
 | some t=>
  rw [hx] at h; obtain ⟨hi,ht⟩:=List.getElem?_eq_some_iff.1 hx; cases ho:DV t with
  | false=>simp [ho] at h
  | true=>exact ⟨hi,by simp [ho,ht],by rw [ht]; exact ho⟩
theorem YO {ts:List av} {i:Nat} (h:J5 ts i=true):∃ hi:i < ts.length,xC ts i=ts[i]∧DV ts[i]=true:=by
 refine XW fun h0=>?_; unfold J5 at h; rw [h0] at h; cases h
theorem aaf {ts:List av} (h:yX ts) (i:Nat):(if decide ((ts.length:Int)≤(i:Int)) then some true else ay (idx ts (i:Int)) fun e1=>ay (Ht e1) fun x2=>some (!x2))=some (!J5 ts i):=by
 unfold J5 xC; by_cases hi:i < ts.length
 ·
  have ht:=h.2 ts[i] (List.getElem_mem hi); rw [if_neg (by simp; omega)]; simp only [o7 hi,au,List.getElem?_eq_getElem hi,Ht]; by_cases h1:ts[i].kind=1
  ·
   rw [if_pos (by simpa using h1),Ye _ (by omega),au,au,Ew h1 ht]; cases isName ts[i].text <;> simp [h1]
  ·
   rw [if_neg (by simpa using h1),au,au]; by_cases h3:ts[i].kind=3
   ·
    have:DV ts[i]=decide ((ts[i].text.length:Int)≤4096):=by unfold DV jr; simp [h3]
    rw [this]; cases decide ((ts[i].text.length:Int)≤4096) <;> simp [h3]
   ·
    have b1:(ts[i].kind == 1)=false:=by simpa using h1
    have b3:(ts[i].kind == 3)=false:=by simpa using h3
    cases DV ts[i] <;> simp [b1,b3]
 ·
  rw [if_pos (by simp; omega),List.getElem?_eq_none (Nat.le_of_not_lt hi)]; rfl
def RX (ts:List av) (i0:Nat) (P:Option (g_ aA ah × aj)) (R:Option (List ah × List Str × Int × Int)):Prop:=
 (∃ (l:List ah) (ks:List Str) (j:Nat),i0 < j∧j≤ts.length∧(l.map ah.bulk).sum + (ks.map fun z:Str=>z.length + 1).sum≤2097152 * (j - i0)∧P=some (.ok (ah.mk 10 ([]:Str) (ak.mk 0 false 0 ([]:Str) [] []) l ks),aj.mk ts (j:Int))∧R=some (l,ks,(j:Int),0))∨
 (∃ (j:Nat) (c:Int) (x:List ah) (y:List Str),i0≤j∧j≤ts.length∧c≠0∧P=some (.bad (aA.mk (j:Int) c),aj.mk ts (j:Int))∧R=some (x,y,(j:Int),c))
theorem Pw {ts:List av} (h:yX ts) {k k' i0:Nat} (hc:∀ j,i0≤j→j≤ts.length→RE ts j (aQ k (aj.mk ts (j:Int))) (b_ k' ts (j:Int))):
  ∀ (m m' i:Nat) (l:List ah) (ks:List Str),ts.length < m + i→ts.length < m' + i→i0≤i→i≤ts.length→l.length + i0≤i→ks.length + i0≤i→(l.map ah.bulk).sum + (ks.map fun z:Str=>z.length + 1).sum≤2097152 * (i - i0)→
  RX ts i0 (iH (aQ k) m (ah.mk 10 ([]:Str) (ak.mk 0 false 0 ([]:Str) [] []) l ks) (aj.mk ts (i:Int))) (n_ (b_ k') ts [125] true m' (i:Int) l ks)
 | 0,m',i,l,ks,h1,_,_,h2,_,_,_=>by omega
 | m + 1,0,i,l,ks,_,h1,_,h2,_,_,_=>by omega
 | m + 1,m' + 1,i,l,ks,hm,hm',h1,h2,hl,hk,hb=>by
  have hN:=h.1; have hL:Gm=4294967296:=rfl; rw [iH,n_,if_pos rfl,aaf h,au,HZ h]; cases hq:J5 ts i with
  | false=>
   simp only [Bool.not_false,if_true,xE,au]; by_cases h0:(xC ts i).kind=0
   ·
    rw [if_pos h0,fJ]; exact .inr ⟨i,_,_,_,h1,h2,yN ts i,rfl,rfl⟩
   ·
    obtain ⟨hi,htk,_⟩:=XW h0; have hms:miss ts i=5:=by unfold miss; rw [if_neg (by omega)]
    rw [if_neg h0,ig]
    have hcnd:(((xC ts i).kind != 1) && ((xC ts i).kind != 3))=true:=by
     unfold J5 at hq; simp only [Bool.or_eq_false_iff] at hq; simp [bne,hq.1,hq.2]
    rw [if_pos hcnd]; show RX ts i0 (gG (some (.bad (aA.mk ((i:Nat):Int) 5),aj.mk ts (i:Int))) _ _) _; rw [fJ,hms]; exact .inr ⟨i,5,_,_,h1,h2,by decide,rfl,rfl⟩
  | true=>
   obtain ⟨hi,htk,_⟩:=YO hq; have htx:=h.2 ts[i] (List.getElem_mem hi); have h0:(xC ts i).kind≠0:=fun h0=>by unfold J5 at hq; rw [h0] at hq; cases hq
   have hcnd:(((xC ts i).kind != 1) && ((xC ts i).kind != 3))=false:=by
    unfold J5 at hq; simp only [Bool.or_eq_true] at hq; rcases hq with hq | hq <;> simp [bne,hq]
   rw [if_neg h0,ig,if_neg (by rw [hcnd]; simp),htk]; simp only [Bool.not_true,Bool.false_eq_true,if_false,o7 hi,au]; rw [bq (by simp; omega),au,nW (by omega),zl h (by omega)]; simp only [yg h,au]; cases hq1:rD ts (i + 1) [58] with
   | false=>
    simp only [Bool.not_false,if_true,Bool.false_eq_true,if_false,fJ,xE,au]; exact .inr ⟨i + 1,_,_,_,by omega,by omega,yN ts (i + 1),rfl,rfl⟩
   | true=>
    obtain ⟨hi1,_⟩:=nJ hq1; simp only [Bool.not_true,if_true,Bool.false_eq_true,if_false,ig]; rw [nW (by omega)]; rcases hc (i + 1 + 1) (by omega) (by omega) with ⟨e,j,g1,g2,gb,gP,gR⟩ | ⟨j,c,x,g1,g2,gc,gP,gR⟩
    ·
     rw [gP,gR,ig,aB,bq (by simp; omega),au,mE h g2,aC]; simp only [Ob,Bool.false_eq_true,if_false,yg h,au]
     have hs:((l ++ [e]).map ah.bulk).sum + ((ks ++ [ts[i].text]).map fun z:Str=>z.length + 1).sum≤2097152 * (j - i0):=by
      simp only [List.map_append,List.sum_append,List.map_cons,List.map_nil,List.sum_cons,List.sum_nil]; omega
     cases hq2:rD ts j [44] with
     | true=>
      obtain ⟨hj,_⟩:=nJ hq2; have hq3:rD ts j [125]=false:=SI (by decide) hq2; simp only [hq3,Bool.false_eq_true,if_false,Bool.not_true,if_true,au]; rw [nW (by omega)]; exact Pw h hc m m' (j + 1) (l ++ [e]) (ks ++ [ts[i].text]) (by omega) (by omega) (by omega) (by omega) (by simp; omega) (by simp; omega) (by omega)
     | false=>
      simp only [Bool.not_false,if_true,Bool.false_eq_true,if_false]; rw [zl h g2]; cases hq3:rD ts j [125] with
      | true=>
       obtain ⟨hj,_⟩:=nJ hq3; simp only [if_true,ig,au]; rw [nW (by omega)]; exact .inl ⟨_,_,j + 1,by omega,by omega,by omega,rfl,rfl⟩
      | false=>
       simp only [Bool.false_eq_true,if_false,fJ,xE,au]; exact .inr ⟨j,_,_,_,by omega,g2,yN ts j,rfl,rfl⟩
    ·
     rw [gP,gR,fJ,aB,if_pos (Md gc)]; exact .inr ⟨j,c,_,_,by omega,g2,gc,rfl,rfl⟩
theorem Xd {ts:List av} (h:yX ts) {k k' i:Nat} (hi:i≤ts.length) (hc:∀ j,i≤j→j≤ts.length→RE ts j (aQ k (aj.mk ts (j:Int))) (b_ k' ts (j:Int))):
  RX ts i (bO (k + 1) (aj.mk ts (i:Int))) (fA (k' + 1) ts (i:Int) [125] true):=by
 have hN:=h.1; have hB:=mg; rw [bO,mh,fA,zG,mE h hi,aC]; simp only [yg h,au]; cases hq:rD ts i [125] with
 | true=>
  obtain ⟨hj,_⟩:=nJ hq; simp only [if_true]; rw [nW (by omega)]; exact .inl ⟨[],[],i + 1,by omega,by omega,by simp,rfl,rfl⟩
 | false=>
  simp only [Bool.false_eq_true,if_false]; exact Pw h hc BIG BIG i [] [] (by omega) (by omega) (Nat.le_refl _) hi (by simp) (by simp) (by simp)
end Go.Ft
namespace Go.Ft
open Go
attribute [local congr] jQ
theorem Rc (k:Int) (n:Str) (l:List ah) (ks:List Str):(ah.mk k n (ak.mk 0 false 0 ([]:Str) [] []) l ks).bulk=12 + n.length + (l.map ah.bulk).sum + (ks.map fun z:Str=>z.length + 1).sum:=by
 rw [ah.o9,ah.sH]; simp [ak.bulk,ak.mK]; omega
theorem EC (v:ak):(ah.mk 1 ([]:Str) v [] []).bulk=5 + v.bulk:=by
 simp [ah.bulk,ah.mK]; omega
theorem Vw {t:av} (h:t.kind=2) (hs:t.text.length≤1048576):(DV t=true∧∃ u:Nat,u≤9007199254740992∧strconv_Atoi t.text=some ((u:Int),none)∧wZ t.text=some ((u:Int),true))∨(DV t=false∧∃ n,wZ t.text=some (n,false)):=by
 obtain ⟨b,d1,d2,d3⟩:=Y8 (s:=t.text) (by omega); obtain ⟨n,ok,r1,r2,r3⟩:=aak t.text; have ho:DV t=b:=by unfold DV jr; rw [h]; simp [d1]
 cases hb:b with
 | true=>
  left; obtain ⟨u,hu,hl⟩:=d2 hb; obtain ⟨e1,e2⟩:=r3 u hu hl; refine ⟨by rw [ho,hb],u,hl,?_,by rw [r1,e1,e2]⟩; rw [strconv_Atoi,if_pos (by omega),hu,TU (by omega)]; rfl
 | false=>
  right; refine ⟨by rw [ho,hb],n,?_⟩; cases hok:ok with
  | false=>rw [r1,hok]
  | true=>
   obtain ⟨u,_,hs2,hl⟩:=r2 hok; rw [d3 u hs2 hl] at hb; cases hb
theorem WL :isName [110,117,108,108]=true:=by decide
theorem WK :isName [116,114,117,101]=true:=by decide
theorem Uw :isName [102,97,108,115,101]=true:=by decide
theorem V3 {ts:List av} (h:yX ts) {k k' i:Nat} (hi:i < ts.length) (hk1:ts[i].kind=1) (hok:DV ts[i]=true)
  (hargs:∀ j,i < j→j≤ts.length→RL ts j (bS k (aj.mk ts (j:Int)) [41]) (fA k' ts (j:Int) [41] false)):
  RE ts i (cO (k + 1) (aj.mk ts ((i + 1:Nat):Int)) ts[i].text) (iw (k' + 1) ts (i:Int)):=by
 have hN:=h.1; have htx:=h.2 ts[i] (List.getElem_mem hi); have hnm:=Ew hk1 htx; rw [hok] at hnm; rw [cO,oD,iw,zF,o7 hi,au]; have w1:bV ((i:Int) + 1)=((i + 1:Nat):Int):=nW (by omega); by_cases h1:ts[i].text=[110,117,108,108]
 ·
  rw [if_pos (by simpa using h1),if_pos (by simpa using h1)]; exact .inl ⟨_,i + 1,by omega,by omega,by rw [EC]; simp [ak.bulk,ak.mK],rfl,by rw [w1]; rfl⟩
 ·
  rw [if_neg (by simpa using h1),if_neg (by simpa using h1)]; by_cases h2:ts[i].text=[116,114,117,101]
  ·
   rw [if_pos (by simpa using h2),h2]; exact .inl ⟨_,i + 1,by omega,by omega,by rw [EC]; simp [ak.bulk,ak.mK],rfl,by rw [w1]; rfl⟩
  ·
   rw [if_neg (by simpa using h2)]; by_cases h3:ts[i].text=[102,97,108,115,101]
   ·
    rw [if_pos (by simpa using h3),h3]; exact .inl ⟨_,i + 1,by omega,by omega,by rw [EC]; simp [ak.bulk,ak.mK],rfl,by rw [w1]; rfl⟩
   ·
    rw [if_neg (by simpa using h3)]; have hp:qm ts[i].text=true:=by unfold qm; rw [←hnm]; simp [h1,h2,h3]
    rw [(BX ts[i].text (by omega)).2,hp,au,Gs htx hnm.symm,hp,au,if_neg (by simp),if_neg (by simp),mE h (by omega),aC,w1,yg h,au]; cases hq:rD ts (i + 1) [40] with
    | false=>
     simp only [Bool.not_false,if_true,Bool.false_eq_true,if_false]; exact .inl ⟨_,i + 1,by omega,by omega,by rw [Rc]; simp; omega,rfl,rfl⟩
    | true=>
     obtain ⟨hlt,_⟩:=nJ hq; simp only [Bool.not_true,if_true,Bool.false_eq_true,if_false]; have w2:bV ((i:Int) + 2)=((i + 1 + 1:Nat):Int):=by rw [bB (by omega) (by omega)]; omega
     rw [w2]; rcases hargs (i + 1 + 1) (by omega) (by omega) with ⟨l,j,g1,g2,gb,gP,gR⟩ | ⟨j,c,x,y,g1,g2,gc,gP,gR⟩
     ·
      rw [gP,gR,ig,aF]; exact .inl ⟨_,j,by omega,g2,by rw [Rc]; simp; omega,rfl,rfl⟩
     ·
      rw [gP,gR,fJ,aF]; exact .inr ⟨j,c,_,by omega,g2,gc,rfl,rfl⟩
theorem Xv {ts:List av} (h:yX ts) {k k' i:Nat} (hi0:i≤ts.length)
  (hc:∀ j,i < j→j≤ts.length→RE ts j (aQ (k + 1) (aj.mk ts (j:Int))) (b_ k' ts (j:Int)))
  (hargs:∀ j,i < j→j≤ts.length→RL ts j (bS k (aj.mk ts (j:Int)) [41]) (fA k' ts (j:Int) [41] false))
  (hlist:∀ j,i < j→j≤ts.length→RL ts j (bS (k + 1) (aj.mk ts (j:Int)) [93]) (fA k' ts (j:Int) [93] false))
  (aei:∀ j,i < j→j≤ts.length→RX ts j (bO (k + 1) (aj.mk ts (j:Int))) (fA k' ts (j:Int) [125] true)):
  RE ts i (cu (k + 1 + 1) (aj.mk ts (i:Int))) (gV (k' + 1 + 1) ts (i:Int)):=by
 have hN:=h.1; rw [cu,oF,gV,Cy,HZ h]; by_cases hi:ts.length≤i
 ·
  have ht:(xC ts i).kind=0:=by unfold xC; rw [List.getElem?_eq_none hi]
  rw [if_pos (decide_eq_true (by omega)),if_pos ht,fJ]; have:miss ts i=4:=by unfold miss; rw [if_pos hi]
  rw [this]; exact .inr ⟨i,4,_,Nat.le_refl _,hi0,by decide,rfl,rfl⟩
 have hlt:i < ts.length:=by omega
 have hms:miss ts i=5:=by unfold miss; rw [if_neg hi]
 have htx:=h.2 ts[i] (List.getElem_mem hlt); have w1:bV ((i:Int) + 1)=((i + 1:Nat):Int):=nW (by omega); rw [if_neg (show ¬ decide ((ts.length:Int)≤(i:Int))=true by simp; omega),o7 hlt,au,hms]; have htk:xC ts i=if DV ts[i] then ts[i] else av.mk 0 [] 0:=by unfold xC; rw [List.getElem?_eq_getElem hlt]
 cases hok:DV ts[i] with
 | false=>
  rw [hok] at htk; rw [htk]; show RE ts i (gG (some (.bad (aA.mk ((i:Nat):Int) 5),aj.mk ts (i:Int))) _ _) _; rw [fJ]; have bad:∀ x:ah,RE ts i (some (.bad (aA.mk ((i:Nat):Int) 5),aj.mk ts (i:Int))) (some (x,(i:Int),5)):=fun x=>.inr ⟨i,5,x,Nat.le_refl _,hi0,by decide,rfl,rfl⟩; by_cases h2:ts[i].kind=2
  ·
   rw [if_pos (by simpa using h2)]; rcases Vw h2 htx with ⟨h3,_⟩ | ⟨_,n,hn⟩
   · rw [hok] at h3; cases h3
   · rw [hn,aC,if_neg (by simp)]; exact bad _
  ·
   rw [if_neg (by simpa using h2)]; by_cases h3:ts[i].kind=3
   ·
    have:DV ts[i]=decide ((ts[i].text.length:Int)≤4096):=by unfold DV jr; simp [h3]
    rw [hok] at this; rw [if_pos (by simpa using h3),if_neg (by rw [←this]; simp)]; exact bad _
   ·
    rw [if_neg (by simpa using h3)]; by_cases h1:ts[i].kind=1
    ·
     have hnm:=Ew h1 htx; rw [hok] at hnm; have n1:ts[i].text≠[110,117,108,108]:=fun e=>by rw [e,WL] at hnm; cases hnm
     have n2:ts[i].text≠[116,114,117,101]:=fun e=>by rw [e,WK] at hnm; cases hnm
     have n3:ts[i].text≠[102,97,108,115,101]:=fun e=>by rw [e,Uw] at hnm; cases hnm
     have hp:qm ts[i].text=false:=by unfold qm; rw [←hnm]; rfl
     rw [if_pos (by simpa using h1),iw,zF,o7 hlt,au,if_neg (by simpa using n1),if_neg (by simpa using n2),if_neg (by simpa using n3),(BX ts[i].text (by omega)).2,hp,au,if_pos (by simp)]; exact bad _
    ·
     rw [if_neg (by simpa using h1)]; have h4:ts[i].kind≠4:=fun e=>by rw [Uu e] at hok; cases hok
     rw [if_neg (by simpa using h4)]; exact bad _
 | true=>
  rw [hok,if_pos rfl] at htk; have hk:=YC hok; rw [htk,if_neg (by omega),ig]; rcases hk with h1 | h2 | h3 | h4
  ·
   rw [if_neg (by simp [h1]),if_neg (by simp [h1]),if_pos (by simpa using h1),if_neg (by simp [h1]),if_neg (by simp [h1]),if_pos (by simpa using h1)]; show RE ts i (gG (cO (k + 1) (aj.mk ts (bV ((i:Int) + 1))) ts[i].text) _ _) _; rw [w1]; rcases V3 h hlt h1 hok hargs with ⟨e,j,g1,g2,gb,gP,gR⟩ | ⟨j,c,x,g1,g2,gc,gP,gR⟩
   · rw [gP,gR]; exact .inl ⟨e,j,g1,g2,gb,rfl,rfl⟩
   · rw [gP,gR]; exact .inr ⟨j,c,x,g1,g2,gc,rfl,rfl⟩
  ·
   rw [if_pos (by simpa using h2),if_pos (by simpa using h2)]; rcases Vw h2 htx with ⟨_,u,hu,ha,hr⟩ | ⟨h3,_⟩
   ·
    rw [ha,hr,aC,aC,if_pos rfl]; have hbk:(ah.mk 1 ([]:Str) (ak.mk 2 false (u:Int) ([]:Str) [] []) [] []).bulk≤2097152 * (i + 1 - i):=by rw [EC]; simp [ak.bulk,ak.mK]
    exact .inl ⟨ah.mk 1 ([]:Str) (ak.mk 2 false (u:Int) ([]:Str) [] []) [] [],i + 1,by omega,by omega,hbk,by rw [←w1]; rfl,by rw [←w1]; rfl⟩
   · rw [hok] at h3; cases h3
  ·
   have:DV ts[i]=decide ((ts[i].text.length:Int)≤4096):=by unfold DV jr; simp [h3]
   rw [hok] at this; rw [if_neg (by simp [h3]),if_pos (by simpa using h3),if_neg (by simp [h3]),if_pos (by simpa using h3),if_pos this.symm]; have hbk:(ah.mk 1 ([]:Str) (ak.mk 3 false 0 ts[i].text [] []) [] []).bulk≤2097152 * (i + 1 - i):=by rw [EC]; simp [ak.bulk,ak.mK]; omega
   exact .inl ⟨ah.mk 1 ([]:Str) (ak.mk 3 false 0 ts[i].text [] []) [] [],i + 1,by omega,by omega,hbk,by rw [←w1]; rfl,by rw [←w1]; rfl⟩
  ·
   have hop:∀ op,rD ts i op=(ts[i].text == op):=fun op=>by unfold rD; rw [htk,h4]; rfl
   rw [if_neg (by simp [h4]),if_neg (by simp [h4]),if_neg (by simp [h4]),if_neg (by simp [h4]),if_neg (by simp [h4]),if_neg (by simp [h4]),if_pos (by simpa using h4),eX,vK,o7 hlt,au,mE h hi0,aC,hop]; by_cases YX:ts[i].text=[40]
   ·
    have e40:(ts[i].text == ([40]:Str))=true:=by simpa using YX
    simp only [e40,if_true]; rw [w1]; rcases hc (i + 1) (by omega) (by omega) with ⟨e,j,g1,g2,gb,gP,gR⟩ | ⟨j,c,x,g1,g2,gc,gP,gR⟩
    ·
     rw [gP,gR,ig,aB,zl h g2]; have e0:((0:Int) == 0)=true:=rfl; simp only [e0,if_true,yg h,au,Ob,Bool.false_eq_true,if_false]; cases hq:rD ts j [41] with
     | true=>
      obtain ⟨hj,_⟩:=nJ hq; simp only [Bool.not_true,if_true,Bool.false_eq_true,if_false,ig]; rw [nW (by omega)]; exact .inl ⟨e,j + 1,by omega,by omega,by omega,rfl,rfl⟩
     | false=>
      simp only [Bool.not_false,if_true,Bool.false_eq_true,if_false,fJ,xE,au,Md (yN ts j)]; exact .inr ⟨j,_,_,by omega,g2,yN ts j,rfl,rfl⟩
    ·
     have e0:(c == 0)=false:=by simpa using gc
     rw [gP,gR,fJ,aB]; simp only [e0,Bool.false_eq_true,if_false,au,Md gc,if_true]; exact .inr ⟨j,c,_,by omega,g2,gc,rfl,rfl⟩
   ·
    have e40:(ts[i].text == ([40]:Str))=false:=by simpa using YX
    simp only [e40,Bool.false_eq_true,if_false]; rw [mE h hi0,aC,hop]; by_cases h91:ts[i].text=[91]
    ·
     have e91:(ts[i].text == ([91]:Str))=true:=by simpa using h91
     simp only [e91,if_true]; rw [w1]; rcases hlist (i + 1) (by omega) (by omega) with ⟨l,j,g1,g2,gb,gP,gR⟩ | ⟨j,c,x,y,g1,g2,gc,gP,gR⟩
     ·
      rw [gP,gR,ig,aF]; exact .inl ⟨_,j,by omega,g2,by rw [Rc]; simp; omega,rfl,rfl⟩
     ·
      rw [gP,gR,fJ,aF]; exact .inr ⟨j,c,_,by omega,g2,gc,rfl,rfl⟩
    ·
     have e91:(ts[i].text == ([91]:Str))=false:=by simpa using h91
     simp only [e91,Bool.false_eq_true,if_false]; rw [mE h hi0,aC,hop]; by_cases aeo:ts[i].text=[123]
     ·
      have acP:(ts[i].text == ([123]:Str))=true:=by simpa using aeo
      simp only [acP,if_true]; rw [w1]; rcases aei (i + 1) (by omega) (by omega) with ⟨l,ks,j,g1,g2,gb,gP,gR⟩ | ⟨j,c,x,y,g1,g2,gc,gP,gR⟩
      ·
       rw [gP,gR,ig,aF]; exact .inl ⟨_,j,by omega,g2,by rw [Rc]; simp only [List.length_nil]; omega,rfl,rfl⟩
      ·
       rw [gP,gR,fJ,aF]; exact .inr ⟨j,c,_,by omega,g2,gc,rfl,rfl⟩
     ·
      have acP:(ts[i].text == ([123]:Str))=false:=by simpa using aeo
      simp only [acP,Bool.false_eq_true,if_false]; exact .inr ⟨i,5,_,Nat.le_refl _,hi0,by decide,rfl,rfl⟩
end Go.Ft
namespace Go.Ft
open Go
attribute [local congr] jQ
theorem w7 (n:Int) (h:2≤n∧n≤6):bV (n + 1)=n + 1:=bB (by omega) (by omega)
theorem WG {ts:List av} (h:yX ts):∀ (k:Nat),
  (∀ k' i,i≤ts.length→30 * (ts.length - i) + 20≤k→30 * (ts.length - i) + 20≤k'→RE ts i (aQ k (aj.mk ts (i:Int))) (b_ k' ts (i:Int)))∧
  (∀ (k' i:Nat) (n:Int),2≤n→n≤7→i≤ts.length→((30 * (ts.length - i) + 19:Nat):Int) - n≤(k:Int)→((30 * (ts.length - i) + 19:Nat):Int) - n≤(k':Int)→RE ts i (aX k (aj.mk ts (i:Int)) n) (dn k' ts (i:Int) n))∧
  (∀ k' i,i≤ts.length→30 * (ts.length - i) + 10≤k→30 * (ts.length - i) + 10≤k'→RE ts i (bQ k (aj.mk ts (i:Int))) (fC k' ts (i:Int)))∧
  (∀ k' i,i≤ts.length→30 * (ts.length - i) + 9≤k→30 * (ts.length - i) + 9≤k'→RE ts i (bU k (aj.mk ts (i:Int))) (fK k' ts (i:Int)))∧
  (∀ k' i,i≤ts.length→30 * (ts.length - i) + 8≤k→30 * (ts.length - i) + 8≤k'→RE ts i (cu k (aj.mk ts (i:Int))) (gV k' ts (i:Int)))∧
  (∀ k' i cl,cl≠[44]→i≤ts.length→30 * (ts.length - i) + 21≤k→30 * (ts.length - i) + 21≤k'→RL ts i (bS k (aj.mk ts (i:Int)) cl) (fA k' ts (i:Int) cl false))∧
  (∀ k' i,i≤ts.length→30 * (ts.length - i) + 21≤k→30 * (ts.length - i) + 21≤k'→RX ts i (bO k (aj.mk ts (i:Int))) (fA k' ts (i:Int) [125] true)):=by
 intro k
 induction k using Nat.strongRecOn with
 | _ k ih=>
  have hN:=h.1; refine ⟨?_,?_,?_,?_,?_,?_,?_⟩
  ·
   intro k' i hi h1 h2; obtain ⟨q,rfl⟩:∃ q,k=q + 1:=⟨k - 1,by omega⟩; obtain ⟨q',rfl⟩:∃ q',k'=q' + 1:=⟨k' - 1,by omega⟩; obtain ⟨c1,c2,_⟩:=ih q (by omega); exact Xi h (c2 q' i 2 (by omega) (by omega) hi (by omega) (by omega)) fun j hj hj2=>c1 q' j hj2 (by omega) (by omega)
  ·
   intro k' i n n2 n7 hi h1 h2; obtain ⟨q,rfl⟩:∃ q,k=q + 1:=⟨k - 1,by omega⟩; obtain ⟨q',rfl⟩:∃ q',k'=q' + 1:=⟨k' - 1,by omega⟩; obtain ⟨_,c2,c3,_⟩:=ih q (by omega); by_cases e7:n=7
   ·
    subst e7; exact YB (c3 q' i hi (by omega) (by omega))
   ·
    have hn:2≤n∧n≤6:=⟨n2,by omega⟩; refine aal h hn ?_ ?_
    · rw [w7 n hn]; exact c2 q' i (n + 1) (by omega) (by omega) hi (by omega) (by omega)
    ·
     intro j hj hj2; rw [w7 n hn]; exact c2 q' j (n + 1) (by omega) (by omega) hj2 (by omega) (by omega)
  ·
   intro k' i hi h1 h2; obtain ⟨q,rfl⟩:∃ q,k=q + 1:=⟨k - 1,by omega⟩; obtain ⟨q',rfl⟩:∃ q',k'=q' + 1:=⟨k' - 1,by omega⟩; obtain ⟨_,_,c3,c4,_⟩:=ih q (by omega); exact Uf h hi (c4 q' i hi (by omega) (by omega)) fun j hj hj2=>c3 q' j hj2 (by omega) (by omega)
  ·
   intro k' i hi h1 h2; obtain ⟨q,rfl⟩:∃ q,k=q + 1:=⟨k - 1,by omega⟩; obtain ⟨q',rfl⟩:∃ q',k'=q' + 1:=⟨k' - 1,by omega⟩; obtain ⟨c1,_,_,_,c5,_⟩:=ih q (by omega); exact UW h (c5 q' i hi (by omega) (by omega)) fun j hj hj2=>c1 q' j hj2 (by omega) (by omega)
  ·
   intro k' i hi h1 h2; obtain ⟨q,rfl⟩:∃ q,k=q + 1 + 1:=⟨k - 2,by omega⟩; obtain ⟨q',rfl⟩:∃ q',k'=q' + 1 + 1:=⟨k' - 2,by omega⟩; obtain ⟨c1,_,_,_,_,c6,c7⟩:=ih (q + 1) (by omega); obtain ⟨_,_,_,_,_,d6,_⟩:=ih q (by omega); exact Xv h hi (fun j hj hj2=>c1 q' j hj2 (by omega) (by omega)) (fun j hj hj2=>d6 q' j _ (by decide) hj2 (by omega) (by omega)) (fun j hj hj2=>c6 q' j _ (by decide) hj2 (by omega) (by omega)) (fun j hj hj2=>c7 q' j hj2 (by omega) (by omega))
  ·
   intro k' i cl hcl hi h1 h2; obtain ⟨q,rfl⟩:∃ q,k=q + 1:=⟨k - 1,by omega⟩; obtain ⟨q',rfl⟩:∃ q',k'=q' + 1:=⟨k' - 1,by omega⟩; obtain ⟨c1,_⟩:=ih q (by omega); exact Xx h hi hcl fun j hj hj2=>c1 q' j hj2 (by omega) (by omega)
  ·
   intro k' i hi h1 h2; obtain ⟨q,rfl⟩:∃ q,k=q + 1:=⟨k - 1,by omega⟩; obtain ⟨q',rfl⟩:∃ q',k'=q' + 1:=⟨k' - 1,by omega⟩; obtain ⟨c1,_⟩:=ih q (by omega); exact Xd h hi fun j hj hj2=>c1 q' j hj2 (by omega) (by omega)
theorem Y_ {ts:List av} (h:yX ts):RE ts 0 (pE (aj.mk ts 0)) (Bh ts 0):=by
 have hN:=h.1; have hB:=mg; exact (WG h BIG).1 BIG 0 (Nat.zero_le _) (by omega) (by omega)
end Go.Ft
namespace Go.Ft
open Go
attribute [local congr] jQ
theorem IE {n:Int} (h:-9223372036854775808≤n∧n < 9223372036854775808):bV n=n:=PW (by omega) (by omega)
theorem XP {i j:Nat} (h:i + j < 9223372036854775808):bV ((i:Int) + (j:Int))=((i + j:Nat):Int):=by rw [IE (by omega)]; omega
theorem Je {α:Type} {l:List α} {i:Nat} (h:i < l.length):idx l (i:Int)=some (l[i]):=by rw [VB,List.getElem?_eq_getElem h]
def nG (c:UInt8):Bool:=(((decide (97≤(c.toNat:Int))) && (decide ((c.toNat:Int)≤122))) || ((decide (65≤(c.toNat:Int))) && (decide ((c.toNat:Int)≤90)))) || ((c.toNat:Int) == 95)
def isDigit (c:UInt8):Bool:=(decide (48≤(c.toNat:Int))) && (decide ((c.toNat:Int)≤57))
def isWord (c:UInt8):Bool:=nG c || isDigit c
theorem oH {c:UInt8}:isDigit c=true↔48≤c.toNat∧c.toNat≤57:=by simp [isDigit]; omega
theorem yO {c:UInt8}:nG c=true↔(97≤c.toNat∧c.toNat≤122)∨(65≤c.toNat∧c.toNat≤90)∨c.toNat=95:=by simp [nG]; omega
@[simp] theorem letter_eq (c:UInt8):ql c=some (nG c):=rfl
@[simp] theorem digit_eq (c:UInt8):qc c=some (isDigit c):=rfl
@[simp] theorem LG (c:UInt8):wT c=some (nG c):=rfl
@[simp] theorem BF (c:UInt8):nS c=some (isDigit c):=rfl
@[simp] theorem YH (c:UInt8):sV c=some (isWord c):=by
 unfold sV isWord; simp; cases nG c <;> simp
def span (p:UInt8→Bool) (l:Str):Nat:=(l.takeWhile p).length
@[simp] theorem adw (p:UInt8→Bool):span p []=0:=rfl
theorem kX (p:UInt8→Bool) (c:UInt8) (l:Str):span p (c :: l)=if p c then span p l + 1 else 0:=by
 unfold span; rw [List.takeWhile_cons]; split <;> simp
theorem yH (p:UInt8→Bool) (l:Str):span p l≤l.length:=by
 induction l with
 | nil=>simp
 | cons c l ih=>rw [kX]; split <;> simp <;> omega
theorem Rt {p:UInt8→Bool} {cls:UInt8→Option Bool} (hc:∀ c,cls c=some (p c)) (s:Str) (hs:s.length < 4611686018427387904):
  ∀ (k i:Nat),s.length < k + i→i≤s.length→pI s cls k (i:Int)=some ((i + span p (s.drop i):Nat):Int)
 | 0,i,h,h'=>by omega
 | k + 1,i,h,h'=>by
  rw [pI]; by_cases hi:i < s.length
  ·
   rw [List.drop_eq_getElem_cons hi,kX]; have h1:((i:Int) < (s.length:Int)):=by omega
   simp only [h1,decide_true,if_true,Je hi,au,hc]; cases e:p s[i] with
   | false=>simp
   | true=>
    simp only [if_true]; rw [show (i:Int) + 1=((i:Int) + (1:Nat)) from rfl,XP (by omega),Rt hc s hs k (i + 1) (by omega) (by omega)]; simp only [Option.some.injEq,Int.natCast_inj]; omega
  ·
   have:i=s.length:=by omega
   subst this; simp
theorem K9 {p:UInt8→Bool} {cls:UInt8→Option Bool} (hc:∀ c,cls c=some (p c)) {s:Str} (hs:s.length < 4611686018427387904) {i:Nat} (h:i≤s.length):
  vw s (i:Int) cls=some ((i + span p (s.drop i):Nat):Int):=Rt hc s hs BIG i (by unfold BIG; omega) h
theorem Px (s:Str) (hs:s.length < 4611686018427387904) (a:Nat):∀ (k n:Nat),s.length < k + (a + n)→a + n≤s.length→
  qU s (a:Int) k (n:Int)=some ((n + span isDigit (s.drop (a + n)):Nat):Int)
 | 0,n,h,h'=>by omega
 | k + 1,n,h,h'=>by
  rw [qU,XP (by omega)]; by_cases hi:a + n < s.length
  ·
   rw [List.drop_eq_getElem_cons hi,kX]; have h1:(((a + n:Nat):Int) < (s.length:Int)):=by omega
   simp only [h1,decide_true,if_true,Je hi,au,BF]; cases e:isDigit s[a + n] with
   | false=>simp
   | true=>
    simp only [if_true]; rw [show (n:Int) + 1=((n:Int) + (1:Nat)) from rfl,XP (by omega),Px s hs a k (n + 1) (by omega) (by omega)]; simp only [Option.some.injEq,Int.natCast_inj]; rw [show a + (n + 1)=a + n + 1 from rfl]; omega
  ·
   have e:a + n=s.length:=by omega
   rw [e]; simp
theorem Vf (s:Str) (hs:s.length < 4611686018427387904) (a:Nat):∀ (k n:Nat),s.length < k + (a + n)→a + n≤s.length→
  vk s (a:Int) k (n:Int)=some ((n + span isWord (s.drop (a + n)):Nat):Int)
 | 0,n,h,h'=>by omega
 | k + 1,n,h,h'=>by
  rw [vk,XP (by omega)]; by_cases hi:a + n < s.length
  ·
   rw [List.drop_eq_getElem_cons hi,kX]; have h1:(((a + n:Nat):Int) < (s.length:Int)):=by omega
   simp only [h1,decide_true,if_true,Je hi,au,BF,LG]
   have e:(if nG s[a + n]=true then some true else some (isDigit s[a + n]))=some (isWord s[a + n]):=by
    unfold isWord; cases nG s[a + n] <;> simp
   rw [e]; simp only [au]; cases e:isWord s[a + n] with
   | false=>simp
   | true=>
    simp only [if_true]; rw [show (n:Int) + 1=((n:Int) + (1:Nat)) from rfl,XP (by omega),Vf s hs a k (n + 1) (by omega) (by omega)]; simp only [Option.some.injEq,Int.natCast_inj]; rw [show a + (n + 1)=a + n + 1 from rfl]; omega
  ·
   have e:a + n=s.length:=by omega
   rw [e]; simp
theorem Xh {s:Str} (hs:s.length < 4611686018427387904) {a:Nat} (h:a≤s.length):zJ s (a:Int)=some ((span isDigit (s.drop a):Nat):Int):=by
 have:=Px s hs a BIG 0 (by unfold BIG; omega) (by omega); simpa [zJ] using this
theorem Ve {s:Str} (hs:s.length < 4611686018427387904) {a:Nat} (h:a≤s.length):BM s (a:Int)=some ((span isWord (s.drop a):Nat):Int):=by
 have:=Vf s hs a BIG 0 (by unfold BIG; omega) (by omega); simpa [BM] using this
def EG (c:UInt8):Option Nat:=if isDigit c then some (c.toNat - 48) else if 97≤c.toNat∧c.toNat≤102 then some (c.toNat - 87) else if 65≤c.toNat∧c.toNat≤70 then some (c.toNat - 55) else none
def SL (c:UInt8):Int:=match EG c with | some n=>n | none=>-1
theorem KT {c:UInt8} {n:Nat} (h:EG c=some n):n < 16:=by
 unfold EG at h; split at h
 · rename_i hd; rw [oH] at hd; cases h; omega
 ·
  split at h
  · cases h; omega
  ·
   split at h
   · cases h; omega
   · cases h
theorem KO {c d:UInt8} (h:d.toNat≤c.toNat):(c - d).toNat=c.toNat - d.toNat:=UInt8.toNat_sub_of_le c d (UInt8.le_iff_toNat_le.2 h)
theorem UJ (c:UInt8):sW c=some (SL c):=by
 have hlt:=c.toNat_lt; unfold sW SL EG; simp only [digit_eq,au]; by_cases hd:isDigit c=true
 ·
  simp only [hd,if_true]; rw [oH] at hd; rw [KO (by simpa using hd.1)]; rfl
 ·
  simp only [Bool.not_eq_true] at hd; simp only [hd,Bool.false_eq_true,if_false]; by_cases h1:97≤c.toNat∧c.toNat≤102
  ·
   rw [if_pos (by simp; omega),if_pos h1,KO (by simpa using h1.1)]; have:(97:UInt8).toNat=97:=rfl; rw [this,IE (by omega)]; simp only [Option.some.injEq]; omega
  ·
   rw [if_neg (by simp; omega),if_neg h1]; by_cases h2:65≤c.toNat∧c.toNat≤70
   ·
    rw [if_pos (by simp; omega),if_pos h2,KO (by simpa using h2.1)]; have:(65:UInt8).toNat=65:=rfl; rw [this,IE (by omega)]; simp only [Option.some.injEq]; omega
   · rw [if_neg (by simp; omega),if_neg h2]
theorem Qd (c:UInt8):FH c=some (SL c):=by
 have hlt:=c.toNat_lt; unfold FH SL EG; simp only [BF,au]; by_cases hd:isDigit c=true
 ·
  simp only [hd,if_true]; rw [oH] at hd; rw [IE (by omega)]; simp only [Option.some.injEq]; omega
 ·
  simp only [Bool.not_eq_true] at hd; simp only [hd,Bool.false_eq_true,if_false]; by_cases h1:97≤c.toNat∧c.toNat≤102
  ·
   rw [if_pos (by simp; omega),if_pos h1,IE (by omega)]; simp only [Option.some.injEq]; omega
  ·
   rw [if_neg (by simp; omega),if_neg h1]; by_cases h2:65≤c.toNat∧c.toNat≤70
   ·
    rw [if_pos (by simp; omega),if_pos h2,IE (by omega)]; simp only [Option.some.injEq]; omega
   · rw [if_neg (by simp; omega),if_neg h2]
theorem zk {c:UInt8} {n:Nat} (h:EG c=some n):SL c=n:=by unfold SL; rw [h]
theorem Ce {c:UInt8} (h:EG c=none):SL c=-1:=by unfold SL; rw [h]
def chr :Str→UInt8 × Nat × Int
 | []=>(0,0,5)
 | c :: r=>if c.toNat < 32 then (0,0,5) else if c.toNat≠92 then (c,1,0) else
  match r with
  | []=>(0,0,4)
  | d :: r=>if d.toNat=34∨d.toNat=92 then (d,2,0) else if d.toNat=110 then (10,2,0) else if d.toNat=116 then (9,2,0) else if d.toNat=120 then
    match r with
    | []=>(0,0,4)
    | a :: r=>match EG a with
     | none=>(0,0,5)
     | some x=>match r with
      | []=>(0,0,4)
      | b :: _=>match EG b with
       | none=>(0,0,5)
       | some y=>(UInt8.ofNat (16 * x + y),4,0)
   else (0,0,5)
theorem VN :∀ {l:Str},(chr l).2.2=0→0 < (chr l).2.1∧(chr l).2.1≤l.length
 | [],h=>by simp [chr] at h
 | c :: r,h=>by
  unfold chr at h ⊢; by_cases h1:c.toNat < 32
  · simp [h1] at h
  ·
   by_cases h2:c.toNat≠92
   · simp [h1,h2]
   ·
    simp only [h1,h2,if_false] at h ⊢; cases r with
    | nil=>simp at h
    | cons d r=>
     simp only at h ⊢; by_cases h3:d.toNat=34∨d.toNat=92
     · simp [h3]
     ·
      by_cases h4:d.toNat=110
      · simp [h4]
      ·
       by_cases h5:d.toNat=116
       · simp [h5]
       ·
        by_cases h6:d.toNat=120
        ·
         simp only [h3,h4,h5,h6,if_false,if_true] at h ⊢; cases r with
         | nil=>simp at h
         | cons a r=>
          simp only at h ⊢; cases ha:EG a with
          | none=>simp [ha] at h
          | some x=>
           simp only [ha] at h ⊢; cases r with
           | nil=>simp at h
           | cons b r=>
            simp only at h ⊢; cases hb:EG b with
            | none=>simp [hb] at h
            | some y=>simp
        · simp [h3,h4,h5,h6] at h
theorem getD_drop {s:Str} {i:Nat} (h:i < s.length):s.drop i=s.getD i 0 :: s.drop (i + 1):=by
 rw [List.drop_eq_getElem_cons h,List.getD_eq_getElem?_getD,List.getElem?_eq_getElem h,Option.getD_some]
theorem dflt :(default:UInt8)=0:=rfl
theorem aae {s:Str} (hs:s.length < 4611686018427387904) {i:Nat} (hi:i + 1 < s.length) (h1:(s.getD i 0).toNat=92) (h2:(s.getD (i + 1) 0).toNat=120):
  xG s (i:Int)=some ((chr (s.drop i)).1,((chr (s.drop i)).2.1:Int),(chr (s.drop i)).2.2):=by
 rw [getD_drop (by omega),getD_drop hi]; unfold chr; unfold xG; obtain ⟨m,hm⟩:∃ m,BIG=m + 3:=⟨BIG - 3,rfl⟩; rw [hm]; by_cases h4:i + 2 < s.length
 ·
  rw [getD_drop (by omega:i + 1 + 1 < s.length)]; simp (disch:=omega) only [kN,Qd,dflt,h2,bB,bD,bX,bq,bE,if_pos,if_neg,au,aC,aB,aF,aH,aK,aJ,aI,decide_eq_true_eq,beq_iff_eq,bne_iff_ne,ne_eq,Bool.and_eq_true,Bool.or_eq_true,Bool.not_eq_true',Bool.not_eq_true,decide_eq_false_iff_not,beq_eq_false_iff_ne,bne_eq_false_iff_eq,Int.toNat_add,Int.toNat_natCast,Int.reduceToNat,Int.zero_add,Int.add_zero,Nat.add_zero,Nat.zero_add,Bool.true_and,Bool.and_true,Bool.false_and,Bool.and_false,Bool.true_or,Bool.or_true,Bool.false_or,Bool.or_false,Bool.not_true,Bool.not_false,Bool.false_eq_true,Bool.true_eq_false,reduceCtorEq,not_true_eq_false,not_false_eq_true,if_true,if_false,decide_true,decide_false]; cases ha:EG (s.getD (i + 1 + 1) 0) with
  | none=>simp (disch:=omega) only [Ce ha,bB,bD,bX,bq,bE,if_pos,if_neg,au,aC,aB,aF,aH,aK,aJ,aI,decide_eq_true_eq,beq_iff_eq,bne_iff_ne,ne_eq,Bool.and_eq_true,Bool.or_eq_true,Bool.not_eq_true',Bool.not_eq_true,decide_eq_false_iff_not,beq_eq_false_iff_ne,bne_eq_false_iff_eq,Int.toNat_add,Int.toNat_natCast,Int.reduceToNat,Int.zero_add,Int.add_zero,Nat.add_zero,Nat.zero_add,Bool.true_and,Bool.and_true,Bool.false_and,Bool.and_false,Bool.true_or,Bool.or_true,Bool.false_or,Bool.or_false,Bool.not_true,Bool.not_false,Bool.false_eq_true,Bool.true_eq_false,reduceCtorEq,not_true_eq_false,not_false_eq_true,if_true,if_false,decide_true,decide_false]; rfl
  | some x=>
   have hx:=KT ha; by_cases h5:i + 3 < s.length
   ·
    rw [getD_drop (by omega:i + 1 + 1 + 1 < s.length)]; simp (disch:=omega) only [kN,Qd,dflt,zk ha,bB,bD,bX,bq,bE,if_pos,if_neg,au,aC,aB,aF,aH,aK,aJ,aI,decide_eq_true_eq,beq_iff_eq,bne_iff_ne,ne_eq,Bool.and_eq_true,Bool.or_eq_true,Bool.not_eq_true',Bool.not_eq_true,decide_eq_false_iff_not,beq_eq_false_iff_ne,bne_eq_false_iff_eq,Int.toNat_add,Int.toNat_natCast,Int.reduceToNat,Int.zero_add,Int.add_zero,Nat.add_zero,Nat.zero_add,Bool.true_and,Bool.and_true,Bool.false_and,Bool.and_false,Bool.true_or,Bool.or_true,Bool.false_or,Bool.or_false,Bool.not_true,Bool.not_false,Bool.false_eq_true,Bool.true_eq_false,reduceCtorEq,not_true_eq_false,not_false_eq_true,if_true,if_false,decide_true,decide_false]; cases hb:EG (s.getD (i + 1 + 1 + 1) 0) with
    | none=>simp (disch:=omega) only [Ce hb,bB,bD,bX,bq,bE,if_pos,if_neg,au,aC,aB,aF,aH,aK,aJ,aI,decide_eq_true_eq,beq_iff_eq,bne_iff_ne,ne_eq,Bool.and_eq_true,Bool.or_eq_true,Bool.not_eq_true',Bool.not_eq_true,decide_eq_false_iff_not,beq_eq_false_iff_ne,bne_eq_false_iff_eq,Int.toNat_add,Int.toNat_natCast,Int.reduceToNat,Int.zero_add,Int.add_zero,Nat.add_zero,Nat.zero_add,Bool.true_and,Bool.and_true,Bool.false_and,Bool.and_false,Bool.true_or,Bool.or_true,Bool.false_or,Bool.or_false,Bool.not_true,Bool.not_false,Bool.false_eq_true,Bool.true_eq_false,reduceCtorEq,not_true_eq_false,not_false_eq_true,if_true,if_false,decide_true,decide_false]; rfl
    | some y=>
     have hy:=KT hb; simp (disch:=omega) only [zk hb,kN,bB,bD,bX,bq,bE,if_pos,if_neg,au,aC,aB,aF,aH,aK,aJ,aI,decide_eq_true_eq,beq_iff_eq,bne_iff_ne,ne_eq,Bool.and_eq_true,Bool.or_eq_true,Bool.not_eq_true',Bool.not_eq_true,decide_eq_false_iff_not,beq_eq_false_iff_ne,bne_eq_false_iff_eq,Int.toNat_add,Int.toNat_natCast,Int.reduceToNat,Int.zero_add,Int.add_zero,Nat.add_zero,Nat.zero_add,Bool.true_and,Bool.and_true,Bool.false_and,Bool.and_false,Bool.true_or,Bool.or_true,Bool.false_or,Bool.or_false,Bool.not_true,Bool.not_false,Bool.false_eq_true,Bool.true_eq_false,reduceCtorEq,not_true_eq_false,not_false_eq_true,if_true,if_false,decide_true,decide_false]
     have:byteOf (16 * (16 * 0 + (x:Int)) + (y:Int))=UInt8.ofNat (16 * x + y):=by
      apply UInt8.toNat_inj.1; have e1:((byteOf (16 * (16 * 0 + (x:Int)) + (y:Int))).toNat:Int)=16 * (16 * 0 + (x:Int)) + (y:Int):=PK (by omega) (by omega); have e2:(UInt8.ofNat (16 * x + y)).toNat=16 * x + y:=by simp; omega
      omega
     rw [this]; rfl
   ·
    rw [List.drop_eq_nil_of_le (by omega:s.length≤i + 1 + 1 + 1)]; simp (disch:=omega) only [kN,Qd,dflt,zk ha,bB,bD,bX,bq,bE,if_pos,if_neg,au,aC,aB,aF,aH,aK,aJ,aI,decide_eq_true_eq,beq_iff_eq,bne_iff_ne,ne_eq,Bool.and_eq_true,Bool.or_eq_true,Bool.not_eq_true',Bool.not_eq_true,decide_eq_false_iff_not,beq_eq_false_iff_ne,bne_eq_false_iff_eq,Int.toNat_add,Int.toNat_natCast,Int.reduceToNat,Int.zero_add,Int.add_zero,Nat.add_zero,Nat.zero_add,Bool.true_and,Bool.and_true,Bool.false_and,Bool.and_false,Bool.true_or,Bool.or_true,Bool.false_or,Bool.or_false,Bool.not_true,Bool.not_false,Bool.false_eq_true,Bool.true_eq_false,reduceCtorEq,not_true_eq_false,not_false_eq_true,if_true,if_false,decide_true,decide_false]; rfl
 ·
  rw [List.drop_eq_nil_of_le (by omega:s.length≤i + 1 + 1)]; simp (disch:=omega) only [kN,h2,bB,bD,bX,bq,bE,if_pos,if_neg,au,aC,aB,aF,aH,aK,aJ,aI,decide_eq_true_eq,beq_iff_eq,bne_iff_ne,ne_eq,Bool.and_eq_true,Bool.or_eq_true,Bool.not_eq_true',Bool.not_eq_true,decide_eq_false_iff_not,beq_eq_false_iff_ne,bne_eq_false_iff_eq,Int.toNat_add,Int.toNat_natCast,Int.reduceToNat,Int.zero_add,Int.add_zero,Nat.add_zero,Nat.zero_add,Bool.true_and,Bool.and_true,Bool.false_and,Bool.and_false,Bool.true_or,Bool.or_true,Bool.false_or,Bool.or_false,Bool.not_true,Bool.not_false,Bool.false_eq_true,Bool.true_eq_false,reduceCtorEq,not_true_eq_false,not_false_eq_true,if_true,if_false,decide_true,decide_false]; rfl
theorem aah {s:Str} (hs:s.length < 4611686018427387904) {i:Nat} (hi:i < s.length):mY s (i:Int)=some ((chr (s.drop i)).1,((chr (s.drop i)).2.1:Int),(chr (s.drop i)).2.2):=by
 by_cases h1:(s.getD i 0).toNat=92
 ·
  by_cases h2:i + 1 < s.length
  ·
   by_cases h3:(s.getD (i + 1) 0).toNat=120
   ·
    rw [←aae hs h2 h1 h3]; unfold mY; simp (disch:=omega) only [dflt,bB,bD,bX,bq,bE,if_pos,if_neg,au,aC,aB,aF,aH,aK,aJ,aI,decide_eq_true_eq,beq_iff_eq,bne_iff_ne,ne_eq,Bool.and_eq_true,Bool.or_eq_true,Bool.not_eq_true',Bool.not_eq_true,decide_eq_false_iff_not,beq_eq_false_iff_ne,bne_eq_false_iff_eq,Int.toNat_add,Int.toNat_natCast,Int.reduceToNat,Int.zero_add,Int.add_zero,Nat.add_zero,Nat.zero_add,Bool.true_and,Bool.and_true,Bool.false_and,Bool.and_false,Bool.true_or,Bool.or_true,Bool.false_or,Bool.or_false,Bool.not_true,Bool.not_false,Bool.false_eq_true,Bool.true_eq_false,reduceCtorEq,not_true_eq_false,not_false_eq_true,if_true,if_false,decide_true,decide_false]
   ·
    rw [getD_drop hi,getD_drop h2]; unfold mY chr; simp (disch:=omega) only [dflt,bB,bD,bX,bq,bE,if_pos,if_neg,au,aC,aB,aF,aH,aK,aJ,aI,decide_eq_true_eq,beq_iff_eq,bne_iff_ne,ne_eq,Bool.and_eq_true,Bool.or_eq_true,Bool.not_eq_true',Bool.not_eq_true,decide_eq_false_iff_not,beq_eq_false_iff_ne,bne_eq_false_iff_eq,Int.toNat_add,Int.toNat_natCast,Int.reduceToNat,Int.zero_add,Int.add_zero,Nat.add_zero,Nat.zero_add,Bool.true_and,Bool.and_true,Bool.false_and,Bool.and_false,Bool.true_or,Bool.or_true,Bool.false_or,Bool.or_false,Bool.not_true,Bool.not_false,Bool.false_eq_true,Bool.true_eq_false,reduceCtorEq,not_true_eq_false,not_false_eq_true,if_true,if_false,decide_true,decide_false]; by_cases d1:(s.getD (i + 1) 0).toNat=34
    · simp (disch:=omega) only [bB,bD,bX,bq,bE,if_pos,if_neg,au,aC,aB,aF,aH,aK,aJ,aI,decide_eq_true_eq,beq_iff_eq,bne_iff_ne,ne_eq,Bool.and_eq_true,Bool.or_eq_true,Bool.not_eq_true',Bool.not_eq_true,decide_eq_false_iff_not,beq_eq_false_iff_ne,bne_eq_false_iff_eq,Int.toNat_add,Int.toNat_natCast,Int.reduceToNat,Int.zero_add,Int.add_zero,Nat.add_zero,Nat.zero_add,Bool.true_and,Bool.and_true,Bool.false_and,Bool.and_false,Bool.true_or,Bool.or_true,Bool.false_or,Bool.or_false,Bool.not_true,Bool.not_false,Bool.false_eq_true,Bool.true_eq_false,reduceCtorEq,not_true_eq_false,not_false_eq_true,if_true,if_false,decide_true,decide_false]; rfl
    ·
     by_cases d2:(s.getD (i + 1) 0).toNat=92
     · simp (disch:=omega) only [bB,bD,bX,bq,bE,if_pos,if_neg,au,aC,aB,aF,aH,aK,aJ,aI,decide_eq_true_eq,beq_iff_eq,bne_iff_ne,ne_eq,Bool.and_eq_true,Bool.or_eq_true,Bool.not_eq_true',Bool.not_eq_true,decide_eq_false_iff_not,beq_eq_false_iff_ne,bne_eq_false_iff_eq,Int.toNat_add,Int.toNat_natCast,Int.reduceToNat,Int.zero_add,Int.add_zero,Nat.add_zero,Nat.zero_add,Bool.true_and,Bool.and_true,Bool.false_and,Bool.and_false,Bool.true_or,Bool.or_true,Bool.false_or,Bool.or_false,Bool.not_true,Bool.not_false,Bool.false_eq_true,Bool.true_eq_false,reduceCtorEq,not_true_eq_false,not_false_eq_true,if_true,if_false,decide_true,decide_false]; rfl
     ·
      by_cases d3:(s.getD (i + 1) 0).toNat=110
      · simp (disch:=omega) only [bB,bD,bX,bq,bE,if_pos,if_neg,au,aC,aB,aF,aH,aK,aJ,aI,decide_eq_true_eq,beq_iff_eq,bne_iff_ne,ne_eq,Bool.and_eq_true,Bool.or_eq_true,Bool.not_eq_true',Bool.not_eq_true,decide_eq_false_iff_not,beq_eq_false_iff_ne,bne_eq_false_iff_eq,Int.toNat_add,Int.toNat_natCast,Int.reduceToNat,Int.zero_add,Int.add_zero,Nat.add_zero,Nat.zero_add,Bool.true_and,Bool.and_true,Bool.false_and,Bool.and_false,Bool.true_or,Bool.or_true,Bool.false_or,Bool.or_false,Bool.not_true,Bool.not_false,Bool.false_eq_true,Bool.true_eq_false,reduceCtorEq,not_true_eq_false,not_false_eq_true,if_true,if_false,decide_true,decide_false]; rfl
      ·
       by_cases d4:(s.getD (i + 1) 0).toNat=116
       · simp (disch:=omega) only [bB,bD,bX,bq,bE,if_pos,if_neg,au,aC,aB,aF,aH,aK,aJ,aI,decide_eq_true_eq,beq_iff_eq,bne_iff_ne,ne_eq,Bool.and_eq_true,Bool.or_eq_true,Bool.not_eq_true',Bool.not_eq_true,decide_eq_false_iff_not,beq_eq_false_iff_ne,bne_eq_false_iff_eq,Int.toNat_add,Int.toNat_natCast,Int.reduceToNat,Int.zero_add,Int.add_zero,Nat.add_zero,Nat.zero_add,Bool.true_and,Bool.and_true,Bool.false_and,Bool.and_false,Bool.true_or,Bool.or_true,Bool.false_or,Bool.or_false,Bool.not_true,Bool.not_false,Bool.false_eq_true,Bool.true_eq_false,reduceCtorEq,not_true_eq_false,not_false_eq_true,if_true,if_false,decide_true,decide_false]; rfl
       · simp (disch:=omega) only [bB,bD,bX,bq,bE,if_pos,if_neg,au,aC,aB,aF,aH,aK,aJ,aI,decide_eq_true_eq,beq_iff_eq,bne_iff_ne,ne_eq,Bool.and_eq_true,Bool.or_eq_true,Bool.not_eq_true',Bool.not_eq_true,decide_eq_false_iff_not,beq_eq_false_iff_ne,bne_eq_false_iff_eq,Int.toNat_add,Int.toNat_natCast,Int.reduceToNat,Int.zero_add,Int.add_zero,Nat.add_zero,Nat.zero_add,Bool.true_and,Bool.and_true,Bool.false_and,Bool.and_false,Bool.true_or,Bool.or_true,Bool.false_or,Bool.or_false,Bool.not_true,Bool.not_false,Bool.false_eq_true,Bool.true_eq_false,reduceCtorEq,not_true_eq_false,not_false_eq_true,if_true,if_false,decide_true,decide_false]; rfl
  ·
   rw [getD_drop hi,List.drop_eq_nil_of_le (by omega:s.length≤i + 1)]; unfold mY chr; simp (disch:=omega) only [dflt,bB,bD,bX,bq,bE,if_pos,if_neg,au,aC,aB,aF,aH,aK,aJ,aI,decide_eq_true_eq,beq_iff_eq,bne_iff_ne,ne_eq,Bool.and_eq_true,Bool.or_eq_true,Bool.not_eq_true',Bool.not_eq_true,decide_eq_false_iff_not,beq_eq_false_iff_ne,bne_eq_false_iff_eq,Int.toNat_add,Int.toNat_natCast,Int.reduceToNat,Int.zero_add,Int.add_zero,Nat.add_zero,Nat.zero_add,Bool.true_and,Bool.and_true,Bool.false_and,Bool.and_false,Bool.true_or,Bool.or_true,Bool.false_or,Bool.or_false,Bool.not_true,Bool.not_false,Bool.false_eq_true,Bool.true_eq_false,reduceCtorEq,not_true_eq_false,not_false_eq_true,if_true,if_false,decide_true,decide_false]; rfl
 ·
  rw [getD_drop hi]; unfold mY chr; by_cases h2:(s.getD i 0).toNat < 32
  · simp (disch:=omega) only [dflt,bB,bD,bX,bq,bE,if_pos,if_neg,au,aC,aB,aF,aH,aK,aJ,aI,decide_eq_true_eq,beq_iff_eq,bne_iff_ne,ne_eq,Bool.and_eq_true,Bool.or_eq_true,Bool.not_eq_true',Bool.not_eq_true,decide_eq_false_iff_not,beq_eq_false_iff_ne,bne_eq_false_iff_eq,Int.toNat_add,Int.toNat_natCast,Int.reduceToNat,Int.zero_add,Int.add_zero,Nat.add_zero,Nat.zero_add,Bool.true_and,Bool.and_true,Bool.false_and,Bool.and_false,Bool.true_or,Bool.or_true,Bool.false_or,Bool.or_false,Bool.not_true,Bool.not_false,Bool.false_eq_true,Bool.true_eq_false,reduceCtorEq,not_true_eq_false,not_false_eq_true,if_true,if_false,decide_true,decide_false]; rfl
  · simp (disch:=omega) only [dflt,bB,bD,bX,bq,bE,if_pos,if_neg,au,aC,aB,aF,aH,aK,aJ,aI,decide_eq_true_eq,beq_iff_eq,bne_iff_ne,ne_eq,Bool.and_eq_true,Bool.or_eq_true,Bool.not_eq_true',Bool.not_eq_true,decide_eq_false_iff_not,beq_eq_false_iff_ne,bne_eq_false_iff_eq,Int.toNat_add,Int.toNat_natCast,Int.reduceToNat,Int.zero_add,Int.add_zero,Nat.add_zero,Nat.zero_add,Bool.true_and,Bool.and_true,Bool.false_and,Bool.and_false,Bool.true_or,Bool.or_true,Bool.false_or,Bool.or_false,Bool.not_true,Bool.not_false,Bool.false_eq_true,Bool.true_eq_false,reduceCtorEq,not_true_eq_false,not_false_eq_true,if_true,if_false,decide_true,decide_false]; rfl
theorem aar {s:Str} (hs:s.length < 4611686018427387904) {i:Nat} (hi:i < s.length) (h1:(s.getD i 0).toNat=92):
  uy s (i:Int)=some ((chr (s.drop i)).1,((chr (s.drop i)).2.1:Int)):=by
 unfold uy; rw [getD_drop hi]; unfold chr; by_cases h2:i + 1 < s.length
 ·
  rw [getD_drop h2]; simp (disch:=omega) only [dflt,bB,bD,bX,bq,bE,if_pos,if_neg,au,aC,aB,aF,aH,aK,aJ,aI,decide_eq_true_eq,beq_iff_eq,bne_iff_ne,ne_eq,Bool.and_eq_true,Bool.or_eq_true,Bool.not_eq_true',Bool.not_eq_true,decide_eq_false_iff_not,beq_eq_false_iff_ne,bne_eq_false_iff_eq,Int.toNat_add,Int.toNat_natCast,Int.reduceToNat,Int.zero_add,Int.add_zero,Nat.add_zero,Nat.zero_add,Bool.true_and,Bool.and_true,Bool.false_and,Bool.and_false,Bool.true_or,Bool.or_true,Bool.false_or,Bool.or_false,Bool.not_true,Bool.not_false,Bool.false_eq_true,Bool.true_eq_false,reduceCtorEq,not_true_eq_false,not_false_eq_true,if_true,if_false,decide_true,decide_false]; by_cases d1:(s.getD (i + 1) 0).toNat=34
  · simp (disch:=omega) only [bB,bD,bX,bq,bE,if_pos,if_neg,au,aC,aB,aF,aH,aK,aJ,aI,decide_eq_true_eq,beq_iff_eq,bne_iff_ne,ne_eq,Bool.and_eq_true,Bool.or_eq_true,Bool.not_eq_true',Bool.not_eq_true,decide_eq_false_iff_not,beq_eq_false_iff_ne,bne_eq_false_iff_eq,Int.toNat_add,Int.toNat_natCast,Int.reduceToNat,Int.zero_add,Int.add_zero,Nat.add_zero,Nat.zero_add,Bool.true_and,Bool.and_true,Bool.false_and,Bool.and_false,Bool.true_or,Bool.or_true,Bool.false_or,Bool.or_false,Bool.not_true,Bool.not_false,Bool.false_eq_true,Bool.true_eq_false,reduceCtorEq,not_true_eq_false,not_false_eq_true,if_true,if_false,decide_true,decide_false]; rfl
  ·
   by_cases d2:(s.getD (i + 1) 0).toNat=92
   · simp (disch:=omega) only [bB,bD,bX,bq,bE,if_pos,if_neg,au,aC,aB,aF,aH,aK,aJ,aI,decide_eq_true_eq,beq_iff_eq,bne_iff_ne,ne_eq,Bool.and_eq_true,Bool.or_eq_true,Bool.not_eq_true',Bool.not_eq_true,decide_eq_false_iff_not,beq_eq_false_iff_ne,bne_eq_false_iff_eq,Int.toNat_add,Int.toNat_natCast,Int.reduceToNat,Int.zero_add,Int.add_zero,Nat.add_zero,Nat.zero_add,Bool.true_and,Bool.and_true,Bool.false_and,Bool.and_false,Bool.true_or,Bool.or_true,Bool.false_or,Bool.or_false,Bool.not_true,Bool.not_false,Bool.false_eq_true,Bool.true_eq_false,reduceCtorEq,not_true_eq_false,not_false_eq_true,if_true,if_false,decide_true,decide_false]; rfl
   ·
    by_cases d3:(s.getD (i + 1) 0).toNat=110
    · simp (disch:=omega) only [bB,bD,bX,bq,bE,if_pos,if_neg,au,aC,aB,aF,aH,aK,aJ,aI,decide_eq_true_eq,beq_iff_eq,bne_iff_ne,ne_eq,Bool.and_eq_true,Bool.or_eq_true,Bool.not_eq_true',Bool.not_eq_true,decide_eq_false_iff_not,beq_eq_false_iff_ne,bne_eq_false_iff_eq,Int.toNat_add,Int.toNat_natCast,Int.reduceToNat,Int.zero_add,Int.add_zero,Nat.add_zero,Nat.zero_add,Bool.true_and,Bool.and_true,Bool.false_and,Bool.and_false,Bool.true_or,Bool.or_true,Bool.false_or,Bool.or_false,Bool.not_true,Bool.not_false,Bool.false_eq_true,Bool.true_eq_false,reduceCtorEq,not_true_eq_false,not_false_eq_true,if_true,if_false,decide_true,decide_false]; rfl
    ·
     by_cases d4:(s.getD (i + 1) 0).toNat=116
     · simp (disch:=omega) only [bB,bD,bX,bq,bE,if_pos,if_neg,au,aC,aB,aF,aH,aK,aJ,aI,decide_eq_true_eq,beq_iff_eq,bne_iff_ne,ne_eq,Bool.and_eq_true,Bool.or_eq_true,Bool.not_eq_true',Bool.not_eq_true,decide_eq_false_iff_not,beq_eq_false_iff_ne,bne_eq_false_iff_eq,Int.toNat_add,Int.toNat_natCast,Int.reduceToNat,Int.zero_add,Int.add_zero,Nat.add_zero,Nat.zero_add,Bool.true_and,Bool.and_true,Bool.false_and,Bool.and_false,Bool.true_or,Bool.or_true,Bool.false_or,Bool.or_false,Bool.not_true,Bool.not_false,Bool.false_eq_true,Bool.true_eq_false,reduceCtorEq,not_true_eq_false,not_false_eq_true,if_true,if_false,decide_true,decide_false]; rfl
     ·
      by_cases d5:(s.getD (i + 1) 0).toNat=120
      ·
       simp (disch:=omega) only [bB,bD,bX,bq,bE,if_pos,if_neg,au,aC,aB,aF,aH,aK,aJ,aI,decide_eq_true_eq,beq_iff_eq,bne_iff_ne,ne_eq,Bool.and_eq_true,Bool.or_eq_true,Bool.not_eq_true',Bool.not_eq_true,decide_eq_false_iff_not,beq_eq_false_iff_ne,bne_eq_false_iff_eq,Int.toNat_add,Int.toNat_natCast,Int.reduceToNat,Int.zero_add,Int.add_zero,Nat.add_zero,Nat.zero_add,Bool.true_and,Bool.and_true,Bool.false_and,Bool.and_false,Bool.true_or,Bool.or_true,Bool.false_or,Bool.or_false,Bool.not_true,Bool.not_false,Bool.false_eq_true,Bool.true_eq_false,reduceCtorEq,not_true_eq_false,not_false_eq_true,if_true,if_false,decide_true,decide_false]; by_cases h4:i + 2 < s.length
       ·
        rw [show s.drop (i + 1 + 1)=s.getD (i + 2) 0 :: s.drop (i + 3) from getD_drop (by omega)]; by_cases h5:i + 3 < s.length
        ·
         rw [show s.drop (i + 3)=s.getD (i + 3) 0 :: s.drop (i + 4) from getD_drop (by omega)]; simp (disch:=omega) only [UJ,dflt,bB,bD,bX,bq,bE,if_pos,if_neg,au,aC,aB,aF,aH,aK,aJ,aI,decide_eq_true_eq,beq_iff_eq,bne_iff_ne,ne_eq,Bool.and_eq_true,Bool.or_eq_true,Bool.not_eq_true',Bool.not_eq_true,decide_eq_false_iff_not,beq_eq_false_iff_ne,bne_eq_false_iff_eq,Int.toNat_add,Int.toNat_natCast,Int.reduceToNat,Int.zero_add,Int.add_zero,Nat.add_zero,Nat.zero_add,Bool.true_and,Bool.and_true,Bool.false_and,Bool.and_false,Bool.true_or,Bool.or_true,Bool.false_or,Bool.or_false,Bool.not_true,Bool.not_false,Bool.false_eq_true,Bool.true_eq_false,reduceCtorEq,not_true_eq_false,not_false_eq_true,if_true,if_false,decide_true,decide_false]; cases ha:EG (s.getD (i + 2) 0) with
         | none=>simp (disch:=omega) only [Ce ha,bB,bD,bX,bq,bE,if_pos,if_neg,au,aC,aB,aF,aH,aK,aJ,aI,decide_eq_true_eq,beq_iff_eq,bne_iff_ne,ne_eq,Bool.and_eq_true,Bool.or_eq_true,Bool.not_eq_true',Bool.not_eq_true,decide_eq_false_iff_not,beq_eq_false_iff_ne,bne_eq_false_iff_eq,Int.toNat_add,Int.toNat_natCast,Int.reduceToNat,Int.zero_add,Int.add_zero,Nat.add_zero,Nat.zero_add,Bool.true_and,Bool.and_true,Bool.false_and,Bool.and_false,Bool.true_or,Bool.or_true,Bool.false_or,Bool.or_false,Bool.not_true,Bool.not_false,Bool.false_eq_true,Bool.true_eq_false,reduceCtorEq,not_true_eq_false,not_false_eq_true,if_true,if_false,decide_true,decide_false]; rfl
         | some x=>
          have hx:=KT ha; simp (disch:=omega) only [zk ha,bB,bD,bX,bq,bE,if_pos,if_neg,au,aC,aB,aF,aH,aK,aJ,aI,decide_eq_true_eq,beq_iff_eq,bne_iff_ne,ne_eq,Bool.and_eq_true,Bool.or_eq_true,Bool.not_eq_true',Bool.not_eq_true,decide_eq_false_iff_not,beq_eq_false_iff_ne,bne_eq_false_iff_eq,Int.toNat_add,Int.toNat_natCast,Int.reduceToNat,Int.zero_add,Int.add_zero,Nat.add_zero,Nat.zero_add,Bool.true_and,Bool.and_true,Bool.false_and,Bool.and_false,Bool.true_or,Bool.or_true,Bool.false_or,Bool.or_false,Bool.not_true,Bool.not_false,Bool.false_eq_true,Bool.true_eq_false,reduceCtorEq,not_true_eq_false,not_false_eq_true,if_true,if_false,decide_true,decide_false]; cases hb:EG (s.getD (i + 3) 0) with
          | none=>simp (disch:=omega) only [Ce hb,bB,bD,bX,bq,bE,if_pos,if_neg,au,aC,aB,aF,aH,aK,aJ,aI,decide_eq_true_eq,beq_iff_eq,bne_iff_ne,ne_eq,Bool.and_eq_true,Bool.or_eq_true,Bool.not_eq_true',Bool.not_eq_true,decide_eq_false_iff_not,beq_eq_false_iff_ne,bne_eq_false_iff_eq,Int.toNat_add,Int.toNat_natCast,Int.reduceToNat,Int.zero_add,Int.add_zero,Nat.add_zero,Nat.zero_add,Bool.true_and,Bool.and_true,Bool.false_and,Bool.and_false,Bool.true_or,Bool.or_true,Bool.false_or,Bool.or_false,Bool.not_true,Bool.not_false,Bool.false_eq_true,Bool.true_eq_false,reduceCtorEq,not_true_eq_false,not_false_eq_true,if_true,if_false,decide_true,decide_false]; rfl
          | some y=>
           have hy:=KT hb; simp (disch:=omega) only [zk hb,bB,bD,bX,bq,bE,if_pos,if_neg,au,aC,aB,aF,aH,aK,aJ,aI,decide_eq_true_eq,beq_iff_eq,bne_iff_ne,ne_eq,Bool.and_eq_true,Bool.or_eq_true,Bool.not_eq_true',Bool.not_eq_true,decide_eq_false_iff_not,beq_eq_false_iff_ne,bne_eq_false_iff_eq,Int.toNat_add,Int.toNat_natCast,Int.reduceToNat,Int.zero_add,Int.add_zero,Nat.add_zero,Nat.zero_add,Bool.true_and,Bool.and_true,Bool.false_and,Bool.and_false,Bool.true_or,Bool.or_true,Bool.false_or,Bool.or_false,Bool.not_true,Bool.not_false,Bool.false_eq_true,Bool.true_eq_false,reduceCtorEq,not_true_eq_false,not_false_eq_true,if_true,if_false,decide_true,decide_false]
           have:byteOf (16 * (x:Int) + (y:Int))=UInt8.ofNat (16 * x + y):=by
            apply UInt8.toNat_inj.1; have e1:((byteOf (16 * (x:Int) + (y:Int))).toNat:Int)=16 * (x:Int) + (y:Int):=PK (by omega) (by omega); have e2:(UInt8.ofNat (16 * x + y)).toNat=16 * x + y:=by simp; omega
            omega
           rw [this]; rfl
        ·
         rw [List.drop_eq_nil_of_le (by omega:s.length≤i + 3)]; simp (disch:=omega) only [UJ,bB,bD,bX,bq,bE,if_pos,if_neg,au,aC,aB,aF,aH,aK,aJ,aI,decide_eq_true_eq,beq_iff_eq,bne_iff_ne,ne_eq,Bool.and_eq_true,Bool.or_eq_true,Bool.not_eq_true',Bool.not_eq_true,decide_eq_false_iff_not,beq_eq_false_iff_ne,bne_eq_false_iff_eq,Int.toNat_add,Int.toNat_natCast,Int.reduceToNat,Int.zero_add,Int.add_zero,Nat.add_zero,Nat.zero_add,Bool.true_and,Bool.and_true,Bool.false_and,Bool.and_false,Bool.true_or,Bool.or_true,Bool.false_or,Bool.or_false,Bool.not_true,Bool.not_false,Bool.false_eq_true,Bool.true_eq_false,reduceCtorEq,not_true_eq_false,not_false_eq_true,if_true,if_false,decide_true,decide_false]; cases ha:EG (s.getD (i + 2) 0) <;> rfl
       ·
        rw [List.drop_eq_nil_of_le (by omega:s.length≤i + 1 + 1)]; simp (disch:=omega) only [bB,bD,bX,bq,bE,if_pos,if_neg,au,aC,aB,aF,aH,aK,aJ,aI,decide_eq_true_eq,beq_iff_eq,bne_iff_ne,ne_eq,Bool.and_eq_true,Bool.or_eq_true,Bool.not_eq_true',Bool.not_eq_true,decide_eq_false_iff_not,beq_eq_false_iff_ne,bne_eq_false_iff_eq,Int.toNat_add,Int.toNat_natCast,Int.reduceToNat,Int.zero_add,Int.add_zero,Nat.add_zero,Nat.zero_add,Bool.true_and,Bool.and_true,Bool.false_and,Bool.and_false,Bool.true_or,Bool.or_true,Bool.false_or,Bool.or_false,Bool.not_true,Bool.not_false,Bool.false_eq_true,Bool.true_eq_false,reduceCtorEq,not_true_eq_false,not_false_eq_true,if_true,if_false,decide_true,decide_false]; rfl
      · simp (disch:=omega) only [bB,bD,bX,bq,bE,if_pos,if_neg,au,aC,aB,aF,aH,aK,aJ,aI,decide_eq_true_eq,beq_iff_eq,bne_iff_ne,ne_eq,Bool.and_eq_true,Bool.or_eq_true,Bool.not_eq_true',Bool.not_eq_true,decide_eq_false_iff_not,beq_eq_false_iff_ne,bne_eq_false_iff_eq,Int.toNat_add,Int.toNat_natCast,Int.reduceToNat,Int.zero_add,Int.add_zero,Nat.add_zero,Nat.zero_add,Bool.true_and,Bool.and_true,Bool.false_and,Bool.and_false,Bool.true_or,Bool.or_true,Bool.false_or,Bool.or_false,Bool.not_true,Bool.not_false,Bool.false_eq_true,Bool.true_eq_false,reduceCtorEq,not_true_eq_false,not_false_eq_true,if_true,if_false,decide_true,decide_false]; rfl
 ·
  rw [List.drop_eq_nil_of_le (by omega:s.length≤i + 1)]; simp (disch:=omega) only [bB,bD,bX,bq,bE,if_pos,if_neg,au,aC,aB,aF,aH,aK,aJ,aI,decide_eq_true_eq,beq_iff_eq,bne_iff_ne,ne_eq,Bool.and_eq_true,Bool.or_eq_true,Bool.not_eq_true',Bool.not_eq_true,decide_eq_false_iff_not,beq_eq_false_iff_ne,bne_eq_false_iff_eq,Int.toNat_add,Int.toNat_natCast,Int.reduceToNat,Int.zero_add,Int.add_zero,Nat.add_zero,Nat.zero_add,Bool.true_and,Bool.and_true,Bool.false_and,Bool.and_false,Bool.true_or,Bool.or_true,Bool.false_or,Bool.or_false,Bool.not_true,Bool.not_false,Bool.false_eq_true,Bool.true_eq_false,reduceCtorEq,not_true_eq_false,not_false_eq_true,if_true,if_false,decide_true,decide_false]; rfl
theorem WO {s:Str} (hs:s.length < 4611686018427387904) {i:Nat} (hi:i < s.length) (h1:(s.getD i 0).toNat=92) (he:(chr (s.drop i)).2.2≠0):
  xP s (i:Int)=some ((chr (s.drop i)).2.2 == 4):=by
 unfold xP; rw [getD_drop hi] at he ⊢; simp (disch:=omega) only [bB,bD,bX,bq,bE,if_pos,if_neg,au,aC,aB,aF,aH,aK,aJ,aI,decide_eq_true_eq,beq_iff_eq,bne_iff_ne,ne_eq,Bool.and_eq_true,Bool.or_eq_true,Bool.not_eq_true',Bool.not_eq_true,decide_eq_false_iff_not,beq_eq_false_iff_ne,bne_eq_false_iff_eq,Int.toNat_add,Int.toNat_natCast,Int.reduceToNat,Int.zero_add,Int.add_zero,Nat.add_zero,Nat.zero_add,Bool.true_and,Bool.and_true,Bool.false_and,Bool.and_false,Bool.true_or,Bool.or_true,Bool.false_or,Bool.or_false,Bool.not_true,Bool.not_false,Bool.false_eq_true,Bool.true_eq_false,reduceCtorEq,not_true_eq_false,not_false_eq_true,if_true,if_false,decide_true,decide_false]; rw [List.take_length]; generalize s.drop (i + 1)=r at he ⊢; generalize s.getD i 0=c at he h1 ⊢; have ZI:¬ c.toNat < 32:=by omega
 have WX:¬ c.toNat≠92:=by omega
 match r with
 | []=>simp [chr,ZI,WX]
 | [d]=>
  by_cases d5:d=120
  · subst d5; simp [chr,ZI,WX]
  ·
   have:d.toNat≠120:=fun h=>d5 (UInt8.toNat_inj.1 h); simp only [chr,ZI,WX,if_false] at he ⊢; simp [d5]; revert he
   repeat' split
   all_goals simp
 | [d,a]=>
  by_cases d5:d=120
  ·
   subst d5; simp [chr,ZI,WX,idx]; rw [UJ]; cases ha:EG a with
   | none=>simp [Ce ha]
   | some x=>simp [zk ha]
  ·
   have:d.toNat≠120:=fun h=>d5 (UInt8.toNat_inj.1 h); have d5':¬ (d.toNat:Int)=120:=by omega
   simp only [chr,ZI,WX,if_false] at he ⊢; simp [d5,idx,d5']; revert he
   repeat' split
   all_goals simp
 | d :: a :: b :: r=>
  simp only [chr,ZI,WX,if_false] at he ⊢; have hl:¬ ((r.length:Int) + 1 + 1 + 1=2):=by omega
  simp [hl]; revert he
  repeat' split
  all_goals simp
def txt :Nat→Str→Nat→Str→Str × Nat × Int
 | _,_,_,[]=>([],0,4)
 | k + 1,b,n,_ :: r=>txt k b n r
 | 0,b,n,c :: r=>if c.toNat=34 then (if 4096 < b.length then ([],0,3) else (b,n + 1,0)) else
   if (chr (c :: r)).2.2=0 then txt ((chr (c :: r)).2.1 - 1) (b ++ [(chr (c :: r)).1]) (n + (chr (c :: r)).2.1) r else ([],0,(chr (c :: r)).2.2)
theorem RN :∀ (k:Nat) (b:Str) (n:Nat) (r:Str),k≤r.length→txt k b n r=txt 0 b n (r.drop k)
 | 0,b,n,r,_=>by simp
 | k + 1,b,n,[],h=>by simp at h
 | k + 1,b,n,c :: r,h=>by rw [txt,RN k b n r (by simpa using h)]; simp
theorem Lj (b:Str) (n:Nat) (c:UInt8) (r:Str):txt 0 b n (c :: r)=if c.toNat=34 then (if 4096 < b.length then ([],0,3) else (b,n + 1,0)) else
  if (chr (c :: r)).2.2=0 then txt 0 (b ++ [(chr (c :: r)).1]) (n + (chr (c :: r)).2.1) ((c :: r).drop (chr (c :: r)).2.1) else ([],0,(chr (c :: r)).2.2):=by
 rw [txt]; split
 · rfl
 ·
  split
  ·
   rename_i h; obtain ⟨h1,h2⟩:=VN h; rw [RN _ _ _ _ (by simp at h2; omega)]; congr 1; obtain ⟨m,hm⟩:∃ m,(chr (c :: r)).2.1=m + 1:=⟨(chr (c :: r)).2.1 - 1,by omega⟩; rw [hm]; simp
  · rfl
def Uy (a:Nat) (x:Str × Nat × Int):av × Int × Int:=if x.2.2=0 then (⟨3,x.1,a⟩,((a + x.2.1:Nat):Int),0) else (⟨0,[],0⟩,0,x.2.2)
def Wn (x:Str × Nat × Int):av × Int × Int:=if x.2.2=0 then (⟨3,x.1,0⟩,(x.2.1:Int),0) else (⟨0,[],0⟩,0,x.2.2)
theorem aaE {l:Str} (h:(chr l).2.2≠0):(chr l).2.1=0:=by
 revert h; unfold chr
 repeat' split
 all_goals simp
theorem Xl {c:UInt8} {r:Str} (h1:¬ c.toNat < 32) (h2:c.toNat≠92):chr (c :: r)=(c,1,0):=by
 show (if c.toNat < 32 then _ else _)=_; rw [if_neg h1,if_pos h2]
theorem aaD {c:UInt8} {r:Str} (h1:c.toNat < 32):chr (c :: r)=(0,0,5):=by
 show (if c.toNat < 32 then _ else _)=_; rw [if_pos h1]
theorem Mk {s:Str} (hs:s.length≤2147483648) (a:Nat):∀ (k i:Nat) (b:Str),s.length < k + i→i≤s.length→a≤i→b.length≤i→
  oW s (a:Int) k (i:Int) b=some (Uy a (txt 0 b (i - a) (s.drop i)))
 | 0,i,b,h,h',_,_=>by omega
 | k + 1,i,b,h,h',ha,hb=>by
  rw [oW]; by_cases hi:i < s.length
  ·
   rw [getD_drop hi,Lj]; simp (disch:=omega) only [dflt,bB,bD,bX,bq,bE,if_pos,if_neg,au,aC,aB,aF,aH,aK,aJ,aI,decide_eq_true_eq,beq_iff_eq,bne_iff_ne,ne_eq,Bool.and_eq_true,Bool.or_eq_true,Bool.not_eq_true',Bool.not_eq_true,decide_eq_false_iff_not,beq_eq_false_iff_ne,bne_eq_false_iff_eq,Int.toNat_add,Int.toNat_natCast,Int.reduceToNat,Int.zero_add,Int.add_zero,Nat.add_zero,Nat.zero_add,Bool.true_and,Bool.and_true,Bool.false_and,Bool.and_false,Bool.true_or,Bool.or_true,Bool.false_or,Bool.or_false,Bool.not_true,Bool.not_false,Bool.false_eq_true,Bool.true_eq_false,reduceCtorEq,not_true_eq_false,not_false_eq_true,if_true,if_false,decide_true,decide_false]; have hd:=getD_drop hi; by_cases F3:(s.getD i 0).toNat=34
   ·
    simp (disch:=omega) only [bB,bD,bX,bq,bE,if_pos,if_neg,au,aC,aB,aF,aH,aK,aJ,aI,decide_eq_true_eq,beq_iff_eq,bne_iff_ne,ne_eq,Bool.and_eq_true,Bool.or_eq_true,Bool.not_eq_true',Bool.not_eq_true,decide_eq_false_iff_not,beq_eq_false_iff_ne,bne_eq_false_iff_eq,Int.toNat_add,Int.toNat_natCast,Int.reduceToNat,Int.zero_add,Int.add_zero,Nat.add_zero,Nat.zero_add,Bool.true_and,Bool.and_true,Bool.false_and,Bool.and_false,Bool.true_or,Bool.or_true,Bool.false_or,Bool.or_false,Bool.not_true,Bool.not_false,Bool.false_eq_true,Bool.true_eq_false,reduceCtorEq,not_true_eq_false,not_false_eq_true,if_true,if_false,decide_true,decide_false]; by_cases hl:4096 < b.length
    · simp (disch:=omega) only [bB,bD,bX,bq,bE,if_pos,if_neg,au,aC,aB,aF,aH,aK,aJ,aI,decide_eq_true_eq,beq_iff_eq,bne_iff_ne,ne_eq,Bool.and_eq_true,Bool.or_eq_true,Bool.not_eq_true',Bool.not_eq_true,decide_eq_false_iff_not,beq_eq_false_iff_ne,bne_eq_false_iff_eq,Int.toNat_add,Int.toNat_natCast,Int.reduceToNat,Int.zero_add,Int.add_zero,Nat.add_zero,Nat.zero_add,Bool.true_and,Bool.and_true,Bool.false_and,Bool.and_false,Bool.true_or,Bool.or_true,Bool.false_or,Bool.or_false,Bool.not_true,Bool.not_false,Bool.false_eq_true,Bool.true_eq_false,reduceCtorEq,not_true_eq_false,not_false_eq_true,if_true,if_false,decide_true,decide_false]; rfl
    · simp (disch:=omega) only [bB,bD,bX,bq,bE,if_pos,if_neg,au,aC,aB,aF,aH,aK,aJ,aI,decide_eq_true_eq,beq_iff_eq,bne_iff_ne,ne_eq,Bool.and_eq_true,Bool.or_eq_true,Bool.not_eq_true',Bool.not_eq_true,decide_eq_false_iff_not,beq_eq_false_iff_ne,bne_eq_false_iff_eq,Int.toNat_add,Int.toNat_natCast,Int.reduceToNat,Int.zero_add,Int.add_zero,Nat.add_zero,Nat.zero_add,Bool.true_and,Bool.and_true,Bool.false_and,Bool.and_false,Bool.true_or,Bool.or_true,Bool.false_or,Bool.or_false,Bool.not_true,Bool.not_false,Bool.false_eq_true,Bool.true_eq_false,reduceCtorEq,not_true_eq_false,not_false_eq_true,if_true,if_false,decide_true,decide_false]; simp only [Uy,if_true]; congr 4; omega
   ·
    simp (disch:=omega) only [bB,bD,bX,bq,bE,if_pos,if_neg,au,aC,aB,aF,aH,aK,aJ,aI,decide_eq_true_eq,beq_iff_eq,bne_iff_ne,ne_eq,Bool.and_eq_true,Bool.or_eq_true,Bool.not_eq_true',Bool.not_eq_true,decide_eq_false_iff_not,beq_eq_false_iff_ne,bne_eq_false_iff_eq,Int.toNat_add,Int.toNat_natCast,Int.reduceToNat,Int.zero_add,Int.add_zero,Nat.add_zero,Nat.zero_add,Bool.true_and,Bool.and_true,Bool.false_and,Bool.and_false,Bool.true_or,Bool.or_true,Bool.false_or,Bool.or_false,Bool.not_true,Bool.not_false,Bool.false_eq_true,Bool.true_eq_false,reduceCtorEq,not_true_eq_false,not_false_eq_true,if_true,if_false,decide_true,decide_false]; by_cases ZI:(s.getD i 0).toNat=92
    ·
     simp (disch:=omega) only [aar (by omega) hi ZI,bB,bD,bX,bq,bE,if_pos,if_neg,au,aC,aB,aF,aH,aK,aJ,aI,decide_eq_true_eq,beq_iff_eq,bne_iff_ne,ne_eq,Bool.and_eq_true,Bool.or_eq_true,Bool.not_eq_true',Bool.not_eq_true,decide_eq_false_iff_not,beq_eq_false_iff_ne,bne_eq_false_iff_eq,Int.toNat_add,Int.toNat_natCast,Int.reduceToNat,Int.zero_add,Int.add_zero,Nat.add_zero,Nat.zero_add,Bool.true_and,Bool.and_true,Bool.false_and,Bool.and_false,Bool.true_or,Bool.or_true,Bool.false_or,Bool.or_false,Bool.not_true,Bool.not_false,Bool.false_eq_true,Bool.true_eq_false,reduceCtorEq,not_true_eq_false,not_false_eq_true,if_true,if_false,decide_true,decide_false]; rw [hd]; by_cases he:(chr (s.getD i 0 :: s.drop (i + 1))).2.2=0
     ·
      obtain ⟨n1,n2⟩:=VN he; rw [←hd] at n2; rw [List.length_drop] at n2; have happ:app b [(chr (s.getD i 0 :: s.drop (i + 1))).1]=some (b ++ [(chr (s.getD i 0 :: s.drop (i + 1))).1]):=bq (by simp [Gm]; omega); rw [←hd] at n1 he happ ⊢; simp (disch:=omega) only [he,happ,bB,bD,bX,bq,bE,if_pos,if_neg,au,aC,aB,aF,aH,aK,aJ,aI,decide_eq_true_eq,beq_iff_eq,bne_iff_ne,ne_eq,Bool.and_eq_true,Bool.or_eq_true,Bool.not_eq_true',Bool.not_eq_true,decide_eq_false_iff_not,beq_eq_false_iff_ne,bne_eq_false_iff_eq,Int.toNat_add,Int.toNat_natCast,Int.reduceToNat,Int.zero_add,Int.add_zero,Nat.add_zero,Nat.zero_add,Bool.true_and,Bool.and_true,Bool.false_and,Bool.and_false,Bool.true_or,Bool.or_true,Bool.false_or,Bool.or_false,Bool.not_true,Bool.not_false,Bool.false_eq_true,Bool.true_eq_false,reduceCtorEq,not_true_eq_false,not_false_eq_true,if_true,if_false,decide_true,decide_false]; rw [show (i:Int) + ((chr (s.drop i)).2.1:Int)=((i + (chr (s.drop i)).2.1:Nat):Int) from by omega]; rw [Mk hs a k (i + (chr (s.drop i)).2.1) _ (by omega) (by omega) (by omega) (by simp; omega)]; rw [List.drop_drop]; congr 4; omega
     ·
      rw [←hd] at he ⊢; rw [aaE he]; simp (disch:=omega) only [WO (by omega) hi ZI he,bB,bD,bX,bq,bE,if_pos,if_neg,au,aC,aB,aF,aH,aK,aJ,aI,decide_eq_true_eq,beq_iff_eq,bne_iff_ne,ne_eq,Bool.and_eq_true,Bool.or_eq_true,Bool.not_eq_true',Bool.not_eq_true,decide_eq_false_iff_not,beq_eq_false_iff_ne,bne_eq_false_iff_eq,Int.toNat_add,Int.toNat_natCast,Int.reduceToNat,Int.zero_add,Int.add_zero,Nat.add_zero,Nat.zero_add,Bool.true_and,Bool.and_true,Bool.false_and,Bool.and_false,Bool.true_or,Bool.or_true,Bool.false_or,Bool.or_false,Bool.not_true,Bool.not_false,Bool.false_eq_true,Bool.true_eq_false,reduceCtorEq,not_true_eq_false,not_false_eq_true,if_true,if_false,decide_true,decide_false]; by_cases h4:(chr (s.drop i)).2.2=4
      · simp (disch:=omega) only [h4,bB,bD,bX,bq,bE,if_pos,if_neg,au,aC,aB,aF,aH,aK,aJ,aI,decide_eq_true_eq,beq_iff_eq,bne_iff_ne,ne_eq,Bool.and_eq_true,Bool.or_eq_true,Bool.not_eq_true',Bool.not_eq_true,decide_eq_false_iff_not,beq_eq_false_iff_ne,bne_eq_false_iff_eq,Int.toNat_add,Int.toNat_natCast,Int.reduceToNat,Int.zero_add,Int.add_zero,Nat.add_zero,Nat.zero_add,Bool.true_and,Bool.and_true,Bool.false_and,Bool.and_false,Bool.true_or,Bool.or_true,Bool.false_or,Bool.or_false,Bool.not_true,Bool.not_false,Bool.false_eq_true,Bool.true_eq_false,reduceCtorEq,not_true_eq_false,not_false_eq_true,if_true,if_false,decide_true,decide_false]; simp [Uy]
      ·
       simp (disch:=omega) only [h4,bB,bD,bX,bq,bE,if_pos,if_neg,au,aC,aB,aF,aH,aK,aJ,aI,decide_eq_true_eq,beq_iff_eq,bne_iff_ne,ne_eq,Bool.and_eq_true,Bool.or_eq_true,Bool.not_eq_true',Bool.not_eq_true,decide_eq_false_iff_not,beq_eq_false_iff_ne,bne_eq_false_iff_eq,Int.toNat_add,Int.toNat_natCast,Int.reduceToNat,Int.zero_add,Int.add_zero,Nat.add_zero,Nat.zero_add,Bool.true_and,Bool.and_true,Bool.false_and,Bool.and_false,Bool.true_or,Bool.or_true,Bool.false_or,Bool.or_false,Bool.not_true,Bool.not_false,Bool.false_eq_true,Bool.true_eq_false,reduceCtorEq,not_true_eq_false,not_false_eq_true,if_true,if_false,decide_true,decide_false]
       have h5:(chr (s.drop i)).2.2=5:=by
        revert he h4; unfold chr
        repeat' split
        all_goals simp
       simp [Uy,h5]
    ·
     by_cases h32:(s.getD i 0).toNat < 32
     · rw [aaD h32]; simp (disch:=omega) only [bB,bD,bX,bq,bE,if_pos,if_neg,au,aC,aB,aF,aH,aK,aJ,aI,decide_eq_true_eq,beq_iff_eq,bne_iff_ne,ne_eq,Bool.and_eq_true,Bool.or_eq_true,Bool.not_eq_true',Bool.not_eq_true,decide_eq_false_iff_not,beq_eq_false_iff_ne,bne_eq_false_iff_eq,Int.toNat_add,Int.toNat_natCast,Int.reduceToNat,Int.zero_add,Int.add_zero,Nat.add_zero,Nat.zero_add,Bool.true_and,Bool.and_true,Bool.false_and,Bool.and_false,Bool.true_or,Bool.or_true,Bool.false_or,Bool.or_false,Bool.not_true,Bool.not_false,Bool.false_eq_true,Bool.true_eq_false,reduceCtorEq,not_true_eq_false,not_false_eq_true,if_true,if_false,decide_true,decide_false]; rfl
     ·
      rw [Xl h32 ZI]; have happ:app b [s.getD i 0]=some (b ++ [s.getD i 0]):=bq (by simp [Gm]; omega); simp (disch:=omega) only [happ,bB,bD,bX,bq,bE,if_pos,if_neg,au,aC,aB,aF,aH,aK,aJ,aI,decide_eq_true_eq,beq_iff_eq,bne_iff_ne,ne_eq,Bool.and_eq_true,Bool.or_eq_true,Bool.not_eq_true',Bool.not_eq_true,decide_eq_false_iff_not,beq_eq_false_iff_ne,bne_eq_false_iff_eq,Int.toNat_add,Int.toNat_natCast,Int.reduceToNat,Int.zero_add,Int.add_zero,Nat.add_zero,Nat.zero_add,Bool.true_and,Bool.and_true,Bool.false_and,Bool.and_false,Bool.true_or,Bool.or_true,Bool.false_or,Bool.or_false,Bool.not_true,Bool.not_false,Bool.false_eq_true,Bool.true_eq_false,reduceCtorEq,not_true_eq_false,not_false_eq_true,if_true,if_false,decide_true,decide_false]; rw [show (i:Int) + 1=((i + 1:Nat):Int) from rfl,Mk hs a k (i + 1) _ (by omega) (by omega) (by omega) (by simp; omega)]; simp only [List.drop_succ_cons,List.drop_zero]; rw [show i + 1 - a=i - a + 1 from by omega]
  ·
   have e:i=s.length:=by omega
   rw [e]; simp (disch:=omega) only [bB,bD,bX,bq,bE,if_pos,if_neg,au,aC,aB,aF,aH,aK,aJ,aI,decide_eq_true_eq,beq_iff_eq,bne_iff_ne,ne_eq,Bool.and_eq_true,Bool.or_eq_true,Bool.not_eq_true',Bool.not_eq_true,decide_eq_false_iff_not,beq_eq_false_iff_ne,bne_eq_false_iff_eq,Int.toNat_add,Int.toNat_natCast,Int.reduceToNat,Int.zero_add,Int.add_zero,Nat.add_zero,Nat.zero_add,Bool.true_and,Bool.and_true,Bool.false_and,Bool.and_false,Bool.true_or,Bool.or_true,Bool.false_or,Bool.or_false,Bool.not_true,Bool.not_false,Bool.false_eq_true,Bool.true_eq_false,reduceCtorEq,not_true_eq_false,not_false_eq_true,if_true,if_false,decide_true,decide_false]; simp [txt,Uy]
theorem YK {s:Str} (hs:s.length≤2147483648) {a:Nat} (h:a < s.length):zN s (a:Int)=some (Uy a (txt 0 [] 1 (s.drop (a + 1)))):=by
 unfold zN; simp (disch:=omega) only [bB,bD,bX,bq,bE,if_pos,if_neg,au,aC,aB,aF,aH,aK,aJ,aI,decide_eq_true_eq,beq_iff_eq,bne_iff_ne,ne_eq,Bool.and_eq_true,Bool.or_eq_true,Bool.not_eq_true',Bool.not_eq_true,decide_eq_false_iff_not,beq_eq_false_iff_ne,bne_eq_false_iff_eq,Int.toNat_add,Int.toNat_natCast,Int.reduceToNat,Int.zero_add,Int.add_zero,Nat.add_zero,Nat.zero_add,Bool.true_and,Bool.and_true,Bool.false_and,Bool.and_false,Bool.true_or,Bool.or_true,Bool.false_or,Bool.or_false,Bool.not_true,Bool.not_false,Bool.false_eq_true,Bool.true_eq_false,reduceCtorEq,not_true_eq_false,not_false_eq_true,if_true,if_false,decide_true,decide_false]; rw [show (a:Int) + 1=((a + 1:Nat):Int) from rfl,Mk hs a BIG (a + 1) [] (by unfold BIG; omega) (by omega) (by omega) (by simp)]; rw [show a + 1 - a=1 from by omega]
theorem R8 {s:Str} (hs:s.length≤2147483648) (a:Nat):∀ (k i:Nat) (b:Str),s.length < k + i→i≤s.length→a≤i→b.length≤i→
  vo s (a:Int) k b (i:Int)=some (Wn (txt 0 b (i - a) (s.drop i)))
 | 0,i,b,h,h',_,_=>by omega
 | k + 1,i,b,h,h',ha,hb=>by
  rw [vo]; by_cases hi:i < s.length
  ·
   rw [getD_drop hi,Lj]; simp (disch:=omega) only [dflt,bB,bD,bX,bq,bE,if_pos,if_neg,au,aC,aB,aF,aH,aK,aJ,aI,decide_eq_true_eq,beq_iff_eq,bne_iff_ne,ne_eq,Bool.and_eq_true,Bool.or_eq_true,Bool.not_eq_true',Bool.not_eq_true,decide_eq_false_iff_not,beq_eq_false_iff_ne,bne_eq_false_iff_eq,Int.toNat_add,Int.toNat_natCast,Int.reduceToNat,Int.zero_add,Int.add_zero,Nat.add_zero,Nat.zero_add,Bool.true_and,Bool.and_true,Bool.false_and,Bool.and_false,Bool.true_or,Bool.or_true,Bool.false_or,Bool.or_false,Bool.not_true,Bool.not_false,Bool.false_eq_true,Bool.true_eq_false,reduceCtorEq,not_true_eq_false,not_false_eq_true,if_true,if_false,decide_true,decide_false]; have hd:=getD_drop hi; by_cases F3:(s.getD i 0).toNat=34
   ·
    simp (disch:=omega) only [bB,bD,bX,bq,bE,if_pos,if_neg,au,aC,aB,aF,aH,aK,aJ,aI,decide_eq_true_eq,beq_iff_eq,bne_iff_ne,ne_eq,Bool.and_eq_true,Bool.or_eq_true,Bool.not_eq_true',Bool.not_eq_true,decide_eq_false_iff_not,beq_eq_false_iff_ne,bne_eq_false_iff_eq,Int.toNat_add,Int.toNat_natCast,Int.reduceToNat,Int.zero_add,Int.add_zero,Nat.add_zero,Nat.zero_add,Bool.true_and,Bool.and_true,Bool.false_and,Bool.and_false,Bool.true_or,Bool.or_true,Bool.false_or,Bool.or_false,Bool.not_true,Bool.not_false,Bool.false_eq_true,Bool.true_eq_false,reduceCtorEq,not_true_eq_false,not_false_eq_true,if_true,if_false,decide_true,decide_false]; by_cases hl:4096 < b.length
    · simp (disch:=omega) only [bB,bD,bX,bq,bE,if_pos,if_neg,au,aC,aB,aF,aH,aK,aJ,aI,decide_eq_true_eq,beq_iff_eq,bne_iff_ne,ne_eq,Bool.and_eq_true,Bool.or_eq_true,Bool.not_eq_true',Bool.not_eq_true,decide_eq_false_iff_not,beq_eq_false_iff_ne,bne_eq_false_iff_eq,Int.toNat_add,Int.toNat_natCast,Int.reduceToNat,Int.zero_add,Int.add_zero,Nat.add_zero,Nat.zero_add,Bool.true_and,Bool.and_true,Bool.false_and,Bool.and_false,Bool.true_or,Bool.or_true,Bool.false_or,Bool.or_false,Bool.not_true,Bool.not_false,Bool.false_eq_true,Bool.true_eq_false,reduceCtorEq,not_true_eq_false,not_false_eq_true,if_true,if_false,decide_true,decide_false]; rfl
    · simp (disch:=omega) only [bB,bD,bX,bq,bE,if_pos,if_neg,au,aC,aB,aF,aH,aK,aJ,aI,decide_eq_true_eq,beq_iff_eq,bne_iff_ne,ne_eq,Bool.and_eq_true,Bool.or_eq_true,Bool.not_eq_true',Bool.not_eq_true,decide_eq_false_iff_not,beq_eq_false_iff_ne,bne_eq_false_iff_eq,Int.toNat_add,Int.toNat_natCast,Int.reduceToNat,Int.zero_add,Int.add_zero,Nat.add_zero,Nat.zero_add,Bool.true_and,Bool.and_true,Bool.false_and,Bool.and_false,Bool.true_or,Bool.or_true,Bool.false_or,Bool.or_false,Bool.not_true,Bool.not_false,Bool.false_eq_true,Bool.true_eq_false,reduceCtorEq,not_true_eq_false,not_false_eq_true,if_true,if_false,decide_true,decide_false]; simp only [Wn,if_true]; congr 3; omega
   ·
    simp (disch:=omega) only [aah (by omega) hi,bB,bD,bX,bq,bE,if_pos,if_neg,au,aC,aB,aF,aH,aK,aJ,aI,decide_eq_true_eq,beq_iff_eq,bne_iff_ne,ne_eq,Bool.and_eq_true,Bool.or_eq_true,Bool.not_eq_true',Bool.not_eq_true,decide_eq_false_iff_not,beq_eq_false_iff_ne,bne_eq_false_iff_eq,Int.toNat_add,Int.toNat_natCast,Int.reduceToNat,Int.zero_add,Int.add_zero,Nat.add_zero,Nat.zero_add,Bool.true_and,Bool.and_true,Bool.false_and,Bool.and_false,Bool.true_or,Bool.or_true,Bool.false_or,Bool.or_false,Bool.not_true,Bool.not_false,Bool.false_eq_true,Bool.true_eq_false,reduceCtorEq,not_true_eq_false,not_false_eq_true,if_true,if_false,decide_true,decide_false]; rw [←hd]; by_cases he:(chr (s.drop i)).2.2=0
    ·
     obtain ⟨n1,n2⟩:=VN he; rw [List.length_drop] at n2; have happ:app b [(chr (s.drop i)).1]=some (b ++ [(chr (s.drop i)).1]):=bq (by simp [Gm]; omega); simp (disch:=omega) only [he,happ,bB,bD,bX,bq,bE,if_pos,if_neg,au,aC,aB,aF,aH,aK,aJ,aI,decide_eq_true_eq,beq_iff_eq,bne_iff_ne,ne_eq,Bool.and_eq_true,Bool.or_eq_true,Bool.not_eq_true',Bool.not_eq_true,decide_eq_false_iff_not,beq_eq_false_iff_ne,bne_eq_false_iff_eq,Int.toNat_add,Int.toNat_natCast,Int.reduceToNat,Int.zero_add,Int.add_zero,Nat.add_zero,Nat.zero_add,Bool.true_and,Bool.and_true,Bool.false_and,Bool.and_false,Bool.true_or,Bool.or_true,Bool.false_or,Bool.or_false,Bool.not_true,Bool.not_false,Bool.false_eq_true,Bool.true_eq_false,reduceCtorEq,not_true_eq_false,not_false_eq_true,if_true,if_false,decide_true,decide_false]; rw [show (i:Int) + ((chr (s.drop i)).2.1:Int)=((i + (chr (s.drop i)).2.1:Nat):Int) from by omega]; rw [R8 hs a k (i + (chr (s.drop i)).2.1) _ (by omega) (by omega) (by omega) (by simp; omega)]; rw [List.drop_drop]; congr 4; omega
    ·
     simp (disch:=omega) only [he,bB,bD,bX,bq,bE,if_pos,if_neg,au,aC,aB,aF,aH,aK,aJ,aI,decide_eq_true_eq,beq_iff_eq,bne_iff_ne,ne_eq,Bool.and_eq_true,Bool.or_eq_true,Bool.not_eq_true',Bool.not_eq_true,decide_eq_false_iff_not,beq_eq_false_iff_ne,bne_eq_false_iff_eq,Int.toNat_add,Int.toNat_natCast,Int.reduceToNat,Int.zero_add,Int.add_zero,Nat.add_zero,Nat.zero_add,Bool.true_and,Bool.and_true,Bool.false_and,Bool.and_false,Bool.true_or,Bool.or_true,Bool.false_or,Bool.or_false,Bool.not_true,Bool.not_false,Bool.false_eq_true,Bool.true_eq_false,reduceCtorEq,not_true_eq_false,not_false_eq_true,if_true,if_false,decide_true,decide_false]; simp [Wn,he]
  ·
   have e:i=s.length:=by omega
   rw [e]; simp (disch:=omega) only [bB,bD,bX,bq,bE,if_pos,if_neg,au,aC,aB,aF,aH,aK,aJ,aI,decide_eq_true_eq,beq_iff_eq,bne_iff_ne,ne_eq,Bool.and_eq_true,Bool.or_eq_true,Bool.not_eq_true',Bool.not_eq_true,decide_eq_false_iff_not,beq_eq_false_iff_ne,bne_eq_false_iff_eq,Int.toNat_add,Int.toNat_natCast,Int.reduceToNat,Int.zero_add,Int.add_zero,Nat.add_zero,Nat.zero_add,Bool.true_and,Bool.and_true,Bool.false_and,Bool.and_false,Bool.true_or,Bool.or_true,Bool.false_or,Bool.or_false,Bool.not_true,Bool.not_false,Bool.false_eq_true,Bool.true_eq_false,reduceCtorEq,not_true_eq_false,not_false_eq_true,if_true,if_false,decide_true,decide_false]; simp [txt,Wn]
theorem X_ {s:Str} (hs:s.length≤2147483648) {a:Nat} (h:a < s.length):Eo s (a:Int)=some (Wn (txt 0 [] 1 (s.drop (a + 1)))):=by
 unfold Eo; simp (disch:=omega) only [bB,bD,bX,bq,bE,if_pos,if_neg,au,aC,aB,aF,aH,aK,aJ,aI,decide_eq_true_eq,beq_iff_eq,bne_iff_ne,ne_eq,Bool.and_eq_true,Bool.or_eq_true,Bool.not_eq_true',Bool.not_eq_true,decide_eq_false_iff_not,beq_eq_false_iff_ne,bne_eq_false_iff_eq,Int.toNat_add,Int.toNat_natCast,Int.reduceToNat,Int.zero_add,Int.add_zero,Nat.add_zero,Nat.zero_add,Bool.true_and,Bool.and_true,Bool.false_and,Bool.and_false,Bool.true_or,Bool.or_true,Bool.false_or,Bool.or_false,Bool.not_true,Bool.not_false,Bool.false_eq_true,Bool.true_eq_false,reduceCtorEq,not_true_eq_false,not_false_eq_true,if_true,if_false,decide_true,decide_false]; rw [show (a:Int) + 1=((a + 1:Nat):Int) from rfl,R8 hs a BIG (a + 1) [] (by unfold BIG; omega) (by omega) (by omega) (by simp)]; rw [show a + 1 - a=1 from by omega]
def val (l:Str):Nat:=l.foldl (fun n c=>10 * n + (c.toNat - 48)) 0
def Bt :Nat:=9007199254740992
theorem XR (l:Str):∀ n:Nat,n≤l.foldl (fun n (c:UInt8)=>10 * n + (c.toNat - 48)) n:=by
 induction l with
 | nil=>intro n; simp
 | cons c l ih=>intro n; simp only [List.foldl_cons]; exact Nat.le_trans (by omega) (ih _)
theorem SF {s:Str} (hs:s.length≤2147483648) (hd:∀ c∈s,isDigit c=true):∀ (k i n:Nat),s.length < k + i→i≤s.length→n≤10 * Bt + 9→
  pJ s k (n:Int) (i:Int)=some (decide (Bt < (s.drop i).foldl (fun n (c:UInt8)=>10 * n + (c.toNat - 48)) n))
 | 0,i,n,h,h',_=>by omega
 | k + 1,i,n,h,h',hn=>by
  unfold Bt at hn; rw [pJ]; by_cases hi:i < s.length
  ·
   have hdi:=hd s[i] (List.getElem_mem hi); rw [oH] at hdi; have e:=getD_drop hi; have e0:s.getD i 0=s[i]:=by rw [List.getD_eq_getElem?_getD,List.getElem?_eq_getElem hi,Option.getD_some]
   by_cases hm:n≤9007199254740992
   ·
    simp (disch:=omega) only [dflt,bB,bD,bX,bq,bE,if_pos,if_neg,au,aC,aB,aF,aH,aK,aJ,aI,decide_eq_true_eq,beq_iff_eq,bne_iff_ne,ne_eq,Bool.and_eq_true,Bool.or_eq_true,Bool.not_eq_true',Bool.not_eq_true,decide_eq_false_iff_not,beq_eq_false_iff_ne,bne_eq_false_iff_eq,Int.toNat_add,Int.toNat_natCast,Int.reduceToNat,Int.zero_add,Int.add_zero,Nat.add_zero,Nat.zero_add,Bool.true_and,Bool.and_true,Bool.false_and,Bool.and_false,Bool.true_or,Bool.or_true,Bool.false_or,Bool.or_false,Bool.not_true,Bool.not_false,Bool.false_eq_true,Bool.true_eq_false,reduceCtorEq,not_true_eq_false,not_false_eq_true,if_true,if_false,decide_true,decide_false]; rw [e,e0,KO (by simpa using hdi.1)]; have h48:(48:UInt8).toNat=48:=rfl; rw [h48]; simp (disch:=omega) only [bB,bD,bX,bq,bE,if_pos,if_neg,au,aC,aB,aF,aH,aK,aJ,aI,decide_eq_true_eq,beq_iff_eq,bne_iff_ne,ne_eq,Bool.and_eq_true,Bool.or_eq_true,Bool.not_eq_true',Bool.not_eq_true,decide_eq_false_iff_not,beq_eq_false_iff_ne,bne_eq_false_iff_eq,Int.toNat_add,Int.toNat_natCast,Int.reduceToNat,Int.zero_add,Int.add_zero,Nat.add_zero,Nat.zero_add,Bool.true_and,Bool.and_true,Bool.false_and,Bool.and_false,Bool.true_or,Bool.or_true,Bool.false_or,Bool.or_false,Bool.not_true,Bool.not_false,Bool.false_eq_true,Bool.true_eq_false,reduceCtorEq,not_true_eq_false,not_false_eq_true,if_true,if_false,decide_true,decide_false]; rw [show 10 * (n:Int) + ((s[i].toNat - 48:Nat):Int)=((10 * n + (s[i].toNat - 48):Nat):Int) from by omega,show (i:Int) + 1=((i + 1:Nat):Int) from rfl]; rw [SF hs hd k (i + 1) _ (by omega) (by omega) (by unfold Bt; omega)]
    rw [List.foldl_cons]
   ·
    simp (disch:=omega) only [bB,bD,bX,bq,bE,if_pos,if_neg,au,aC,aB,aF,aH,aK,aJ,aI,decide_eq_true_eq,beq_iff_eq,bne_iff_ne,ne_eq,Bool.and_eq_true,Bool.or_eq_true,Bool.not_eq_true',Bool.not_eq_true,decide_eq_false_iff_not,beq_eq_false_iff_ne,bne_eq_false_iff_eq,Int.toNat_add,Int.toNat_natCast,Int.reduceToNat,Int.zero_add,Int.add_zero,Nat.add_zero,Nat.zero_add,Bool.true_and,Bool.and_true,Bool.false_and,Bool.and_false,Bool.true_or,Bool.or_true,Bool.false_or,Bool.or_false,Bool.not_true,Bool.not_false,Bool.false_eq_true,Bool.true_eq_false,reduceCtorEq,not_true_eq_false,not_false_eq_true,if_true,if_false,decide_true,decide_false]; have:=XR (s.drop i) n; have h2:Bt < (s.drop i).foldl (fun n (c:UInt8)=>10 * n + (c.toNat - 48)) n:=by unfold Bt; omega
    simp [h2]; omega
  ·
   have e:i=s.length:=by omega
   rw [e]; simp (disch:=omega) only [bB,bD,bX,bq,bE,if_pos,if_neg,au,aC,aB,aF,aH,aK,aJ,aI,decide_eq_true_eq,beq_iff_eq,bne_iff_ne,ne_eq,Bool.and_eq_true,Bool.or_eq_true,Bool.not_eq_true',Bool.not_eq_true,decide_eq_false_iff_not,beq_eq_false_iff_ne,bne_eq_false_iff_eq,Int.toNat_add,Int.toNat_natCast,Int.reduceToNat,Int.zero_add,Int.add_zero,Nat.add_zero,Nat.zero_add,Bool.true_and,Bool.and_true,Bool.false_and,Bool.and_false,Bool.true_or,Bool.or_true,Bool.false_or,Bool.or_false,Bool.not_true,Bool.not_false,Bool.false_eq_true,Bool.true_eq_false,reduceCtorEq,not_true_eq_false,not_false_eq_true,if_true,if_false,decide_true,decide_false]; simp [Bt]; omega
theorem YM {s:Str} (hs:s.length≤2147483648) (hd:∀ c∈s,isDigit c=true):Ay s=some (decide (Bt < val s)):=by
 have:=SF hs hd BIG 0 0 (by unfold BIG; omega) (by omega) (by omega); rw [List.drop_zero] at this; exact this
theorem Xc (l:Str):∀ n:Nat,n * 10 ^ l.length≤l.foldl (fun n (c:UInt8)=>10 * n + (c.toNat - 48)) n:=by
 induction l with
 | nil=>intro n; simp
 | cons c l ih=>
  intro n; simp only [List.foldl_cons,List.length_cons]; refine Nat.le_trans ?_ (ih _); rw [Nat.pow_succ,←Nat.mul_assoc,Nat.mul_right_comm]; exact Nat.mul_le_mul_right _ (by omega)
theorem XQ {c:UInt8} {l:Str} (hc:isDigit c=true) (h0:c.toNat≠48) (hl:16≤l.length):Bt < val (c :: l):=by
 rw [oH] at hc; have h1:=Xc l (c.toNat - 48); have h2:10 ^ 16≤10 ^ l.length:=Nat.pow_le_pow_right (by omega) hl; have h3:10 ^ l.length≤(c.toNat - 48) * 10 ^ l.length:=Nat.le_mul_of_pos_left _ (by omega); have h4:val (c :: l)=l.foldl (fun n (c:UInt8)=>10 * n + (c.toNat - 48)) (c.toNat - 48):=by simp [val]
 rw [h4]; have h5:Bt < 10 ^ 16:=by decide
 omega
theorem Vq {s:Str} (hs:s.length≤16) (hd:∀ c∈s,isDigit c=true):∀ (k i n:Nat),s.length < k + i→i≤s.length→n < 10 ^ i→
  rV s k (n:Int) (i:Int)=some ((((s.drop i).foldl (fun n (c:UInt8)=>10 * n + (c.toNat - 48)) n:Nat):Int),decide ((s.drop i).foldl (fun n (c:UInt8)=>10 * n + (c.toNat - 48)) n≤Bt))
 | 0,i,n,h,h',_=>by omega
 | k + 1,i,n,h,h',hn=>by
  have h16:10 ^ i≤10 ^ 16:=Nat.pow_le_pow_right (by omega) (by omega); have hp:10 ^ 16=10000000000000000:=by decide
  rw [rV]; by_cases hi:i < s.length
  ·
   have hdi:=hd s[i] (List.getElem_mem hi); have hdj:=hdi; rw [oH] at hdj; have e:=getD_drop hi; have e0:s.getD i 0=s[i]:=by rw [List.getD_eq_getElem?_getD,List.getElem?_eq_getElem hi,Option.getD_some]
   rw [e,e0]; simp (disch:=omega) only [dflt,e0,BF,hdi,bB,bD,bX,bq,bE,if_pos,if_neg,au,aC,aB,aF,aH,aK,aJ,aI,decide_eq_true_eq,beq_iff_eq,bne_iff_ne,ne_eq,Bool.and_eq_true,Bool.or_eq_true,Bool.not_eq_true',Bool.not_eq_true,decide_eq_false_iff_not,beq_eq_false_iff_ne,bne_eq_false_iff_eq,Int.toNat_add,Int.toNat_natCast,Int.reduceToNat,Int.zero_add,Int.add_zero,Nat.add_zero,Nat.zero_add,Bool.true_and,Bool.and_true,Bool.false_and,Bool.and_false,Bool.true_or,Bool.or_true,Bool.false_or,Bool.or_false,Bool.not_true,Bool.not_false,Bool.false_eq_true,Bool.true_eq_false,reduceCtorEq,not_true_eq_false,not_false_eq_true,if_true,if_false,decide_true,decide_false]; rw [show 10 * (n:Int) + (s[i].toNat:Int) - 48=((10 * n + (s[i].toNat - 48):Nat):Int) from by omega,show (i:Int) + 1=((i + 1:Nat):Int) from rfl]; rw [Vq hs hd k (i + 1) _ (by omega) (by omega) (by rw [Nat.pow_succ]; omega)]; rw [List.foldl_cons]
  ·
   have e:i=s.length:=by omega
   rw [e]; simp (disch:=omega) only [bB,bD,bX,bq,bE,if_pos,if_neg,au,aC,aB,aF,aH,aK,aJ,aI,decide_eq_true_eq,beq_iff_eq,bne_iff_ne,ne_eq,Bool.and_eq_true,Bool.or_eq_true,Bool.not_eq_true',Bool.not_eq_true,decide_eq_false_iff_not,beq_eq_false_iff_ne,bne_eq_false_iff_eq,Int.toNat_add,Int.toNat_natCast,Int.reduceToNat,Int.zero_add,Int.add_zero,Nat.add_zero,Nat.zero_add,Bool.true_and,Bool.and_true,Bool.false_and,Bool.and_false,Bool.true_or,Bool.or_true,Bool.false_or,Bool.or_false,Bool.not_true,Bool.not_false,Bool.false_eq_true,Bool.true_eq_false,reduceCtorEq,not_true_eq_false,not_false_eq_true,if_true,if_false,decide_true,decide_false]; simp [Bt]; omega
theorem aaj {s:Str} (hd:∀ c∈s,isDigit c=true) (hne:s≠[]):wZ s=if 16 < s.length∨(1 < s.length∧(s.getD 0 0).toNat=48) then some (0,false) else some ((val s:Int),decide (val s≤Bt)):=by
 unfold wZ; have hb:(s == ([]:Str))=false:=by simpa using hne
 by_cases h1:16 < s.length
 ·
  have:decide ((16:Int) < (s.length:Int))=true:=by simp; omega
  rw [if_pos (show 16 < s.length∨(1 < s.length∧(s.getD 0 0).toNat=48) from .inl h1),hb,this]; rfl
 ·
  have h1':decide ((16:Int) < (s.length:Int))=false:=by simp; omega
  have hz:=Vq (s:=s) (by omega) hd BIG 0 0 (by unfold BIG; omega) (by omega) (by simp); by_cases h2:1 < s.length
  ·
   by_cases h3:(s.getD 0 0).toNat=48
   ·
    rw [if_pos (show 16 < s.length∨(1 < s.length∧(s.getD 0 0).toNat=48) from .inr ⟨h2,h3⟩),hb,h1']; simp (disch:=omega) only [dflt,bB,bD,bX,bq,bE,if_pos,if_neg,au,aC,aB,aF,aH,aK,aJ,aI,decide_eq_true_eq,beq_iff_eq,bne_iff_ne,ne_eq,Bool.and_eq_true,Bool.or_eq_true,Bool.not_eq_true',Bool.not_eq_true,decide_eq_false_iff_not,beq_eq_false_iff_ne,bne_eq_false_iff_eq,Int.toNat_add,Int.toNat_natCast,Int.reduceToNat,Int.zero_add,Int.add_zero,Nat.add_zero,Nat.zero_add,Bool.true_and,Bool.and_true,Bool.false_and,Bool.and_false,Bool.true_or,Bool.or_true,Bool.false_or,Bool.or_false,Bool.not_true,Bool.not_false,Bool.false_eq_true,Bool.true_eq_false,reduceCtorEq,not_true_eq_false,not_false_eq_true,if_true,if_false,decide_true,decide_false]
   ·
    rw [if_neg (show ¬ (16 < s.length∨(1 < s.length∧(s.getD 0 0).toNat=48)) from by omega),hb,h1']; simp (disch:=omega) only [dflt,bB,bD,bX,bq,bE,if_pos,if_neg,au,aC,aB,aF,aH,aK,aJ,aI,decide_eq_true_eq,beq_iff_eq,bne_iff_ne,ne_eq,Bool.and_eq_true,Bool.or_eq_true,Bool.not_eq_true',Bool.not_eq_true,decide_eq_false_iff_not,beq_eq_false_iff_ne,bne_eq_false_iff_eq,Int.toNat_add,Int.toNat_natCast,Int.reduceToNat,Int.zero_add,Int.add_zero,Nat.add_zero,Nat.zero_add,Bool.true_and,Bool.and_true,Bool.false_and,Bool.and_false,Bool.true_or,Bool.or_true,Bool.false_or,Bool.or_false,Bool.not_true,Bool.not_false,Bool.false_eq_true,Bool.true_eq_false,reduceCtorEq,not_true_eq_false,not_false_eq_true,if_true,if_false,decide_true,decide_false]; exact hz
  ·
   rw [if_neg (show ¬ (16 < s.length∨(1 < s.length∧(s.getD 0 0).toNat=48)) from by omega),hb,h1']; simp (disch:=omega) only [bB,bD,bX,bq,bE,if_pos,if_neg,au,aC,aB,aF,aH,aK,aJ,aI,decide_eq_true_eq,beq_iff_eq,bne_iff_ne,ne_eq,Bool.and_eq_true,Bool.or_eq_true,Bool.not_eq_true',Bool.not_eq_true,decide_eq_false_iff_not,beq_eq_false_iff_ne,bne_eq_false_iff_eq,Int.toNat_add,Int.toNat_natCast,Int.reduceToNat,Int.zero_add,Int.add_zero,Nat.add_zero,Nat.zero_add,Bool.true_and,Bool.and_true,Bool.false_and,Bool.and_false,Bool.true_or,Bool.or_true,Bool.false_or,Bool.or_false,Bool.not_true,Bool.not_false,Bool.false_eq_true,Bool.true_eq_false,reduceCtorEq,not_true_eq_false,not_false_eq_true,if_true,if_false,decide_true,decide_false]; exact hz
end Go.Ft
namespace Go.Ft
open Go
def Ad (s:Str):Bool:=((s == ([124,124]:Str)) || ((s == ([38,38]:Str)) || ((s == ([61,61]:Str)) || ((s == ([33,61]:Str)) || ((s == ([60,61]:Str)) || ((s == ([62,61]:Str)) || ((s == ([60]:Str)) || ((s == ([62]:Str)) || ((s == ([43]:Str)) || ((s == ([45]:Str)) || ((s == ([42]:Str)) || ((s == ([47]:Str)) || ((s == ([37]:Str)) || ((s == ([33]:Str)) || ((s == ([63]:Str)) || ((s == ([58]:Str)) || ((s == ([46]:Str)) || ((s == ([44]:Str)) || ((s == ([61]:Str)) || ((s == ([40]:Str)) || ((s == ([41]:Str)) || ((s == ([91]:Str)) || ((s == ([93]:Str)) || ((s == ([123]:Str)) || (s == ([125]:Str))))))))))))))))))))))))))
theorem Ut {α:Type} (p q:Bool) (x y:α):(if (p || q)=true then x else y)=if p=true then x else if q=true then x else y:=by cases p <;> simp
theorem Ml (s:Str) (a:Int) (k:Nat) (x:Int):jk s a (k + 1) x=if decide (x < (([2,1]:List Int).length:Int)) then
   ay (idx ([2,1]:List Int) x) fun n1=>
   if decide ((s.length:Int) < (bV (a + n1))) then jk s a k (bV (x + 1))
   else ay (sl s a (bV (a + n1))) fun s1=>if Ad s1 then some ((av.mk 4 s1 a),(bV (a + n1)),0) else jk s a k (bV (x + 1))
  else some ((av.mk 0 ([]:Str) 0),0,5):=by
 have key:∀ (s1:Str) (x y:Option (av × Int × Int)),(if Ad s1=true then x else y)=_:=fun s1 x y=>by unfold Ad; simp only [Ut]; rfl
 rw [jk]; congr 1; congr 1; funext n1; congr 1; congr 1; funext s1; exact (key s1 _ _).symm
attribute [local congr] jQ
def opn :Str→Nat
 | a :: b :: _=>if Ad [a,b] then 2 else if Ad [a] then 1 else 0
 | [a]=>if Ad [a] then 1 else 0
 | []=>0
theorem Lm {s:Str} {i:Nat} (h:i + 1 < s.length):(s.take (i + 2)).drop i=[s.getD i 0,s.getD (i + 1) 0]:=by
 rw [List.drop_take,getD_drop (by omega),getD_drop h]; rw [show i + 2 - i=2 from by omega]; rfl
theorem Lp {s:Str} {i:Nat} (h:i < s.length):(s.take (i + 1)).drop i=[s.getD i 0]:=by
 rw [List.drop_take,getD_drop h]; rw [show i + 1 - i=1 from by omega]; rfl
end Go.Ft
