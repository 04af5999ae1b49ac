/- Proved here: plain facts on the functional texts. -/
import Derived.Test.YtdhmchjccpmppaaGreatDoorEvFt
import Derived.Test.YtdhmchjccpmppaaGreatDoorEvPre
set_option linter.unusedVariables false
set_option linter.unusedSimpArgs false
set_option linter.unusedSectionVars false
set_option maxHeartbeats 2000000
namespace Go.Ft
open Go
attribute [local congr] jE
theorem GL {α:Type} {f:α→Nat} {l:List α} {x:α} (h:x∈l):f x≤(l.map f).sum:=by
 induction l with
 | nil=>cases h
 | cons y l ih=>
  simp only [List.map_cons,List.sum_cons]
  rcases List.mem_cons.1 h with rfl | h
  · omega
  · have:=ih h; omega
theorem Mj {α:Type} {f:α→Nat} {l:List α} (h:∀ x,1≤f x):l.length≤(l.map f).sum:=by
 induction l with
 | nil=>simp
 | cons y l ih=>simp only [List.map_cons,List.sum_cons,List.length_cons]; have:=h y; omega
theorem ah.gF (v:ah):1≤v.bulk:=by rw [ah.iC]; omega
theorem aj.gF (v:aj):1≤v.bulk:=by rw [aj.iC]; omega
theorem b_.gF (v:b_):1≤v.bulk:=by rw [b_.iC]; omega
theorem uX (v:ah):v.aI.length < v.bulk:=by rw [ah.iC,ah.iN]; have:=Mj (l:=v.aI) ah.gF; omega
theorem iH {v x:ah} (h:x∈v.aI):x.bulk < v.bulk:=by rw [ah.iC v,ah.iN]; have:=GL (f:=ah.bulk) h; omega
theorem uY (v:ah):v.keys.length < v.bulk:=by rw [ah.iC]; have:=Mj (l:=v.keys) (f:=fun z:Str=>z.length + 1) (fun x=>by omega); omega
theorem JQ {v:ah} {x:Str} (h:x∈v.keys):x.length < v.bulk:=by rw [ah.iC v]; have:=GL (f:=fun z:Str=>z.length + 1) h; omega
theorem Am (e:aj):e.args.length < e.bulk:=by rw [aj.iC,aj.iN]; have:=Mj (l:=e.args) aj.gF; omega
theorem fF {e x:aj} (h:x∈e.args):x.bulk < e.bulk:=by rw [aj.iC e,aj.iN]; have:=GL (f:=aj.bulk) h; omega
theorem xS (v:aj):v.keys.length < v.bulk:=by rw [aj.iC]; have:=Mj (l:=v.keys) (f:=fun z:Str=>z.length + 1) (fun x=>by omega); omega
theorem UU (v:aj):v.name.length < v.bulk:=by rw [aj.iC]; omega
theorem xP (v:aj):v.value.bulk < v.bulk:=by rw [aj.iC]; omega
mutual
def ecnt :aj→Nat
 | ⟨_,_,_,args,_⟩=>1 + vR args
def vR :List aj→Nat
 | []=>0
 | x :: r=>ecnt x + vR r
end
theorem tL (e:aj):ecnt e=1 + vR e.args:=by cases e; rfl
theorem YI :∀ (l:List aj) (n:Nat),(∀ x∈l,ecnt x≤x.bulk)→vR l≤(l.map aj.bulk).sum
 | [],_,_=>by simp [vR]
 | x :: r,n,h=>by
  simp only [vR,List.map_cons,List.sum_cons]
  have:=h x (by simp)
  have:=YI r n fun y hy=>h y (by simp [hy])
  omega
theorem Ba :∀ (n:Nat) (e:aj),e.bulk≤n→ecnt e≤e.bulk
 | 0,e,h=>by have:=e.gF; omega
 | n + 1,e,h=>by
  rw [tL,aj.iC,aj.iN]
  have:=YI e.args n fun x hx=>Ba n x (by have:=fF hx; omega)
  omega
theorem aai {go:aj→Option Int}:∀ (l:List aj) (i s:Nat),(∀ x∈l,go x=some (ecnt x:Int))→s + vR l < 4611686018427387904→
  dQ (fun _ e2 (n1:Int) r=>au (go e2) fun x2=>r (bS (n1 + x2))) (fun n1=>some n1) i l (s:Int)=some ((s + vR l:Nat):Int)
 | [],i,s,_,_=>by simp [dQ,vR]
 | x :: r,i,s,h,hs=>by
  simp only [vR] at hs ⊢
  rw [dQ,h x (by simp)]
  simp only [ay]
  have:bS ((s:Int) + (ecnt x:Int))=((s + ecnt x:Nat):Int):=by rw [qG (by omega)]; omega
  rw [this,aai r (i + 1) (s + ecnt x) (fun y hy=>h y (by simp [hy])) (by omega)]
  simp only [Option.some.injEq,Int.natCast_inj]; omega
theorem WI :∀ (n:Nat) (e:aj),e.bulk≤n→e.bulk < 4611686018427387904→lJ (n + 1) e=some (ecnt e:Int)∧pU (n + 1) e=some (ecnt e:Int)
 | 0,e,h,_=>by have:=e.gF; omega
 | n + 1,e,h,hB=>by
  have hl:=Am e
  have hle:=Ba _ e (Nat.le_refl _)
  rw [tL] at hle
  constructor
  ·
   unfold lJ yP
   have:=dP (F:=fun k s i=>su (lJ (n + 1)) e k s i) (l:=e.args) (body:=fun _ e2 (n1:Int) r=>au (lJ (n + 1) e2) fun x2=>r (bS (n1 + x2))) (fin:=fun n1=>some n1) (by omega) (fun k s i=>rfl) 1
   rw [this,show (1:Int)=((1:Nat):Int) from rfl,aai e.args 0 1 (fun x hx=>(WI n x (by have:=fF hx; omega) (by have:=fF hx; omega)).1) (by omega),tL]
  ·
   unfold pU Ep
   have:=dP (F:=fun k s i=>yH (pU (n + 1)) e k s i) (l:=e.args) (body:=fun _ e2 (n1:Int) r=>au (pU (n + 1) e2) fun x2=>r (bS (n1 + x2))) (fin:=fun n1=>some n1) (by omega) (fun k s i=>rfl) 1
   rw [this,show (1:Int)=((1:Nat):Int) from rfl,aai e.args 0 1 (fun x hx=>(WI n x (by have:=fF hx; omega) (by have:=fF hx; omega)).2) (by omega),tL]
theorem ru :∃ n,BIG=n + 1∧9223372036854775807≤n:=⟨BIG - 1,by decide,by decide⟩
theorem count_eq {e:aj} (h:e.bulk < 4611686018427387904):Co e=some (ecnt e:Int)∧FQ e=some (ecnt e:Int):=by
 obtain ⟨n,hn,hn2⟩:=ru
 unfold Co FQ
 rw [hn]
 exact WI n e (by omega) h
def isName (s:Str):Bool:=decide (1≤s.length) && decide (s.length≤64) && (match s with | c :: _=>isLet c | []=>false) && s.all fun c=>isLet c || dW c
def nY (s:Str):Bool:=isName s && !((s == ([116,114,117,101]:Str)) || (s == ([102,97,108,115,101]:Str)) || (s == ([110,117,108,108]:Str)))
theorem ajH (s:Str) (hs:s.length < 4611686018427387904):qN s BIG 0=some (s.all fun c=>isLet c || dW c):=by
 have:=dP (F:=fun k (_:Unit) i=>qN s k i) (l:=s) (body:=fun (i:Nat) x3 _ r=>au (if !(isLet x3) then au (idx s (i:Int)) fun x5=>some (!(dW x5)) else some false) fun b2=>if b2 then some false else r ()) (fin:=fun _=>some true) hs (fun k s i=>rfl) ()
 rw [this]
 have key:∀ (t:Str) (i:Nat),t=s.drop i→dQ (fun (i:Nat) x3 (_:Unit) r=>au (if !(isLet x3) then au (idx s (i:Int)) fun x5=>some (!(dW x5)) else some false) fun b2=>if b2 then some false else r ()) (fun _=>some true) i t ()=some (t.all fun c=>isLet c || dW c):=by
  intro t
  induction t with
  | nil=>intro i _; rfl
  | cons c t ih=>
   intro i ht
   have hi:i < s.length:=by
    rcases Nat.lt_or_ge i s.length with h | h
    · exact h
    · rw [List.drop_eq_nil_of_le h] at ht; cases ht
   have hc:=List.drop_eq_getElem_cons hi
   rw [←ht] at hc
   have e1:c=s[i]:=(List.cons.inj hc).1
   have e2:=(List.cons.inj hc).2
   rw [dQ,rA hi,←e1]
   simp only [ay]
   rw [ih (i + 1) e2]
   cases h1:isLet c <;> cases h2:dW c <;> simp [h1,h2]
 exact key s 0 rfl
theorem ah4 (s:Str) (hs:s.length < 4611686018427387904):xK s=some (isName s):=by
 unfold xK isName
 rw [ajH s hs]
 by_cases h1:s.length < 1
 ·
  have:s=[]:=by cases s; rfl; simp at h1
  subst this; simp
 ·
  by_cases h2:64 < s.length
  ·
   have e1:decide ((64:Int) < (s.length:Int))=true:=by simp; omega
   have e2:decide (s.length≤64)=false:=by simp; omega
   simp [e1,e2]
  ·
   cases s with
   | nil=>simp at h1
   | cons c s=>
    have e1:decide ((((c :: s).length:Nat):Int) < 1)=false:=by simp; omega
    have e2:decide ((64:Int) < (((c :: s).length:Nat):Int))=false:=by simp at h2 ⊢; omega
    have e3:decide ((c :: s).length≤64)=true:=by simp at h2 ⊢; omega
    have e4:idx (c :: s) 0=some c:=rfl
    rw [e1,e2,e3,e4]
    cases h3:isLet c <;> simp [h3]
theorem ahp (s:Str) (hs:s.length < 4611686018427387904):IU s=some (isName s):=by
 unfold IU
 have:=dP (F:=fun k (_:Unit) i=>Bw s k i) (l:=s) (body:=fun (i:Nat) x3 _ r=>au (if !(isLet x3) then (if (i:Int) == 0 then some true else au (idx s (i:Int)) fun x5=>some (!(dW x5))) else some false) fun b2=>if b2 then some false else r ())
  (fin:=fun _=>some ((decide (1≤(s.length:Int))) && (decide ((s.length:Int)≤64)))) hs (fun k s i=>rfl) ()
 rw [this]
 have key:∀ (t:Str) (i:Nat),t=s.drop i→dQ (fun (i:Nat) x3 (_:Unit) r=>au (if !(isLet x3) then (if (i:Int) == 0 then some true else au (idx s (i:Int)) fun x5=>some (!(dW x5))) else some false) fun b2=>if b2 then some false else r ())
   (fun _=>some ((decide (1≤(s.length:Int))) && (decide ((s.length:Int)≤64)))) i t ()=some ((decide (1≤s.length) && decide (s.length≤64)) && ((if i=0 then (match t with | c :: _=>isLet c | []=>true) else true) && t.all fun c=>isLet c || dW c)):=by
  intro t
  induction t with
  | nil=>
   intro i _
   rw [dQ]
   have e1:decide ((1:Int)≤(s.length:Int))=decide (1≤s.length):=by congr 1; simp; omega
   have e2:decide ((s.length:Int)≤64)=decide (s.length≤64):=by congr 1; simp; omega
   rw [e1,e2]; simp
  | cons c t ih=>
   intro i ht
   have hi:i < s.length:=by
    rcases Nat.lt_or_ge i s.length with h | h
    · exact h
    · rw [List.drop_eq_nil_of_le h] at ht; cases ht
   have hc:=List.drop_eq_getElem_cons hi
   rw [←ht] at hc
   have e1:c=s[i]:=(List.cons.inj hc).1
   have e2:=(List.cons.inj hc).2
   rw [dQ,rA hi,←e1]
   simp only [ay]
   rw [ih (i + 1) e2]
   by_cases h0:i=0
   ·
    subst h0
    cases h1:isLet c <;> simp [h1]
   ·
    have:((i:Int) == 0)=false:=by simp; omega
    rw [this]
    cases h1:isLet c <;> cases h2:dW c <;> simp [h1,h2,h0]
 rw [key s 0 rfl]
 unfold isName
 cases s with
 | nil=>simp
 | cons c s=>simp [Bool.and_assoc]
theorem XZ (s:Str) (hs:s.length < 4611686018427387904):rO s=some (nY s)∧xG s=some (nY s):=by
 unfold rO xG nY xI
 rw [ah4 s hs,ahp s hs]
 constructor
 · cases isName s <;> simp
 ·
  simp only [ay,Option.some.injEq]
  cases isName s <;> simp [Bool.not_or,Bool.and_assoc]
theorem Ei (s:Str):yF s=gG s:=rfl
theorem SL (s:Str):∃ n,gG s=some n:=by
 have:(gG s).isSome=true:=by
  unfold gG
  simp only [apply_ite Option.isSome,Option.isSome_some,ite_self]
 exact Option.isSome_iff_exists.1 this
end Go.Ft

namespace Go.Ft
open Go
attribute [local congr] jE
def uL (s:Str):Bool:=decide (1≤s.length) && decide (s.length≤64)
def SQ (a b:Str):Int:=(m_ a b).getD 0
theorem afW {a b:Str} (ha:a.length < 4611686018427387904) (hb:b.length < 4611686018427387904):jD a b=some (SQ a b)∧m_ a b=some (SQ a b):=by
 obtain ⟨c,h1,h2⟩:=Rz ha hb
 unfold SQ
 rw [h2]
 exact ⟨h1,rfl⟩
def JG :Option Str→List Str→Bool
 | _,[]=>true
 | p,k :: r=>uL k && (match p with | none=>true | some q=>decide (SQ q k < 0)) && JG (some k) r
theorem V9 (s:Str):((decide ((s.length:Int) < 1)) || (decide (64 < (s.length:Int))))=!uL s:=by
 unfold uL
 rw [Bool.eq_iff_iff]
 simp only [Bool.or_eq_true,Bool.not_eq_true',Bool.and_eq_false_iff,decide_eq_true_eq,decide_eq_false_iff_not]
 omega
theorem key_eq (s:Str):J3 s=some (uL s):=by
 unfold J3 uL
 simp only [Option.some.injEq]
 rw [Bool.eq_iff_iff]
 simp only [Bool.and_eq_true,decide_eq_true_eq]
 omega
def IZ (l:List Str) (i:Nat):Option Str:=if i=0 then none else l[i - 1]?
theorem abB {v:ah} (hv:v.bulk < 4611686018427387904):∀ (k i:Nat),v.keys.length < k + i→i≤v.keys.length→
  qJ v k (i:Int)=some (JG (IZ v.keys i) (v.keys.drop i))∧
  ow v k (i:Int)=some (JG (IZ v.keys i) (v.keys.drop i) && ((v.keys.length:Int) == (v.aI.length:Int)))
 | 0,i,h,h'=>by omega
 | k + 1,i,h,h'=>by
  have hlen:=uY v
  rw [qJ,ow]
  by_cases hi:i < v.keys.length
  ·
   have hm:v.keys[i]∈v.keys:=List.getElem_mem hi
   have hb:=JQ hm
   rw [List.drop_eq_getElem_cons hi,if_pos (by simp; omega),if_pos (by simp; omega),rA hi]
   simp only [ay,V9,key_eq,JG]
   obtain ⟨ih1,ih2⟩:=abB hv k (i + 1) (by omega) (by omega)
   have hp:IZ v.keys (i + 1)=some v.keys[i]:=by simp [IZ,hi]
   rw [hp] at ih1 ih2
   rw [zB (by omega),ih1,ih2]
   by_cases h0:i=0
   ·
    subst h0
    have hp0:IZ v.keys 0=none:=rfl
    rw [hp0]
    cases uL v.keys[0] <;> simp
   ·
    have hi1:i - 1 < v.keys.length:=by omega
    have hm1:v.keys[i - 1]∈v.keys:=List.getElem_mem hi1
    have hb1:=JQ hm1
    have hp0:IZ v.keys i=some v.keys[i - 1]:=by simp [IZ,h0,hi1]
    have e1:bS ((i:Int) - 1)=((i - 1:Nat):Int):=by rw [qG (by omega)]; omega
    obtain ⟨c1,c2⟩:=afW (a:=v.keys[i - 1]) (b:=v.keys[i]) (by omega) (by omega)
    have hpos:decide ((0:Int) < (i:Int))=true:=by simp; omega
    rw [hp0,e1,hpos,rA hi1]
    simp only [ay,c1,c2,if_true]
    have hn:decide (SQ v.keys[i - 1] v.keys[i] < 0)=!decide (0≤SQ v.keys[i - 1] v.keys[i]):=by
     by_cases h:0≤SQ v.keys[i - 1] v.keys[i] <;> simp [h] <;> omega
    rw [hn]
    cases uL v.keys[i] <;> cases decide (0≤SQ v.keys[i - 1] v.keys[i]) <;> simp
  ·
   have:i=v.keys.length:=by omega
   subst this
   simp [JG]
theorem Yn {v:ah} (hv:v.bulk < 4611686018427387904):Bl v=some (((v.keys.length:Int) == (v.aI.length:Int)) && JG none v.keys)∧wB v=some (((v.keys.length:Int) == (v.aI.length:Int)) && JG none v.keys):=by
 have hlen:=uY v
 obtain ⟨h1,h2⟩:=abB hv BIG 0 (by have:=j_; omega) (by omega)
 have hp0:IZ v.keys 0=none:=rfl
 rw [hp0,List.drop_zero] at h1 h2
 unfold Bl wB
 rw [show (0:Int)=((0:Nat):Int) from rfl,h1,h2]
 by_cases h:(v.keys.length:Int)=(v.aI.length:Int)
 · simp [h]
 ·
  have:((v.keys.length:Int) == (v.aI.length:Int))=false:=by simpa using h
  simp [this]
  intro hh; exact absurd hh h
def qH (v:ah):Bool:=
 (((((v.kind == 1) || (!v.dh)) && ((v.kind == 2) || (v.bZ == 0))) && ((v.kind == 3) || (v.bI == ([]:Str)))) && (((v.kind == 4) || (v.kind == 5)) || ((v.aI.length:Int) == 0))) && ((v.kind == 5) || ((v.keys.length:Int) == 0))
theorem ahq (v:ah):FR v=some (qH v):=by
 unfold FR qH
 have hl:decide (0 < (v.aI.length:Int))=!((v.aI.length:Int) == 0):=by
  cases h:v.aI <;> simp
  omega
 rw [hl]
 have hk:∀ n:Int,(v.kind != n)=!(v.kind == n):=fun n=>rfl
 have hi:(v.bZ != 0)=!(v.bZ == 0):=rfl
 rw [hk,hk,hk,hk,hk,hi]
 generalize (v.kind == 1)=a1
 generalize (v.kind == 2)=a2
 generalize (v.kind == 3)=a3
 generalize (v.kind == 4)=a4
 generalize (v.kind == 5)=a5
 generalize v.dh=b
 generalize (v.bZ == 0)=c
 generalize (v.bI == ([]:Str))=d
 generalize ((v.aI.length:Int) == 0)=e
 generalize ((v.keys.length:Int) == 0)=f
 revert a1 a2 a3 a4 a5 b c d e f
 decide
def ny (v:ah) (level:Nat):Int:=
 if 16 < level then 13
 else if (decide (v.kind < 0)) || (decide (5 < v.kind)) || !qH v then 1
 else if (decide (v.bZ < (-9007199254740992))) || (decide (9007199254740992 < v.bZ)) then 2
 else if ((decide (4096 < (v.bI.length:Int))) || (decide (1024 < (v.aI.length:Int)))) || (decide (1024 < (v.keys.length:Int))) then 3
 else if v.kind == 5 && !(((v.keys.length:Int) == (v.aI.length:Int)) && JG none v.keys) then 1
 else if (((v.kind == 4) || (v.kind == 5)) && ((v.aI.length:Int) == 0)) && level == 16 then 13
 else 0
theorem afQ {v:ah} (hv:v.bulk < 4611686018427387904) (level:Nat):Dc v (level:Int)=some (ny v level):=by
 unfold Dc ny Ch
 have h16:decide ((16:Int) < (level:Int))=decide (16 < level):=by congr 1; simp; omega
 have ain:((level:Int) == 16)=(level == 16):=by
  rw [Bool.eq_iff_iff]; simp only [beq_iff_eq]; omega
 rw [h16,ain,(Yn hv).1]
 change (if decide (16 < level)=true then some 13 else au (if (decide (v.kind < 0) || decide (5 < v.kind))=true then some true else au (some (qH v)) fun x1=>some (!x1)) _)=_
 by_cases h0:16 < level
 · simp [h0]
 ·
  simp only [h0,decide_false,Bool.false_eq_true,if_false,ay]
  cases h1:(decide (v.kind < 0) || decide (5 < v.kind)) with
  | true=>simp
  | false=>
   cases h2:qH v with
   | false=>simp
   | true=>
    simp only [Bool.false_eq_true,if_false,Bool.not_true,ay,Bool.or_self]
    split
    · rfl
    ·
     split
     · rfl
     · cases h3:(v.kind == 5) <;> cases h4:(((v.keys.length:Int) == (v.aI.length:Int)) && JG none v.keys) <;> simp <;> (first | rfl | (split <;> rfl))
mutual
def uZ :ah→Nat→Int
 | ⟨a,b,c,d,l,f⟩,level=>if ny ⟨a,b,c,d,l,f⟩ level != 0 then ny ⟨a,b,c,d,l,f⟩ level else C_ l (level + 1)
def C_ :List ah→Nat→Int
 | [],_=>0
 | x :: r,level=>if uZ x level != 0 then uZ x level else C_ r level
end
theorem LG (v:ah) (level:Nat):uZ v level=if ny v level != 0 then ny v level else C_ v.aI (level + 1):=by cases v; rw [uZ]
theorem aj8 {go:ah→Int→Option Int} {level:Nat}:∀ (l:List ah) (i:Nat),(∀ x∈l,go x ((level + 1:Nat):Int)=some (uZ x (level + 1)))→
  dQ (fun _ e1 (_:Unit) r=>au (go e1 ((level + 1:Nat):Int)) fun e2=>if e2 != 0 then some e2 else r ()) (fun _=>some 0) i l ()=some (C_ l (level + 1))
 | [],i,_=>by simp [dQ,C_]
 | x :: r,i,h=>by
  rw [dQ,h x (by simp),C_]
  simp only [ay]
  rw [aj8 r (i + 1) (fun y hy=>h y (by simp [hy]))]
  split <;> rfl
theorem YP :∀ (n:Nat) (v:ah) (level:Nat),v.bulk≤n→v.bulk < 4611686018427387904→level≤17→pV (n + 1) v (level:Int)=some (uZ v level)
 | 0,v,_,h,_,_=>by have:=v.gF; omega
 | n + 1,v,level,h,hB,hlv=>by
  have hl:=uX v
  rw [LG]
  unfold pV Et
  have h16:decide ((16:Int) < (level:Int))=decide (16 < level):=by congr 1; simp; omega
  have ain:((level:Int) == 16)=(level == 16):=by
   rw [Bool.eq_iff_iff]; simp only [beq_iff_eq]; omega
  rw [h16,ain,(Yn hB).2,ahq]
  unfold ny
  by_cases h0:16 < level
  · simp [h0]
  ·
   have hw:bS ((level:Int) + 1)=((level + 1:Nat):Int):=zB (by omega)
   have:=dP (F:=fun k (_:Unit) i=>yI (pV (n + 1)) v (level:Int) k i) (l:=v.aI) (body:=fun _ e1 _ r=>au (pV (n + 1) e1 ((level + 1:Nat):Int)) fun e2=>if e2 != 0 then some e2 else r ()) (fin:=fun _=>some 0) (by omega) (fun k s i=>by rw [←hw]; rfl) ()
   rw [this,aj8 v.aI 0 fun x hx=>YP n x (level + 1) (by have:=iH hx; omega) (by have:=iH hx; omega) (by omega)]
   simp only [h0,decide_false,Bool.false_eq_true,if_false,ay]
   cases h1:(decide (v.kind < 0) || decide (5 < v.kind)) with
   | true=>simp
   | false=>
    cases h2:qH v with
    | false=>simp
    | true=>
     simp only [Bool.false_eq_true,if_false,Bool.not_true,ay,Bool.or_self]
     split
     · simp
     ·
      split
      · simp
      ·
       have h4:decide ((4:Int)≤v.kind)=((v.kind == 4) || (v.kind == 5)):=by
        simp only [Bool.or_eq_false_iff,decide_eq_false_iff_not] at h1
        rw [Bool.eq_iff_iff]
        simp only [Bool.or_eq_true,decide_eq_true_eq,beq_iff_eq]
        omega
       rw [h4]
       cases h3:(v.kind == 5) <;> cases h5:(((v.keys.length:Int) == (v.aI.length:Int)) && JG none v.keys) <;> simp <;> (first | rfl | (split <;> simp <;> rename_i hq <;> (first
        | exact fun hh=>absurd hq.2 (hh hq.1.1 hq.1.2)
        | exact fun a b c=>absurd ⟨⟨a,b⟩,c⟩ hq)))
theorem Vu {v:ah} (h:v.bulk < 4611686018427387904):xH v=some (uZ v 1):=by
 obtain ⟨n,hn,hn2⟩:=ru
 unfold xH Ng
 rw [hn]
 exact YP n v 1 (by omega) h (by omega)
def PZ (c:Int):Bool × Option Int:=if c != 0 then (false,some c) else (true,none)
theorem ajc {v:ah} (hv:v.bulk < 4611686018427387904) (level:Nat):mG none (level:Int) v=some (PZ (ny v level)):=by
 unfold mG PZ
 simp only [afQ hv,ay]
 by_cases h:ny v level=0 <;> simp [h]
theorem agD {go:Option Int→ah→Int→Option (Bool × Option Int)} {level:Nat}:∀ (l:List ah) (i:Nat),(∀ x∈l,go none x ((level + 1:Nat):Int)=some (PZ (uZ x (level + 1))))→
  dQ (fun _ x1 (s1:Option Int) r=>fG (go s1 x1 ((level + 1:Nat):Int)) fun b1 s2=>if !b1 then some (false,s2) else r s2) (fun s1=>some (true,s1)) i l none=some (PZ (C_ l (level + 1)))
 | [],i,_=>by simp [dQ,C_,PZ]
 | x :: r,i,h=>by
  rw [dQ,h x (by simp),C_]
  by_cases hc:uZ x (level + 1)=0
  ·
   simp only [hc,PZ,bne_self_eq_false,Bool.false_eq_true,if_false,dH,Bool.not_true]
   rw [agD r (i + 1) (fun y hy=>h y (by simp [hy]))]
   rfl
  · simp [hc,PZ]
theorem ac4 :∀ (n:Nat) (v:ah) (level:Nat),v.bulk≤n→v.bulk < 4611686018427387904→level≤17→gV mG (n + 1) none v (level:Int)=some (PZ (uZ v level))
 | 0,v,_,h,_,_=>by have:=v.gF; omega
 | n + 1,v,level,h,hB,hlv=>by
  have hl:=uX v
  rw [LG]
  unfold gV u7
  rw [ajc hB]
  by_cases h0:ny v level=0
  ·
   have akU:level≤16:=by
    rcases Nat.lt_or_ge 16 level with h | h
    · unfold ny at h0; simp [h] at h0
    · exact h
   have hw:bS ((level:Int) + 1)=((level + 1:Nat):Int):=zB (by omega)
   have:=dP (F:=fun k s i=>lq (gV mG (n + 1)) v (level:Int) k s i) (l:=v.aI) (body:=fun _ x1 (s1:Option Int) r=>fG (gV mG (n + 1) s1 x1 ((level + 1:Nat):Int)) fun b1 s2=>if !b1 then some (false,s2) else r s2) (fin:=fun s1=>some (true,s1)) (by omega) (fun k s i=>by rw [←hw]; rfl) none
   simp only [h0,PZ,bne_self_eq_false,Bool.false_eq_true,if_false,dH,Bool.not_true]
   rw [this,agD v.aI 0 fun x hx=>ac4 n x (level + 1) (by have:=iH hx; omega) (by have:=iH hx; omega) (by omega)]
   rfl
  · simp [h0,PZ]
theorem CP {v:ah} (h:v.bulk < 4611686018427387904):kr v=some (uZ v 1):=by
 obtain ⟨n,hn,hn2⟩:=ru
 unfold kr Db
 rw [hn,show (1:Int)=((1:Nat):Int) from rfl,ac4 n v 1 (by omega) h (by omega)]
 unfold PZ
 by_cases hc:uZ v 1=0 <;> simp [hc]
end Go.Ft

namespace Go.Ft
open Go
attribute [local congr] jE
def Ob (v:ah):Bool:=(((((v.kind == 0) && (!v.dh)) && (v.bZ == 0)) && (v.bI == ([]:Str))) && ((v.aI.length:Int) == 0)) && ((v.keys.length:Int) == 0)
theorem zero_eq (v:ah):Ey v=some (Ob v):=rfl
theorem abX (v:ah):r9 v (ah.mk 0 false 0 ([]:Str) [] [])=some (Ob v):=by
 obtain ⟨n,hn,hn2⟩:=ru
 obtain ⟨m,hm⟩:∃ m,n=m + 1:=⟨n - 1,by omega⟩
 have hB:BIG=(m + 1) + 1:=by omega
 unfold r9
 rw [hB,uD,Dl]
 have hz:Ob v=!(((((v.kind != 0) || (!(v.dh == false))) || (v.bZ != 0)) || (!(v.bI == ([]:Str)))) || ((v.aI.length:Int) != (([]:List ah).length:Int)) || ((v.keys.length:Int) != (([]:List Str).length:Int))):=by
  unfold Ob
  have hk:(v.kind != 0)=!(v.kind == 0):=rfl
  have hi:(v.bZ != 0)=!(v.bZ == 0):=rfl
  have hl:((v.aI.length:Int) != (([]:List ah).length:Int))=!((v.aI.length:Int) == 0):=rfl
  have hks:((v.keys.length:Int) != (([]:List Str).length:Int))=!((v.keys.length:Int) == 0):=rfl
  rw [hk,hi,hl,hks]
  generalize (v.kind == 0)=a
  generalize v.dh=b
  generalize (v.bZ == 0)=c
  generalize (v.bI == ([]:Str))=d
  generalize ((v.aI.length:Int) == 0)=e
  generalize ((v.keys.length:Int) == 0)=f
  revert a b c d e f
  decide
 cases h:(((((v.kind != 0) || (!(v.dh == false))) || (v.bZ != 0)) || (!(v.bI == ([]:Str)))) || ((v.aI.length:Int) != (([]:List ah).length:Int)) || ((v.keys.length:Int) != (([]:List Str).length:Int))) with
 | true=>
  rw [hz,h]
  rfl
 | false=>
  rw [hz,h]
  simp only [Bool.or_eq_false_iff] at h
  have hl:v.aI=[]:=by have:=h.1.2; simpa using this
  have hk:v.keys=[]:=by have:=h.2; simpa using this
  simp only [Bool.false_eq_true,if_false,Bool.not_false]
  rw [hB,uE,hk]
  simp only [List.length_nil,Int.lt_irrefl,decide_false,Bool.false_eq_true,if_false,Int.ofNat_zero,Int.natCast_zero]
  rw [hB,mY,hl]
  simp
def sW (e:aj):Bool:=
 if e.kind == 1 then (e.args.length:Int) == 0 else if e.kind == 2 then (e.args.length:Int) == 0 else if e.kind == 3 then (e.args.length:Int) == 1 else if e.kind == 6 then (e.args.length:Int) == 1
 else if e.kind == 4 then (e.args.length:Int) == 2 else if e.kind == 7 then (e.args.length:Int) == 2 else if e.kind == 8 then (e.args.length:Int) == 3 else ((e.kind == 5) || (e.kind == 9)) || (e.kind == 10)
theorem agw (e:aj):FP e=some (sW e):=by
 unfold FP sW
 simp only [apply_ite some]
def Ab (e:aj):Bool:=!((decide (e.kind < 1)) || (decide (10 < e.kind)))
theorem aiM (e:aj) (h:Ab e=true):yO e=some (sW e):=by
 unfold yO sW
 unfold Ab at h
 simp only [Bool.not_eq_true',Bool.or_eq_false_iff,decide_eq_false_iff_not] at h
 simp only [apply_ite some]
 have hh:¬ e.kind=1→¬ e.kind=2→¬ e.kind=3→¬ e.kind=6→¬ e.kind=4→¬ e.kind=7→¬ e.kind=8→(((e.kind == 5) || (e.kind == 9)) || (e.kind == 10))=true:=by
  intro h1 h2 h3 h6 h4 h7 h8
  simp only [Bool.or_eq_true,beq_iff_eq]
  omega
 by_cases h1:e.kind=1
 · simp [h1]
 by_cases h2:e.kind=2
 · simp [h2]
 by_cases h3:e.kind=3
 · simp [h3]
 by_cases h6:e.kind=6
 · simp [h6]
 by_cases h4:e.kind=4
 · simp [h4]
 by_cases h7:e.kind=7
 · simp [h7]
 by_cases h8:e.kind=8
 · simp [h8]
 rw [hh h1 h2 h3 h6 h4 h7 h8]
 all_goals simp [h1,h2,h3,h4,h6,h7,h8]
def LQ (s:Str):Int:=(gG s).getD 0
theorem abT (s:Str):gG s=some (LQ s):=by
 obtain ⟨n,h⟩:=SL s
 unfold LQ; rw [h]; rfl
def Al (e:aj):Bool:=
 if e.kind == 2 then nY e.name else if e.kind == 3 then nY e.name else if e.kind == 5 then nY e.name else if e.kind == 6 then (e.name == ([33]:Str)) || (e.name == ([45]:Str))
 else if e.kind == 7 then decide (0 < LQ e.name) else e.name == ([]:Str)
theorem X9 (e:aj) (h:e.bulk < 4611686018427387904):yL e=some (Al e)∧FN e=some (Al e):=by
 have hn:=UU e
 obtain ⟨p1,p2⟩:=XZ e.name (by omega)
 unfold yL FN Al
 rw [p1,p2,Ei,abT]
 simp only [ay,apply_ite some,and_self]
theorem ala (l:List Str) (hl:l.length < 4611686018427387904):g_ l kI=some (l.any fun k=>!uL k):=by
 unfold g_ jG
 have:=dP (F:=fun k (_:Unit) i=>gZ l kI k i) (l:=l) (body:=fun (i:Nat) e1 _ r=>au (kI e1) fun x1=>if x1 then some (i:Int) else r ()) (fin:=fun _=>some (-1)) hl (fun k s i=>rfl) ()
 rw [this]
 have key:∀ (t:List Str) (i:Nat),au (dQ (fun (i:Nat) e1 (_:Unit) r=>au (kI e1) fun x1=>if x1 then some (i:Int) else r ()) (fun _=>some (-1)) i t ()) (fun x1=>some (decide (0≤x1)))=some (t.any fun k=>!uL k):=by
  intro t
  induction t with
  | nil=>intro i; rfl
  | cons c t ih=>
   intro i
   rw [dQ]
   have e1:kI c=some (!uL c):=by unfold kI; rw [V9]
   rw [e1]
   simp only [ay,List.any_cons]
   cases h:uL c with
   | false=>simp
   | true=>
    simp only [Bool.not_true,Bool.false_eq_true,if_false,Bool.false_or]
    exact ih (i + 1)
 exact key l 0
def Cb (e:aj):Bool:=if e.kind != 10 then (e.keys.length:Int) == 0 else ((e.keys.length:Int) == (e.args.length:Int)) && !(e.keys.any fun k=>!uL k)
theorem aib (e:aj) (h:e.bulk < 4611686018427387904):yM e=some (Cb e):=by
 have hk:=xS e
 unfold yM Cb
 rw [ala e.keys (by omega)]
 split
 · rfl
 · cases ((e.keys.length:Int) == (e.args.length:Int)) <;> simp
theorem af4 (e:aj) (h:e.bulk < 4611686018427387904):sH e BIG 0=some (!(e.keys.any fun k=>!uL k) && ((e.keys.length:Int) == (e.args.length:Int))):=by
 have hk:=xS e
 have:=dP (F:=fun k (_:Unit) i=>sH e k i) (l:=e.keys) (body:=fun (i:Nat) e2 _ r=>au (if decide ((e2.length:Int) < 1) then some true else au (idx e.keys (i:Int)) fun e3=>some (decide (64 < (e3.length:Int)))) fun b4=>if b4 then some false else r ())
  (fin:=fun _=>some ((e.keys.length:Int) == (e.args.length:Int))) (by omega) (fun k s i=>rfl) ()
 rw [this]
 have key:∀ (t:List Str) (i:Nat),t=e.keys.drop i→dQ (fun (i:Nat) e2 (_:Unit) r=>au (if decide ((e2.length:Int) < 1) then some true else au (idx e.keys (i:Int)) fun e3=>some (decide (64 < (e3.length:Int)))) fun b4=>if b4 then some false else r ())
   (fun _=>some ((e.keys.length:Int) == (e.args.length:Int))) i t ()=some (!(t.any fun k=>!uL k) && ((e.keys.length:Int) == (e.args.length:Int))):=by
  intro t
  induction t with
  | nil=>intro i _; rfl
  | cons c t ih=>
   intro i ht
   have hi:i < e.keys.length:=by
    rcases Nat.lt_or_ge i e.keys.length with h | h
    · exact h
    · rw [List.drop_eq_nil_of_le h] at ht; cases ht
   have hc:=List.drop_eq_getElem_cons hi
   rw [←ht] at hc
   have e1:c=e.keys[i]:=(List.cons.inj hc).1
   have e2:=(List.cons.inj hc).2
   rw [dQ,rA hi,←e1]
   simp only [ay,List.any_cons]
   rw [ih (i + 1) e2]
   have e3:=V9 c
   cases h1:decide ((List.length c:Int) < 1) <;> rw [h1] at e3
   ·
    simp only [Bool.false_or] at e3
    simp only [Bool.false_eq_true,if_false,ay,e3]
    cases uL c <;> simp
   ·
    simp only [Bool.true_or] at e3
    have:uL c=false:=by
     cases h:uL c with
     | false=>rfl
     | true=>rw [h] at e3; cases e3
    simp [this]
 exact key e.keys 0 rfl
def rV (e:aj):Bool:=Ab e && ((e.kind == 1) || Ob e.value) && Al e && sW e && Cb e
theorem aaB (e:aj) (h:sW e=true):Ab e=true:=by
 unfold sW at h
 unfold Ab
 simp only [Bool.not_eq_true',Bool.or_eq_false_iff,decide_eq_false_iff_not]
 by_cases h1:e.kind=1
 · omega
 by_cases h2:e.kind=2
 · omega
 by_cases h3:e.kind=3
 · omega
 by_cases h6:e.kind=6
 · omega
 by_cases h4:e.kind=4
 · omega
 by_cases h7:e.kind=7
 · omega
 by_cases h8:e.kind=8
 · omega
 simp [h1,h2,h3,h4,h6,h7,h8] at h
 omega
theorem acu (e:aj) (h:e.bulk < 4611686018427387904):Dk e=some (rV e):=by
 unfold Dk rV
 rw [agw,(X9 e h).2,abX,af4 e h]
 have hk:=aaB e
 unfold Cb
 have hne:(e.kind != 1)=!(e.kind == 1):=rfl
 rw [hne]
 cases h1:sW e with
 | false=>cases (e.kind == 1) <;> simp
 | true=>
  rw [hk h1]
  cases h2:Al e with
  | false=>cases (e.kind == 1) <;> simp
  | true=>
   cases h3:(e.kind == 1) <;> cases h4:Ob e.value <;> simp <;> (first | done | (split <;> simp [Bool.and_comm]))
theorem J6 (y:List (Str × Int)) (s t:Str) (n:Int):sV (wE y s n) t=if t=s then n else sV y t:=by
 induction y with
 | nil=>by_cases h:t=s <;> simp [wE,sV,h]
 | cons a y ih=>
  obtain ⟨k,v⟩:=a
  unfold wE
  by_cases h:s=k
  ·
   subst h
   simp only [beq_self_eq_true,if_true]
   unfold sV
   by_cases h2:t=s
   · simp [h2]
   ·
    have:(t == s)=false:=beq_eq_false_iff_ne.2 h2
    simp [this,h2]
  ·
   have:(s == k)=false:=beq_eq_false_iff_ne.2 h
   rw [this]
   simp only [Bool.false_eq_true,if_false]
   unfold sV
   by_cases h2:t=k
   ·
    subst h2
    have:¬ t=s:=fun hh=>h hh.symm
    simp [this]
   ·
    have h3:(t == k)=false:=beq_eq_false_iff_ne.2 h2
    rw [h3]
    simp only [Bool.false_eq_true,if_false]
    exact ih
def K_ :List Str→List Str→Bool
 | _,[]=>false
 | seen,s :: r=>seen.contains s || K_ (seen ++ [s]) r
theorem aho (l:List Str) (hl:l.length < 4611686018427387904):sj l=some (K_ [] l):=by
 unfold sj
 have:=dP (F:=fun k s i=>oI l k i s) (l:=l) (body:=fun _ s1 (y1:List (Str × Int)) r=>if decide (1 < (sV (wE y1 s1 (bS ((sV y1 s1) + 1))) s1)) then some true else r (wE y1 s1 (bS ((sV y1 s1) + 1)))) (fin:=fun _=>some false) hl (fun k s i=>rfl) []
 rw [this]
 have key:∀ (t:List Str) (i:Nat) (y:List (Str × Int)) (seen:List Str),(∀ s,sV y s=if s∈seen then 1 else 0)→
   dQ (fun _ s1 (y1:List (Str × Int)) r=>if decide (1 < (sV (wE y1 s1 (bS ((sV y1 s1) + 1))) s1)) then some true else r (wE y1 s1 (bS ((sV y1 s1) + 1)))) (fun _=>some false) i t y=some (K_ seen t):=by
  intro t
  induction t with
  | nil=>intro i y seen _; rfl
  | cons c t ih=>
   intro i y seen hy
   rw [dQ,K_,J6,if_pos rfl,hy c]
   by_cases hc:c∈seen
   ·
    have:bS 2=2:=by decide
    simp [hc,this]
   ·
    have:bS ((0:Int) + 1)=1:=by decide
    simp only [hc,if_false,this]
    have e:seen.contains c=false:=by simpa using hc
    rw [e]
    simp only [Int.lt_irrefl,decide_false,Bool.false_eq_true,if_false,Bool.false_or]
    refine ih (i + 1) _ (seen ++ [c]) fun s=>?_
    rw [J6,hy s]
    by_cases h1:s=c
    · subst h1; simp
    · simp [h1]
 exact key l 0 [] [] (fun s=>by simp [sV])
theorem Xv (l:List Str) (i:Nat) (hi:i < l.length) (hl:l.length < 4611686018427387904) (go:Int→Option Bool):∀ (k j:Nat),i < k + j→j≤i→
  vB l (i:Int) go k (j:Int)=if ((l.take i).drop j).contains l[i] then some true else go ((i + 1:Nat):Int)
 | 0,j,h,h'=>by omega
 | k + 1,j,h,h'=>by
  rw [vB]
  by_cases hj:j < i
  ·
   have hlt:j < (l.take i).length:=by simp; omega
   rw [if_pos (by simpa using hj),rA hi,rA (by omega),List.drop_eq_getElem_cons hlt]
   simp only [ay,List.contains_cons,List.getElem_take]
   cases h1:(l[i] == l[j]) with
   | true=>simp
   | false=>
    simp only [Bool.false_eq_true,if_false,Bool.false_or]
    rw [zB (by omega)]
    exact Xv l i hi hl go k (j + 1) (by omega) (by omega)
  ·
   have:j=i:=by omega
   subst this
   rw [if_neg (by simp),zB (by omega)]
   have:(List.take j l).drop j=[]:=List.drop_eq_nil_of_le (by simp; omega)
   rw [this]
   simp
theorem Uc (l:List Str) (hl:l.length < 4611686018427387904):∀ (k i:Nat),l.length < k + i→i≤l.length→pK l k (i:Int)=some (K_ (l.take i) (l.drop i))
 | 0,i,h,h'=>by omega
 | k + 1,i,h,h'=>by
  rw [pK]
  by_cases hi:i < l.length
  ·
   rw [if_pos (by simpa using hi),List.drop_eq_getElem_cons hi,K_]
   have:=Xv l i hi hl (pK l k) BIG 0 (by have:=j_; omega) (by omega)
   rw [show (0:Int)=((0:Nat):Int) from rfl,this,List.drop_zero,Uc l hl k (i + 1) (by omega) (by omega)]
   have e:List.take (i + 1) l=List.take i l ++ [l[i]]:=by rw [List.take_add_one,List.getElem?_eq_getElem hi]; rfl
   rw [e]
   cases (l.take i).contains l[i] <;> simp
  ·
   have:i=l.length:=by omega
   subst this
   simp [K_]
theorem adj (l:List Str) (hl:l.length < 4611686018427387904):FM l=some (K_ [] l):=by
 have:=Uc l hl BIG 0 (by have:=j_; omega) (by omega)
 simpa [FM] using this
def tY (e:aj) (level:Nat):Int:=
 if 16 < level then 13 else if !rV e then 1 else if e.kind == 1 && (uZ e.value 1 != 0) then uZ e.value 1 else if decide (1024 < (e.args.length:Int)) then 3 else if K_ [] e.keys then 7 else 0
theorem adD (e:aj) (h:e.bulk < 4611686018427387904) (level:Nat):BF e (level:Int)=some (tY e level):=by
 have hk:=xS e
 have hv:=xP e
 unfold BF tY
 have h16:decide ((16:Int) < (level:Int))=decide (16 < level):=by congr 1; simp; omega
 rw [h16,zero_eq,(X9 e h).1,aib e h,CP (by omega),aho e.keys (by omega)]
 by_cases h0:16 < level
 · simp [h0]
 ·
  simp only [h0,decide_false,Bool.false_eq_true,if_false,ay]
  have hkd:((decide (e.kind < 1)) || (decide (10 < e.kind)))=!Ab e:=by simp [Ab]
  have hne:(e.kind != 1)=!(e.kind == 1):=rfl
  rw [hkd,hne]
  unfold rV
  cases h1:Ab e with
  | false=>simp
  | true=>
   rw [aiM e h1]
   cases h3:(e.kind == 1) <;> cases h4:Ob e.value <;> cases h5:Al e <;> cases h6:sW e <;> cases h7:Cb e <;> simp <;>
    (first | done | (split <;> (first | rfl | (split <;> (first | rfl | (split <;> rfl))))))
end Go.Ft

namespace Go.Ft
open Go
attribute [local congr] jE
mutual
def zG :aj→Nat→Int
 | ⟨a,b,c,l,f⟩,level=>if tY ⟨a,b,c,l,f⟩ level != 0 then tY ⟨a,b,c,l,f⟩ level else Il l (level + 1)
def Il :List aj→Nat→Int
 | [],_=>0
 | x :: r,level=>if zG x level != 0 then zG x level else Il r level
end
theorem JM (e:aj) (level:Nat):zG e level=if tY e level != 0 then tY e level else Il e.args (level + 1):=by cases e; rw [zG]
theorem KO {go:aj→Int→Option Int} {level:Nat}:∀ (l:List aj) (i:Nat),(∀ x∈l,go x ((level + 1:Nat):Int)=some (zG x (level + 1)))→
  dQ (fun _ e1 (_:Unit) r=>au (go e1 ((level + 1:Nat):Int)) fun e2=>if e2 != 0 then some e2 else r ()) (fun _=>some 0) i l ()=some (Il l (level + 1))
 | [],i,_=>by simp [dQ,Il]
 | x :: r,i,h=>by
  rw [dQ,h x (by simp),Il]
  simp only [ay]
  rw [KO r (i + 1) (fun y hy=>h y (by simp [hy]))]
  split <;> rfl
theorem PW :∀ (n:Nat) (e:aj) (level:Nat),e.bulk≤n→e.bulk < 4611686018427387904→level≤17→lH (n + 1) e (level:Int)=some (zG e level)∧pO (n + 1) e (level:Int)=some (zG e level)
 | 0,e,_,h,_,_=>by have:=e.gF; omega
 | n + 1,e,level,h,hB,hlv=>by
  have hl:=Am e
  have hv:=xP e
  have hks:=xS e
  have hw:bS ((level:Int) + 1)=((level + 1:Nat):Int):=zB (by omega)
  constructor
  ·
   rw [JM]
   unfold lH yK
   have:=dP (F:=fun k (_:Unit) i=>r_ (lH (n + 1)) e (level:Int) k i) (l:=e.args) (body:=fun _ e1 _ r=>au (lH (n + 1) e1 ((level + 1:Nat):Int)) fun e2=>if e2 != 0 then some e2 else r ()) (fin:=fun _=>some 0) (by omega) (fun k s i=>by rw [←hw]; rfl) ()
   rw [adD e hB,this]
   simp only [ay]
   by_cases h0:tY e level=0
   ·
    have akU:level≤16:=by
     rcases Nat.lt_or_ge 16 level with h | h
     · unfold tY at h0; simp [h] at h0
     · exact h
    rw [KO e.args 0 fun x hx=>(PW n x (level + 1) (by have:=fF hx; omega) (by have:=fF hx; omega) (by omega)).1]
    simp [h0]
   · simp [h0]
  ·
   rw [JM]
   unfold pO Eo
   have:=dP (F:=fun k (_:Unit) i=>yE (pO (n + 1)) e (level:Int) k i) (l:=e.args) (body:=fun _ e1 _ r=>au (pO (n + 1) e1 ((level + 1:Nat):Int)) fun e2=>if e2 != 0 then some e2 else r ()) (fin:=fun _=>some 0) (by omega) (fun k s i=>by rw [←hw]; rfl) ()
   have h16:decide ((16:Int) < (level:Int))=decide (16 < level):=by congr 1; simp; omega
   rw [acu e hB,Vu (by omega),adj e.keys (by omega),this,h16]
   by_cases h0:16 < level
   · simp [tY,h0]
   ·
    rw [KO e.args 0 fun x hx=>(PW n x (level + 1) (by have:=fF hx; omega) (by have:=fF hx; omega) (by omega)).2]
    unfold tY
    simp only [h0,decide_false,Bool.false_eq_true,if_false,ay]
    cases rV e with
    | false=>simp
    | true=>
     simp only [Bool.not_true,Bool.false_eq_true,if_false]
     cases h1:(e.kind == 1 && (uZ e.value 1 != 0)) with
     | true=>
      have:uZ e.value 1≠0:=by simp at h1; exact h1.2
      simp [this]
     | false=>
      simp only [Bool.false_eq_true,if_false]
      by_cases h2:(1024:Int) < (e.args.length:Int)
      · simp [h2]
      ·
       simp only [h2,decide_false,Bool.false_eq_true,if_false]
       cases K_ [] e.keys <;> simp
def xval (e:aj):Int:=if 4096 < ecnt e then 15 else zG e 1
theorem Gf {e:aj} (h:e.bulk < 4611686018427387904):jY e=some (xval e)∧xF e=some (xval e):=by
 obtain ⟨n,hn,hn2⟩:=ru
 obtain ⟨c1,c2⟩:=count_eq h
 obtain ⟨v1,v2⟩:=PW n e 1 (by omega) h (by omega)
 unfold jY xF xval Gw Nc
 rw [c1,c2,hn]
 have:decide ((4096:Int) < (ecnt e:Int))=decide (4096 < ecnt e):=by congr 1; simp; omega
 simp only [ay,this]
 rw [show (1:Int)=((1:Nat):Int) from rfl,v1,v2]
 by_cases h4:4096 < ecnt e <;> simp [h4]
inductive Ty where
 | leaf (k:Int)
 | nest (k:Int) (t:Ty)
namespace Ty
def api :Ty→b_
 | leaf k=>⟨k,[]⟩
 | nest k t=>⟨k,[t.api]⟩
def wf :Ty→Prop
 | leaf k=>0≤k∧k≤7∧k≠5∧k≠6
 | nest k t=>(k=5∨k=6)∧t.wf
def dep :Ty→Nat
 | leaf _=>1
 | nest _ t=>1 + t.dep
def kind :Ty→Int
 | leaf k=>k
 | nest k _=>k
theorem abt (t:Ty):1≤t.dep:=by cases t <;> simp [dep] <;> omega
end Ty
theorem QJ {k:Int} (h:0≤k∧k≤7):∃ s,Ef k=some s∧(s == ([]:Str))=false:=by
 obtain ⟨n,rfl⟩:∃ n:Nat,k=n:=⟨k.toNat,by omega⟩
 have hn:n < 8:=by omega
 match n,hn with
 | 0,_=>exact ⟨_,rfl,rfl⟩
 | 1,_=>exact ⟨_,rfl,rfl⟩
 | 2,_=>exact ⟨_,rfl,rfl⟩
 | 3,_=>exact ⟨_,rfl,rfl⟩
 | 4,_=>exact ⟨_,rfl,rfl⟩
 | 5,_=>exact ⟨_,rfl,rfl⟩
 | 6,_=>exact ⟨_,rfl,rfl⟩
 | 7,_=>exact ⟨_,rfl,rfl⟩
theorem ad9 {k:Int} (h:¬ (0≤k∧k≤7)):Ef k=some []:=by
 unfold Ef
 rw [if_pos (by simp; omega)]
theorem adk :∀ (k level:Nat) (t:b_),18≤k + level→level≤17→∃ c,nK k (level:Int) t=some c∧Er k t (level:Int)=some c∧(c=0→∃ T:Ty,T.wf∧t=T.api∧T.dep + level≤17)
 | 0,level,t,h,h'=>by omega
 | k + 1,level,t,h,h'=>by
  rw [nK,Er,Oo]
  have h16:decide ((16:Int) < (level:Int))=decide (16 < level):=by congr 1; simp; omega
  rw [h16]
  by_cases h0:16 < level
  · exact ⟨13,by simp [h0],by simp [h0],by simp⟩
  ·
   simp only [h0,decide_false,Bool.false_eq_true,if_false]
   by_cases hk:0≤t.kind∧t.kind≤7
   ·
    obtain ⟨s,hs,hs2⟩:=QJ hk
    have hb:(decide (t.kind < 0) || decide (7 < t.kind))=false:=by simp; omega
    rw [hs,hb]
    simp only [ay,hs2,sG,Uv,Bool.false_eq_true,if_false]
    cases hn:((t.kind == 5) || (t.kind == 6)) with
    | false=>
     simp only [Bool.false_and,Bool.not_false,Bool.true_and,Bool.false_eq_true,if_false,ay,if_true]
     cases he:t.elem with
     | nil=>
      refine ⟨0,by simp,by simp,fun _=>⟨.leaf t.kind,?_,?_,?_⟩⟩
      · simp at hn; exact ⟨hk.1,hk.2,hn.1,hn.2⟩
      · cases t; simp at he; subst he; rfl
      · simp only [Ty.dep]; omega
     | cons x r=>exact ⟨1,by first | (simp; done) | (simp; omega),by first | (simp; done) | (simp; omega),by simp⟩
    | true=>
     simp only [Bool.true_and,Bool.not_true,Bool.false_and,ay,Bool.false_eq_true,if_false]
     have hnk:t.kind=5∨t.kind=6:=by simpa using hn
     match he:t.elem with
     | []=>exact ⟨1,by simp,by simp,by simp⟩
     | [x]=>
      obtain ⟨c,c1,c2,c3⟩:=adk k (level + 1) x (by omega) (by omega)
      have hw:bS ((level:Int) + 1)=((level + 1:Nat):Int):=zB (by omega)
      refine ⟨c,?_,?_,fun hc=>?_⟩
      · rw [hw,←c1]; simp [idx]
      · rw [hw,←c2]; simp [idx]
      ·
       obtain ⟨T,w1,w2,w3⟩:=c3 hc
       refine ⟨.nest t.kind T,⟨hnk,w1⟩,?_,?_⟩
       · cases t; simp at he; subst he; simp [Ty.api,w2]
       · simp only [Ty.dep]; omega
     | x :: y :: r=>
      have hl:(((x :: y :: r).length:Int) != 1)=true:=by simp only [List.length_cons,bne_iff_ne]; omega
      exact ⟨1,by simp only [hl,if_true,ay],by simp only [hl,if_true],by simp⟩
   ·
    have hb:(decide (t.kind < 0) || decide (7 < t.kind))=true:=by simp; omega
    rw [ad9 hk,hb]
    exact ⟨1,by simp,by simp,by simp⟩
theorem agF :∀ (T:Ty) (k level:Nat),T.wf→T.dep + level≤17→18≤k + level→nK k (level:Int) T.api=some 0
 | .leaf a,0,level,_,h,h'=>by simp only [Ty.dep] at h; omega
 | .leaf a,k + 1,level,hw,h,h'=>by
  simp only [Ty.dep] at h
  have h16:decide ((16:Int) < (level:Int))=false:=decide_eq_false (by omega)
  obtain ⟨s,hs,hs2⟩:=QJ (k:=a) ⟨hw.1,hw.2.1⟩
  have hn:((a == 5) || (a == 6))=false:=by simp; exact ⟨hw.2.2.1,hw.2.2.2⟩
  simp [nK,h16,Ty.api,hs,beq_eq_false_iff_ne.1 hs2,sG,hn]
 | .nest a T,0,level,_,h,h'=>by simp only [Ty.dep] at h; have:=T.abt; omega
 | .nest a T,k + 1,level,hw,h,h'=>by
  simp only [Ty.dep] at h
  have hd:=T.abt
  have h16:decide ((16:Int) < (level:Int))=false:=decide_eq_false (by omega)
  have hn:((a == 5) || (a == 6))=true:=by simpa using hw.1
  obtain ⟨s,hs,hs2⟩:=QJ (k:=a) (by rcases hw.1 with h | h <;> omega)
  have hw64:bS ((level:Int) + 1)=((level + 1:Nat):Int):=zB (by omega)
  have:=agF T k (level + 1) hw.2 (by omega) (by omega)
  rw [←this,←hw64]
  simp [nK,h16,Ty.api,hs,beq_eq_false_iff_ne.1 hs2,sG,hn,idx]
def Zx (t:b_):Int:=(Ci t).getD 0
theorem afq (t:b_):Ci t=some (Zx t)∧Nf t=some (Zx t)∧(Zx t=0→∃ T:Ty,T.wf∧t=T.api∧T.dep≤16):=by
 obtain ⟨c,c1,c2,c3⟩:=adk BIG 1 t (by have:=j_; omega) (by omega)
 have e1:Ci t=some c:=c1
 have e2:Nf t=some c:=c2
 have:Zx t=c:=by unfold Zx; rw [e1]; rfl
 rw [this]
 exact ⟨e1,e2,fun h=>by obtain ⟨T,a,b,d⟩:=c3 h; exact ⟨T,a,b,by omega⟩⟩
theorem afp {T:Ty} (h:T.wf) (hd:T.dep≤16):Zx T.api=0:=by
 have:=agF T BIG 1 h (by omega) (by have:=j_; omega)
 have e1:Ci T.api=some 0:=this
 unfold Zx; rw [e1]; rfl
def agY :Ty→Ty→Ty
 | .leaf a,.leaf b=>if a=7 then .leaf b else if b=7 then .leaf a else if a=b then .leaf a else .leaf 0
 | .leaf a,.nest b y=>if a=7 then .nest b y else .leaf 0
 | .nest a x,.leaf b=>if b=7 then .nest a x else .leaf 0
 | .nest a x,.nest b y=>if a=b then .nest a (agY x y) else .leaf 0
end Go.Ft

namespace Go.Ft
open Go
attribute [local congr] jE
def ZT :b_:=b_.mk 0 []
def sc (k:Int):Ty:=.leaf k
def aj6 (x:Option (b_ × Bool)):Option (b_ × Int):=
 fG x fun x6 ok1=>if !ok1 then some (ZT,9) else au (Nf x6) fun x7=>if x7 != 0 then some (ZT,13) else some (x6,0)
def RES (x y:Option (b_ × Int)):Prop:=∃ (T:Ty) (c:Int),T.wf∧T.dep≤16∧(c≠0→T=sc 0)∧x=some (T.api,c)∧y=some (T.api,c)
theorem RES.mk {x:Option (b_ × Int)} {y:Option (b_ × Bool)} (T:Ty) (b:Bool) (hx:x=some (if b then (T.api,0) else (ZT,9))) (hy:y=some (T.api,b)) (hw:b=true→T.wf∧T.dep≤16):RES x (aj6 y):=by
 subst hx hy
 unfold aj6
 cases b with
 | false=>exact ⟨sc 0,9,by simp [sc,Ty.wf],by simp [sc,Ty.dep],fun _=>rfl,rfl,rfl⟩
 | true=>
  obtain ⟨h1,h2⟩:=hw rfl
  refine ⟨T,0,h1,h2,fun h=>absurd rfl h,rfl,?_⟩
  simp only [dH,Bool.not_true,Bool.false_eq_true,if_false,(afq _).2.1,afp h1 h2]
  rfl
end Go.Ft

namespace Go.Ft
open Go
attribute [local congr] jE
def opsL :List Str:=[[38,38],[124,124],[61,61],[33,61],[60],[60,61],[62],[62,61],[45],[42],[47],[37],[43]]
theorem Zy {s:Str} (h:0 < LQ s):s∈opsL:=by
 unfold LQ gG at h
 unfold opsL
 by_cases h1:s=[124,124]
 · simp [h1]
 by_cases h2:s=[38,38]
 · simp [h2]
 by_cases h3:s=[61,61]
 · simp [h3]
 by_cases h4:s=[33,61]
 · simp [h4]
 by_cases h5:s=[60]
 · simp [h5]
 by_cases h6:s=[60,61]
 · simp [h6]
 by_cases h7:s=[62]
 · simp [h7]
 by_cases h8:s=[62,61]
 · simp [h8]
 by_cases h9:s=[43]
 · simp [h9]
 by_cases h10:s=[45]
 · simp [h10]
 by_cases h11:s=[42]
 · simp [h11]
 by_cases h12:s=[47]
 · simp [h12]
 by_cases jq:s=[37]
 · simp [jq]
 simp [h1,h2,h3,h4,h5,h6,h7,h8,h9,h10,h11,h12,jq] at h
end Go.Ft

namespace Go.Ft
open Go
attribute [local congr] jE
theorem aeg (p:Bool) (q:Bool):(if p=true then some true else some q)=some (p || q):=by cases p <;> rfl
theorem PD (p:Bool) (q:Bool):(if p=true then some q else some false)=some (p && q):=by cases p <;> rfl
end Go.Ft

namespace Go.Ft
open Go
attribute [local congr] jE
mutual
def ofT :ah→Ty
 | ⟨k,_,_,_,l,_⟩=>if k=0 then sc 1 else if k=1 then sc 2 else if k=2 then sc 3 else if k=3 then sc 4 else .nest (if k=4 then 5 else 6) (ajG l (sc 7))
def ajG :List ah→Ty→Ty
 | [],t=>t
 | x :: r,t=>ajG r (agY t (ofT x))
end
theorem Zq {v:ah} {level:Nat} (h:ny v level=0):level≤16∧0≤v.kind∧v.kind≤5∧(v.kind=4∨v.kind=5→v.aI=[]→level≠16):=by
 unfold ny at h
 by_cases h0:16 < level
 · simp [h0] at h
 ·
  rw [if_neg h0] at h
  cases h1:(decide (v.kind < 0) || decide (5 < v.kind) || !qH v) with
  | true=>rw [h1] at h; simp at h
  | false=>
   rw [h1] at h
   simp only [Bool.or_eq_false_iff,decide_eq_false_iff_not] at h1
   refine ⟨by omega,by omega,by omega,fun hk hl h16=>?_⟩
   have e1:((((v.kind == 4) || (v.kind == 5)) && ((v.aI.length:Int) == 0)) && (level == 16))=true:=by
    rw [hl,h16]; rcases hk with hk | hk <;> simp [hk]
   rw [e1] at h
   simp only [Bool.false_eq_true,if_false,if_true] at h
   split at h
   · omega
   ·
    split at h
    · omega
    · split at h <;> omega
theorem Ua :∀ {l:List ah} {level:Nat},C_ l level=0→∀ x∈l,uZ x level=0
 | [],_,_,x,hx=>by cases hx
 | y :: r,level,h,x,hx=>by
  rw [C_] at h
  by_cases hy:uZ y level=0
  ·
   rw [if_neg (by simpa using hy)] at h
   rcases List.mem_cons.1 hx with rfl | hx
   · exact hy
   · exact Ua h x hx
  · rw [if_pos (by simpa using hy)] at h; exact absurd h hy
theorem abO {v:ah} {level:Nat} (h:uZ v level=0):ny v level=0∧∀ x∈v.aI,uZ x (level + 1)=0:=by
 rw [LG] at h
 by_cases hn:ny v level=0
 ·
  rw [if_neg (by simpa using hn)] at h
  exact ⟨hn,Ua h⟩
 · rw [if_pos (by simpa using hn)] at h; exact absurd h hn
theorem afH {s:Str} (h:s.length < 4611686018427387000):jY (aj.mk 2 s (ah.mk 0 false 0 ([]:Str) [] []) [] [])=some (if nY s then 0 else 1):=by
 have hb:(aj.mk 2 s (ah.mk 0 false 0 ([]:Str) [] []) [] []).bulk < 4611686018427387904:=by
  simp only [aj.bulk,ah.bulk,ah.lZ,aj.lZ,List.map_nil,List.sum_nil,List.length_nil]; omega
 rw [(Gf hb).1]
 have e1:ecnt (aj.mk 2 s (ah.mk 0 false 0 ([]:Str) [] []) [] [])=1:=by rw [tL]; rfl
 unfold xval
 rw [e1,JM]
 have e2:rV (aj.mk 2 s (ah.mk 0 false 0 ([]:Str) [] []) [] [])=nY s:=by
  have:Ob (ah.mk 0 false 0 ([]:Str) [] [])=true:=rfl
  simp [rV,Ab,this,Al,sW,Cb]
 have e3:tY (aj.mk 2 s (ah.mk 0 false 0 ([]:Str) [] []) [] []) 1=if nY s then 0 else 1:=by
  unfold tY
  rw [e2]
  cases nY s <;> simp [K_]
 rw [e3]
 cases nY s <;> simp [Il]
end Go.Ft

namespace Go.Ft
open Go
attribute [local congr] jE
theorem TT :∀ {l:List aj} {level:Nat},Il l level=0→∀ x∈l,zG x level=0
 | [],_,_,x,hx=>by cases hx
 | y :: r,level,h,x,hx=>by
  rw [Il] at h
  by_cases hy:zG y level=0
  ·
   rw [if_neg (by simpa using hy)] at h
   rcases List.mem_cons.1 hx with rfl | hx
   · exact hy
   · exact TT h x hx
  · rw [if_pos (by simpa using hy)] at h; exact absurd h hy
theorem KN {e:aj} {level:Nat} (h:tY e level=0):rV e=true∧(e.kind=1→uZ e.value 1=0)∧e.args.length≤1024:=by
 unfold tY at h
 split at h
 · omega
 ·
  cases h1:rV e with
  | false=>rw [h1] at h; simp at h
  | true=>
   rw [h1] at h
   simp only [Bool.not_true,Bool.false_eq_true,if_false] at h
   by_cases h2:(e.kind == 1 && (uZ e.value 1 != 0))=true
   ·
    rw [if_pos h2] at h
    simp [h] at h2
   ·
    rw [if_neg h2] at h
    refine ⟨rfl,fun hk=>?_,?_⟩
    ·
     simp only [Bool.and_eq_true,beq_iff_eq,bne_iff_ne,not_and] at h2
     have:=h2 hk
     simpa using this
    ·
     split at h
     · omega
     · rename_i h3; simp only [decide_eq_true_eq] at h3; omega
theorem M8 {e:aj} {level:Nat} (h:zG e level=0):tY e level=0∧∀ x∈e.args,zG x (level + 1)=0:=by
 rw [JM] at h
 by_cases hn:tY e level=0
 ·
  rw [if_neg (by simpa using hn)] at h
  exact ⟨hn,TT h⟩
 · rw [if_pos (by simpa using hn)] at h; exact absurd h hn
theorem Wp {e:aj} (h:rV e=true):Ab e=true∧Al e=true∧sW e=true:=by
 unfold rV at h
 simp only [Bool.and_eq_true] at h
 exact ⟨h.1.1.1.1,h.1.1.2,h.1.2⟩
theorem len1 {α:Type} {l:List α} (h:l.length=1):∃ a,l=[a]:=by
 match l,h with
 | [a],_=>exact ⟨a,rfl⟩
theorem len2 {α:Type} {l:List α} (h:l.length=2):∃ a b,l=[a,b]:=by
 match l,h with
 | [a,b],_=>exact ⟨a,b,rfl⟩
theorem akL {α:Type} {l:List α} (h:l.length=3):∃ a b c,l=[a,b,c]:=by
 match l,h with
 | [a,b,c],_=>exact ⟨a,b,c,rfl⟩
end Go.Ft

namespace Go.Ft
open Go
attribute [local congr] jE
mutual
def SN :aj→List Str
 | ⟨k,s,_,args,_⟩=>(if k == 2 then [s] else []) ++ nmL args
def nmL :List aj→List Str
 | []=>[]
 | x :: r=>SN x ++ nmL r
end
theorem QG (e:aj):SN e=(if e.kind == 2 then [e.name] else []) ++ nmL e.args:=by cases e; rfl
theorem aa6 :∀ (l:List aj),(∀ x∈l,(SN x).length≤ecnt x)→(nmL l).length≤vR l
 | [],_=>by simp [nmL]
 | x :: r,h=>by
  simp only [nmL,vR,List.length_append]
  have:=h x (by simp)
  have:=aa6 r fun y hy=>h y (by simp [hy])
  omega
theorem Pw :∀ (n:Nat) (e:aj),e.bulk≤n→(SN e).length≤ecnt e
 | 0,e,h=>by have:=e.gF; omega
 | n + 1,e,h=>by
  rw [QG,tL,List.length_append]
  have:=aa6 e.args fun x hx=>Pw n x (by have:=fF hx; omega)
  split <;> simp <;> omega
theorem VY :∀ (l:List aj) (s:Str),s∈nmL l↔∃ x∈l,s∈SN x
 | [],s=>by simp [nmL]
 | x :: r,s=>by simp [nmL,VY r s]
theorem Uz :∀ (n:Nat) (e:aj),e.bulk≤n→∀ s∈SN e,s.length < e.bulk
 | 0,e,h,s,hs=>by have:=e.gF; omega
 | n + 1,e,h,s,hs=>by
  rw [QG,List.mem_append,VY] at hs
  rcases hs with hs | ⟨x,hx,hs⟩
  ·
   split at hs
   ·
    simp only [List.mem_singleton] at hs
    subst hs
    exact UU e
   · simp at hs
  ·
   have h1:=Uz n x (by have:=fF hx; omega) s hs
   have:=fF hx
   omega
theorem ahn {go:aj→Option (List Str)}:∀ (l:List aj) (i:Nat) (out:List Str),(∀ x∈l,go x=some (SN x))→out.length + (nmL l).length≤rC→
  dQ (fun _ e2 (o:List Str) r=>au (go e2) fun x1=>au (app o x1) fun l3=>r l3) (fun o=>some o) i l out=some (out ++ nmL l)
 | [],i,out,_,_=>by simp [dQ,nmL]
 | x :: r,i,out,h,hl=>by
  simp only [nmL,List.length_append] at hl ⊢
  rw [dQ,h x (by simp)]
  simp only [ay]
  rw [q8 (by omega),ay,ahn r (i + 1) (out ++ SN x) (fun y hy=>h y (by simp [hy])) (by simp only [List.length_append]; omega),List.append_assoc]
theorem XJ :∀ (n:Nat) (e:aj),e.bulk≤n→e.bulk < 4294967296→lU (n + 1) e=some (SN e)
 | 0,e,h,_=>by have:=e.gF; omega
 | n + 1,e,h,hB=>by
  have hal:=Am e
  have hlen:=Pw _ e (Nat.le_refl _)
  have hcnt:=Ba _ e (Nat.le_refl _)
  have hlim:(SN e).length≤rC:=by unfold rC; omega
  unfold lU Em
  have s1:=dP (F:=fun k s i=>yD (lU (n + 1)) e k s i) (l:=e.args) (body:=fun _ a1 (o:List Str) r=>au (lU (n + 1) a1) fun x1=>au (app o x1) fun l3=>r l3) (fin:=fun o=>some o) (by omega) (fun k s i=>rfl)
  have s2:=dP (F:=fun k s i=>yC (lU (n + 1)) e k s i) (l:=e.args) (body:=fun _ a1 (o:List Str) r=>au (lU (n + 1) a1) fun x1=>au (app o x1) fun l3=>r l3) (fin:=fun o=>some o) (by omega) (fun k s i=>rfl)
  have hgo:∀ x∈e.args,lU (n + 1) x=some (SN x):=fun x hx=>XJ n x (by have:=fF hx; omega) (by have:=fF hx; omega)
  rw [QG] at hlim ⊢
  rw [List.length_append] at hlim
  by_cases hk:(e.kind == 2)=true
  ·
   simp only [hk,if_true] at hlim ⊢
   rw [q8 (by simp at hlim ⊢; omega),ay,s1,ahn e.args 0 _ hgo (by simp at hlim ⊢; omega)]
   simp
  ·
   simp only [Bool.not_eq_true] at hk
   simp only [hk,Bool.false_eq_true,if_false,List.nil_append] at hlim ⊢
   rw [s2,ahn e.args 0 _ hgo (by simpa using hlim)]
   simp
theorem ab2 {e:aj} (h:e.bulk < 4294967296):JZ e=some (SN e):=by
 obtain ⟨n,hn,hn2⟩:=ru
 unfold JZ
 rw [hn]
 exact XJ n e (by omega) h
theorem abA {l:List Str} {a:Nat} {x:Str} (hl:asc l) (ha:a≤l.length) (h1:∀ i,(hi:i < l.length)→i < a→fA l[i] x < 0) (h2:∀ i,(hi:i < l.length)→a≤i→fA x l[i] < 0):asc (l.take a ++ [x] ++ l.drop a):=by
 unfold asc at *
 rw [List.append_assoc,List.pairwise_append]
 refine ⟨hl.sublist (List.take_sublist _ _),?_,?_⟩
 ·
  rw [List.singleton_append,List.pairwise_cons]
  refine ⟨fun y hy=>?_,hl.sublist (List.drop_sublist _ _)⟩
  obtain ⟨i,hi,rfl⟩:=List.mem_iff_getElem.1 hy
  rw [List.getElem_drop]
  exact h2 _ _ (by omega)
 ·
  intro y hy z hz
  obtain ⟨i,hi,rfl⟩:=List.mem_iff_getElem.1 hy
  have hi':i < a:=by simp at hi; omega
  rw [List.getElem_take]
  have hyx:=h1 i (by omega) hi'
  rw [List.singleton_append,List.mem_cons] at hz
  rcases hz with rfl | hz
  · exact hyx
  ·
   obtain ⟨j,hj,rfl⟩:=List.mem_iff_getElem.1 hz
   rw [List.getElem_drop]
   exact vG hyx (h2 _ _ (by omega))
theorem agt {l:List Str} (hl:asc l) {i j:Nat} (hij:i < j) (hj:j < l.length):fA l[i] l[j] < 0:=List.pairwise_iff_getElem.1 hl i j (by omega) hj hij
theorem Yp {names out:List Str} {i:Nat} (hi:i < names.length) (hn:∀ s∈names,s.length < 4611686018427387904) (ho:∀ s∈out,s.length < 4611686018427387904) (hlen:out.length + 1≤rC) (hout:asc out)
  (go:List Str→Int→Option (List Str)) (hin:names.length < 4611686018427387904):∀ (a k:Nat),a < k→a≤out.length→(∀ j,(hj:j < out.length)→a≤j→fA names[i] out[j] < 0)→
  ∃ out',asc out'∧(∀ x,x∈out'↔x∈out∨x=names[i])∧out'.length≤out.length + 1∧qy names out (i:Int) go k (a:Int)=go out' (((i + 1:Nat)):Int)
 | a,0,h,_,_=>by omega
 | 0,k + 1,_,_,hge=>by
  refine ⟨[names[i]] ++ out,?_,?_,?_,?_⟩
  ·
   have:=abA (a:=0) (x:=names[i]) hout (by omega) (fun j hj hja=>by omega) (fun j hj hja=>hge j hj hja)
   simpa using this
  · intro x; simp [or_comm]
  · simp
  ·
   unfold rC at hlen
   have hsl:sl out ((0:Nat):Int) (out.length:Int)=some out:=by rw [IC (by omega) (by omega) (by omega)]; simp
   have hsl0:sl out 0 ((0:Nat):Int)=some []:=by rw [IC (by omega) (by omega) (by omega)]; simp
   rw [qy]
   rw [if_neg (by simp)]
   simp only [ay,Bool.false_eq_true,if_false]
   rw [if_neg (by simp)]
   simp only [ay,Bool.false_eq_true,if_false]
   rw [hsl0,ay,q8 (by simp),ay,rA hi,ay,q8 (by simp [rC]),ay,hsl,ay,q8 (by simp [rC]; omega),ay,zB (by omega)]
   simp
 | a + 1,k + 1,hk,ha,hge=>by
  unfold rC at hlen
  have hw:bS (((a + 1:Nat):Int) - 1)=(a:Int):=by rw [qG (by omega)]; omega
  have hx:=hn _ (List.getElem_mem hi)
  have hy:=ho _ (List.getElem_mem (show a < out.length by omega))
  rw [qy]
  rw [if_pos (by simp),rA hi,ay,hw,rA (show a < out.length by omega),ay,GD hx hy]
  simp only [ay]
  by_cases hlt:fA names[i] out[a] < 0
  ·
   simp only [hlt,decide_true,if_true]
   exact Yp hi hn ho (by unfold rC; omega) hout go hin a k (by omega) (by omega) (fun j hj hja=>by
    rcases Nat.lt_or_ge a j with h | h
    · exact hge j hj (by omega)
    ·
     have:j=a:=by omega
     subst this
     exact hlt)
  ·
   simp only [hlt,decide_false,Bool.false_eq_true,if_false]
   rw [if_pos (by simp)]
   simp only [ay]
   by_cases heq:out[a]=names[i]
   ·
    refine ⟨out,hout,?_,by omega,?_⟩
    ·
     intro x
     constructor
     · exact .inl
     ·
      rintro (h | rfl)
      · exact h
      · rw [←heq]; exact List.getElem_mem _
    ·
     simp only [heq,beq_self_eq_true,if_true]
     rw [zB (by omega)]
   ·
    have hgt:fA out[a] names[i] < 0:=by
     have h1:=mh names[i] out[a]
     rcases Int.lt_trichotomy (fA out[a] names[i]) 0 with h | h | h
     · exact h
     · exact absurd (rF h) heq
     · omega
    have hb:(out[a] == names[i])=false:=by simpa using heq
    simp only [hb,Bool.false_eq_true,if_false]
    have hsl:sl out ((a + 1:Nat):Int) (out.length:Int)=some (out.drop (a + 1)):=by rw [IC (by omega) (by omega) (by omega)]; simp
    have hsl0:sl out 0 ((a + 1:Nat):Int)=some (out.take (a + 1)):=by rw [IC (by omega) (by omega) (by omega)]; simp
    refine ⟨out.take (a + 1) ++ [names[i]] ++ out.drop (a + 1),abA hout ha (fun j hj hja=>?_) (fun j hj hja=>hge j hj hja),?_,?_,?_⟩
    ·
     rcases Nat.lt_or_ge j a with h | h
     · exact vG (agt hout h (by omega)) hgt
     ·
      have:j=a:=by omega
      subst this
      exact hgt
    ·
     intro x
     have:x∈out↔x∈out.take (a + 1)∨x∈out.drop (a + 1):=by rw [←List.mem_append,List.take_append_drop]
     rw [this]
     simp only [List.mem_append,List.mem_singleton]
     constructor
     ·
      rintro ((h | h) | h)
      · exact .inl (.inl h)
      · exact .inr h
      · exact .inl (.inr h)
     ·
      rintro ((h | h) | h)
      · exact .inl (.inl h)
      · exact .inr h
      · exact .inl (.inr h)
    · simp; omega
    ·
     rw [hsl0,ay,q8 (by simp [rC]; omega),ay,q8 (by simp [rC]; omega),ay,hsl,ay,q8 (by simp [rC]; omega),ay,zB (by omega)]
     simp
theorem LV {names:List Str} (hn:∀ s∈names,s.length < 4611686018427387904) (hin:names.length < rC):∀ (k i:Nat) (out:List Str),names.length < k + i→i≤names.length→asc out→(∀ x,x∈out↔x∈names.take i)→out.length≤i→
  ∃ r,n_ names k out (i:Int)=some r∧asc r∧∀ x,x∈r↔x∈names
 | 0,i,out,h,h',_,_,_=>by omega
 | k + 1,i,out,h,h',ha,hm,hl=>by
  unfold rC at hin
  rw [n_]
  by_cases hi:i < names.length
  ·
   rw [if_pos (by simp; omega)]
   have ho:∀ s∈out,s.length < 4611686018427387904:=fun s hs=>hn s (List.mem_of_mem_take ((hm s).1 hs))
   obtain ⟨out',a1,a2,a3,a4⟩:=Yp hi hn ho (by unfold rC; omega) ha (n_ names k) (by omega) out.length BIG (by have:=j_; omega) (Nat.le_refl _) (fun j hj hja=>by omega)
   rw [a4]
   refine LV hn (by unfold rC; omega) k (i + 1) out' (by omega) (by omega) a1 (fun x=>?_) (by omega)
   rw [a2,hm,List.take_succ_eq_append_getElem hi,List.mem_append,List.mem_singleton]
  ·
   rw [if_neg (by simp; omega)]
   refine ⟨out,rfl,ha,fun x=>?_⟩
   rw [hm,List.take_of_length_le (by omega)]
theorem ZI {l:List Str} (hn:∀ s∈l,s.length < 4611686018427387904) (hl:l.length < rC):Dp l=some (I9 l):=by
 obtain ⟨r,h1,h2,h3⟩:=LV hn hl BIG 0 [] (by have:=j_; unfold rC at hl; omega) (by omega) List.Pairwise.nil (fun x=>by simp) (by simp)
 unfold Dp
 rw [show (0:Int)=((0:Nat):Int) from rfl,h1]
 congr 1
 exact Sk h2 (aaz l) (fun x=>by rw [h3,QN])
theorem ab6 {e:aj} (h:e.bulk < 4294967296):FJ e=some (I9 (SN e)):=by
 have hlen:=Pw _ e (Nat.le_refl _)
 have hcnt:=Ba _ e (Nat.le_refl _)
 unfold FJ
 rw [ab2 h,ay]
 exact ZI (fun s hs=>by have:=Uz _ e (Nat.le_refl _) s hs; omega) (by unfold rC; omega)
theorem Z4 (l:List Str):(I9 l).length≤l.length:=by
 have h:∀ l:List Str,(dd l).length≤l.length:=by
  intro l
  fun_induction dd l <;> simp_all <;> omega
 have:=h (Px l)
 rw [(Me l).length_eq] at this
 exact this
end Go.Ft

namespace Go.Ft
open Go
attribute [local congr] jE
def ZV :ah:=ah.mk 0 false 0 ([]:Str) [] []
theorem aiO (level:Nat) (h:level≤16):uZ ZV level=0:=by
 have h0:ny ZV level=0:=by
  unfold ny
  rw [if_neg (by omega)]
  simp [ZV,qH]
 rw [LG,h0]
 simp [ZV,C_]
theorem PS :ZV.bulk=7:=by unfold ZV ah.bulk ah.lZ; simp
theorem Lb {go:ah→Option ah} {R:Type} {fin:ah→Option R}:∀ (l:List ah) (i:Nat) (out:ah),(∀ x∈l,go x=some x)→out.aI.length + l.length≤rC→
  dQ (fun _ x (out:ah) r=>au (go x) fun x3=>au (app out.aI [x3]) fun x4=>r (ah.mk out.kind out.dh out.bZ out.bI x4 out.keys)) fin i l out
   =fin (ah.mk out.kind out.dh out.bZ out.bI (out.aI ++ l) out.keys)
 | [],i,out,_,_=>by cases out; simp [dQ]
 | x :: l,i,out,h,hl=>by
  simp only [List.length_cons] at hl
  rw [dQ,h x (by simp),ay,q8 (by simp; omega),ay]
  refine (Lb l (i + 1) _ (fun y hy=>h y (by simp [hy])) (by simp; omega)).trans ?_
  simp
theorem Xq {S:ah→Prop} (hS:∀ v,S v→v.aI.length≤rC∧v.keys.length≤rC∧∀ x∈v.aI,S x):∀ (n:Nat) (v:ah),v.bulk≤n→v.bulk < 4611686018427387904→S v→lu (n + 1) v=some v∧mO (n + 1) v=some v
 | 0,v,h,_,_=>by have:=v.gF; omega
 | n + 1,v,h,hb,hs=>by
  obtain ⟨hl,hk,hm⟩:=hS v hs
  have ih:∀ x∈v.aI,lu (n + 1) x=some x∧mO (n + 1) x=some x:=fun x hx=>Xq hS n x (by have:=iH hx; omega) (by have:=iH hx; omega) (hm x hx)
  have hL:rC=4294967296:=rfl
  constructor
  ·
   rw [lu,AA,kP,q8 (by simp; omega),ay]
   rw [dP (F:=fun k s i=>um (lu (n + 1)) v k i s) (l:=v.aI) (body:=fun _ x (out:ah) r=>au (lu (n + 1) x) fun x3=>au (app out.aI [x3]) fun x4=>r (ah.mk out.kind out.dh out.bZ out.bI x4 out.keys)) (fin:=fun out=>some out) (by omega) (fun k s i=>rfl)]
   rw [Lb v.aI 0 _ (fun x hx=>(ih x hx).1) (by simp; omega)]
   cases v; simp
  ·
   rw [mO,Cx]
   rw [dP (F:=fun k s i=>wL (mO (n + 1)) v k i s) (l:=v.aI) (body:=fun _ x (out:ah) r=>au (mO (n + 1) x) fun x3=>au (app out.aI [x3]) fun x4=>r (ah.mk out.kind out.dh out.bZ out.bI x4 out.keys)) (fin:=fun out=>au (app out.keys v.keys) fun x4=>some (ah.mk out.kind out.dh out.bZ out.bI out.aI x4)) (by omega) (fun k s i=>rfl)]
   rw [Lb v.aI 0 _ (fun x hx=>(ih x hx).2) (by simp; omega),q8 (by simp; omega)]
   cases v; simp
theorem Xr {S:ah→Prop} (hS:∀ v,S v→v.aI.length≤rC∧v.keys.length≤rC∧∀ x∈v.aI,S x) {v:ah} (h:S v) (hb:v.bulk < 4611686018427387904):mU v=some v∧rT v=some v:=by
 obtain ⟨n,hn,hn2⟩:=ru
 unfold mU rT
 rw [hn]
 exact Xq hS n v (by omega) hb h
theorem T_ {v:ah} (h:v.bulk≤rC):mU v=some v∧rT v=some v:=
 Xr (S:=fun v=>v.bulk≤rC) (fun v h=>⟨by have:=uX v; omega,by have:=uY v; omega,fun x hx=>by have:=iH hx; omega⟩) h (by have hL:rC=4294967296:=rfl; omega)
theorem abY {a:ah} (ha:a.keys.length < 4611686018427387904) (go:ah→ah→Option Bool):uE go a a BIG 0=mY go a a BIG 0:=by
 rw [dP (F:=fun k (_:Unit) i=>uE go a a k i) (l:=a.keys) (body:=fun (i:Nat) e1 (_:Unit) r=>au (idx a.keys (i:Int)) fun e2=>if !(e1 == e2) then some false else r ()) (fin:=fun _=>mY go a a BIG 0) ha (fun k s i=>rfl) ()]
 have key:∀ (t:List Str) (i:Nat),t=a.keys.drop i→dQ (fun (i:Nat) e1 (_:Unit) r=>au (idx a.keys (i:Int)) fun e2=>if !(e1 == e2) then some false else r ()) (fun _=>mY go a a BIG 0) i t ()=mY go a a BIG 0:=by
  intro t
  induction t with
  | nil=>intro i _; rfl
  | cons d t ih=>
   intro i ht
   have hi:i < a.keys.length:=by
    rcases Nat.lt_or_ge i a.keys.length with h | h
    · exact h
    · rw [List.drop_eq_nil_of_le h] at ht; cases ht
   have hc:=List.drop_eq_getElem_cons hi
   rw [←ht] at hc
   have e1':=(List.cons.inj hc).1
   have e2':=(List.cons.inj hc).2
   rw [dQ,rA hi,ay,←e1',if_neg (by simp)]
   exact ih (i + 1) e2'
 exact key _ 0 rfl
theorem ZH {a:ah} (ha:a.aI.length < 4611686018427387904) {go:ah→ah→Option Bool} (h:∀ x∈a.aI,go x x=some true):mY go a a BIG 0=some true:=by
 rw [dP (F:=fun k (_:Unit) i=>mY go a a k i) (l:=a.aI) (body:=fun (i:Nat) e1 (_:Unit) r=>au (idx a.aI (i:Int)) fun e2=>au (go e1 e2) fun x1=>if !x1 then some false else r ()) (fin:=fun _=>some true) ha (fun k s i=>rfl) ()]
 have key:∀ (t:List ah) (i:Nat),t=a.aI.drop i→dQ (fun (i:Nat) e1 (_:Unit) r=>au (idx a.aI (i:Int)) fun e2=>au (go e1 e2) fun x1=>if !x1 then some false else r ()) (fun _=>some true) i t ()=some true:=by
  intro t
  induction t with
  | nil=>intro i _; rfl
  | cons d t ih=>
   intro i ht
   have hi:i < a.aI.length:=by
    rcases Nat.lt_or_ge i a.aI.length with h | h
    · exact h
    · rw [List.drop_eq_nil_of_le h] at ht; cases ht
   have hc:=List.drop_eq_getElem_cons hi
   rw [←ht] at hc
   have e1':=(List.cons.inj hc).1
   have e2':=(List.cons.inj hc).2
   rw [dQ,rA hi,ay,←e1',h d (by rw [e1']; exact List.getElem_mem hi),ay,if_neg (by simp)]
   exact ih (i + 1) e2'
 exact key _ 0 rfl
theorem aaY :∀ (n:Nat) (v:ah),v.bulk≤n→v.bulk < 4611686018427387904→uD (n + 1) v v=some true
 | 0,v,h,_=>by have:=v.gF; omega
 | n + 1,v,h,hb=>by
  have hl:=uX v
  have hk:=uY v
  rw [uD,Dl,if_neg (by simp),abY (by omega)]
  exact ZH (by omega) fun x hx=>aaY n x (by have:=iH hx; omega) (by have:=iH hx; omega)
theorem aaZ {v:ah} (h:v.bulk < 4611686018427387904):r9 v v=some true:=by
 obtain ⟨n,hn,hn2⟩:=ru
 unfold r9
 rw [hn]
 exact aaY n v (by omega) h
def Ii :List Str→List ah→Str→Option ah
 | k :: ks,x :: xs,q=>if k=q then some x else Ii ks xs q
 | _,_,_=>none
theorem Yw :∀ {ks:List Str} {xs:List ah} {q:Str} {v:ah},Ii ks xs q=some v→v∈xs
 | k :: ks,x :: xs,q,v,h=>by
  rw [Ii] at h
  split at h
  · cases h; simp
  · simp [Yw h]
 | [],_,_,_,h=>by simp [Ii] at h
 | _ :: _,[],_,_,h=>by simp [Ii] at h
theorem Yv (ks:List Str) (q:Str):Ii ks [] q=none:=by cases ks <;> rfl
def Ny (v:ah) (q:Str):Option ah:=if v.kind=5 then Ii v.keys v.aI q else none
def ZX :Option ah→ah × Bool
 | some x=>(x,true)
 | none=>(ZV,false)
theorem Qn (v:ah) (q:Str) (hv:v.keys.length < 4611686018427387904):∀ (k i:Nat),v.keys.length < k + i→i≤v.keys.length→zX v q k (i:Int)=some (ZX (Ii (v.keys.drop i) (v.aI.drop i) q))
 | 0,i,h,h'=>by omega
 | k + 1,i,h,h'=>by
  rw [zX]
  by_cases hi:i < v.keys.length
  ·
   rw [if_pos (by simp; omega),rA hi,ay,List.drop_eq_getElem_cons hi]
   by_cases hl:i < v.aI.length
   ·
    rw [List.drop_eq_getElem_cons hl,Ii]
    by_cases he:v.keys[i]=q
    · rw [if_pos (by simpa using he),if_pos he,if_neg (by simp; omega),rA hl]; rfl
    · rw [if_neg (by simpa using he),if_neg he,zB (by omega),Qn v q hv k (i + 1) (by omega) (by omega)]
   ·
    have e0:v.aI.drop i=[]:=List.drop_eq_nil_of_le (by omega)
    have e1:v.aI.drop (i + 1)=[]:=List.drop_eq_nil_of_le (by omega)
    rw [e0,Yv]
    by_cases he:v.keys[i]=q
    · rw [if_pos (by simpa using he),if_pos (by simp; omega)]; rfl
    · rw [if_neg (by simpa using he),zB (by omega),Qn v q hv k (i + 1) (by omega) (by omega),e1,Yv]
  ·
   have:i=v.keys.length:=by omega
   subst this
   rw [if_neg (by simp),List.drop_length]
   cases v.aI.drop v.keys.length <;> rfl
theorem VN {v:ah} (hv:v.keys.length < 4611686018427387904) (q:Str):Gt v q=some (ZX (Ny v q)):=by
 unfold Gt Ny
 by_cases h:v.kind=5
 ·
  rw [if_neg (by simpa using h),if_pos h]
  exact Qn v q hv BIG 0 (by have:=j_; omega) (by omega)
 · rw [if_pos (by simpa using h),if_neg h]; rfl
theorem acr (l:List Str) (q:Str) (hl:l.length < 4611686018427387904):∃ j:Int,jy l q=some j∧((j=-1∧q∉l)∨∃ i:Nat,j=i∧∃ h:i < l.length,l[i]=q∧∀ k (hk:k < i),l[k]'(by omega)≠q):=by
 unfold jy
 rw [dP (F:=fun k (_:Unit) i=>iW l q k i) (l:=l) (body:=fun (i:Nat) e1 (_:Unit) r=>if q == e1 then some (i:Int) else r ()) (fin:=fun _=>some (-1)) hl (fun k s i=>rfl) ()]
 have key:∀ (t:List Str) (i:Nat),t=l.drop i→(∀ k (hk:k < i) (hl:k < l.length),l[k]≠q)→∃ j:Int,dQ (fun (i:Nat) e1 (_:Unit) r=>if q == e1 then some (i:Int) else r ()) (fun _=>some (-1)) i t ()=some j∧((j=-1∧q∉l)∨∃ i:Nat,j=i∧∃ h:i < l.length,l[i]=q∧∀ k (hk:k < i),l[k]'(by omega)≠q):=by
  intro t
  induction t with
  | nil=>
   intro i ht hne
   refine ⟨-1,rfl,.inl ⟨rfl,fun hm=>?_⟩⟩
   obtain ⟨k,hk,he⟩:=List.mem_iff_getElem.1 hm
   have:l.length≤i:=by
    rcases Nat.lt_or_ge i l.length with h | h
    · rw [List.drop_eq_getElem_cons h] at ht; cases ht
    · exact h
   exact hne k (by omega) hk he
  | cons d t ih=>
   intro i ht hne
   have hi:i < l.length:=by
    rcases Nat.lt_or_ge i l.length with h | h
    · exact h
    · rw [List.drop_eq_nil_of_le h] at ht; cases ht
   have hc:=List.drop_eq_getElem_cons hi
   rw [←ht] at hc
   have e1':=(List.cons.inj hc).1
   have e2':=(List.cons.inj hc).2
   rw [dQ]
   by_cases he:q=d
   ·
    rw [if_pos (by simpa using he)]
    exact ⟨i,rfl,.inr ⟨i,rfl,hi,by rw [←e1',he],fun k hk=>hne k hk (by omega)⟩⟩
   ·
    rw [if_neg (by simpa using he)]
    refine ih (i + 1) e2' fun k hk hkl=>?_
    by_cases hki:k=i
    · subst hki; rw [←e1']; exact fun h=>he h.symm
    · exact hne k (by omega) hkl
 exact key l 0 rfl (fun k hk=>by omega)
theorem abe :∀ (ks:List Str) (xs:List ah) (q:Str) (i:Nat) (h:i < ks.length),ks[i]=q→(∀ k (hk:k < i),ks[k]'(by omega)≠q)→Ii ks xs q=xs[i]?
 | [],_,_,i,h,_,_=>by simp at h
 | k :: ks,[],q,i,h,_,_=>by simp [Ii]
 | k :: ks,x :: xs,q,0,h,he,_=>by simp at he; simp [Ii,he]
 | k :: ks,x :: xs,q,i + 1,h,he,hn=>by
  have h0:=hn 0 (by omega)
  simp only [List.getElem_cons_zero] at h0
  rw [Ii,if_neg h0,List.getElem?_cons_succ]
  exact abe ks xs q i (by simpa using h) (by simpa using he) fun k hk=>by have:=hn (k + 1) (by omega); simpa using this
theorem Rc :∀ (ks:List Str) (xs:List ah) (q:Str),q∉ks→Ii ks xs q=none
 | [],_,_,_=>by simp [Ii]
 | k :: ks,[],q,_=>by simp [Ii]
 | k :: ks,x :: xs,q,h=>by
  simp only [List.mem_cons,not_or] at h
  rw [Ii,if_neg (fun e=>h.1 e.symm),Rc ks xs q h.2]
theorem ahg {v:ah} (hb:v.bulk < 4611686018427387904) (hv:∀ x∈v.aI,mU x=some x) (q:Str):zJ v q=some (ZX (Ny v q)):=by
 have hk:=uY v
 obtain ⟨j,h1,h2⟩:=acr v.keys q (by omega)
 unfold zJ Ny
 rw [h1,ay]
 by_cases h5:v.kind=5
 ·
  rw [if_pos h5]
  rcases h2 with ⟨rfl,hn⟩ | ⟨i,rfl,hi,he,hf⟩
  · rw [if_pos (by simp),Rc _ _ _ hn]; rfl
  ·
   rw [abe _ _ _ i hi he hf]
   by_cases hl:i < v.aI.length
   ·
    rw [if_neg (by simp [h5]; omega),rA hl,ay,List.getElem?_eq_getElem hl,hv _ (List.getElem_mem hl)]
    rfl
   · rw [if_pos (by simp [h5]; omega),List.getElem?_eq_none (by omega)]; rfl
 · rw [if_neg h5,if_pos (by simp [h5])]; rfl
end Go.Ft

namespace Go.Ft
open Go
attribute [local congr] jE
def xq {α:Type} (f:α→α→Int):List α→List α→Int
 | [],[]=>0
 | [],_ :: _=>-1
 | _ :: _,[]=>1
 | x :: xs,y :: ys=>if f x y != 0 then f x y else xq f xs ys
theorem tN {α:Type} {l t:List α} {d:α} {i:Nat} (h:d :: t=l.drop i):∃ hi:i < l.length,d=l[i]∧t=l.drop (i + 1):=by
 have hi:i < l.length:=by
  rcases Nat.lt_or_ge i l.length with h' | h'
  · exact h'
  · rw [List.drop_eq_nil_of_le h'] at h; cases h
 have hc:=List.drop_eq_getElem_cons hi
 rw [←h] at hc
 exact ⟨hi,(List.cons.inj hc).1,(List.cons.inj hc).2⟩
theorem Cy {α:Type} {l:List α} {i:Nat} (h:[]=l.drop i):l.length≤i:=by
 rcases Nat.lt_or_ge i l.length with h' | h'
 · rw [List.drop_eq_getElem_cons h'] at h; cases h
 · exact h'
theorem NJ {α:Type} {a b:List α} {cmp:α→α→Option Int} {f:α→α→Int} (hc:∀ x∈a,∀ y∈b,cmp x y=some (f x y)):∀ (s t:List α) (i:Nat),s=a.drop i→t=b.drop i→i≤a.length→i≤b.length→
  dQ (fun (i:Nat) e1 (_:Unit) r=>if decide ((b.length:Int)≤(i:Int)) then some 1 else au (idx b (i:Int)) fun e2=>au (cmp e1 e2) fun c1=>if c1 != 0 then some c1 else r ())
   (fun _=>if decide ((a.length:Int) < (b.length:Int)) then some (-1) else some 0) i s ()=some (xq f s t)
 | [],[],i,hs,ht,_,_=>by
  have h1:=Cy hs; have h2:=Cy ht
  rw [dQ,xq,if_neg (by simp; omega)]
 | [],y :: t,i,hs,ht,_,_=>by
  have h1:=Cy hs; obtain ⟨h2,_,_⟩:=tN ht
  rw [dQ,xq,if_pos (by simp; omega)]
 | x :: s,[],i,hs,ht,_,_=>by
  have h2:=Cy ht
  rw [dQ,xq,if_pos (by simp; omega)]
 | x :: s,y :: t,i,hs,ht,_,_=>by
  obtain ⟨h1,e1,e2⟩:=tN hs; obtain ⟨h2,e3,e4⟩:=tN ht
  rw [dQ,xq,if_neg (by simp; omega),rA h2,ay,←e3,hc x (by rw [e1]; exact List.getElem_mem h1) y (by rw [e3]; exact List.getElem_mem h2),ay]
  split
  · rfl
  · exact NJ hc s t (i + 1) e2 e4 (by omega) (by omega)
theorem sign_eq (b:Bool):mW b=some (if b then -1 else 1):=by unfold mW; cases b <;> rfl
theorem RF {α:Type} {a b:List α} {cmp:α→α→Option Int} {f:α→α→Int} {g:Int→Option Int} (hg:∀ x∈a,∀ y∈b,g (f x y)=some (f x y)) (hc:∀ x∈a,∀ y∈b,cmp x y=some (f x y)) (ha:a.length < 4611686018427387904) {F:Nat→Int→Option Int}
  (hF:∀ k (i:Nat),F (k + 1) (i:Int)=if (decide ((i:Int) < (a.length:Int))) && (decide ((i:Int) < (b.length:Int))) then au (idx a (i:Int)) fun e1=>au (idx b (i:Int)) fun e2=>au (cmp e1 e2) fun c1=>if c1 != 0 then g c1 else F k (bS ((i:Int) + 1))
   else if (a.length:Int) == (b.length:Int) then some 0 else mW (decide ((a.length:Int) < (b.length:Int)))):
  ∀ (s t:List α) (k i:Nat),s=a.drop i→t=b.drop i→i≤a.length→i≤b.length→a.length < k + i→F k (i:Int)=some (xq f s t)
 | _,_,0,i,_,_,_,_,h=>by omega
 | [],[],k + 1,i,hs,ht,_,_,_=>by
  have h1:=Cy hs; have h2:=Cy ht
  rw [hF,xq,if_neg (by simp; omega),if_pos (by simp; omega)]
 | [],y :: t,k + 1,i,hs,ht,_,_,_=>by
  have h1:=Cy hs; obtain ⟨h2,_,_⟩:=tN ht
  rw [hF,xq,if_neg (by simp; omega),if_neg (by simp; omega),sign_eq,if_pos (by simp; omega)]
 | x :: s,[],k + 1,i,hs,ht,_,_,_=>by
  have h2:=Cy ht; obtain ⟨h1,_,_⟩:=tN hs
  rw [hF,xq,if_neg (by simp; omega),if_neg (by simp; omega),sign_eq,if_neg (by simp; omega)]
 | x :: s,y :: t,k + 1,i,hs,ht,_,_,hk=>by
  obtain ⟨h1,e1,e2⟩:=tN hs; obtain ⟨h2,e3,e4⟩:=tN ht
  have hx:x∈a:=by rw [e1]; exact List.getElem_mem h1
  have hy:y∈b:=by rw [e3]; exact List.getElem_mem h2
  rw [hF,xq,if_pos (by simp; omega),rA h1,ay,rA h2,ay,←e1,←e3,hc x hx y hy,ay]
  split
  · exact hg x hx y hy
  ·
   rw [zB (by omega)]
   exact RF hg hc ha hF s t k (i + 1) e2 e4 (by omega) (by omega) (by omega)
mutual
def qw :ah→ah→Int
 | ⟨k,b,n,s,l,ks⟩,y=>
  if oV k y.kind != 0 then oV k y.kind else if k == 1 then vW (!b && y.dh) (b && !y.dh) else if k == 2 then oV n y.bZ else if k == 3 then DW s y.bI else if k == 4 then Oc l y.aI
  else if k == 5 then (if xq fA ks y.keys != 0 then xq fA ks y.keys else Oc l y.aI) else 0
def Oc :List ah→List ah→Int
 | [],[]=>0
 | [],_ :: _=>-1
 | _ :: _,[]=>1
 | x :: xs,y :: ys=>if qw x y != 0 then qw x y else Oc xs ys
end
theorem T9 :∀ l m:List ah,Oc l m=xq qw l m
 | [],[]=>by rw [Oc,xq]
 | [],_ :: _=>by rw [Oc,xq]
 | _ :: _,[]=>by rw [Oc,xq]
 | x :: xs,y :: ys=>by rw [Oc,xq,T9 xs ys]
theorem JR (x y:ah):qw x y=if oV x.kind y.kind != 0 then oV x.kind y.kind else if x.kind == 1 then vW (!x.dh && y.dh) (x.dh && !y.dh) else if x.kind == 2 then oV x.bZ y.bZ else if x.kind == 3 then DW x.bI y.bI else if x.kind == 4 then xq qw x.aI y.aI
  else if x.kind == 5 then (if xq fA x.keys y.keys != 0 then xq fA x.keys y.keys else xq qw x.aI y.aI) else 0:=by
 cases x; rw [qw,T9]
theorem YN (x y:Int):(if x != y then mW (decide (x < y)) else some 0)=some (oV x y):=by
 unfold oV vW
 rw [sign_eq]
 by_cases h:x=y
 · subst h; simp
 ·
  by_cases h2:x < y
  · simp [h,h2]
  ·
   have:y < x:=by omega
   simp [h,h2,this]
theorem X8 (x y:Str):(if (fA x y != 0)=true then mW (decide (fA x y < 0)) else some 0)=some (fA x y):=by
 rw [sign_eq]
 rcases (show fA x y=-1∨fA x y=0∨fA x y=1 from QV _ _) with h | h | h <;> simp [h]
theorem Zr :∀ (n:Nat) (a b:ah),a.bulk≤n→a.bulk < 4611686018427387904→b.bulk < 4611686018427387904→jr (n + 1) a b=some (qw a b)∧∀ m,2 * n + 2≤m→jS m a b=some (qw a b)
 | 0,a,_,h,_,_=>by have:=a.gF; omega
 | n + 1,a,b,h,hA,hB=>by
  have hla:=uX a; have hka:=uY a
  have hlb:=uX b; have hkb:=uY b
  have ih:∀ x∈a.aI,∀ y∈b.aI,jr (n + 1) x y=some (qw x y)∧∀ m,2 * n + 2≤m→jS m x y=some (qw x y):=
   fun x hx y hy=>Zr n x y (by have:=iH hx; omega) (by have:=iH hx; omega) (by have:=iH hy; omega)
  have ks:∀ x∈a.keys,x.length < 4611686018427387904:=fun x hx=>by have:=JQ hx; omega
  have ks':∀ x∈b.keys,x.length < 4611686018427387904:=fun x hx=>by have:=JQ hx; omega
  constructor
  ·
   rw [jr,wP,JR,rW,ay]
   have hL:bT a.aI b.aI (jr (n + 1))=some (xq qw a.aI b.aI):=by
    unfold bT
    rw [dP (F:=fun k (_:Unit) i=>cO a.aI b.aI (jr (n + 1)) k i) (l:=a.aI)
     (body:=fun (i:Nat) e1 (_:Unit) r=>if decide ((b.aI.length:Int)≤(i:Int)) then some 1 else au (idx b.aI (i:Int)) fun e2=>au (jr (n + 1) e1 e2) fun c1=>if c1 != 0 then some c1 else r ())
     (fin:=fun _=>if decide ((a.aI.length:Int) < (b.aI.length:Int)) then some (-1) else some 0) (by omega) (fun k s i=>rfl) ()]
    exact NJ (fun x hx y hy=>(ih x hx y hy).1) _ _ 0 rfl rfl (by omega) (by omega)
   have hK:eT a.keys b.keys jD=some (xq fA a.keys b.keys):=by
    unfold eT
    rw [dP (F:=fun k (_:Unit) i=>dY a.keys b.keys jD k i) (l:=a.keys)
     (body:=fun (i:Nat) e1 (_:Unit) r=>if decide ((b.keys.length:Int)≤(i:Int)) then some 1 else au (idx b.keys (i:Int)) fun e2=>au (jD e1 e2) fun c1=>if c1 != 0 then some c1 else r ())
     (fin:=fun _=>if decide ((a.keys.length:Int) < (b.keys.length:Int)) then some (-1) else some 0) (by omega) (fun k s i=>rfl) ()]
    exact NJ (fun x hx y hy=>Nn (ks x hx) (ks' y hy)) _ _ 0 rfl rfl (by omega) (by omega)
   rw [hL,hK,rW,RB,ay]
   have hb:(au (uj a.dh) fun x1=>au (uj b.dh) fun x2=>cmp_Compare_int x1 x2)=some (vW (!a.dh && b.dh) (a.dh && !b.dh)):=by
    unfold uj
    cases a.dh <;> cases b.dh <;> simp [rW,oV]
   rw [hb]
   repeat' split
   all_goals rfl
  ·
   intro m hm
   obtain ⟨m,rfl⟩:∃ q,m=q + 2:=⟨m - 2,by omega⟩
   rw [jS,AP,JR,rE,Es]
   have hL:vD (jS m) a.aI b.aI BIG 0=some (xq qw a.aI b.aI):=
    RF (g:=some) (fun x hx y hy=>rfl) (fun x hx y hy=>(ih x hx y hy).2 m (by omega)) (by omega) (F:=vD (jS m) a.aI b.aI) (fun k i=>rfl) _ _ BIG 0 rfl rfl (by omega) (by omega) (by have:=j_; omega)
   have hK:FT a.keys b.keys=some (xq fA a.keys b.keys):=by
    unfold FT
    refine RF (g:=fun c=>if c != 0 then mW (decide (c < 0)) else some 0) (fun x hx y hy=>X8 x y) (fun x hx y hy=>GD (ks x hx) (ks' y hy)) (by omega) (F:=vC a.keys b.keys) (fun k i=>?_) _ _ BIG 0 rfl rfl (by omega) (by omega) (by have:=j_; omega)
    rw [vC]
    congr 1
    congr 1; funext e1
    congr 1; funext e2
    congr 1; funext c
    by_cases hc:(c != 0)=true
    · rw [if_pos hc,if_pos hc,if_pos hc]
    · rw [if_neg hc,if_neg hc]
   rw [hL,hK,ay]
   by_cases hk:a.kind=b.kind
   ·
    have e1:(a.kind != b.kind)=false:=by simpa using hk
    have e2:(oV a.kind b.kind != 0)=false:=by simpa using Ap.2 hk
    rw [e1,e2]
    simp only [Bool.false_eq_true,if_false,YN]
    have hb:(if (!(a.dh == b.dh))=true then mW b.dh else some 0)=some (vW (!a.dh && b.dh) (a.dh && !b.dh)):=by
     rw [sign_eq]; cases a.dh <;> cases b.dh <;> rfl
    have hs:(if (!(a.bI == b.bI))=true then mW (Go.Op.bytesLess a.bI b.bI) else some 0)=some (DW a.bI b.bI):=by
     rw [sign_eq]
     unfold DW vW
     by_cases h:a.bI=b.bI
     · rw [h]; simp [Aw]
     · cases h1:Go.Op.bytesLess a.bI b.bI <;> simp [h]
    rw [hb,hs]
    repeat' split
    all_goals rfl
   ·
    have e1:(a.kind != b.kind)=true:=by simpa using hk
    have e2:(oV a.kind b.kind != 0)=true:=by simpa using fun h=>hk (Ap.1 h)
    have:=YN a.kind b.kind
    rw [if_pos e1] at this
    rw [if_pos e1,if_pos e2,this]
theorem Ll {a b:ah} (hA:a.bulk < 4611686018427387904) (hB:b.bulk < 4611686018427387904):wu a b=some (qw a b)∧Ew a b=some (qw a b):=by
 obtain ⟨n,hn,hn2⟩:=ru
 unfold wu Ew
 constructor
 · rw [hn]; exact (Zr n a b (by omega) hA hB).1
 · exact (Zr a.bulk a b (Nat.le_refl _) hA hB).2 BIG (by have:=j_; omega)
theorem Gb {a b:ah} (hA:a.bulk < 4611686018427387904) (hB:b.bulk < 4611686018427387904):mV a b=some (qw a b == 0)∧sJ a b=some (qw a b == 0):=by
 unfold mV sJ
 rw [(Ll hA hB).1,(Ll hA hB).2]
 exact ⟨rfl,rfl⟩
end Go.Ft

namespace Go.Ft
open Go
attribute [local congr] jE
mutual
def wS :ah→Nat
 | ⟨k,_,_,_,l,_⟩=>if (k == 4) || (k == 5) then Dy l 2 else 1
def Dy :List ah→Nat→Nat
 | [],n=>n
 | x :: r,n=>Dy r (max n (1 + wS x))
end
theorem uK (v:ah):wS v=if (v.kind == 4) || (v.kind == 5) then Dy v.aI 2 else 1:=by cases v; rw [wS]
theorem A8 :∀ (l:List ah) (n m:Nat),Dy l n≤m↔n≤m∧∀ x∈l,1 + wS x≤m
 | [],n,m=>by simp [Dy]
 | x :: r,n,m=>by
  rw [Dy,A8 r]
  simp only [List.mem_cons,forall_eq_or_imp,Nat.max_le]
  exact ⟨fun h=>⟨h.1.1,h.1.2,h.2⟩,fun h=>⟨⟨h.1,h.2.1⟩,h.2.2⟩⟩
theorem aa8 (l:List ah) (n:Nat):n≤Dy l n:=((A8 l n _).1 (Nat.le_refl _)).1
theorem Ym {l:List ah} {n:Nat} {x:ah} (h:x∈l):1 + wS x≤Dy l n:=((A8 l n _).1 (Nat.le_refl _)).2 x h
theorem V7 (v:ah):1≤wS v:=by
 rw [uK]; split
 · have:=aa8 v.aI 2; omega
 · omega
theorem Yl :∀ (n:Nat) (v:ah),v.bulk≤n→wS v≤v.bulk
 | 0,v,h=>by have:=v.gF; omega
 | n + 1,v,h=>by
  rw [uK]; split
  ·
   rw [A8]
   refine ⟨?_,fun x hx=>?_⟩
   · rw [ah.iC]; omega
   ·
    have:=iH hx
    have:=Yl n x (by omega)
    omega
  · exact v.gF
theorem Uq {go:ah→Option Int}:∀ (l:List ah) (i s:Nat),(∀ x∈l,go x=some (wS x:Int))→(∀ x∈l,wS x < 4611686018427387904)→
  dQ (fun _ e1 (n1:Int) r=>au (go e1) fun x1=>r (if n1 < (bS (1 + x1)) then (bS (1 + x1)) else n1)) (fun n1=>some n1) i l (s:Int)=some (Dy l s:Int)
 | [],i,s,_,_=>rfl
 | x :: r,i,s,h,hb=>by
  have hx:=hb x (by simp)
  rw [dQ,h x (by simp),ay,Dy]
  have e:bS (1 + (wS x:Int))=((1 + wS x:Nat):Int):=by rw [qG (by omega)]; omega
  rw [e]
  have e2:(if (s:Int) < ((1 + wS x:Nat):Int) then ((1 + wS x:Nat):Int) else (s:Int))=((max s (1 + wS x):Nat):Int):=by
   split <;> congr 1 <;> omega
  rw [e2]
  exact Uq r (i + 1) _ (fun y hy=>h y (by simp [hy])) (fun y hy=>hb y (by simp [hy]))
theorem ady :∀ (n:Nat) (v:ah),v.bulk≤n→v.bulk < 4611686018427387904→nV (n + 1) v=some (wS v:Int)
 | 0,v,h,_=>by have:=v.gF; omega
 | n + 1,v,h,hb=>by
  have hl:=uX v
  rw [nV,Cm,uK]
  by_cases hk:((v.kind == 4) || (v.kind == 5))=true
  ·
   rw [if_pos hk,if_neg (by simp at hk ⊢; omega)]
   rw [dP (F:=fun k s i=>wC (nV (n + 1)) v k s i) (l:=v.aI) (body:=fun _ e1 (n1:Int) r=>au (nV (n + 1) e1) fun x1=>r (if n1 < (bS (1 + x1)) then (bS (1 + x1)) else n1)) (fin:=fun n1=>some n1) (by omega) (fun k s i=>rfl)]
   exact Uq v.aI 0 2 (fun x hx=>ady n x (by have:=iH hx; omega) (by have:=iH hx; omega)) (fun x hx=>by have:=iH hx; have:=Yl _ x (Nat.le_refl _); omega)
  · rw [if_neg hk,if_pos (by simp at hk ⊢; omega)]; rfl
theorem Qs {v:ah} (h:v.bulk < 4611686018427387904):Dm v=some (wS v:Int):=by
 obtain ⟨n,hn,hn2⟩:=ru
 unfold Dm
 rw [hn]
 exact ady n v (by omega) h
mutual
def Xp :ah→Bool
 | ⟨a,b,c,d,l,f⟩=>(ny ⟨a,b,c,d,l,f⟩ 1 == 0) && ac6 l
def ac6 :List ah→Bool
 | []=>true
 | x :: r=>Xp x && ac6 r
end
theorem Xo :∀ l:List ah,ac6 l=true↔∀ x∈l,Xp x=true
 | []=>by simp [ac6]
 | x :: r=>by simp [ac6,Xo r]
theorem yg (v:ah):Xp v=true↔ny v 1=0∧∀ x∈v.aI,Xp x=true:=by
 cases v; rw [Xp,Bool.and_eq_true,Xo]; simp
theorem TY (v:ah) (level:Nat):ny v level=if 16 < level then 13 else if ny v 1≠0 then ny v 1 else if ((((v.kind == 4) || (v.kind == 5)) && ((v.aI.length:Int) == 0)) && level == 16)=true then 13 else 0:=by
 unfold ny
 have e1:((1:Nat) == 16)=false:=rfl
 rw [e1]
 generalize ((decide (v.kind < 0)) || (decide (5 < v.kind)) || !qH v)=c1
 generalize ((decide (v.bZ < (-9007199254740992))) || (decide (9007199254740992 < v.bZ)))=c2
 generalize (((decide (4096 < (v.bI.length:Int))) || (decide (1024 < (v.aI.length:Int)))) || (decide (1024 < (v.keys.length:Int))))=c3
 generalize (v.kind == 5 && !(((v.keys.length:Int) == (v.aI.length:Int)) && JG none v.keys))=c4
 generalize ((((v.kind == 4) || (v.kind == 5)) && ((v.aI.length:Int) == 0)) && level == 16)=c5
 by_cases h:16 < level
 · rw [if_pos h,if_pos h]
 ·
  rw [if_neg h,if_neg h]
  cases c1 <;> cases c2 <;> cases c3 <;> cases c4 <;> simp
theorem M_ {v:ah} (h:ny v 1=0):qH v=true:=by
 unfold ny at h
 cases hp:qH v with
 | true=>rfl
 | false=>simp [hp] at h
theorem Qa {v:ah} (h:Xp v=true) (hk:((v.kind == 4) || (v.kind == 5))=false):v.aI=[]:=by
 have hp:=M_ ((yg v).1 h).1
 unfold qH at hp
 simp only [Bool.and_eq_true,hk,Bool.false_or,beq_iff_eq] at hp
 exact List.eq_nil_of_length_eq_zero (by omega)
theorem Ub :∀ (l:List ah) (level:Nat),(∀ x∈l,uZ x level=if level + wS x≤17 then 0 else 13)→C_ l level=if ∀ x∈l,level + wS x≤17 then 0 else 13
 | [],level,_=>by simp [C_]
 | x :: r,level,h=>by
  rw [C_,h x (by simp),Ub r level fun y hy=>h y (by simp [hy])]
  by_cases h1:level + wS x≤17
  · simp [h1]
  · simp [h1]
theorem LD :∀ (n:Nat) (v:ah) (level:Nat),v.bulk≤n→Xp v=true→1≤level→uZ v level=if level + wS v≤17 then 0 else 13
 | 0,v,_,h,_,_=>by have:=v.gF; omega
 | n + 1,v,level,h,hv,hl=>by
  obtain ⟨h1,h2⟩:=(yg v).1 hv
  have hp:=V7 v
  have hn:ny v level=if 16 < level then 13 else if ((((v.kind == 4) || (v.kind == 5)) && ((v.aI.length:Int) == 0)) && level == 16)=true then 13 else 0:=by
   rw [TY,h1]; simp
  rw [LG]
  by_cases h16:16 < level
  ·
   rw [if_pos h16] at hn
   rw [hn,if_pos (by simp),if_neg (by omega)]
  ·
   rw [if_neg h16] at hn
   rw [Ub v.aI (level + 1) fun x hx=>LD n x (level + 1) (by have:=iH hx; omega) (h2 x hx) (by omega)]
   cases hk:((v.kind == 4) || (v.kind == 5)) with
   | false=>
    have he:=Qa hv hk
    rw [hk] at hn
    have hl1:wS v=1:=by rw [uK,hk]; rfl
    simp only [Bool.false_and,Bool.false_eq_true,if_false] at hn
    rw [hn,hl1,he,if_neg (by simp),if_pos (by simp),if_pos (by omega)]
   | true=>
    have hl1:wS v=Dy v.aI 2:=by rw [uK,hk]; rfl
    rw [hk] at hn
    simp only [Bool.true_and] at hn
    have key:level + Dy v.aI 2≤17↔level≤15∧∀ x∈v.aI,level + 1 + wS x≤17:=by
     have:=A8 v.aI 2 (17 - level)
     constructor
     ·
      intro h
      obtain ⟨a,b⟩:=this.1 (by omega)
      exact ⟨by omega,fun x hx=>by have:=b x hx; omega⟩
     ·
      rintro ⟨a,b⟩
      have:=this.2 ⟨by omega,fun x hx=>by have:=b x hx; omega⟩
      omega
    rw [hl1]
    by_cases he:v.aI=[]
    ·
     rw [if_pos (c:=∀ x∈v.aI,level + 1 + wS x≤17) (by simp [he])]
     by_cases kC:level=16
     ·
      rw [if_pos (by simp [he,kC])] at hn
      rw [hn,if_pos (by simp),if_neg (fun h=>by have:=key.1 h; omega)]
     ·
      rw [if_neg (by simp [kC])] at hn
      rw [hn,if_neg (by simp),if_pos (key.2 ⟨by omega,by simp [he]⟩)]
    ·
     have hpos:0 < v.aI.length:=List.length_pos_iff.2 he
     rw [if_neg (by simp [he])] at hn
     rw [hn,if_neg (by simp)]
     obtain ⟨x,hx⟩:=List.exists_mem_of_ne_nil _ he
     have hpx:=V7 x
     refine jE (propext (Iff.trans ?_ key.symm))
     exact ⟨fun h=>⟨by have:=h x hx; omega,h⟩,fun h=>h.2⟩
theorem ac5 :∀ (n:Nat) (v:ah) (level:Nat),v.bulk≤n→uZ v level=0→Xp v=true
 | 0,v,_,h,_=>by have:=v.gF; omega
 | n + 1,v,level,h,hc=>by
  obtain ⟨h1,h2⟩:=abO hc
  refine (yg v).2 ⟨?_,fun x hx=>ac5 n x (level + 1) (by have:=iH hx; omega) (h2 x hx)⟩
  rw [TY] at h1
  split at h1
  · omega
  ·
   split at h1
   · exact h1
   · rename_i hq; exact Decidable.not_not.1 hq
def VV (v:ah):Prop:=Xp v=true∧wS v≤16
theorem Fw (v:ah):uZ v 1=0↔VV v:=by
 constructor
 ·
  intro h
  have ho:=ac5 _ v 1 (Nat.le_refl _) h
  refine ⟨ho,?_⟩
  rw [LD _ v 1 (Nat.le_refl _) ho (by omega)] at h
  split at h
  · omega
  · cases h
 ·
  rintro ⟨h1,h2⟩
  rw [LD _ v 1 (Nat.le_refl _) h1 (by omega),if_pos (by omega)]
theorem VV.mem {v x:ah} (h:VV v) (hx:x∈v.aI):VV x:=by
 refine ⟨((yg v).1 h.1).2 x hx,?_⟩
 have h2:=h.2
 rw [uK] at h2
 split at h2
 · have:=Ym (n:=2) hx; omega
 ·
  rename_i hk
  have:=Qa h.1 (by simpa using hk)
  rw [this] at hx; cases hx
theorem akg :VV ZV:=(Fw _).1 (aiO 1 (by omega))
theorem TV {go:Int→ah→Int→Option (Bool × Int)} {level:Nat}:∀ (l:List ah) (i s:Nat),(∀ x∈l,∀ s:Nat,go (s:Int) x ((level + 1:Nat):Int)=some (true,((max s (level + wS x):Nat):Int)))→
  dQ (fun _ x1 (s1:Int) r=>fG (go s1 x1 ((level + 1:Nat):Int)) fun b1 s2=>if !b1 then some (false,s2) else r s2) (fun s1=>some (true,s1)) i l (s:Int)=some (true,((l.foldl (fun s x=>max s (level + wS x)) s:Nat):Int))
 | [],i,s,_=>rfl
 | x :: r,i,s,h=>by
  rw [dQ,h x (by simp),dH,if_neg (by simp)]
  exact TV r (i + 1) _ fun y hy=>h y (by simp [hy])
theorem Yy :∀ (l:List ah) (level s n:Nat),l.foldl (fun s x=>max s (level + wS x)) (max s (level + n))=max s (level + (Dy l (n + 1) - 1))
 | [],level,s,n=>by simp [Dy]
 | x :: r,level,s,n=>by
  rw [List.foldl_cons,Dy]
  have e:max (max s (level + n)) (level + wS x)=max s (level + max n (wS x)):=by omega
  rw [e,Yy r level s]
  congr 3
  rw [show max n (wS x) + 1=max (n + 1) (1 + wS x) from by omega]
theorem ac3 :∀ (n:Nat) (v:ah) (level s:Nat),v.bulk≤n→v.bulk < 4611686018427387904→Xp v=true→1≤level→level + n < 4611686018427387904→gV iK (n + 1) (s:Int) v (level:Int)=some (true,((max s (level - 1 + wS v):Nat):Int))
 | 0,v,_,_,h,_,_,_,_=>by have:=v.gF; omega
 | n + 1,v,level,s,h,hB,hv,hl,hn=>by
  have hll:=uX v
  obtain ⟨h1,h2⟩:=(yg v).1 hv
  rw [gV,u7,iK,dH,if_neg (by simp)]
  have hw:bS ((level:Int) + 1)=((level + 1:Nat):Int):=zB (by omega)
  have ih:∀ x∈v.aI,∀ s:Nat,gV iK (n + 1) (s:Int) x ((level + 1:Nat):Int)=some (true,((max s (level + wS x):Nat):Int)):=fun x hx s=>
   ac3 n x (level + 1) s (by have:=iH hx; omega) (by have:=iH hx; omega) (h2 x hx) (by omega) (by omega)
  have sc:∀ s:Nat,lq (gV iK (n + 1)) v (level:Int) BIG (s:Int) 0=some (true,((v.aI.foldl (fun s x=>max s (level + wS x)) s:Nat):Int)):=by
   intro s
   rw [dP (F:=fun k s i=>lq (gV iK (n + 1)) v (level:Int) k s i) (l:=v.aI) (body:=fun _ x1 (s1:Int) r=>fG (gV iK (n + 1) s1 x1 ((level + 1:Nat):Int)) fun b1 s2=>if !b1 then some (false,s2) else r s2) (fin:=fun s1=>some (true,s1)) (by omega) (fun k s i=>by rw [←hw]; rfl)]
   exact TV v.aI 0 s ih
  unfold rY
  rw [hw,uK]
  cases hk:((v.kind == 4) || (v.kind == 5)) with
  | false=>
   have hnil:=Qa hv hk
   simp only [Bool.false_and,Bool.false_eq_true,if_false]
   have e:(if (s:Int) < (level:Int) then (level:Int) else (s:Int))=((max s level:Nat):Int):=by split <;> omega
   rw [e,sc,hnil]
   simp only [List.foldl_nil]
   rw [show level - 1 + 1=level from by omega]
  | true=>
   simp only [Bool.true_and,if_true]
   by_cases he:v.aI=[]
   ·
    have q:((v.aI.length:Int) == 0)=true:=by simp [he]
    simp only [q,if_true]
    have e:(if (s:Int) < ((level + 1:Nat):Int) then ((level + 1:Nat):Int) else (s:Int))=((max s (level + 1):Nat):Int):=by split <;> omega
    rw [e,sc,he]
    simp only [List.foldl_nil,Dy]
    rw [show level - 1 + 2=level + 1 from by omega]
   ·
    have q:((v.aI.length:Int) == 0)=false:=by simp [he]
    simp only [q,Bool.false_eq_true,if_false]
    have e:(if (s:Int) < (level:Int) then (level:Int) else (s:Int))=((max s (level + 0):Nat):Int):=by split <;> omega
    rw [e,sc,Yy]
    have hne:∃ x r,v.aI=x :: r:=by
     cases hc:v.aI with
     | nil=>exact absurd hc he
     | cons x r=>exact ⟨x,r,rfl⟩
    obtain ⟨x,r,hc⟩:=hne
    have hx:=V7 x
    have e2:Dy v.aI (0 + 1)=Dy v.aI 2:=by
     rw [hc,Dy,Dy]; congr 1; omega
    rw [e2]
    have:=aa8 v.aI 2
    congr 3
    omega
theorem Zt {v:ah} (h:v.bulk < 2305843009213693952) (hv:Xp v=true):yj v=some (wS v:Int):=by
 obtain ⟨n,hn,hn2⟩:=ru
 unfold yj Db
 have key:=ac3 v.bulk v 1 0 (Nat.le_refl _) (by omega) hv (by omega) (by omega)
 have mono:∀ (k:Nat) (s:Int) (x:ah) (lv:Int) (r:Bool × Int),gV iK k s x lv=some r→∀ m,k≤m→gV iK m s x lv=some r:=by
  intro k
  induction k with
  | zero=>intro s x lv r h; cases h
  | succ k ih=>
   intro s x lv r h m hm
   obtain ⟨m,rfl⟩:∃ q,m=q + 1:=⟨m - 1,by omega⟩
   have lp:∀ (v:ah) (level:Int) (f:Nat) (s i:Int) (r:Bool × Int),lq (gV iK k) v level f s i=some r→lq (gV iK m) v level f s i=some r:=by
    intro v level f
    induction f with
    | zero=>intro s i r h; cases h
    | succ f ihf=>
     intro s i r h
     rw [lq] at h ⊢
     split at h
     ·
      rename_i hc
      rw [if_pos hc]
      obtain ⟨x,hx,h⟩:=aN h
      obtain ⟨b,s2,hb,h⟩:=aY h
      rw [hx,ay,ih _ _ _ _ hb m (by omega),dH]
      split at h
      · rename_i hc2; rw [if_pos hc2]; exact h
      · rename_i hc2; rw [if_neg hc2]; exact ihf _ _ _ h
     ·
      rename_i hc
      rw [if_neg hc]; exact h
   rw [gV,u7] at h ⊢
   obtain ⟨b,s2,hb,h⟩:=aY h
   rw [hb,dH]
   split at h
   · rename_i hc; rw [if_pos hc]; exact h
   · rename_i hc; rw [if_neg hc]; exact lp _ _ _ _ _ _ h
 have:=mono _ _ _ _ _ key BIG (by have:=j_; omega)
 rw [show ((0:Nat):Int)=0 from rfl,show ((1:Nat):Int)=1 from rfl] at this
 rw [this,dH]
 simp
theorem je {v:ah} (h:Xp v=true):v.bI.length≤4096∧v.aI.length≤1024∧v.keys.length≤1024∧-9007199254740992≤v.bZ∧v.bZ≤9007199254740992:=by
 have h1:=((yg v).1 h).1
 unfold ny at h1
 rw [if_neg (by omega)] at h1
 split at h1
 · cases h1
 ·
  split at h1
  · cases h1
  ·
   rename_i h2
   split at h1
   · cases h1
   ·
    rename_i h3
    simp only [Bool.or_eq_true,decide_eq_true_eq,not_or,Int.not_lt] at h2 h3
    omega
theorem JU {v:ah} (h:Xp v=true) (hb:v.bulk < 4611686018427387904):mU v=some v∧rT v=some v:=
 Xr (S:=fun v=>Xp v=true) (fun v h=>by
  have:=je h
  have hL:rC=4294967296:=rfl
  exact ⟨by omega,by omega,((yg v).1 h).2⟩) h hb
theorem aaL {v:ah} (h:Xp v=true) (hb:v.bulk < 4611686018427387904) (q:Str):zJ v q=some (ZX (Ny v q)):=
 ahg hb (fun x hx=>(JU (((yg v).1 h).2 x hx) (by have:=iH hx; omega)).1) q
end Go.Ft

namespace Go.Ft
open Go
attribute [local congr] jE
def Cu (b:Bool):ah:=ah.mk 1 b 0 ([]:Str) [] []
def vX (n:Int):ah:=ah.mk 2 false n ([]:Str) [] []
def mkS (s:Str):ah:=ah.mk 3 false 0 s [] []
def Ct (l:List ah):ah:=ah.mk 4 false 0 ([]:Str) l []
def S9 (lo hi:UInt8) (pq:Int) (c:UInt8):UInt8:=if (decide ((lo.toNat:Int)≤(c.toNat:Int))) && (decide ((c.toNat:Int)≤(hi.toNat:Int))) then Ft.byteOf (bS ((c.toNat:Int) + pq)) else c
theorem mE {α:Type} {l m:List α} (h:l.length + m.length≤rC):app l m=some (l ++ m):=q8 h
theorem J7 {s:Str} (hs:s.length≤rC) (lo hi:UInt8) (pq:Int):xR s lo hi pq=some (s.map (S9 lo hi pq))∧CV s lo hi pq=some (s.map (S9 lo hi pq)):=by
 have hL:rC=4294967296:=rfl
 constructor
 ·
  unfold xR
  rw [dP (F:=fun k s1 i=>qW s lo hi pq k i s1) (l:=s) (body:=fun (i:Nat) c (b:Str) r=>
   au (if decide ((lo.toNat:Int)≤(c.toNat:Int)) then au (idx s (i:Int)) fun x2=>some (decide ((x2.toNat:Int)≤(hi.toNat:Int))) else some false) fun b2=>
   if b2 then au (idx s (i:Int)) fun x3=>au (app b [(Ft.byteOf (bS ((x3.toNat:Int) + pq)))]) fun b3=>r b3 else au (idx s (i:Int)) fun x4=>au (app b [x4]) fun b4=>r b4) (fin:=fun b=>some b) (by omega) (fun k s i=>rfl)]
  have key:∀ (t:Str) (i:Nat) (b:Str),t=s.drop i→b.length + t.length≤rC→dQ (fun (i:Nat) c (b:Str) r=>
   au (if decide ((lo.toNat:Int)≤(c.toNat:Int)) then au (idx s (i:Int)) fun x2=>some (decide ((x2.toNat:Int)≤(hi.toNat:Int))) else some false) fun b2=>
   if b2 then au (idx s (i:Int)) fun x3=>au (app b [(Ft.byteOf (bS ((x3.toNat:Int) + pq)))]) fun b3=>r b3 else au (idx s (i:Int)) fun x4=>au (app b [x4]) fun b4=>r b4) (fun b=>some b) i t b=some (b ++ t.map (S9 lo hi pq)):=by
   intro t
   induction t with
   | nil=>intro i b _ _; simp [dQ]
   | cons c t ih=>
    intro i b ht hb
    obtain ⟨hi',e1,e2⟩:=tN ht
    simp only [List.length_cons] at hb
    rw [dQ,rA hi',←e1]
    simp only [ay]
    have hone:(if decide ((lo.toNat:Int)≤(c.toNat:Int))=true then some (decide ((c.toNat:Int)≤(hi.toNat:Int))) else some false)=some ((decide ((lo.toNat:Int)≤(c.toNat:Int))) && (decide ((c.toNat:Int)≤(hi.toNat:Int)))):=by
     cases decide ((lo.toNat:Int)≤(c.toNat:Int)) <;> rfl
    rw [hone,ay,mE (by simp; omega),mE (by simp; omega)]
    simp only [ay,List.map_cons]
    cases hc:((decide ((lo.toNat:Int)≤(c.toNat:Int))) && (decide ((c.toNat:Int)≤(hi.toNat:Int)))) with
    | true=>
     simp only [if_true]
     rw [ih (i + 1) _ e2 (by simp; omega),S9,hc]
     simp
    | false=>
     simp only [Bool.false_eq_true,if_false]
     rw [ih (i + 1) _ e2 (by simp; omega),S9,hc]
     simp
  have:=key s 0 [] rfl (by simp; omega)
  simpa using this
 ·
  unfold CV
  rw [dP (F:=fun k b i=>vv s lo hi pq k b i) (l:=s) (body:=fun (i:Nat) c (b:Str) r=>
   if (decide ((lo.toNat:Int)≤(c.toNat:Int))) && (decide ((c.toNat:Int)≤(hi.toNat:Int))) then au (app b ([(Ft.byteOf (bS ((c.toNat:Int) + pq)))]:List UInt8)) fun b2=>r b2 else au (app b ([c]:List UInt8)) fun b3=>r b3) (fin:=fun b=>some b) (by omega) (fun k s i=>rfl)]
  have key:∀ (t:Str) (i:Nat) (b:Str),b.length + t.length≤rC→dQ (fun (i:Nat) c (b:Str) r=>
   if (decide ((lo.toNat:Int)≤(c.toNat:Int))) && (decide ((c.toNat:Int)≤(hi.toNat:Int))) then au (app b ([(Ft.byteOf (bS ((c.toNat:Int) + pq)))]:List UInt8)) fun b2=>r b2 else au (app b ([c]:List UInt8)) fun b3=>r b3) (fun b=>some b) i t b=some (b ++ t.map (S9 lo hi pq)):=by
   intro t
   induction t with
   | nil=>intro i b _; simp [dQ]
   | cons c t ih=>
    intro i b hb
    simp only [List.length_cons] at hb
    rw [dQ,mE (by simp; omega),mE (by simp; omega)]
    simp only [ay,List.map_cons]
    cases hc:((decide ((lo.toNat:Int)≤(c.toNat:Int))) && (decide ((c.toNat:Int)≤(hi.toNat:Int)))) with
    | true=>
     simp only [if_true]
     rw [ih (i + 1) _ (by simp; omega),S9,hc]
     simp
    | false=>
     simp only [Bool.false_eq_true,if_false]
     rw [ih (i + 1) _ (by simp; omega),S9,hc]
     simp
  have:=key s 0 [] (by simp; omega)
  simpa using this
theorem Ml :∀ (s t:Str),s.length < t.length→jF s t=none
 | [],t,h=>by
  unfold jF
  cases t with
  | nil=>simp at h
  | cons c t=>rfl
 | b :: l,t,h=>by
  unfold jF
  simp only [List.length_cons] at h
  have hp:t.isPrefixOf (b :: l)=false:=by
   cases hq:t.isPrefixOf (b :: l) with
   | false=>rfl
   | true=>
    have:=(List.isPrefixOf_iff_prefix.1 hq).length_le
    simp only [List.length_cons] at this; omega
  rw [hp,Ml l t (by omega)]; rfl
theorem K6 :∀ {s t:Str} {i:Nat},jF s t=some i→i + t.length≤s.length
 | [],t,i,h=>by
  unfold jF at h
  split at h
  ·
   rename_i ht
   simp only [Option.some.injEq] at h
   have:t=[]:=by simpa using ht
   subst this; simp; omega
  · cases h
 | b :: l,t,i,h=>by
  unfold jF at h
  split at h
  ·
   rename_i ht
   simp only [Option.some.injEq] at h
   have:=(List.isPrefixOf_iff_prefix.1 ht).length_le
   omega
  ·
   obtain ⟨j,hj,rfl⟩:=Option.map_eq_some_iff.1 h
   have:=K6 hj
   simp only [List.length_cons]; omega
def Jh (s t:Str) (k:Nat):Int:=match jF (s.drop k) t with | none=>-1 | some i=>((k + i:Nat):Int)
theorem Tc (t s:Str):t.isPrefixOf s=(s.take t.length == t):=by
 rw [Bool.eq_iff_iff,List.isPrefixOf_iff_prefix,List.prefix_iff_eq_take]
 simp only [beq_iff_eq]
 exact ⟨fun h=>h.symm,fun h=>h.symm⟩
theorem YA {s t:Str} (hs:s.length < 1152921504606846976) (ht:t.length < 1152921504606846976):∀ (k i:Nat),s.length < k + i→i≤s.length→xD s t k (i:Int)=some (Jh s t i)
 | 0,i,h,h'=>by omega
 | k + 1,i,h,h'=>by
  rw [xD,qG (by omega)]
  by_cases hi:i + t.length≤s.length
  ·
   rw [if_pos (by simp; omega),IC (by omega) (by omega) (by omega),ay]
   have e:(s.take ((i:Int) + (t.length:Int)).toNat).drop (i:Int).toNat=(s.drop i).take t.length:=by
    rw [List.drop_take]
    congr 1 <;> omega
   rw [e,←Tc]
   by_cases he:i < s.length
   ·
    have hc:=List.drop_eq_getElem_cons he
    unfold Jh
    rw [hc,jF]
    cases hp:t.isPrefixOf (s[i] :: s.drop (i + 1)) with
    | true=>simp
    | false=>
     simp only [Bool.false_eq_true,if_false]
     rw [zB (by omega),YA hs ht k (i + 1) (by omega) (by omega)]
     unfold Jh
     cases jF (s.drop (i + 1)) t with
     | none=>rfl
     | some j=>simp only [Option.map_some,Option.some.injEq]; omega
   ·
    have hd:s.drop i=[]:=List.drop_eq_nil_of_le (by omega)
    have ht0:t=[]:=List.eq_nil_of_length_eq_zero (by omega)
    unfold Jh
    rw [hd,ht0]
    simp [jF]
  ·
   rw [if_neg (by simp; omega)]
   unfold Jh
   rw [Ml _ _ (by simp; omega)]
theorem find_eq {s t:Str} (hs:s.length < 1152921504606846976) (ht:t.length < 1152921504606846976) {i:Nat} (hi:i≤s.length):Dj s t (i:Int)=some (Jh s t i):=
 YA hs ht BIG i (by have:=j_; omega) hi
theorem ag4 {s t:Str} (hs:s.length < 1152921504606846976) (ht:t.length < 1152921504606846976):Dj s t 0=some (Jh s t 0):=find_eq hs ht (i:=0) (by omega)
theorem aen (s t:Str) (k:Nat):decide (0≤Jh s t k)=(jF (s.drop k) t).isSome:=by
 unfold Jh
 cases jF (s.drop k) t with
 | none=>rfl
 | some i=>simp; omega
theorem Qh (t:Str) (ht:t≠[]):∀ (k:Nat) (s:Str),(jh t k s).length≤s.length + 1
 | 0,s=>by simp [jh]
 | k + 1,s=>by
  rw [jh]
  cases h:jF s t with
  | none=>simp
  | some i=>
   have:=K6 h
   have hl:0 < t.length:=List.length_pos_iff.2 ht
   have ih:=Qh t ht k (s.drop (i + t.length))
   simp only [List.length_cons]
   simp only [List.length_drop] at ih
   omega
theorem Uh {s t:Str} (hs:s.length < 1152921504606846976) (ht:t.length < 1152921504606846976) (h0:t≠[]) (hL:s.length + 2≤rC):∀ (n k q:Nat) (l:List ah) (i:Nat),s.length - i < n→n≤k→s.length - i < q→i≤s.length→l.length + (s.length - i) + 2≤rC→
  vo s t k l (i:Int) (Jh s t i)=jN (Ct (l ++ (jh t q (s.drop i)).map mkS))
 | 0,_,_,_,_,h,_,_,_,_=>by omega
 | n + 1,0,_,_,_,h,h',_,_,_=>by omega
 | n + 1,k + 1,0,_,_,_,_,h,_,_=>by omega
 | n + 1,k + 1,q + 1,l,i,hn,hk,hq,hi,hl=>by
  have hp:0 < t.length:=List.length_pos_iff.2 h0
  rw [vo,jh]
  unfold Jh
  cases hx:jF (s.drop i) t with
  | none=>
   rw [if_neg (by simp),tq hi]
   simp only [ay,nU]
   rw [mE (by simp; omega),ay]
   rfl
  | some j=>
   have hf:=K6 hx
   simp only [List.length_drop] at hf
   have e0:(s.take ((i + j:Nat):Int).toNat).drop (i:Int).toNat=(s.drop i).take j:=by
    rw [List.drop_take]; congr 1; omega
   have e1:bS (((i + j:Nat):Int) + (t.length:Int))=((i + (j + t.length):Nat):Int):=by rw [qG (by omega)]; omega
   simp only
   rw [if_pos (by simp; omega),IC (by omega) (by omega) (by omega),ay,e0,nU,ay,mE (by simp; omega),ay,e1,find_eq hs ht (by omega),ay]
   rw [Uh hs ht h0 hL n k q _ (i + (j + t.length)) (by omega) (by omega) (by omega) (by omega) (by simp; omega)]
   simp [mkS]
theorem adt {s t:Str} (hL:s.length + 2≤rC) (ht:t.length < 1152921504606846976) (h0:t≠[]):zR s t=jN (Ct ((jh t (s.length + 1) s).map mkS)):=by
 have hLL:rC=4294967296:=rfl
 unfold zR
 rw [if_neg (by simpa using h0),ag4 (by omega) ht,ay]
 have:=Uh (s:=s) (t:=t) (by omega) ht h0 hL (s.length + 1) BIG (s.length + 1) [] 0 (by omega) (by have:=j_; omega) (by omega) (by omega) (by simp; omega)
 simpa using this
theorem Uf :∀ (l:List Str) (i:Nat) (out:ah),out.aI.length + l.length≤rC→
  dQ (fun _ s1 (out:ah) r=>au (mo s1) fun x2=>au (app out.aI [x2]) fun x3=>r (ah.mk out.kind out.dh out.bZ out.bI x3 out.keys)) (fun out=>some out) i l out=some (ah.mk out.kind out.dh out.bZ out.bI (out.aI ++ l.map mkS) out.keys)
 | [],i,out,_=>by cases out; simp [dQ]
 | s :: l,i,out,h=>by
  simp only [List.length_cons] at h
  rw [dQ,mo,ay,mE (by simp; omega),ay]
  refine (Uf l (i + 1) _ (by simp; omega)).trans ?_
  simp [mkS]
theorem aaT {l:List Str} (h:l.length≤rC):Af l=some (Ct (l.map mkS)):=by
 have hLL:rC=4294967296:=rfl
 unfold Af
 rw [dP (F:=fun k s i=>zu l k i s) (l:=l) (body:=fun _ s1 (out:ah) r=>au (mo s1) fun x2=>au (app out.aI [x2]) fun x3=>r (ah.mk out.kind out.dh out.bZ out.bI x3 out.keys)) (fin:=fun out=>some out) (by omega) (fun k s i=>rfl),Uf l 0 _ (by simp; omega)]
 rfl
theorem UE (a:ah):∀ (l:List Str) (i:Nat) (out:ah),out.aI.length + l.length≤rC→
  dQ (fun _ s1 (out:ah) r=>au (nU s1) fun x2=>au (app out.aI [x2]) fun x3=>r (ah.mk out.kind out.dh out.bZ out.bI x3 out.keys)) (fun out=>some (out,(0:Int))) i l out=some (ah.mk out.kind out.dh out.bZ out.bI (out.aI ++ l.map mkS) out.keys,0)
 | [],i,out,_=>by cases out; simp [dQ]
 | s :: l,i,out,h=>by
  simp only [List.length_cons] at h
  rw [dQ,nU,ay,mE (by simp; omega),ay]
  refine (UE a l (i + 1) _ (by simp; omega)).trans ?_
  simp [mkS]
theorem adz {a:ah} (h:a.keys.length≤rC):zS a BIG 0 (ah.mk 4 false 0 ([]:Str) [] [])=some (Ct (a.keys.map mkS),0):=by
 have hLL:rC=4294967296:=rfl
 rw [dP (F:=fun k s i=>zS a k i s) (l:=a.keys) (body:=fun _ s1 (out:ah) r=>au (nU s1) fun x2=>au (app out.aI [x2]) fun x3=>r (ah.mk out.kind out.dh out.bZ out.bI x3 out.keys)) (fin:=fun out=>some (out,(0:Int))) (by omega) (fun k s i=>rfl),UE a a.keys 0 _ (by simp; omega)]
 rfl
def preS (s t:Str):Bool:=(decide (t.length≤s.length)) && (s.take t.length == t)
def afx (s t:Str):Bool:=(decide (t.length≤s.length)) && (s.drop (s.length - t.length) == t)
theorem aa1 (s t:Str):(if decide ((t.length:Int)≤(s.length:Int)) then au (sl s 0 (t.length:Int)) fun x7=>some (x7 == t) else some false)=some (preS s t):=by
 unfold preS
 by_cases h:t.length≤s.length
 · rw [if_pos (by simp; omega),XE h,ay]; simp [h]
 · rw [if_neg (by simp; omega)]; simp [h]
theorem aa0 {s t:Str} (hs:s.length < 1152921504606846976) (ht:t.length < 1152921504606846976):(if decide ((t.length:Int)≤(s.length:Int)) then au (sl s (bS ((s.length:Int) - (t.length:Int))) (s.length:Int)) fun x9=>some (x9 == t) else some false)=some (afx s t):=by
 unfold afx
 by_cases h:t.length≤s.length
 · rw [if_pos (by simp; omega),qG (by omega),show (s.length:Int) - (t.length:Int)=((s.length - t.length:Nat):Int) from by omega,tq (by omega),ay]; simp [h]
 · rw [if_neg (by simp; omega)]; simp [h]
theorem afJ (s t:Str):strings_HasPrefix s t=some (preS s t):=aa1 s t
theorem afI {s t:Str} (hs:s.length < 1152921504606846976) (ht:t.length < 1152921504606846976):strings_HasSuffix s t=some (afx s t):=aa0 hs ht
end Go.Ft

namespace Go.Ft
open Go
attribute [local congr] jE
def dg (u:Nat):UInt8:=UInt8.ofNat (48 + u)
theorem NG {u:Nat} (h:u < 10):(dg u).toNat=48 + u:=by
 unfold dg
 rw [UInt8.toNat_ofNat',Nat.mod_eq_of_lt (by omega)]
theorem aex {u:Nat} (h:u < 10):dW (dg u)=true:=by
 unfold dW
 rw [NG h]; simp; omega
theorem ND :∀ (k m u:Nat),u < 10 ^ k→u < 10 ^ m→0 < k→0 < m→tQ k u=tQ m u
 | 0,_,_,_,_,h,_=>by omega
 | _,0,_,_,_,_,h=>by omega
 | k + 1,m + 1,u,h,h',_,_=>by
  rw [tQ,tQ]
  by_cases hu:u < 10
  · rw [if_pos hu,if_pos hu]
  ·
   rw [if_neg hu,if_neg hu]
   have hk:0 < k:=by
    rcases Nat.eq_zero_or_pos k with h0 | h0
    · subst h0; omega
    · exact h0
   have hm:0 < m:=by
    rcases Nat.eq_zero_or_pos m with h0 | h0
    · subst h0; omega
    · exact h0
   rw [ND k m (u / 10) (by rw [Nat.pow_succ] at h; omega) (by rw [Nat.pow_succ] at h'; omega) hk hm]
theorem Jo :∀ (k u:Nat),u < 10 ^ k→0 < k→(tQ k u).length≤k
 | 0,_,_,h=>by omega
 | k + 1,u,h,_=>by
  rw [tQ]
  split
  · simp
  ·
   rename_i hu
   have hk:0 < k:=by
    rcases Nat.eq_zero_or_pos k with h0 | h0
    · subst h0; omega
    · exact h0
   have:=Jo k (u / 10) (by rw [Nat.pow_succ] at h; omega) hk
   simp only [List.length_append,List.length_singleton]; omega
theorem GZ {u:Nat} (h:u < 10):tQ 20 u=[dg u]:=by rw [tQ,if_pos h]; rfl
theorem MC {u:Nat} (h:¬ u < 10) (hb:u < 100000000000000000000):tQ 20 u=tQ 20 (u / 10) ++ [dg (u % 10)]:=by
 have e:tQ 20 u=tQ 19 (u / 10) ++ [dg (u % 10)]:=by rw [tQ,if_neg h]; rfl
 rw [e,ND 19 20 (u / 10) (by have:(10:Nat) ^ 19=10000000000000000000:=(by decide); omega) (by have:(10:Nat) ^ 20=100000000000000000000:=(by decide); omega) (by omega) (by omega)]
attribute [local irreducible] tQ
def Xt :Str→Nat→Nat
 | [],acc=>acc
 | c :: r,acc=>Xt r (acc * 10 + (c.toNat - 48))
def Bo (acc:Nat) (s:Str):Nat:=Xt s acc
theorem FC (acc:Nat):Bo acc []=acc:=rfl
theorem sF (acc:Nat) (c:UInt8) (s:Str):Bo acc (c :: s)=Bo (acc * 10 + (c.toNat - 48)) s:=by simp only [Bo,Xt]
theorem Og :∀ (s t:Str) (acc:Nat),Xt (s ++ t) acc=Xt t (Xt s acc)
 | [],t,acc=>rfl
 | c :: s,t,acc=>by rw [List.cons_append,Xt,Xt,Og s t]
theorem Oh (s t:Str) (acc:Nat):Bo acc (s ++ t)=Bo (Bo acc s) t:=Og s t acc
theorem aaK :∀ (s:Str) (acc:Nat),acc≤Bo acc s
 | [],acc=>Nat.le_refl _
 | c :: s,acc=>by rw [sF]; have:=aaK s (acc * 10 + (c.toNat - 48)); omega
def agh (s:Str):Prop:=s≠[]∧(∀ c∈s,dW c=true)∧(1 < s.length→(s.head?.map UInt8.toNat)≠some 48)
theorem DR :∀ (n u:Nat),u≤n→u < 100000000000000000000→agh (tQ 20 u)∧Bo 0 (tQ 20 u)=u∧(0 < u→((tQ 20 u).head?.map UInt8.toNat)≠some 48)
 | n,u,h,hb=>by
  by_cases hu:u < 10
  ·
   rw [GZ hu]
   refine ⟨⟨by simp,fun c hc=>?_,fun h=>by simp at h⟩,?_,fun hp=>?_⟩
   · rw [List.mem_singleton.1 hc]; exact aex hu
   · simp [sF,FC,NG hu]
   · simp [NG hu]; omega
  ·
   match n,h with
   | 0,h=>omega
   | n + 1,h=>
    obtain ⟨⟨h1,h2,h3⟩,h4,h5⟩:=DR n (u / 10) (by omega) (by omega)
    rw [MC hu hb]
    have hh:((tQ 20 (u / 10) ++ [dg (u % 10)]).head?.map UInt8.toNat)=((tQ 20 (u / 10)).head?.map UInt8.toNat):=by
     cases hd:tQ 20 (u / 10) with
     | nil=>exact absurd hd h1
     | cons a l=>rfl
    refine ⟨⟨by simp,fun c hc=>?_,fun _=>?_⟩,?_,fun _=>?_⟩
    ·
     rcases List.mem_append.1 hc with hc | hc
     · exact h2 c hc
     · rw [List.mem_singleton.1 hc]; exact aex (by omega)
    · rw [hh]; exact h5 (by omega)
    ·
     rw [Oh,h4]
     simp only [sF,FC,NG (show u % 10 < 10 from by omega)]
     omega
    · rw [hh]; exact h5 (by omega)
theorem vI {c:UInt8} (h:dW c=true):48≤c.toNat∧c.toNat≤57:=by
 unfold dW at h
 simp only [Bool.and_eq_true,decide_eq_true_eq] at h
 omega
theorem ag9 {c:UInt8} (h:dW c=true):c=dg (c.toNat - 48):=by
 have:=vI h
 apply UInt8.toNat_inj.1
 rw [NG (by omega)]; omega
theorem aaJ :∀ (s:Str) (acc:Nat),(∀ c∈s,dW c=true)→Bo acc s < (acc + 1) * 10 ^ s.length
 | [],acc,_=>by simp [sF,FC]
 | c :: s,acc,h=>by
  have hc:=vI (h c (by simp))
  have:=aaJ s (acc * 10 + (c.toNat - 48)) fun x hx=>h x (by simp [hx])
  rw [sF,List.length_cons,Nat.pow_succ]
  have e:(acc * 10 + (c.toNat - 48) + 1) * 10 ^ s.length≤(acc + 1) * (10 ^ s.length * 10):=by
   rw [Nat.mul_comm (10 ^ s.length) 10,←Nat.mul_assoc]
   exact Nat.mul_le_mul_right _ (by omega)
  omega
theorem YQ :∀ (n:Nat) (s:Str),s.length≤n→agh s→s.length≤19→tQ 20 (Bo 0 s)=s∧(1 < s.length→10≤Bo 0 s)∧(s.length=1→Bo 0 s < 10)
 | 0,s,h,hc,_=>by
  have:=List.length_pos_iff.2 hc.1; omega
 | n + 1,s,h,⟨h1,h2,h3⟩,h19=>by
  by_cases hl:s.length=1
  ·
   obtain ⟨c,rfl⟩:=len1 hl
   have hd:=h2 c (by simp)
   have hn:=vI hd
   have e:Bo 0 [c]=c.toNat - 48:=by simp [sF,FC]
   rw [e,GZ (by omega),←ag9 hd]
   exact ⟨rfl,fun h=>by simp at h,fun _=>by omega⟩
  ·
   have hpos:=List.length_pos_iff.2 h1
   have hs:s=s.dropLast ++ [s.getLast h1]:=(List.dropLast_concat_getLast h1).symm
   have hdl:s.dropLast.length=s.length - 1:=List.length_dropLast
   have hd:=h2 (s.getLast h1) (List.getLast_mem h1)
   have hn:=vI hd
   have hne:s.dropLast≠[]:=fun h=>by rw [h] at hdl; simp at hdl; omega
   have hhd:s.dropLast.head?=s.head?:=by
    cases s with
    | nil=>exact absurd rfl h1
    | cons a l=>cases l with
     | nil=>simp at hl
     | cons b r=>rfl
   have hz:=h3 (by omega)
   have hcd:agh s.dropLast:=⟨hne,fun c hc=>h2 c ((List.dropLast_sublist s).subset hc),fun _=>by rw [hhd]; exact hz⟩
   obtain ⟨i1,i2,i3⟩:=YQ n s.dropLast (by omega) hcd (by omega)
   have hv:Bo 0 s=Bo 0 s.dropLast * 10 + ((s.getLast h1).toNat - 48):=by
    conv=>lhs; rw [hs]
    rw [Oh]; rfl
   have hp:1≤Bo 0 s.dropLast:=by
    by_cases h10:s.dropLast.length=1
    ·
     obtain ⟨a,ha⟩:=len1 h10
     have ha1:dW a=true:=h2 a ((List.dropLast_sublist s).subset (by rw [ha]; simp))
     have ha2:=vI ha1
     rw [←hhd,ha] at hz
     simp only [List.head?_cons,Option.map_some,ne_eq,Option.some.injEq] at hz
     rw [ha]; simp only [sF,FC]; omega
    · have:=i2 (by omega); omega
   have hlt:=aaJ s 0 h2
   have h20:Bo 0 s < 100000000000000000000:=by
    have:(10:Nat) ^ s.length≤10 ^ 19:=Nat.pow_le_pow_right (by omega) h19
    have e19:(10:Nat) ^ 19=10000000000000000000:=by decide
    omega
   refine ⟨?_,fun _=>by omega,fun h=>absurd h hl⟩
   rw [MC (by omega) h20]
   have e1:Bo 0 s / 10=Bo 0 s.dropLast:=by omega
   have e2:Bo 0 s % 10=(s.getLast h1).toNat - 48:=by omega
   rw [e1,e2,i1,←ag9 hd]
   exact hs.symm
theorem V6 :∀ (s:Str) (acc:Nat),(∀ c∈s,dW c=true)→Bo acc s < 18446744073709551616→Yi acc s=(0,Bo acc s)
 | [],acc,_,_=>rfl
 | c :: s,acc,h,hb=>by
  have hc:=vI (h c (by simp))
  have hg:=aaK s (acc * 10 + (c.toNat - 48))
  rw [sF] at hb ⊢
  rw [Yi,if_pos hc,if_neg (by omega),if_neg (by omega)]
  exact V6 s _ (fun x hx=>h x (by simp [hx])) hb
theorem aeJ {u:Nat} (h:u < 9223372036854775808):zF (tQ 20 u)=(0,(u:Int)):=by
 obtain ⟨⟨h1,h2,h3⟩,h4,h5⟩:=DR u u (Nat.le_refl _) (by omega)
 cases hd:tQ 20 u with
 | nil=>exact absurd hd h1
 | cons c r=>
  rw [hd] at h2 h4
  have hc:=vI (h2 c (by simp))
  unfold zF
  have e1:¬ (c.toNat=43∨c.toNat=45):=by omega
  have hm:=V6 (c :: r) 0 h2 (by omega)
  rw [h4] at hm
  have e45:¬ c.toNat=45:=by omega
  have e43:¬ c.toNat=43:=by omega
  simp only [e43,e45,or_self,if_false,hm,reduceCtorEq]
  simp
  omega
theorem aeK {u:Nat} (h:u < 9223372036854775808):zF (45 :: tQ 20 u)=(0,-(u:Int)):=by
 obtain ⟨⟨h1,h2,h3⟩,h4,h5⟩:=DR u u (Nat.le_refl _) (by omega)
 unfold zF
 have e45:(45:UInt8).toNat=45:=rfl
 have hm:=V6 (tQ 20 u) 0 h2 (by omega)
 rw [h4] at hm
 simp only [e45,or_true,if_true]
 rw [if_neg h1,hm]
 simp
 omega
theorem ace {s:Str} (hs:s.length≤281474976710656):∃ n ok,uQ s=some (n,ok)∧(ok=true→s=uM n∧-9007199254740992≤n∧n≤9007199254740992)∧(∀ m:Int,s=uM m→-9007199254740992≤m→m≤9007199254740992→ok=true∧n=m):=by
 have hat:∀ m:Int,-9007199254740992≤m→m≤9007199254740992→zF (uM m)=(0,m):=by
  intro m h1 h2
  unfold uM
  split
  · rw [aeK (by omega)]; congr 1; omega
  · rw [aeJ (by omega)]; congr 1; omega
 unfold uQ strconv_Atoi strconv_Itoa
 rw [if_pos hs,dH]
 by_cases hz:(zF s).1=0
 ·
  rw [if_pos hz]
  simp only [Option.isSome_none,Bool.false_eq_true,if_false]
  have hr:-9223372036854775808≤(zF s).2∧(zF s).2≤9223372036854775807:=by
   have mg:∀ (l:Str) (acc:Nat),acc < 18446744073709551616→(Yi acc l).2 < 18446744073709551616:=by
    intro l
    induction l with
    | nil=>intro acc h; exact h
    | cons c l ih=>
     intro acc h
     rw [Yi]
     split
     ·
      split
      · simp
      ·
       split
       · simp
       · exact ih _ (by omega)
     · simp
   unfold zF
   cases s with
   | nil=>simp
   | cons c r=>
    simp only
    repeat' split
    all_goals simp_all
    all_goals omega
  rw [if_pos hr,ay,ay]
  by_cases hi:uM (zF s).2=s
  ·
   by_cases hb:-9007199254740992≤(zF s).2∧(zF s).2≤9007199254740992
   ·
    rw [if_neg (by simp [hi]; omega)]
    exact ⟨_,_,rfl,fun _=>⟨hi.symm,hb⟩,fun m h1 h2 h3=>⟨rfl,by rw [h1,hat m h2 h3]⟩⟩
   ·
    rw [if_pos (by simp [hi]; omega)]
    exact ⟨_,_,rfl,(fun h=>by cases h),fun m h1 h2 h3=>absurd (by rw [h1,hat m h2 h3]; exact ⟨h2,h3⟩) hb⟩
  ·
   rw [if_pos (by simp [hi])]
   exact ⟨_,_,rfl,(fun h=>by cases h),fun m h1 h2 h3=>absurd (by rw [h1,hat m h2 h3]) hi⟩
 ·
  rw [if_neg hz]
  simp only [Option.isSome_some,if_true,ay,Bool.true_or]
  exact ⟨_,_,rfl,(fun h=>by cases h),fun m h1 h2 h3=>absurd (by rw [h1,hat m h2 h3]) hz⟩
theorem ab3 {s:Str} (hs:s.length≤16):∀ (t:Str) (i acc:Nat),t=s.drop i→acc < 10 ^ i→
  ∃ n ok,dQ (fun (i:Nat) c (n1:Int) r=>au (zU c) fun x3=>if !x3 then some ((0:Int),false) else au (idx s (i:Int)) fun x4=>r (bS ((bS ((bS (10 * n1)) + (x4.toNat:Int))) - 48))) (fun n1=>some (n1,(decide (n1≤9007199254740992)))) i t (acc:Int)=some (n,ok)∧
   (ok=true↔(∀ c∈t,dW c=true)∧Bo acc t≤9007199254740992)∧(ok=true→n=Bo acc t):=by
 intro t
 induction t with
 | nil=>
  intro i acc ht ha
  refine ⟨_,_,rfl,?_,fun _=>rfl⟩
  simp [sF,FC]; omega
 | cons c t ih=>
  intro i acc ht ha
  obtain ⟨hi,e1,e2⟩:=tN ht
  rw [dQ,afF,ay,rA hi,←e1]
  simp only [ay]
  cases hd:dW c with
  | false=>
   refine ⟨0,false,rfl,?_,fun h=>by cases h⟩
   simp [hd]
  | true=>
   have hc:=vI hd
   have h16:(10:Nat) ^ i≤10 ^ 15:=Nat.pow_le_pow_right (by omega) (by omega)
   have e15:(10:Nat) ^ 15=1000000000000000:=by decide
   simp only [Bool.not_true,Bool.false_eq_true,if_false]
   have ew:bS ((bS ((bS (10 * (acc:Int))) + (c.toNat:Int))) - 48)=((acc * 10 + (c.toNat - 48):Nat):Int):=by
    rw [qG (n:=10 * (acc:Int)) (by omega),qG (n:=10 * (acc:Int) + (c.toNat:Int)) (by omega),qG (by omega)]
    omega
   rw [ew]
   obtain ⟨n,ok,q1,q2,q3⟩:=ih (i + 1) (acc * 10 + (c.toNat - 48)) e2 (by rw [Nat.pow_succ]; omega)
   refine ⟨n,ok,q1,?_,q3⟩
   rw [q2,sF]
   simp [hd]
theorem VL (s:Str):∃ n ok,J2 s=some (n,ok)∧(ok=true→∃ u:Nat,n=u∧s=tQ 20 u∧u≤9007199254740992)∧∀ u:Nat,s=tQ 20 u→u≤9007199254740992→ok=true∧n=u:=by
 unfold J2
 by_cases h0:s=[]∨16 < s.length
 ·
  have e:((s == ([]:Str)) || (decide (16 < (s.length:Int))))=true:=by
   rcases h0 with h | h
   · simp [h]
   · simp; right; omega
  rw [if_pos e]
  simp only [ay,if_true]
  refine ⟨0,false,rfl,(fun h=>by cases h),fun u h1 h2=>?_⟩
  obtain ⟨⟨q1,_,_⟩,_,_⟩:=DR u u (Nat.le_refl _) (by omega)
  have hl:=Jo 16 u (by have:(10:Nat) ^ 16=10000000000000000:=(by decide); omega) (by omega)
  rw [ND 16 20 u (by have:(10:Nat) ^ 16=10000000000000000:=(by decide); omega) (by have:(10:Nat) ^ 20=100000000000000000000:=(by decide); omega) (by omega) (by omega),←h1] at hl
  rcases h0 with h | h
  · rw [h1] at h; exact absurd h q1
  · omega
 ·
  have hne:s≠[]:=fun h=>h0 (.inl h)
  have hlen:s.length≤16:=by omega
  have hpos:=List.length_pos_iff.2 hne
  have e:((s == ([]:Str)) || (decide (16 < (s.length:Int))))=false:=by simp [hne]; omega
  rw [if_neg (by rw [e]; simp)]
  obtain ⟨n,ok,q1,q2,q3⟩:=ab3 hlen s 0 0 rfl (by simp)
  have hF:zV s BIG 0 0=some (n,ok):=by
   rw [dP (F:=fun k n1 i=>zV s k n1 i) (l:=s) (body:=fun (i:Nat) c (n1:Int) r=>au (zU c) fun x3=>if !x3 then some ((0:Int),false) else au (idx s (i:Int)) fun x4=>r (bS ((bS ((bS (10 * n1)) + (x4.toNat:Int))) - 48))) (fin:=fun n1=>some (n1,(decide (n1≤9007199254740992)))) (by omega) (fun k s i=>rfl) 0]
   exact q1
  have zero:∀ (c:UInt8) (r:Str),s=c :: r→idx s 0=some c:=fun c r h=>by rw [h]; rfl
  obtain ⟨c,r,hcr⟩:∃ c r,s=c :: r:=by
   cases s with
   | nil=>exact absurd rfl hne
   | cons c r=>exact ⟨c,r,rfl⟩
  have hb1:(if decide (1 < (s.length:Int))=true then au (idx s 0) fun x1=>some ((x1.toNat:Int) == 48) else some false)=some ((decide (1 < s.length)) && ((c.toNat:Int) == 48)):=by
   rw [zero c r hcr]
   by_cases h1:1 < s.length
   · rw [if_pos (by simp; omega),ay]; simp [h1]
   · rw [if_neg (by simp; omega)]; simp [h1]
  rw [hb1,ay]
  by_cases hz:1 < s.length∧c.toNat=48
  ·
   rw [if_pos (by simp [hz.1]; omega)]
   refine ⟨0,false,rfl,(fun h=>by cases h),fun u h1 h2=>?_⟩
   obtain ⟨⟨_,_,q⟩,_,_⟩:=DR u u (Nat.le_refl _) (by omega)
   rw [←h1] at q
   have:=q hz.1
   rw [hcr] at this
   simp [hz.2] at this
  ·
   rw [if_neg (by simp; intro h; omega),hF]
   refine ⟨n,ok,rfl,fun h=>?_,fun u h1 h2=>?_⟩
   ·
    obtain ⟨d1,d2⟩:=q2.1 h
    have hcan:agh s:=⟨hne,d1,fun h1=>by rw [hcr]; simp; omega⟩
    exact ⟨Bo 0 s,q3 h,(YQ _ s (Nat.le_refl _) hcan (by omega)).1.symm,d2⟩
   ·
    obtain ⟨⟨_,q5,_⟩,q4,_⟩:=DR u u (Nat.le_refl _) (by omega)
    rw [←h1] at q5 q4
    have hok:ok=true:=q2.2 ⟨q5,by omega⟩
    exact ⟨hok,by rw [q3 hok,q4]⟩
theorem number_eq {s:Str} (hs:s.length≤281474976710656):∃ n ok n',uQ s=some (n,ok)∧xg s=some (n',ok)∧(ok=true→n=n'∧-9007199254740992≤n∧n≤9007199254740992):=by
 obtain ⟨n,ok,p1,p2,p3⟩:=ace hs
 unfold xg
 have fin:∀ (n':Int) (ok':Bool),(ok'=true→s=uM n'∧-9007199254740992≤n'∧n'≤9007199254740992)→(∀ m:Int,s=uM m→-9007199254740992≤m→m≤9007199254740992→ok'=true)→ok'=ok∧(ok=true→n=n'∧-9007199254740992≤n∧n≤9007199254740992):=by
  intro n' ok' a1 a2
  have e:ok'=ok:=by
   cases ok with
   | true=>obtain ⟨b1,b2,b3⟩:=p2 rfl; exact a2 n b1 b2 b3
   | false=>
    cases ok' with
    | false=>rfl
    | true=>obtain ⟨b1,b2,b3⟩:=a1 rfl; have:=(p3 n' b1 b2 b3).1; cases this
  refine ⟨e,fun h=>?_⟩
  subst e
  obtain ⟨b1,b2,b3⟩:=a1 h
  have:=(p3 n' b1 b2 b3).2
  exact ⟨this,by omega,by omega⟩
 cases hc:s with
 | nil=>
  simp only [beq_self_eq_true,Bool.not_true,Bool.false_eq_true,if_false,ay]
  obtain ⟨n',ok',r1,r2,r3⟩:=VL []
  rw [hc] at p1
  obtain ⟨f1,f2⟩:=fin n' ok' (fun h=>by
   obtain ⟨u,u1,u2,u3⟩:=r2 h
   rw [hc,u1]
   refine ⟨?_,by omega,by omega⟩
   unfold uM; rw [if_neg (by omega)]; simpa using u2) (fun m h1 h2 h3=>by
   rw [hc] at h1
   unfold uM at h1
   split at h1
   · cases h1
   · exact (r3 _ h1 (by omega)).1)
  exact ⟨n,ok,n',p1,by rw [r1,f1],f2⟩
 | cons c r=>
  rw [hc] at p1
  have e0:(!((c :: r:Str) == ([]:Str)))=true:=rfl
  have i0:idx (c :: r) 0=some c:=rfl
  simp only [e0,if_true,i0,ay]
  have dn:∀ u:Nat,u < 100000000000000000000→∀ (x:UInt8) (l:Str),tQ 20 u=x :: l→x.toNat≠45:=by
   intro u hu x l h
   obtain ⟨⟨_,q,_⟩,_,_⟩:=DR u u (Nat.le_refl _) hu
   rw [h] at q
   have:=vI (q x (by simp))
   omega
  by_cases h45:(c.toNat:Int)=45
  ·
   rw [if_pos (by simpa using h45)]
   have hsl:sl (c :: r) 1 (((c :: r:Str).length:Nat):Int)=some r:=by
    have:=tq (s:=c :: r) (i:=1) (by simp)
    simpa using this
   rw [hsl,ay]
   obtain ⟨n',ok',r1,r2,r3⟩:=VL r
   rw [r1,dH]
   have ak2:c=45:=UInt8.toNat_inj.1 (by have:(45:UInt8).toNat=45:=rfl; omega)
   obtain ⟨f1,f2⟩:=fin (bS (0 - n')) (ok' && (n' != 0)) (fun h=>by
    simp only [Bool.and_eq_true,bne_iff_ne] at h
    obtain ⟨u,u1,u2,u3⟩:=r2 h.1
    rw [qG (by omega),u1]
    refine ⟨?_,by omega,by omega⟩
    unfold uM; rw [if_pos (by omega),hc,ak2]
    congr 1
    rw [u2]; congr 1; omega) (fun m h1 h2 h3=>by
    rw [hc] at h1
    unfold uM at h1
    split at h1
    ·
     rename_i hm
     simp only [List.cons.injEq] at h1
     obtain ⟨o1,o2⟩:=r3 _ h1.2 (by omega)
     rw [o1,o2]; simp; omega
    · exact absurd (by omega) (dn _ (by omega) c r h1.symm))
   exact ⟨n,ok,_,p1,by rw [f1],f2⟩
  ·
   rw [if_neg (by simpa using h45)]
   obtain ⟨n',ok',r1,r2,r3⟩:=VL (c :: r)
   obtain ⟨f1,f2⟩:=fin n' ok' (fun h=>by
    obtain ⟨u,u1,u2,u3⟩:=r2 h
    rw [hc,u1]
    refine ⟨?_,by omega,by omega⟩
    unfold uM; rw [if_neg (by omega)]; simpa using u2) (fun m h1 h2 h3=>by
    rw [hc] at h1
    unfold uM at h1
    split at h1
    ·
     simp only [List.cons.injEq] at h1
     exact absurd (by rw [h1.1]; rfl) h45
    · exact (r3 _ h1 (by omega)).1)
   exact ⟨n,ok,n',p1,by rw [r1,f1],f2⟩
end Go.Ft

namespace Go.Ft
open Go
attribute [local congr] jE
def xV (l:List av):ah:=ah.mk 5 false 0 ([]:Str) (l.map (·.value)) (l.map (·.name))
def Q8 (x:av):List av→List av
 | []=>[x]
 | y :: t=>if fA x.name y.name < 0 then x :: y :: t else y :: Q8 x t
def Sl (l:List av):Prop:=l.Pairwise fun x y=>fA x.name y.name < 0
theorem Nt (x:av):∀ l:List av,(Q8 x l).Perm (x :: l)
 | []=>List.Perm.refl _
 | y :: t=>by
  rw [Q8]
  split
  · exact List.Perm.refl _
  · exact ((Nt x t).cons y).trans (List.Perm.swap x y t)
theorem Yq (x:av):∀ l:List av,Sl l→(∀ y∈l,y.name≠x.name)→Sl (Q8 x l)
 | [],_,_=>by simp [Q8,Sl]
 | y :: t,h,hn=>by
  unfold Sl at h ⊢
  rw [List.pairwise_cons] at h
  rw [Q8]
  split
  ·
   rename_i hlt
   rw [List.pairwise_cons,List.pairwise_cons]
   refine ⟨fun z hz=>?_,h⟩
   rcases List.mem_cons.1 hz with rfl | hz
   · exact hlt
   · exact vG hlt (h.1 z hz)
  ·
   rename_i hge
   rw [List.pairwise_cons]
   refine ⟨fun z hz=>?_,Yq x t h.2 fun z hz=>hn z (by simp [hz])⟩
   rcases List.mem_cons.1 ((Nt x t).mem_iff.1 hz) with rfl | hz
   ·
    have hne:=hn y (by simp)
    have h0:fA z.name y.name≠0:=fun h=>hne (rF h).symm
    rw [mh]; omega
   · exact h.1 z hz
theorem OJ :∀ {l m:List av},Sl l→Sl m→l.Perm m→l=m
 | [],m,_,_,h=>(List.nil_perm.1 h).symm
 | x :: l,[],_,_,h=>by simp at h
 | x :: l,y :: m,hl,hm,h=>by
  unfold Sl at hl hm
  rw [List.pairwise_cons] at hl hm
  have hxy:x=y:=by
   have h1:=h.mem_iff.1 (show x∈x :: l by simp)
   have h2:=h.mem_iff.2 (show y∈y :: m by simp)
   simp only [List.mem_cons] at h1 h2
   rcases h1 with h1 | h1
   · exact h1
   ·
    rcases h2 with h2 | h2
    · exact h2.symm
    ·
     have a1:=hm.1 x h1
     have a2:=hl.1 y h2
     rw [mh] at a1
     omega
  subst hxy
  rw [OJ (l:=l) (m:=m) hl.2 hm.2 (List.Perm.cons_inv h)]
def jW (l:List av):List av:=l.mergeSort fun x y=>!decide (fA y.name x.name < 0)
theorem u6 (l:List av):(jW l).Perm l:=List.mergeSort_perm _ _
theorem Od {l:List av} (h:(l.map (·.name)).Nodup):Sl (jW l):=by
 have hs:(jW l).Pairwise fun x y=>¬ fA y.name x.name < 0:=by
  have:=List.pairwise_mergeSort (le:=fun x y:av=>!decide (fA y.name x.name < 0)) (fun a b c h1 h2=>by
   simp only [Bool.not_eq_true',decide_eq_false_iff_not] at *
   exact Fa h2 h1) (fun a b=>by
   simp only [Bool.or_eq_true,Bool.not_eq_true',decide_eq_false_iff_not]
   rw [mh]; omega) l
  refine this.imp fun {a b} h=>?_
  simpa using h
 have hn:((jW l).map (·.name)).Nodup:=((u6 l).map _).nodup_iff.2 h
 rw [List.Nodup,List.pairwise_map] at hn
 refine (hs.and hn).imp fun {a b} h=>?_
 have h0:fA a.name b.name≠0:=fun e=>h.2 (rF e)
 have:=h.1
 rw [mh] at this; omega
theorem Lu {l:List av} {x:av} (hk:∀ y∈l,y.name.length < 4611686018427387904) (hx:x.name.length < 4611686018427387904) (hl:2 * l.length + 2≤rC):∀ (k i:Nat) (done:Bool) (o:List av),l.length < k + i→i≤l.length→o.length≤i + done.toNat→
  uz (xV l) x k done (i:Int) (xV o)=some (xV (o ++ if done then l.drop i else Q8 x (l.drop i)))
 | 0,i,_,_,h,h',_=>by omega
 | k + 1,i,done,o,h,h',ho=>by
  have hL:rC=4294967296:=rfl
  have hd1:done.toNat≤1:=Bool.toNat_le done
  have kl:(xV l).keys.length=l.length:=by simp [xV]
  have ll:(xV l).aI.length=l.length:=by simp [xV]
  rw [uz]
  by_cases hi:i < l.length
  ·
   have ik:idx (xV l).keys (i:Int)=some l[i].name:=by rw [rA (by rw [kl]; exact hi)]; simp [xV]
   have il:idx (xV l).aI (i:Int)=some l[i].value:=by rw [rA (by rw [ll]; exact hi)]; simp [xV]
   have hm:l[i]∈l:=List.getElem_mem hi
   have ok1:(xV o).keys=o.map (·.name):=rfl
   have ol1:(xV o).aI=o.map (·.value):=rfl
   rw [if_pos (by rw [kl]; simp; omega),ik,il,List.drop_eq_getElem_cons hi]
   simp only [ay,ok1,ol1]
   rw [mE (l:=o.map (·.name)) (by simp; omega),mE (l:=o.map (·.value)) (by simp; omega),mE (l:=o.map (·.name)) (by simp; omega),mE (l:=o.map (·.value)) (by simp; omega),zB (by omega)]
   simp only [ay]
   rw [mE (by simp; omega),mE (by simp; omega)]
   simp only [ay]
   have e1:(ah.mk (xV o).kind (xV o).dh (xV o).bZ (xV o).bI (o.map (·.value) ++ [l[i].value]) (o.map (·.name) ++ [l[i].name]))=xV (o ++ [l[i]]):=by simp [xV]
   have e2:(ah.mk (xV o).kind (xV o).dh (xV o).bZ (xV o).bI (o.map (·.value) ++ [x.value] ++ [l[i].value]) (o.map (·.name) ++ [x.name] ++ [l[i].name]))=xV (o ++ [x,l[i]]):=by simp [xV]
   rw [e1,e2]
   cases done with
   | true=>
    simp only [Bool.toNat_true] at ho
    simp only [Bool.not_true,Bool.false_eq_true,if_false,ay,if_true]
    rw [Lu hk hx hl k (i + 1) true (o ++ [l[i]]) (by omega) (by omega) (by simp; omega)]
    simp
   | false=>
    simp only [Bool.not_false,if_true,ay,GD hx (hk _ hm),Bool.false_eq_true,if_false]
    rw [Q8]
    by_cases hc:fA x.name l[i].name < 0
    ·
     rw [if_pos (by simpa using hc),if_pos hc]
     simp only [Bool.toNat_false] at ho
     rw [Lu hk hx hl k (i + 1) true (o ++ [x,l[i]]) (by omega) (by omega) (by simp; omega)]
     simp
    ·
     simp only [Bool.toNat_false] at ho
     rw [if_neg (by simpa using hc),if_neg hc,Lu hk hx hl k (i + 1) false (o ++ [l[i]]) (by omega) (by omega) (by simp; omega)]
     simp
  ·
   have:i=l.length:=by omega
   subst this
   have ok1:(xV o).keys=o.map (·.name):=rfl
   have ol1:(xV o).aI=o.map (·.value):=rfl
   rw [if_neg (by rw [kl]; simp),List.drop_length,ok1,ol1]
   cases done with
   | true=>simp
   | false=>
    simp only [Bool.not_false,if_true]
    rw [mE (by simp; omega),ay,mE (by simp; omega),ay]
    simp [xV,Q8]
theorem afi {l:List av} {x:av} (hk:∀ y∈l,y.name.length < 4611686018427387904) (hx:x.name.length < 4611686018427387904) (hl:2 * l.length + 2≤rC):IV (xV l) x=some (xV (Q8 x l)):=by
 have hL:rC=4294967296:=rfl
 have:=Lu hk hx hl BIG 0 false [] (by have:=j_; omega) (by omega) (by simp)
 simpa [IV,xV] using this
theorem ael :∀ (l:List av) (q:Str),(∀ y∈l,y.name≠q)→Ii (l.map (·.name)) (l.map (·.value)) q=none:=fun l q h=>Rc _ _ _ fun hm=>by
 obtain ⟨y,hy,he⟩:=List.mem_map.1 hm
 exact h y hy he
structure Ent (vars:List av):Prop where
 len:vars.length≤1024
 key:∀ x∈vars,uL x.name=true
 val:∀ x∈vars,VV x.value∧x.value.bulk < 1152921504606846976
 nodup:(vars.map (·.name)).Nodup
theorem Ac {s:Str} (h:uL s=true):1≤s.length∧s.length≤64:=by
 unfold uL at h
 simpa using h
theorem XK {vars:List av} (H:Ent vars):∀ (k i:Nat) (l:List av),vars.length < k + i→i≤vars.length→Sl l→l.Perm (vars.take i)→
  zW vars k (i:Int) (xV l)=some (if ∃ x∈vars.drop i,wS x.value=16 then (ZV,13) else (xV (jW vars),0))
 | 0,i,_,h,h',_,_=>by omega
 | k + 1,i,l,h,h',ha,hp=>by
  have hL:rC=4294967296:=rfl
  have hlen:=H.len
  have hll:l.length=i:=by rw [hp.length_eq]; simp; omega
  rw [zW]
  by_cases hi:i < vars.length
  ·
   have hm:vars[i]∈vars:=List.getElem_mem hi
   have hk:=H.key _ hm
   obtain ⟨hv,hb⟩:=H.val _ hm
   have hkl:=Ac hk
   rw [if_pos (by simp; omega),rA hi]
   simp only [ay,key_eq,hk,Bool.not_true,Bool.false_eq_true,if_false,Vu (show vars[i].value.bulk < 4611686018427387904 by omega),(Fw _).2 hv,bne_self_eq_false,Qs (show vars[i].value.bulk < 4611686018427387904 by omega)]
   rw [List.drop_eq_getElem_cons hi]
   by_cases h16:wS vars[i].value=16
   · rw [if_pos (by simp [h16]),if_pos ⟨vars[i],List.mem_cons_self,h16⟩]; rfl
   ·
    have hno:∀ y∈l,y.name≠vars[i].name:=by
     intro y hy he
     have hy2:=hp.mem_iff.1 hy
     obtain ⟨j,hj,e⟩:=List.mem_iff_getElem.1 hy2
     simp only [List.length_take] at hj
     have hn:=H.nodup
     rw [List.Nodup,List.pairwise_iff_getElem] at hn
     have:=hn j i (by simp; omega) (by simpa using hi) (by omega)
     apply this
     simp only [List.getElem_map]
     rw [←he,←e]; simp
    have hg:Ny (xV l) vars[i].name=none:=by
     unfold Ny
     rw [if_pos (show (xV l).kind=5 from rfl)]
     exact ael l _ hno
    have hks:∀ y∈l,y.name.length < 4611686018427387904:=fun y hy=>by
     have:=Ac (H.key y (List.mem_of_mem_take (hp.mem_iff.1 hy))); omega
    rw [if_neg (by simp; omega),VN (by simp [xV]; omega),hg,ZX,dH,if_neg (by simp),afi hks (by omega) (by omega),ay,zB (by omega)]
    rw [XK H k (i + 1) (Q8 vars[i] l) (by omega) (by omega) (Yq _ _ ha hno) ?_]
    ·
     congr 1
     refine jE (propext ⟨fun ⟨x,hx,hq⟩=>⟨x,List.mem_cons_of_mem _ hx,hq⟩,fun ⟨x,hx,hq⟩=>?_⟩)
     rcases List.mem_cons.1 hx with rfl | hx
     · exact absurd hq h16
     · exact ⟨x,hx,hq⟩
    ·
     refine (Nt _ _).trans ?_
     rw [List.take_succ_eq_append_getElem hi]
     exact (hp.cons _).trans (List.perm_append_singleton _ _).symm
  ·
   have hie:i=vars.length:=by omega
   rw [if_neg (by simp; omega),if_neg (by rw [hie]; simp)]
   congr 1
   rw [hie,List.take_length] at hp
   have:l=jW vars:=OJ ha (Od H.nodup) (hp.trans (u6 _).symm)
   rw [this]
def Yg (vars:List av):ah × Int:=if ∃ x∈vars,wS x.value=16 then (ZV,13) else (xV (jW vars),0)
theorem afG {vars:List av} (H:Ent vars):J4 vars=some (Yg vars):=by
 have hlen:=H.len
 unfold J4 Yg
 rw [if_neg (by simp; omega)]
 exact XK H BIG 0 [] (by have:=j_; omega) (by omega) List.Pairwise.nil (by simp)
theorem acB {l:List av} {q:av} (hl:l.length < 4611686018427387904) (h:∀ y∈l,y.name≠q.name):gK l (fun z0=>mF z0 q)=some false:=by
 unfold gK jk
 rw [dP (F:=fun k (_:Unit) i=>gJ l (fun z0=>mF z0 q) k i) (l:=l) (body:=fun (i:Nat) e1 (_:Unit) r=>au (mF e1 q) fun x1=>if x1 then some (i:Int) else r ()) (fin:=fun _=>some (-1)) hl (fun k s i=>rfl) ()]
 have key:∀ (t:List av) (i:Nat),(∀ y∈t,y.name≠q.name)→dQ (fun (i:Nat) e1 (_:Unit) r=>au (mF e1 q) fun x1=>if x1 then some (i:Int) else r ()) (fun _=>some (-1)) i t ()=some (-1):=by
  intro t
  induction t with
  | nil=>intro i _; rfl
  | cons d t ih=>
   intro i ht
   rw [dQ,mF,ay,if_neg (by simpa using ht d (by simp))]
   exact ih (i + 1) fun y hy=>ht y (by simp [hy])
 rw [key l 0 h]; rfl
theorem entry_eq {vars:List av} (H:Ent vars) {i:Nat} (hi:i < vars.length):Bn vars (i:Int)=some (if wS vars[i].value=16 then 13 else 0):=by
 have hlen:=H.len
 have hm:vars[i]∈vars:=List.getElem_mem hi
 have hkl:=Ac (H.key _ hm)
 obtain ⟨hv,hb⟩:=H.val _ hm
 unfold Bn
 rw [rA hi,ay,if_neg (by simp; omega),CP (by omega),(Fw _).2 hv,ay,if_neg (by simp),Zt (by omega) hv.1,ay]
 have:=hv.2
 by_cases h16:wS vars[i].value=16
 · rw [if_pos (by simp [h16]),if_pos h16]
 ·
  have hsl:sl vars 0 (i:Int)=some (vars.take i):=by rw [IC (by omega) (by omega) (by omega)]; simp
  rw [if_neg (by simp; omega),if_neg h16,hsl,ay,acB (by simp; omega),ay]
  · rfl
  ·
   intro y hy he
   obtain ⟨j,hj,e⟩:=List.mem_iff_getElem.1 hy
   simp only [List.length_take] at hj
   have hn:=H.nodup
   rw [List.Nodup,List.pairwise_iff_getElem] at hn
   have:=hn j i (by simp; omega) (by simpa using hi) (by omega)
   apply this
   simp only [List.getElem_map]
   rw [←he,←e]; simp
theorem QO :∀ (l:List av) (i:Nat) (o:List av),(∀ x∈l,mU x.value=some x.value)→o.length + l.length≤rC→
  dQ (fun _ e2 (aT:ah) r=>au (app aT.keys ([e2.name]:List Str)) fun x2=>au (mU e2.value) fun x3=>au (app aT.aI [x3]) fun x4=>r (ah.mk aT.kind aT.dh aT.bZ aT.bI x4 x2)) (fun aT=>some (aT,(0:Int))) i l (xV o)=some (xV (o ++ l),0)
 | [],i,o,_,_=>by simp [dQ]
 | x :: l,i,o,hb,hl=>by
  simp only [List.length_cons] at hl
  have ok1:(xV o).keys=o.map (·.name):=rfl
  have ol1:(xV o).aI=o.map (·.value):=rfl
  rw [dQ,ok1,ol1,mE (by simp; omega),ay,hb x (by simp),ay,mE (by simp; omega),ay]
  have e1:(ah.mk (xV o).kind (xV o).dh (xV o).bZ (xV o).bI (o.map (·.value) ++ [x.value]) (o.map (·.name) ++ [x.name]))=xV (o ++ [x]):=by simp [xV]
  rw [e1]
  refine (QO l (i + 1) (o ++ [x]) (fun y hy=>hb y (by simp [hy])) (by simp; omega)).trans ?_
  simp
theorem afj {vars:List av} (H:Ent vars):CQ vars=some (Yg vars):=by
 have hL:rC=4294967296:=rfl
 have hlen:=H.len
 unfold CQ Yg
 rw [if_neg (by simp; omega)]
 have fin:(au (gB vars) fun Pq=>au (Uk (fun x=>x.name) Pq) fun sZ=>vg sZ BIG 0 (ah.mk 5 false 0 ([]:Str) [] []))=some (xV (jW vars),0):=by
  have hs:Uk (fun x:av=>x.name) vars=some (jW vars):=by
   unfold Uk
   rw [if_pos ⟨by omega,fun x hx=>by have:=Ac (H.key x hx); show x.name.length < _; omega,H.nodup⟩]
   rfl
  rw [gB,mE (by simp; omega),List.nil_append,ay,hs,ay]
  have hsl:(jW vars).length=vars.length:=(u6 vars).length_eq
  rw [dP (F:=fun k s i=>vg (jW vars) k i s) (l:=jW vars) (body:=fun _ e2 (aT:ah) r=>au (app aT.keys ([e2.name]:List Str)) fun x2=>au (mU e2.value) fun x3=>au (app aT.aI [x3]) fun x4=>r (ah.mk aT.kind aT.dh aT.bZ aT.bI x4 x2)) (fin:=fun aT=>some (aT,(0:Int))) (by omega) (fun k s i=>rfl)]
  exact QO (jW vars) 0 [] (fun x hx=>by obtain ⟨q1,q2⟩:=H.val x ((u6 vars).mem_iff.1 hx); exact (JU q1.1 (by omega)).1) (by simp; omega)
 have key:∀ (k i:Nat),vars.length < k + i→i≤vars.length→vk vars k (i:Int)=some (if ∃ x∈vars.drop i,wS x.value=16 then (ZV,13) else (xV (jW vars),0)):=by
  intro k
  induction k with
  | zero=>intro i h h'; omega
  | succ k ih=>
   intro i h h'
   rw [vk]
   by_cases hi:i < vars.length
   ·
    rw [if_pos (by simp; omega),entry_eq H hi,ay,List.drop_eq_getElem_cons hi]
    by_cases h16:wS vars[i].value=16
    · rw [if_pos h16,if_pos (by simp),if_pos ⟨vars[i],List.mem_cons_self,h16⟩]; rfl
    ·
     rw [if_neg h16,if_neg (by simp),zB (by omega),ih (i + 1) (by omega) (by omega)]
     congr 1
     refine jE (propext ⟨fun ⟨x,hx,hq⟩=>⟨x,List.mem_cons_of_mem _ hx,hq⟩,fun ⟨x,hx,hq⟩=>?_⟩)
     rcases List.mem_cons.1 hx with rfl | hx
     · exact absurd hq h16
     · exact ⟨x,hx,hq⟩
   ·
    have hie:i=vars.length:=by omega
    rw [if_neg (by simp; omega),fin,if_neg (by rw [hie]; simp)]
 exact key BIG 0 (by have:=j_; omega) (by omega)
theorem abC :∀ (l:List av) (p:Option Str),(∀ x∈l,uL x.name=true)→Sl l→(∀ q,p=some q→q.length < 4611686018427387904∧∀ x∈l,fA q x.name < 0)→JG p (l.map (·.name))=true
 | [],p,_,_,_=>by simp [JG]
 | x :: l,p,hk,ha,hp=>by
  unfold Sl at ha
  rw [List.pairwise_cons] at ha
  have hx:=Ac (hk x (by simp))
  rw [List.map_cons,JG.eq_def]
  simp only
  rw [hk x (by simp),abC l (some x.name) (fun y hy=>hk y (by simp [hy])) ha.2 (fun q hq=>by cases hq; exact ⟨by omega,ha.1⟩)]
  cases p with
  | none=>rfl
  | some q=>
   obtain ⟨h1,h2⟩:=hp q rfl
   have hn:SQ q x.name=fA q x.name:=by unfold SQ; rw [GD h1 (by omega)]; rfl
   simp [hn,h2 x (by simp)]
theorem afX {vars:List av} (H:Ent vars) (h:¬ ∃ x∈vars,wS x.value=16):VV (xV (jW vars)):=by
 have hp:=u6 vars
 have hlen:=H.len
 have hl:=hp.length_eq
 have hkeys:JG none ((jW vars).map (·.name))=true:=abC _ none (fun x hx=>H.key x (hp.mem_iff.1 hx)) (Od H.nodup) (fun q hq=>by cases hq)
 constructor
 ·
  refine (yg _).2 ⟨?_,fun x hx=>?_⟩
  ·
   unfold ny
   rw [if_neg (by omega)]
   have e1:(xV (jW vars)).kind=5:=rfl
   have e2:(xV (jW vars)).keys=(jW vars).map (·.name):=rfl
   have e3:(xV (jW vars)).aI=(jW vars).map (·.value):=rfl
   have e4:(xV (jW vars)).bZ=0:=rfl
   have e5:(xV (jW vars)).bI=[]:=rfl
   have e6:qH (xV (jW vars))=true:=by simp [qH,xV]
   rw [e1,e2,e3,e4,e5,e6,hkeys]
   simp [hl]; omega
  ·
   obtain ⟨y,hy,rfl⟩:=List.mem_map.1 hx
   exact (H.val y (hp.mem_iff.1 hy)).1.1
 ·
  rw [uK,if_pos (by rfl),A8]
  refine ⟨by omega,fun x hx=>?_⟩
  obtain ⟨y,hy,rfl⟩:=List.mem_map.1 hx
  have hy':=hp.mem_iff.1 hy
  have:=(H.val y hy').1.2
  have:wS y.value≠16:=fun e=>h ⟨y,hy',e⟩
  omega
end Go.Ft

