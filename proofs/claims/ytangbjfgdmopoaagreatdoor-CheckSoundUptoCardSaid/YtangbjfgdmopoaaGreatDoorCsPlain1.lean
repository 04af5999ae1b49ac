/- Proved here: plain facts on the functional texts. -/
import Derived.Test.YtangbjfgdmopoaaGreatDoorCsFt
import Derived.Test.YtangbjfgdmopoaaGreatDoorCsPre
set_option linter.unusedVariables false
set_option linter.unusedSimpArgs false
set_option linter.unusedSectionVars false
set_option maxHeartbeats 2000000
namespace Go.Ft
open Go
attribute [local congr] jE
theorem GL {α:Type} {f:α→Nat} {l:List α} {x:α} (h:x∈l):f x≤(l.map f).sum:=by
 induction l with
 | nil=>cases h
 | cons y l ih=>
  simp only [List.map_cons,List.sum_cons]
  rcases List.mem_cons.1 h with rfl | h
  · omega
  · have:=ih h; omega
theorem Mj {α:Type} {f:α→Nat} {l:List α} (h:∀ x,1≤f x):l.length≤(l.map f).sum:=by
 induction l with
 | nil=>simp
 | cons y l ih=>simp only [List.map_cons,List.sum_cons,List.length_cons]; have:=h y; omega
theorem ah.gF (v:ah):1≤v.bulk:=by rw [ah.iC]; omega
theorem aj.gF (v:aj):1≤v.bulk:=by rw [aj.iC]; omega
theorem b_.gF (v:b_):1≤v.bulk:=by rw [b_.iC]; omega
theorem uX (v:ah):v.aI.length < v.bulk:=by rw [ah.iC,ah.iN]; have:=Mj (l:=v.aI) ah.gF; omega
theorem iH {v x:ah} (h:x∈v.aI):x.bulk < v.bulk:=by rw [ah.iC v,ah.iN]; have:=GL (f:=ah.bulk) h; omega
theorem uY (v:ah):v.keys.length < v.bulk:=by rw [ah.iC]; have:=Mj (l:=v.keys) (f:=fun z:Str=>z.length + 1) (fun x=>by omega); omega
theorem JQ {v:ah} {x:Str} (h:x∈v.keys):x.length < v.bulk:=by rw [ah.iC v]; have:=GL (f:=fun z:Str=>z.length + 1) h; omega
theorem Am (e:aj):e.args.length < e.bulk:=by rw [aj.iC,aj.iN]; have:=Mj (l:=e.args) aj.gF; omega
theorem fF {e x:aj} (h:x∈e.args):x.bulk < e.bulk:=by rw [aj.iC e,aj.iN]; have:=GL (f:=aj.bulk) h; omega
theorem xS (v:aj):v.keys.length < v.bulk:=by rw [aj.iC]; have:=Mj (l:=v.keys) (f:=fun z:Str=>z.length + 1) (fun x=>by omega); omega
theorem UU (v:aj):v.name.length < v.bulk:=by rw [aj.iC]; omega
theorem xP (v:aj):v.value.bulk < v.bulk:=by rw [aj.iC]; omega
mutual
def ecnt :aj→Nat
 | ⟨_,_,_,args,_⟩=>1 + vR args
def vR :List aj→Nat
 | []=>0
 | x :: r=>ecnt x + vR r
end
theorem tL (e:aj):ecnt e=1 + vR e.args:=by cases e; rfl
theorem YI :∀ (l:List aj) (n:Nat),(∀ x∈l,ecnt x≤x.bulk)→vR l≤(l.map aj.bulk).sum
 | [],_,_=>by simp [vR]
 | x :: r,n,h=>by
  simp only [vR,List.map_cons,List.sum_cons]
  have:=h x (by simp)
  have:=YI r n fun y hy=>h y (by simp [hy])
  omega
theorem Ba :∀ (n:Nat) (e:aj),e.bulk≤n→ecnt e≤e.bulk
 | 0,e,h=>by have:=e.gF; omega
 | n + 1,e,h=>by
  rw [tL,aj.iC,aj.iN]
  have:=YI e.args n fun x hx=>Ba n x (by have:=fF hx; omega)
  omega
theorem aai {go:aj→Option Int}:∀ (l:List aj) (i s:Nat),(∀ x∈l,go x=some (ecnt x:Int))→s + vR l < 4611686018427387904→
  dQ (fun _ e2 (n1:Int) r=>au (go e2) fun x2=>r (bS (n1 + x2))) (fun n1=>some n1) i l (s:Int)=some ((s + vR l:Nat):Int)
 | [],i,s,_,_=>by simp [dQ,vR]
 | x :: r,i,s,h,hs=>by
  simp only [vR] at hs ⊢
  rw [dQ,h x (by simp)]
  simp only [ay]
  have:bS ((s:Int) + (ecnt x:Int))=((s + ecnt x:Nat):Int):=by rw [qG (by omega)]; omega
  rw [this,aai r (i + 1) (s + ecnt x) (fun y hy=>h y (by simp [hy])) (by omega)]
  simp only [Option.some.injEq,Int.natCast_inj]; omega
theorem WI :∀ (n:Nat) (e:aj),e.bulk≤n→e.bulk < 4611686018427387904→lJ (n + 1) e=some (ecnt e:Int)∧pU (n + 1) e=some (ecnt e:Int)
 | 0,e,h,_=>by have:=e.gF; omega
 | n + 1,e,h,hB=>by
  have hl:=Am e
  have hle:=Ba _ e (Nat.le_refl _)
  rw [tL] at hle
  constructor
  ·
   unfold lJ yP
   have:=dP (F:=fun k s i=>su (lJ (n + 1)) e k s i) (l:=e.args) (body:=fun _ e2 (n1:Int) r=>au (lJ (n + 1) e2) fun x2=>r (bS (n1 + x2))) (fin:=fun n1=>some n1) (by omega) (fun k s i=>rfl) 1
   rw [this,show (1:Int)=((1:Nat):Int) from rfl,aai e.args 0 1 (fun x hx=>(WI n x (by have:=fF hx; omega) (by have:=fF hx; omega)).1) (by omega),tL]
  ·
   unfold pU Ep
   have:=dP (F:=fun k s i=>yH (pU (n + 1)) e k s i) (l:=e.args) (body:=fun _ e2 (n1:Int) r=>au (pU (n + 1) e2) fun x2=>r (bS (n1 + x2))) (fin:=fun n1=>some n1) (by omega) (fun k s i=>rfl) 1
   rw [this,show (1:Int)=((1:Nat):Int) from rfl,aai e.args 0 1 (fun x hx=>(WI n x (by have:=fF hx; omega) (by have:=fF hx; omega)).2) (by omega),tL]
theorem ru :∃ n,BIG=n + 1∧9223372036854775807≤n:=⟨BIG - 1,by decide,by decide⟩
theorem count_eq {e:aj} (h:e.bulk < 4611686018427387904):Co e=some (ecnt e:Int)∧FQ e=some (ecnt e:Int):=by
 obtain ⟨n,hn,hn2⟩:=ru
 unfold Co FQ
 rw [hn]
 exact WI n e (by omega) h
def isName (s:Str):Bool:=decide (1≤s.length) && decide (s.length≤64) && (match s with | c :: _=>isLet c | []=>false) && s.all fun c=>isLet c || dW c
def nY (s:Str):Bool:=isName s && !((s == ([116,114,117,101]:Str)) || (s == ([102,97,108,115,101]:Str)) || (s == ([110,117,108,108]:Str)))
theorem ajH (s:Str) (hs:s.length < 4611686018427387904):qN s BIG 0=some (s.all fun c=>isLet c || dW c):=by
 have:=dP (F:=fun k (_:Unit) i=>qN s k i) (l:=s) (body:=fun (i:Nat) x3 _ r=>au (if !(isLet x3) then au (idx s (i:Int)) fun x5=>some (!(dW x5)) else some false) fun b2=>if b2 then some false else r ()) (fin:=fun _=>some true) hs (fun k s i=>rfl) ()
 rw [this]
 have key:∀ (t:Str) (i:Nat),t=s.drop i→dQ (fun (i:Nat) x3 (_:Unit) r=>au (if !(isLet x3) then au (idx s (i:Int)) fun x5=>some (!(dW x5)) else some false) fun b2=>if b2 then some false else r ()) (fun _=>some true) i t ()=some (t.all fun c=>isLet c || dW c):=by
  intro t
  induction t with
  | nil=>intro i _; rfl
  | cons c t ih=>
   intro i ht
   have hi:i < s.length:=by
    rcases Nat.lt_or_ge i s.length with h | h
    · exact h
    · rw [List.drop_eq_nil_of_le h] at ht; cases ht
   have hc:=List.drop_eq_getElem_cons hi
   rw [←ht] at hc
   have e1:c=s[i]:=(List.cons.inj hc).1
   have e2:=(List.cons.inj hc).2
   rw [dQ,rA hi,←e1]
   simp only [ay]
   rw [ih (i + 1) e2]
   cases h1:isLet c <;> cases h2:dW c <;> simp [h1,h2]
 exact key s 0 rfl
theorem ah4 (s:Str) (hs:s.length < 4611686018427387904):xK s=some (isName s):=by
 unfold xK isName
 rw [ajH s hs]
 by_cases h1:s.length < 1
 ·
  have:s=[]:=by cases s; rfl; simp at h1
  subst this; simp
 ·
  by_cases h2:64 < s.length
  ·
   have e1:decide ((64:Int) < (s.length:Int))=true:=by simp; omega
   have e2:decide (s.length≤64)=false:=by simp; omega
   simp [e1,e2]
  ·
   cases s with
   | nil=>simp at h1
   | cons c s=>
    have e1:decide ((((c :: s).length:Nat):Int) < 1)=false:=by simp; omega
    have e2:decide ((64:Int) < (((c :: s).length:Nat):Int))=false:=by simp at h2 ⊢; omega
    have e3:decide ((c :: s).length≤64)=true:=by simp at h2 ⊢; omega
    have e4:idx (c :: s) 0=some c:=rfl
    rw [e1,e2,e3,e4]
    cases h3:isLet c <;> simp [h3]
theorem ahp (s:Str) (hs:s.length < 4611686018427387904):IU s=some (isName s):=by
 unfold IU
 have:=dP (F:=fun k (_:Unit) i=>Bw s k i) (l:=s) (body:=fun (i:Nat) x3 _ r=>au (if !(isLet x3) then (if (i:Int) == 0 then some true else au (idx s (i:Int)) fun x5=>some (!(dW x5))) else some false) fun b2=>if b2 then some false else r ())
  (fin:=fun _=>some ((decide (1≤(s.length:Int))) && (decide ((s.length:Int)≤64)))) hs (fun k s i=>rfl) ()
 rw [this]
 have key:∀ (t:Str) (i:Nat),t=s.drop i→dQ (fun (i:Nat) x3 (_:Unit) r=>au (if !(isLet x3) then (if (i:Int) == 0 then some true else au (idx s (i:Int)) fun x5=>some (!(dW x5))) else some false) fun b2=>if b2 then some false else r ())
   (fun _=>some ((decide (1≤(s.length:Int))) && (decide ((s.length:Int)≤64)))) i t ()=some ((decide (1≤s.length) && decide (s.length≤64)) && ((if i=0 then (match t with | c :: _=>isLet c | []=>true) else true) && t.all fun c=>isLet c || dW c)):=by
  intro t
  induction t with
  | nil=>
   intro i _
   rw [dQ]
   have e1:decide ((1:Int)≤(s.length:Int))=decide (1≤s.length):=by congr 1; simp; omega
   have e2:decide ((s.length:Int)≤64)=decide (s.length≤64):=by congr 1; simp; omega
   rw [e1,e2]; simp
  | cons c t ih=>
   intro i ht
   have hi:i < s.length:=by
    rcases Nat.lt_or_ge i s.length with h | h
    · exact h
    · rw [List.drop_eq_nil_of_le h] at ht; cases ht
   have hc:=List.drop_eq_getElem_cons hi
   rw [←ht] at hc
   have e1:c=s[i]:=(List.cons.inj hc).1
   have e2:=(List.cons.inj hc).2
   rw [dQ,rA hi,←e1]
   simp only [ay]
   rw [ih (i + 1) e2]
   by_cases h0:i=0
   ·
    subst h0
    cases h1:isLet c <;> simp [h1]
   ·
    have:((i:Int) == 0)=false:=by simp; omega
    rw [this]
    cases h1:isLet c <;> cases h2:dW c <;> simp [h1,h2,h0]
 rw [key s 0 rfl]
 unfold isName
 cases s with
 | nil=>simp
 | cons c s=>simp [Bool.and_assoc]
theorem XZ (s:Str) (hs:s.length < 4611686018427387904):rO s=some (nY s)∧xG s=some (nY s):=by
 unfold rO xG nY xI
 rw [ah4 s hs,ahp s hs]
 constructor
 · cases isName s <;> simp
 ·
  simp only [ay,Option.some.injEq]
  cases isName s <;> simp [Bool.not_or,Bool.and_assoc]
theorem Ei (s:Str):yF s=gG s:=rfl
theorem SL (s:Str):∃ n,gG s=some n:=by
 have:(gG s).isSome=true:=by
  unfold gG
  simp only [apply_ite Option.isSome,Option.isSome_some,ite_self]
 exact Option.isSome_iff_exists.1 this
end Go.Ft

namespace Go.Ft
open Go
attribute [local congr] jE
def uL (s:Str):Bool:=decide (1≤s.length) && decide (s.length≤64)
def SQ (a b:Str):Int:=(m_ a b).getD 0
theorem afW {a b:Str} (ha:a.length < 4611686018427387904) (hb:b.length < 4611686018427387904):jD a b=some (SQ a b)∧m_ a b=some (SQ a b):=by
 obtain ⟨c,h1,h2⟩:=Rz ha hb
 unfold SQ
 rw [h2]
 exact ⟨h1,rfl⟩
def JG :Option Str→List Str→Bool
 | _,[]=>true
 | p,k :: r=>uL k && (match p with | none=>true | some q=>decide (SQ q k < 0)) && JG (some k) r
theorem V9 (s:Str):((decide ((s.length:Int) < 1)) || (decide (64 < (s.length:Int))))=!uL s:=by
 unfold uL
 rw [Bool.eq_iff_iff]
 simp only [Bool.or_eq_true,Bool.not_eq_true',Bool.and_eq_false_iff,decide_eq_true_eq,decide_eq_false_iff_not]
 omega
theorem key_eq (s:Str):J3 s=some (uL s):=by
 unfold J3 uL
 simp only [Option.some.injEq]
 rw [Bool.eq_iff_iff]
 simp only [Bool.and_eq_true,decide_eq_true_eq]
 omega
def IZ (l:List Str) (i:Nat):Option Str:=if i=0 then none else l[i - 1]?
theorem abB {v:ah} (hv:v.bulk < 4611686018427387904):∀ (k i:Nat),v.keys.length < k + i→i≤v.keys.length→
  qJ v k (i:Int)=some (JG (IZ v.keys i) (v.keys.drop i))∧
  ow v k (i:Int)=some (JG (IZ v.keys i) (v.keys.drop i) && ((v.keys.length:Int) == (v.aI.length:Int)))
 | 0,i,h,h'=>by omega
 | k + 1,i,h,h'=>by
  have hlen:=uY v
  rw [qJ,ow]
  by_cases hi:i < v.keys.length
  ·
   have hm:v.keys[i]∈v.keys:=List.getElem_mem hi
   have hb:=JQ hm
   rw [List.drop_eq_getElem_cons hi,if_pos (by simp; omega),if_pos (by simp; omega),rA hi]
   simp only [ay,V9,key_eq,JG]
   obtain ⟨ih1,ih2⟩:=abB hv k (i + 1) (by omega) (by omega)
   have hp:IZ v.keys (i + 1)=some v.keys[i]:=by simp [IZ,hi]
   rw [hp] at ih1 ih2
   rw [zB (by omega),ih1,ih2]
   by_cases h0:i=0
   ·
    subst h0
    have hp0:IZ v.keys 0=none:=rfl
    rw [hp0]
    cases uL v.keys[0] <;> simp
   ·
    have hi1:i - 1 < v.keys.length:=by omega
    have hm1:v.keys[i - 1]∈v.keys:=List.getElem_mem hi1
    have hb1:=JQ hm1
    have hp0:IZ v.keys i=some v.keys[i - 1]:=by simp [IZ,h0,hi1]
    have e1:bS ((i:Int) - 1)=((i - 1:Nat):Int):=by rw [qG (by omega)]; omega
    obtain ⟨c1,c2⟩:=afW (a:=v.keys[i - 1]) (b:=v.keys[i]) (by omega) (by omega)
    have hpos:decide ((0:Int) < (i:Int))=true:=by simp; omega
    rw [hp0,e1,hpos,rA hi1]
    simp only [ay,c1,c2,if_true]
    have hn:decide (SQ v.keys[i - 1] v.keys[i] < 0)=!decide (0≤SQ v.keys[i - 1] v.keys[i]):=by
     by_cases h:0≤SQ v.keys[i - 1] v.keys[i] <;> simp [h] <;> omega
    rw [hn]
    cases uL v.keys[i] <;> cases decide (0≤SQ v.keys[i - 1] v.keys[i]) <;> simp
  ·
   have:i=v.keys.length:=by omega
   subst this
   simp [JG]
theorem Yn {v:ah} (hv:v.bulk < 4611686018427387904):Bl v=some (((v.keys.length:Int) == (v.aI.length:Int)) && JG none v.keys)∧wB v=some (((v.keys.length:Int) == (v.aI.length:Int)) && JG none v.keys):=by
 have hlen:=uY v
 obtain ⟨h1,h2⟩:=abB hv BIG 0 (by have:=j_; omega) (by omega)
 have hp0:IZ v.keys 0=none:=rfl
 rw [hp0,List.drop_zero] at h1 h2
 unfold Bl wB
 rw [show (0:Int)=((0:Nat):Int) from rfl,h1,h2]
 by_cases h:(v.keys.length:Int)=(v.aI.length:Int)
 · simp [h]
 ·
  have:((v.keys.length:Int) == (v.aI.length:Int))=false:=by simpa using h
  simp [this]
  intro hh; exact absurd hh h
def qH (v:ah):Bool:=
 (((((v.kind == 1) || (!v.dh)) && ((v.kind == 2) || (v.bZ == 0))) && ((v.kind == 3) || (v.bI == ([]:Str)))) && (((v.kind == 4) || (v.kind == 5)) || ((v.aI.length:Int) == 0))) && ((v.kind == 5) || ((v.keys.length:Int) == 0))
theorem ahq (v:ah):FR v=some (qH v):=by
 unfold FR qH
 have hl:decide (0 < (v.aI.length:Int))=!((v.aI.length:Int) == 0):=by
  cases h:v.aI <;> simp
  omega
 rw [hl]
 have hk:∀ n:Int,(v.kind != n)=!(v.kind == n):=fun n=>rfl
 have hi:(v.bZ != 0)=!(v.bZ == 0):=rfl
 rw [hk,hk,hk,hk,hk,hi]
 generalize (v.kind == 1)=a1
 generalize (v.kind == 2)=a2
 generalize (v.kind == 3)=a3
 generalize (v.kind == 4)=a4
 generalize (v.kind == 5)=a5
 generalize v.dh=b
 generalize (v.bZ == 0)=c
 generalize (v.bI == ([]:Str))=d
 generalize ((v.aI.length:Int) == 0)=e
 generalize ((v.keys.length:Int) == 0)=f
 revert a1 a2 a3 a4 a5 b c d e f
 decide
def ny (v:ah) (level:Nat):Int:=
 if 16 < level then 13
 else if (decide (v.kind < 0)) || (decide (5 < v.kind)) || !qH v then 1
 else if (decide (v.bZ < (-9007199254740992))) || (decide (9007199254740992 < v.bZ)) then 2
 else if ((decide (4096 < (v.bI.length:Int))) || (decide (1024 < (v.aI.length:Int)))) || (decide (1024 < (v.keys.length:Int))) then 3
 else if v.kind == 5 && !(((v.keys.length:Int) == (v.aI.length:Int)) && JG none v.keys) then 1
 else if (((v.kind == 4) || (v.kind == 5)) && ((v.aI.length:Int) == 0)) && level == 16 then 13
 else 0
theorem afQ {v:ah} (hv:v.bulk < 4611686018427387904) (level:Nat):Dc v (level:Int)=some (ny v level):=by
 unfold Dc ny Ch
 have h16:decide ((16:Int) < (level:Int))=decide (16 < level):=by congr 1; simp; omega
 have ain:((level:Int) == 16)=(level == 16):=by
  rw [Bool.eq_iff_iff]; simp only [beq_iff_eq]; omega
 rw [h16,ain,(Yn hv).1]
 change (if decide (16 < level)=true then some 13 else au (if (decide (v.kind < 0) || decide (5 < v.kind))=true then some true else au (some (qH v)) fun x1=>some (!x1)) _)=_
 by_cases h0:16 < level
 · simp [h0]
 ·
  simp only [h0,decide_false,Bool.false_eq_true,if_false,ay]
  cases h1:(decide (v.kind < 0) || decide (5 < v.kind)) with
  | true=>simp
  | false=>
   cases h2:qH v with
   | false=>simp
   | true=>
    simp only [Bool.false_eq_true,if_false,Bool.not_true,ay,Bool.or_self]
    split
    · rfl
    ·
     split
     · rfl
     · cases h3:(v.kind == 5) <;> cases h4:(((v.keys.length:Int) == (v.aI.length:Int)) && JG none v.keys) <;> simp <;> (first | rfl | (split <;> rfl))
mutual
def uZ :ah→Nat→Int
 | ⟨a,b,c,d,l,f⟩,level=>if ny ⟨a,b,c,d,l,f⟩ level != 0 then ny ⟨a,b,c,d,l,f⟩ level else C_ l (level + 1)
def C_ :List ah→Nat→Int
 | [],_=>0
 | x :: r,level=>if uZ x level != 0 then uZ x level else C_ r level
end
theorem LG (v:ah) (level:Nat):uZ v level=if ny v level != 0 then ny v level else C_ v.aI (level + 1):=by cases v; rw [uZ]
theorem aj8 {go:ah→Int→Option Int} {level:Nat}:∀ (l:List ah) (i:Nat),(∀ x∈l,go x ((level + 1:Nat):Int)=some (uZ x (level + 1)))→
  dQ (fun _ e1 (_:Unit) r=>au (go e1 ((level + 1:Nat):Int)) fun e2=>if e2 != 0 then some e2 else r ()) (fun _=>some 0) i l ()=some (C_ l (level + 1))
 | [],i,_=>by simp [dQ,C_]
 | x :: r,i,h=>by
  rw [dQ,h x (by simp),C_]
  simp only [ay]
  rw [aj8 r (i + 1) (fun y hy=>h y (by simp [hy]))]
  split <;> rfl
theorem YP :∀ (n:Nat) (v:ah) (level:Nat),v.bulk≤n→v.bulk < 4611686018427387904→level≤17→pV (n + 1) v (level:Int)=some (uZ v level)
 | 0,v,_,h,_,_=>by have:=v.gF; omega
 | n + 1,v,level,h,hB,hlv=>by
  have hl:=uX v
  rw [LG]
  unfold pV Et
  have h16:decide ((16:Int) < (level:Int))=decide (16 < level):=by congr 1; simp; omega
  have ain:((level:Int) == 16)=(level == 16):=by
   rw [Bool.eq_iff_iff]; simp only [beq_iff_eq]; omega
  rw [h16,ain,(Yn hB).2,ahq]
  unfold ny
  by_cases h0:16 < level
  · simp [h0]
  ·
   have hw:bS ((level:Int) + 1)=((level + 1:Nat):Int):=zB (by omega)
   have:=dP (F:=fun k (_:Unit) i=>yI (pV (n + 1)) v (level:Int) k i) (l:=v.aI) (body:=fun _ e1 _ r=>au (pV (n + 1) e1 ((level + 1:Nat):Int)) fun e2=>if e2 != 0 then some e2 else r ()) (fin:=fun _=>some 0) (by omega) (fun k s i=>by rw [←hw]; rfl) ()
   rw [this,aj8 v.aI 0 fun x hx=>YP n x (level + 1) (by have:=iH hx; omega) (by have:=iH hx; omega) (by omega)]
   simp only [h0,decide_false,Bool.false_eq_true,if_false,ay]
   cases h1:(decide (v.kind < 0) || decide (5 < v.kind)) with
   | true=>simp
   | false=>
    cases h2:qH v with
    | false=>simp
    | true=>
     simp only [Bool.false_eq_true,if_false,Bool.not_true,ay,Bool.or_self]
     split
     · simp
     ·
      split
      · simp
      ·
       have h4:decide ((4:Int)≤v.kind)=((v.kind == 4) || (v.kind == 5)):=by
        simp only [Bool.or_eq_false_iff,decide_eq_false_iff_not] at h1
        rw [Bool.eq_iff_iff]
        simp only [Bool.or_eq_true,decide_eq_true_eq,beq_iff_eq]
        omega
       rw [h4]
       cases h3:(v.kind == 5) <;> cases h5:(((v.keys.length:Int) == (v.aI.length:Int)) && JG none v.keys) <;> simp <;> (first | rfl | (split <;> simp <;> rename_i hq <;> (first
        | exact fun hh=>absurd hq.2 (hh hq.1.1 hq.1.2)
        | exact fun a b c=>absurd ⟨⟨a,b⟩,c⟩ hq)))
theorem Vu {v:ah} (h:v.bulk < 4611686018427387904):xH v=some (uZ v 1):=by
 obtain ⟨n,hn,hn2⟩:=ru
 unfold xH Ng
 rw [hn]
 exact YP n v 1 (by omega) h (by omega)
def PZ (c:Int):Bool × Option Int:=if c != 0 then (false,some c) else (true,none)
theorem ajc {v:ah} (hv:v.bulk < 4611686018427387904) (level:Nat):mG none (level:Int) v=some (PZ (ny v level)):=by
 unfold mG PZ
 simp only [afQ hv,ay]
 by_cases h:ny v level=0 <;> simp [h]
theorem agD {go:Option Int→ah→Int→Option (Bool × Option Int)} {level:Nat}:∀ (l:List ah) (i:Nat),(∀ x∈l,go none x ((level + 1:Nat):Int)=some (PZ (uZ x (level + 1))))→
  dQ (fun _ x1 (s1:Option Int) r=>fG (go s1 x1 ((level + 1:Nat):Int)) fun b1 s2=>if !b1 then some (false,s2) else r s2) (fun s1=>some (true,s1)) i l none=some (PZ (C_ l (level + 1)))
 | [],i,_=>by simp [dQ,C_,PZ]
 | x :: r,i,h=>by
  rw [dQ,h x (by simp),C_]
  by_cases hc:uZ x (level + 1)=0
  ·
   simp only [hc,PZ,bne_self_eq_false,Bool.false_eq_true,if_false,dH,Bool.not_true]
   rw [agD r (i + 1) (fun y hy=>h y (by simp [hy]))]
   rfl
  · simp [hc,PZ]
theorem ac4 :∀ (n:Nat) (v:ah) (level:Nat),v.bulk≤n→v.bulk < 4611686018427387904→level≤17→gV mG (n + 1) none v (level:Int)=some (PZ (uZ v level))
 | 0,v,_,h,_,_=>by have:=v.gF; omega
 | n + 1,v,level,h,hB,hlv=>by
  have hl:=uX v
  rw [LG]
  unfold gV u7
  rw [ajc hB]
  by_cases h0:ny v level=0
  ·
   have akU:level≤16:=by
    rcases Nat.lt_or_ge 16 level with h | h
    · unfold ny at h0; simp [h] at h0
    · exact h
   have hw:bS ((level:Int) + 1)=((level + 1:Nat):Int):=zB (by omega)
   have:=dP (F:=fun k s i=>lq (gV mG (n + 1)) v (level:Int) k s i) (l:=v.aI) (body:=fun _ x1 (s1:Option Int) r=>fG (gV mG (n + 1) s1 x1 ((level + 1:Nat):Int)) fun b1 s2=>if !b1 then some (false,s2) else r s2) (fin:=fun s1=>some (true,s1)) (by omega) (fun k s i=>by rw [←hw]; rfl) none
   simp only [h0,PZ,bne_self_eq_false,Bool.false_eq_true,if_false,dH,Bool.not_true]
   rw [this,agD v.aI 0 fun x hx=>ac4 n x (level + 1) (by have:=iH hx; omega) (by have:=iH hx; omega) (by omega)]
   rfl
  · simp [h0,PZ]
theorem CP {v:ah} (h:v.bulk < 4611686018427387904):kr v=some (uZ v 1):=by
 obtain ⟨n,hn,hn2⟩:=ru
 unfold kr Db
 rw [hn,show (1:Int)=((1:Nat):Int) from rfl,ac4 n v 1 (by omega) h (by omega)]
 unfold PZ
 by_cases hc:uZ v 1=0 <;> simp [hc]
end Go.Ft

namespace Go.Ft
open Go
attribute [local congr] jE
def Ob (v:ah):Bool:=(((((v.kind == 0) && (!v.dh)) && (v.bZ == 0)) && (v.bI == ([]:Str))) && ((v.aI.length:Int) == 0)) && ((v.keys.length:Int) == 0)
theorem zero_eq (v:ah):Ey v=some (Ob v):=rfl
theorem abX (v:ah):r9 v (ah.mk 0 false 0 ([]:Str) [] [])=some (Ob v):=by
 obtain ⟨n,hn,hn2⟩:=ru
 obtain ⟨m,hm⟩:∃ m,n=m + 1:=⟨n - 1,by omega⟩
 have hB:BIG=(m + 1) + 1:=by omega
 unfold r9
 rw [hB,uD,Dl]
 have hz:Ob v=!(((((v.kind != 0) || (!(v.dh == false))) || (v.bZ != 0)) || (!(v.bI == ([]:Str)))) || ((v.aI.length:Int) != (([]:List ah).length:Int)) || ((v.keys.length:Int) != (([]:List Str).length:Int))):=by
  unfold Ob
  have hk:(v.kind != 0)=!(v.kind == 0):=rfl
  have hi:(v.bZ != 0)=!(v.bZ == 0):=rfl
  have hl:((v.aI.length:Int) != (([]:List ah).length:Int))=!((v.aI.length:Int) == 0):=rfl
  have hks:((v.keys.length:Int) != (([]:List Str).length:Int))=!((v.keys.length:Int) == 0):=rfl
  rw [hk,hi,hl,hks]
  generalize (v.kind == 0)=a
  generalize v.dh=b
  generalize (v.bZ == 0)=c
  generalize (v.bI == ([]:Str))=d
  generalize ((v.aI.length:Int) == 0)=e
  generalize ((v.keys.length:Int) == 0)=f
  revert a b c d e f
  decide
 cases h:(((((v.kind != 0) || (!(v.dh == false))) || (v.bZ != 0)) || (!(v.bI == ([]:Str)))) || ((v.aI.length:Int) != (([]:List ah).length:Int)) || ((v.keys.length:Int) != (([]:List Str).length:Int))) with
 | true=>
  rw [hz,h]
  rfl
 | false=>
  rw [hz,h]
  simp only [Bool.or_eq_false_iff] at h
  have hl:v.aI=[]:=by have:=h.1.2; simpa using this
  have hk:v.keys=[]:=by have:=h.2; simpa using this
  simp only [Bool.false_eq_true,if_false,Bool.not_false]
  rw [hB,uE,hk]
  simp only [List.length_nil,Int.lt_irrefl,decide_false,Bool.false_eq_true,if_false,Int.ofNat_zero,Int.natCast_zero]
  rw [hB,mY,hl]
  simp
def sW (e:aj):Bool:=
 if e.kind == 1 then (e.args.length:Int) == 0 else if e.kind == 2 then (e.args.length:Int) == 0 else if e.kind == 3 then (e.args.length:Int) == 1 else if e.kind == 6 then (e.args.length:Int) == 1
 else if e.kind == 4 then (e.args.length:Int) == 2 else if e.kind == 7 then (e.args.length:Int) == 2 else if e.kind == 8 then (e.args.length:Int) == 3 else ((e.kind == 5) || (e.kind == 9)) || (e.kind == 10)
theorem agw (e:aj):FP e=some (sW e):=by
 unfold FP sW
 simp only [apply_ite some]
def Ab (e:aj):Bool:=!((decide (e.kind < 1)) || (decide (10 < e.kind)))
theorem aiM (e:aj) (h:Ab e=true):yO e=some (sW e):=by
 unfold yO sW
 unfold Ab at h
 simp only [Bool.not_eq_true',Bool.or_eq_false_iff,decide_eq_false_iff_not] at h
 simp only [apply_ite some]
 have hh:¬ e.kind=1→¬ e.kind=2→¬ e.kind=3→¬ e.kind=6→¬ e.kind=4→¬ e.kind=7→¬ e.kind=8→(((e.kind == 5) || (e.kind == 9)) || (e.kind == 10))=true:=by
  intro h1 h2 h3 h6 h4 h7 h8
  simp only [Bool.or_eq_true,beq_iff_eq]
  omega
 by_cases h1:e.kind=1
 · simp [h1]
 by_cases h2:e.kind=2
 · simp [h2]
 by_cases h3:e.kind=3
 · simp [h3]
 by_cases h6:e.kind=6
 · simp [h6]
 by_cases h4:e.kind=4
 · simp [h4]
 by_cases h7:e.kind=7
 · simp [h7]
 by_cases h8:e.kind=8
 · simp [h8]
 rw [hh h1 h2 h3 h6 h4 h7 h8]
 all_goals simp [h1,h2,h3,h4,h6,h7,h8]
def LQ (s:Str):Int:=(gG s).getD 0
theorem abT (s:Str):gG s=some (LQ s):=by
 obtain ⟨n,h⟩:=SL s
 unfold LQ; rw [h]; rfl
def Al (e:aj):Bool:=
 if e.kind == 2 then nY e.name else if e.kind == 3 then nY e.name else if e.kind == 5 then nY e.name else if e.kind == 6 then (e.name == ([33]:Str)) || (e.name == ([45]:Str))
 else if e.kind == 7 then decide (0 < LQ e.name) else e.name == ([]:Str)
theorem X9 (e:aj) (h:e.bulk < 4611686018427387904):yL e=some (Al e)∧FN e=some (Al e):=by
 have hn:=UU e
 obtain ⟨p1,p2⟩:=XZ e.name (by omega)
 unfold yL FN Al
 rw [p1,p2,Ei,abT]
 simp only [ay,apply_ite some,and_self]
theorem ala (l:List Str) (hl:l.length < 4611686018427387904):g_ l kI=some (l.any fun k=>!uL k):=by
 unfold g_ jG
 have:=dP (F:=fun k (_:Unit) i=>gZ l kI k i) (l:=l) (body:=fun (i:Nat) e1 _ r=>au (kI e1) fun x1=>if x1 then some (i:Int) else r ()) (fin:=fun _=>some (-1)) hl (fun k s i=>rfl) ()
 rw [this]
 have key:∀ (t:List Str) (i:Nat),au (dQ (fun (i:Nat) e1 (_:Unit) r=>au (kI e1) fun x1=>if x1 then some (i:Int) else r ()) (fun _=>some (-1)) i t ()) (fun x1=>some (decide (0≤x1)))=some (t.any fun k=>!uL k):=by
  intro t
  induction t with
  | nil=>intro i; rfl
  | cons c t ih=>
   intro i
   rw [dQ]
   have e1:kI c=some (!uL c):=by unfold kI; rw [V9]
   rw [e1]
   simp only [ay,List.any_cons]
   cases h:uL c with
   | false=>simp
   | true=>
    simp only [Bool.not_true,Bool.false_eq_true,if_false,Bool.false_or]
    exact ih (i + 1)
 exact key l 0
def Cb (e:aj):Bool:=if e.kind != 10 then (e.keys.length:Int) == 0 else ((e.keys.length:Int) == (e.args.length:Int)) && !(e.keys.any fun k=>!uL k)
theorem aib (e:aj) (h:e.bulk < 4611686018427387904):yM e=some (Cb e):=by
 have hk:=xS e
 unfold yM Cb
 rw [ala e.keys (by omega)]
 split
 · rfl
 · cases ((e.keys.length:Int) == (e.args.length:Int)) <;> simp
theorem af4 (e:aj) (h:e.bulk < 4611686018427387904):sH e BIG 0=some (!(e.keys.any fun k=>!uL k) && ((e.keys.length:Int) == (e.args.length:Int))):=by
 have hk:=xS e
 have:=dP (F:=fun k (_:Unit) i=>sH e k i) (l:=e.keys) (body:=fun (i:Nat) e2 _ r=>au (if decide ((e2.length:Int) < 1) then some true else au (idx e.keys (i:Int)) fun e3=>some (decide (64 < (e3.length:Int)))) fun b4=>if b4 then some false else r ())
  (fin:=fun _=>some ((e.keys.length:Int) == (e.args.length:Int))) (by omega) (fun k s i=>rfl) ()
 rw [this]
 have key:∀ (t:List Str) (i:Nat),t=e.keys.drop i→dQ (fun (i:Nat) e2 (_:Unit) r=>au (if decide ((e2.length:Int) < 1) then some true else au (idx e.keys (i:Int)) fun e3=>some (decide (64 < (e3.length:Int)))) fun b4=>if b4 then some false else r ())
   (fun _=>some ((e.keys.length:Int) == (e.args.length:Int))) i t ()=some (!(t.any fun k=>!uL k) && ((e.keys.length:Int) == (e.args.length:Int))):=by
  intro t
  induction t with
  | nil=>intro i _; rfl
  | cons c t ih=>
   intro i ht
   have hi:i < e.keys.length:=by
    rcases Nat.lt_or_ge i e.keys.length with h | h
    · exact h
    · rw [List.drop_eq_nil_of_le h] at ht; cases ht
   have hc:=List.drop_eq_getElem_cons hi
   rw [←ht] at hc
   have e1:c=e.keys[i]:=(List.cons.inj hc).1
   have e2:=(List.cons.inj hc).2
   rw [dQ,rA hi,←e1]
   simp only [ay,List.any_cons]
   rw [ih (i + 1) e2]
   have e3:=V9 c
   cases h1:decide ((List.length c:Int) < 1) <;> rw [h1] at e3
   ·
    simp only [Bool.false_or] at e3
    simp only [Bool.false_eq_true,if_false,ay,e3]
    cases uL c <;> simp
   ·
    simp only [Bool.true_or] at e3
    have:uL c=false:=by
     cases h:uL c with
     | false=>rfl
     | true=>rw [h] at e3; cases e3
    simp [this]
 exact key e.keys 0 rfl
def rV (e:aj):Bool:=Ab e && ((e.kind == 1) || Ob e.value) && Al e && sW e && Cb e
theorem aaB (e:aj) (h:sW e=true):Ab e=true:=by
 unfold sW at h
 unfold Ab
 simp only [Bool.not_eq_true',Bool.or_eq_false_iff,decide_eq_false_iff_not]
 by_cases h1:e.kind=1
 · omega
 by_cases h2:e.kind=2
 · omega
 by_cases h3:e.kind=3
 · omega
 by_cases h6:e.kind=6
 · omega
 by_cases h4:e.kind=4
 · omega
 by_cases h7:e.kind=7
 · omega
 by_cases h8:e.kind=8
 · omega
 simp [h1,h2,h3,h4,h6,h7,h8] at h
 omega
theorem acu (e:aj) (h:e.bulk < 4611686018427387904):Dk e=some (rV e):=by
 unfold Dk rV
 rw [agw,(X9 e h).2,abX,af4 e h]
 have hk:=aaB e
 unfold Cb
 have hne:(e.kind != 1)=!(e.kind == 1):=rfl
 rw [hne]
 cases h1:sW e with
 | false=>cases (e.kind == 1) <;> simp
 | true=>
  rw [hk h1]
  cases h2:Al e with
  | false=>cases (e.kind == 1) <;> simp
  | true=>
   cases h3:(e.kind == 1) <;> cases h4:Ob e.value <;> simp <;> (first | done | (split <;> simp [Bool.and_comm]))
theorem J6 (y:List (Str × Int)) (s t:Str) (n:Int):sV (wE y s n) t=if t=s then n else sV y t:=by
 induction y with
 | nil=>by_cases h:t=s <;> simp [wE,sV,h]
 | cons a y ih=>
  obtain ⟨k,v⟩:=a
  unfold wE
  by_cases h:s=k
  ·
   subst h
   simp only [beq_self_eq_true,if_true]
   unfold sV
   by_cases h2:t=s
   · simp [h2]
   ·
    have:(t == s)=false:=beq_eq_false_iff_ne.2 h2
    simp [this,h2]
  ·
   have:(s == k)=false:=beq_eq_false_iff_ne.2 h
   rw [this]
   simp only [Bool.false_eq_true,if_false]
   unfold sV
   by_cases h2:t=k
   ·
    subst h2
    have:¬ t=s:=fun hh=>h hh.symm
    simp [this]
   ·
    have h3:(t == k)=false:=beq_eq_false_iff_ne.2 h2
    rw [h3]
    simp only [Bool.false_eq_true,if_false]
    exact ih
def K_ :List Str→List Str→Bool
 | _,[]=>false
 | seen,s :: r=>seen.contains s || K_ (seen ++ [s]) r
theorem aho (l:List Str) (hl:l.length < 4611686018427387904):sj l=some (K_ [] l):=by
 unfold sj
 have:=dP (F:=fun k s i=>oI l k i s) (l:=l) (body:=fun _ s1 (y1:List (Str × Int)) r=>if decide (1 < (sV (wE y1 s1 (bS ((sV y1 s1) + 1))) s1)) then some true else r (wE y1 s1 (bS ((sV y1 s1) + 1)))) (fin:=fun _=>some false) hl (fun k s i=>rfl) []
 rw [this]
 have key:∀ (t:List Str) (i:Nat) (y:List (Str × Int)) (seen:List Str),(∀ s,sV y s=if s∈seen then 1 else 0)→
   dQ (fun _ s1 (y1:List (Str × Int)) r=>if decide (1 < (sV (wE y1 s1 (bS ((sV y1 s1) + 1))) s1)) then some true else r (wE y1 s1 (bS ((sV y1 s1) + 1)))) (fun _=>some false) i t y=some (K_ seen t):=by
  intro t
  induction t with
  | nil=>intro i y seen _; rfl
  | cons c t ih=>
   intro i y seen hy
   rw [dQ,K_,J6,if_pos rfl,hy c]
   by_cases hc:c∈seen
   ·
    have:bS 2=2:=by decide
    simp [hc,this]
   ·
    have:bS ((0:Int) + 1)=1:=by decide
    simp only [hc,if_false,this]
    have e:seen.contains c=false:=by simpa using hc
    rw [e]
    simp only [Int.lt_irrefl,decide_false,Bool.false_eq_true,if_false,Bool.false_or]
    refine ih (i + 1) _ (seen ++ [c]) fun s=>?_
    rw [J6,hy s]
    by_cases h1:s=c
    · subst h1; simp
    · simp [h1]
 exact key l 0 [] [] (fun s=>by simp [sV])
theorem Xv (l:List Str) (i:Nat) (hi:i < l.length) (hl:l.length < 4611686018427387904) (go:Int→Option Bool):∀ (k j:Nat),i < k + j→j≤i→
  vB l (i:Int) go k (j:Int)=if ((l.take i).drop j).contains l[i] then some true else go ((i + 1:Nat):Int)
 | 0,j,h,h'=>by omega
 | k + 1,j,h,h'=>by
  rw [vB]
  by_cases hj:j < i
  ·
   have hlt:j < (l.take i).length:=by simp; omega
   rw [if_pos (by simpa using hj),rA hi,rA (by omega),List.drop_eq_getElem_cons hlt]
   simp only [ay,List.contains_cons,List.getElem_take]
   cases h1:(l[i] == l[j]) with
   | true=>simp
   | false=>
    simp only [Bool.false_eq_true,if_false,Bool.false_or]
    rw [zB (by omega)]
    exact Xv l i hi hl go k (j + 1) (by omega) (by omega)
  ·
   have:j=i:=by omega
   subst this
   rw [if_neg (by simp),zB (by omega)]
   have:(List.take j l).drop j=[]:=List.drop_eq_nil_of_le (by simp; omega)
   rw [this]
   simp
theorem Uc (l:List Str) (hl:l.length < 4611686018427387904):∀ (k i:Nat),l.length < k + i→i≤l.length→pK l k (i:Int)=some (K_ (l.take i) (l.drop i))
 | 0,i,h,h'=>by omega
 | k + 1,i,h,h'=>by
  rw [pK]
  by_cases hi:i < l.length
  ·
   rw [if_pos (by simpa using hi),List.drop_eq_getElem_cons hi,K_]
   have:=Xv l i hi hl (pK l k) BIG 0 (by have:=j_; omega) (by omega)
   rw [show (0:Int)=((0:Nat):Int) from rfl,this,List.drop_zero,Uc l hl k (i + 1) (by omega) (by omega)]
   have e:List.take (i + 1) l=List.take i l ++ [l[i]]:=by rw [List.take_add_one,List.getElem?_eq_getElem hi]; rfl
   rw [e]
   cases (l.take i).contains l[i] <;> simp
  ·
   have:i=l.length:=by omega
   subst this
   simp [K_]
theorem adj (l:List Str) (hl:l.length < 4611686018427387904):FM l=some (K_ [] l):=by
 have:=Uc l hl BIG 0 (by have:=j_; omega) (by omega)
 simpa [FM] using this
def tY (e:aj) (level:Nat):Int:=
 if 16 < level then 13 else if !rV e then 1 else if e.kind == 1 && (uZ e.value 1 != 0) then uZ e.value 1 else if decide (1024 < (e.args.length:Int)) then 3 else if K_ [] e.keys then 7 else 0
theorem adD (e:aj) (h:e.bulk < 4611686018427387904) (level:Nat):BF e (level:Int)=some (tY e level):=by
 have hk:=xS e
 have hv:=xP e
 unfold BF tY
 have h16:decide ((16:Int) < (level:Int))=decide (16 < level):=by congr 1; simp; omega
 rw [h16,zero_eq,(X9 e h).1,aib e h,CP (by omega),aho e.keys (by omega)]
 by_cases h0:16 < level
 · simp [h0]
 ·
  simp only [h0,decide_false,Bool.false_eq_true,if_false,ay]
  have hkd:((decide (e.kind < 1)) || (decide (10 < e.kind)))=!Ab e:=by simp [Ab]
  have hne:(e.kind != 1)=!(e.kind == 1):=rfl
  rw [hkd,hne]
  unfold rV
  cases h1:Ab e with
  | false=>simp
  | true=>
   rw [aiM e h1]
   cases h3:(e.kind == 1) <;> cases h4:Ob e.value <;> cases h5:Al e <;> cases h6:sW e <;> cases h7:Cb e <;> simp <;>
    (first | done | (split <;> (first | rfl | (split <;> (first | rfl | (split <;> rfl))))))
end Go.Ft

namespace Go.Ft
open Go
attribute [local congr] jE
mutual
def zG :aj→Nat→Int
 | ⟨a,b,c,l,f⟩,level=>if tY ⟨a,b,c,l,f⟩ level != 0 then tY ⟨a,b,c,l,f⟩ level else Il l (level + 1)
def Il :List aj→Nat→Int
 | [],_=>0
 | x :: r,level=>if zG x level != 0 then zG x level else Il r level
end
theorem JM (e:aj) (level:Nat):zG e level=if tY e level != 0 then tY e level else Il e.args (level + 1):=by cases e; rw [zG]
theorem KO {go:aj→Int→Option Int} {level:Nat}:∀ (l:List aj) (i:Nat),(∀ x∈l,go x ((level + 1:Nat):Int)=some (zG x (level + 1)))→
  dQ (fun _ e1 (_:Unit) r=>au (go e1 ((level + 1:Nat):Int)) fun e2=>if e2 != 0 then some e2 else r ()) (fun _=>some 0) i l ()=some (Il l (level + 1))
 | [],i,_=>by simp [dQ,Il]
 | x :: r,i,h=>by
  rw [dQ,h x (by simp),Il]
  simp only [ay]
  rw [KO r (i + 1) (fun y hy=>h y (by simp [hy]))]
  split <;> rfl
theorem PW :∀ (n:Nat) (e:aj) (level:Nat),e.bulk≤n→e.bulk < 4611686018427387904→level≤17→lH (n + 1) e (level:Int)=some (zG e level)∧pO (n + 1) e (level:Int)=some (zG e level)
 | 0,e,_,h,_,_=>by have:=e.gF; omega
 | n + 1,e,level,h,hB,hlv=>by
  have hl:=Am e
  have hv:=xP e
  have hks:=xS e
  have hw:bS ((level:Int) + 1)=((level + 1:Nat):Int):=zB (by omega)
  constructor
  ·
   rw [JM]
   unfold lH yK
   have:=dP (F:=fun k (_:Unit) i=>r_ (lH (n + 1)) e (level:Int) k i) (l:=e.args) (body:=fun _ e1 _ r=>au (lH (n + 1) e1 ((level + 1:Nat):Int)) fun e2=>if e2 != 0 then some e2 else r ()) (fin:=fun _=>some 0) (by omega) (fun k s i=>by rw [←hw]; rfl) ()
   rw [adD e hB,this]
   simp only [ay]
   by_cases h0:tY e level=0
   ·
    have akU:level≤16:=by
     rcases Nat.lt_or_ge 16 level with h | h
     · unfold tY at h0; simp [h] at h0
     · exact h
    rw [KO e.args 0 fun x hx=>(PW n x (level + 1) (by have:=fF hx; omega) (by have:=fF hx; omega) (by omega)).1]
    simp [h0]
   · simp [h0]
  ·
   rw [JM]
   unfold pO Eo
   have:=dP (F:=fun k (_:Unit) i=>yE (pO (n + 1)) e (level:Int) k i) (l:=e.args) (body:=fun _ e1 _ r=>au (pO (n + 1) e1 ((level + 1:Nat):Int)) fun e2=>if e2 != 0 then some e2 else r ()) (fin:=fun _=>some 0) (by omega) (fun k s i=>by rw [←hw]; rfl) ()
   have h16:decide ((16:Int) < (level:Int))=decide (16 < level):=by congr 1; simp; omega
   rw [acu e hB,Vu (by omega),adj e.keys (by omega),this,h16]
   by_cases h0:16 < level
   · simp [tY,h0]
   ·
    rw [KO e.args 0 fun x hx=>(PW n x (level + 1) (by have:=fF hx; omega) (by have:=fF hx; omega) (by omega)).2]
    unfold tY
    simp only [h0,decide_false,Bool.false_eq_true,if_false,ay]
    cases rV e with
    | false=>simp
    | true=>
     simp only [Bool.not_true,Bool.false_eq_true,if_false]
     cases h1:(e.kind == 1 && (uZ e.value 1 != 0)) with
     | true=>
      have:uZ e.value 1≠0:=by simp at h1; exact h1.2
      simp [this]
     | false=>
      simp only [Bool.false_eq_true,if_false]
      by_cases h2:(1024:Int) < (e.args.length:Int)
      · simp [h2]
      ·
       simp only [h2,decide_false,Bool.false_eq_true,if_false]
       cases K_ [] e.keys <;> simp
def xval (e:aj):Int:=if 4096 < ecnt e then 15 else zG e 1
theorem Gf {e:aj} (h:e.bulk < 4611686018427387904):jY e=some (xval e)∧xF e=some (xval e):=by
 obtain ⟨n,hn,hn2⟩:=ru
 obtain ⟨c1,c2⟩:=count_eq h
 obtain ⟨v1,v2⟩:=PW n e 1 (by omega) h (by omega)
 unfold jY xF xval Gw Nc
 rw [c1,c2,hn]
 have:decide ((4096:Int) < (ecnt e:Int))=decide (4096 < ecnt e):=by congr 1; simp; omega
 simp only [ay,this]
 rw [show (1:Int)=((1:Nat):Int) from rfl,v1,v2]
 by_cases h4:4096 < ecnt e <;> simp [h4]
inductive Ty where
 | leaf (k:Int)
 | nest (k:Int) (t:Ty)
namespace Ty
def api :Ty→b_
 | leaf k=>⟨k,[]⟩
 | nest k t=>⟨k,[t.api]⟩
def wf :Ty→Prop
 | leaf k=>0≤k∧k≤7∧k≠5∧k≠6
 | nest k t=>(k=5∨k=6)∧t.wf
def dep :Ty→Nat
 | leaf _=>1
 | nest _ t=>1 + t.dep
def kind :Ty→Int
 | leaf k=>k
 | nest k _=>k
theorem ajO (t:Ty):t.api.kind=t.kind:=by cases t <;> rfl
theorem abt (t:Ty):1≤t.dep:=by cases t <;> simp [dep] <;> omega
end Ty
theorem QJ {k:Int} (h:0≤k∧k≤7):∃ s,Ef k=some s∧(s == ([]:Str))=false:=by
 obtain ⟨n,rfl⟩:∃ n:Nat,k=n:=⟨k.toNat,by omega⟩
 have hn:n < 8:=by omega
 match n,hn with
 | 0,_=>exact ⟨_,rfl,rfl⟩
 | 1,_=>exact ⟨_,rfl,rfl⟩
 | 2,_=>exact ⟨_,rfl,rfl⟩
 | 3,_=>exact ⟨_,rfl,rfl⟩
 | 4,_=>exact ⟨_,rfl,rfl⟩
 | 5,_=>exact ⟨_,rfl,rfl⟩
 | 6,_=>exact ⟨_,rfl,rfl⟩
 | 7,_=>exact ⟨_,rfl,rfl⟩
theorem ad9 {k:Int} (h:¬ (0≤k∧k≤7)):Ef k=some []:=by
 unfold Ef
 rw [if_pos (by simp; omega)]
theorem adk :∀ (k level:Nat) (t:b_),18≤k + level→level≤17→∃ c,nK k (level:Int) t=some c∧Er k t (level:Int)=some c∧(c=0→∃ T:Ty,T.wf∧t=T.api∧T.dep + level≤17)
 | 0,level,t,h,h'=>by omega
 | k + 1,level,t,h,h'=>by
  rw [nK,Er,Oo]
  have h16:decide ((16:Int) < (level:Int))=decide (16 < level):=by congr 1; simp; omega
  rw [h16]
  by_cases h0:16 < level
  · exact ⟨13,by simp [h0],by simp [h0],by simp⟩
  ·
   simp only [h0,decide_false,Bool.false_eq_true,if_false]
   by_cases hk:0≤t.kind∧t.kind≤7
   ·
    obtain ⟨s,hs,hs2⟩:=QJ hk
    have hb:(decide (t.kind < 0) || decide (7 < t.kind))=false:=by simp; omega
    rw [hs,hb]
    simp only [ay,hs2,sG,Uv,Bool.false_eq_true,if_false]
    cases hn:((t.kind == 5) || (t.kind == 6)) with
    | false=>
     simp only [Bool.false_and,Bool.not_false,Bool.true_and,Bool.false_eq_true,if_false,ay,if_true]
     cases he:t.elem with
     | nil=>
      refine ⟨0,by simp,by simp,fun _=>⟨.leaf t.kind,?_,?_,?_⟩⟩
      · simp at hn; exact ⟨hk.1,hk.2,hn.1,hn.2⟩
      · cases t; simp at he; subst he; rfl
      · simp only [Ty.dep]; omega
     | cons x r=>exact ⟨1,by first | (simp; done) | (simp; omega),by first | (simp; done) | (simp; omega),by simp⟩
    | true=>
     simp only [Bool.true_and,Bool.not_true,Bool.false_and,ay,Bool.false_eq_true,if_false]
     have hnk:t.kind=5∨t.kind=6:=by simpa using hn
     match he:t.elem with
     | []=>exact ⟨1,by simp,by simp,by simp⟩
     | [x]=>
      obtain ⟨c,c1,c2,c3⟩:=adk k (level + 1) x (by omega) (by omega)
      have hw:bS ((level:Int) + 1)=((level + 1:Nat):Int):=zB (by omega)
      refine ⟨c,?_,?_,fun hc=>?_⟩
      · rw [hw,←c1]; simp [idx]
      · rw [hw,←c2]; simp [idx]
      ·
       obtain ⟨T,w1,w2,w3⟩:=c3 hc
       refine ⟨.nest t.kind T,⟨hnk,w1⟩,?_,?_⟩
       · cases t; simp at he; subst he; simp [Ty.api,w2]
       · simp only [Ty.dep]; omega
     | x :: y :: r=>
      have hl:(((x :: y :: r).length:Int) != 1)=true:=by simp only [List.length_cons,bne_iff_ne]; omega
      exact ⟨1,by simp only [hl,if_true,ay],by simp only [hl,if_true],by simp⟩
   ·
    have hb:(decide (t.kind < 0) || decide (7 < t.kind))=true:=by simp; omega
    rw [ad9 hk,hb]
    exact ⟨1,by simp,by simp,by simp⟩
theorem agF :∀ (T:Ty) (k level:Nat),T.wf→T.dep + level≤17→18≤k + level→nK k (level:Int) T.api=some 0
 | .leaf a,0,level,_,h,h'=>by simp only [Ty.dep] at h; omega
 | .leaf a,k + 1,level,hw,h,h'=>by
  simp only [Ty.dep] at h
  have h16:decide ((16:Int) < (level:Int))=false:=decide_eq_false (by omega)
  obtain ⟨s,hs,hs2⟩:=QJ (k:=a) ⟨hw.1,hw.2.1⟩
  have hn:((a == 5) || (a == 6))=false:=by simp; exact ⟨hw.2.2.1,hw.2.2.2⟩
  simp [nK,h16,Ty.api,hs,beq_eq_false_iff_ne.1 hs2,sG,hn]
 | .nest a T,0,level,_,h,h'=>by simp only [Ty.dep] at h; have:=T.abt; omega
 | .nest a T,k + 1,level,hw,h,h'=>by
  simp only [Ty.dep] at h
  have hd:=T.abt
  have h16:decide ((16:Int) < (level:Int))=false:=decide_eq_false (by omega)
  have hn:((a == 5) || (a == 6))=true:=by simpa using hw.1
  obtain ⟨s,hs,hs2⟩:=QJ (k:=a) (by rcases hw.1 with h | h <;> omega)
  have hw64:bS ((level:Int) + 1)=((level + 1:Nat):Int):=zB (by omega)
  have:=agF T k (level + 1) hw.2 (by omega) (by omega)
  rw [←this,←hw64]
  simp [nK,h16,Ty.api,hs,beq_eq_false_iff_ne.1 hs2,sG,hn,idx]
def Zx (t:b_):Int:=(Ci t).getD 0
theorem afq (t:b_):Ci t=some (Zx t)∧Nf t=some (Zx t)∧(Zx t=0→∃ T:Ty,T.wf∧t=T.api∧T.dep≤16):=by
 obtain ⟨c,c1,c2,c3⟩:=adk BIG 1 t (by have:=j_; omega) (by omega)
 have e1:Ci t=some c:=c1
 have e2:Nf t=some c:=c2
 have:Zx t=c:=by unfold Zx; rw [e1]; rfl
 rw [this]
 exact ⟨e1,e2,fun h=>by obtain ⟨T,a,b,d⟩:=c3 h; exact ⟨T,a,b,by omega⟩⟩
theorem afp {T:Ty} (h:T.wf) (hd:T.dep≤16):Zx T.api=0:=by
 have:=agF T BIG 1 h (by omega) (by have:=j_; omega)
 have e1:Ci T.api=some 0:=this
 unfold Zx; rw [e1]; rfl
theorem aqR :∀ (T:Ty) (n:Nat),T.wf→T.dep≤n→ajb n T.api=some T.api
 | .leaf a,0,_,h=>by simp [Ty.dep] at h
 | .leaf a,n + 1,hw,h=>by
  have hn:((a == 5) || (a == 6))=false:=by simp; exact ⟨hw.2.2.1,hw.2.2.2⟩
  simp [ajb,ale,sG,Ty.api,hn,abd]
 | .nest a T,0,_,h=>by simp only [Ty.dep] at h; omega
 | .nest a T,n + 1,hw,h=>by
  simp only [Ty.dep] at h
  have hn:((a == 5) || (a == 6))=true:=by simpa using hw.1
  have:=aqR T n hw.2 (by omega)
  simp [ajb,ale,sG,Ty.api,hn,akq,idx,this]
theorem al_ {T:Ty} (h:T.wf) (hd:T.dep≤1000):amg T.api=some T.api:=aqR T BIG h (by have:=j_; omega)
def agY :Ty→Ty→Ty
 | .leaf a,.leaf b=>if a=7 then .leaf b else if b=7 then .leaf a else if a=b then .leaf a else .leaf 0
 | .leaf a,.nest b y=>if a=7 then .nest b y else .leaf 0
 | .nest a x,.leaf b=>if b=7 then .nest a x else .leaf 0
 | .nest a x,.nest b y=>if a=b then .nest a (agY x y) else .leaf 0
theorem alE :∀ (a b:Ty),(agY a b).dep≤max a.dep b.dep
 | .leaf a,.leaf b=>by
  rw [agY]; repeat' split
  all_goals simp only [Ty.dep]; omega
 | .leaf a,.nest b y=>by
  rw [agY]; split
  all_goals simp only [Ty.dep]; omega
 | .nest a x,.leaf b=>by
  rw [agY]; split
  all_goals simp only [Ty.dep]; omega
 | .nest a x,.nest b y=>by
  have:=alE x y
  rw [agY]; split
  all_goals simp only [Ty.dep]; omega
theorem ajF :∀ (a b:Ty),a.wf→b.wf→(agY a b).wf
 | .leaf a,.leaf b,ha,hb=>by
  rw [agY]; repeat' split
  · exact hb
  · exact ha
  · exact ha
  · simp [Ty.wf]
 | .leaf a,.nest b y,ha,hb=>by
  rw [agY]; split
  · exact hb
  · simp [Ty.wf]
 | .nest a x,.leaf b,ha,hb=>by
  rw [agY]; split
  · exact ha
  · simp [Ty.wf]
 | .nest a x,.nest b y,ha,hb=>by
  have:=ajF x y ha.2 hb.2
  rw [agY]; split
  · exact ⟨ha.1,this⟩
  · simp [Ty.wf]
theorem ar0 :∀ (n:Nat) (a b:Ty),a.wf→b.wf→a.dep≤n→a.dep≤1000→b.dep≤1000→aiT n a.api b.api=some (agY a b).api∧akE n a.api b.api=some (agY a b).api
 | 0,a,b,_,_,h,_,_=>by have:=a.abt; omega
 | n + 1,.leaf x,.leaf y,ha,hb,h,h1,h2=>by
  rw [aiT,akB,akE,alx,agY,al_ ha h1,al_ hb h2]
  have hn:((x == 5) || (x == 6))=false:=by simp; exact ⟨ha.2.2.1,ha.2.2.2⟩
  by_cases k1:x=7
  · simp [k1,Ty.api]
  ·
   by_cases k2:y=7
   · simp [k1,k2,Ty.api]
   ·
    by_cases k3:x=y
    · subst k3; simp [k1,Ty.api,sG,Uv,hn,abd]
    · simp [k1,k2,k3,Ty.api,abd,aij]
 | n + 1,.leaf x,.nest y t,ha,hb,h,h1,h2=>by
  rw [aiT,akB,akE,alx,agY,al_ ha h1,al_ hb h2]
  have k2:¬ y=7:=by rcases hb.1 with h | h <;> omega
  have k3:¬ x=y:=by
   rintro rfl
   rcases hb.1 with h | h
   · exact ha.2.2.1 h
   · exact ha.2.2.2 h
  by_cases k1:x=7
  · simp [k1,Ty.api]
  · simp [k1,k2,k3,Ty.api,abd,aij]
 | n + 1,.nest x s,.leaf y,ha,hb,h,h1,h2=>by
  rw [aiT,akB,akE,alx,agY,al_ ha h1,al_ hb h2]
  have k1:¬ x=7:=by rcases ha.1 with h | h <;> omega
  have k3:¬ x=y:=by
   rintro rfl
   rcases ha.1 with h | h
   · exact hb.2.2.1 h
   · exact hb.2.2.2 h
  by_cases k2:y=7
  · simp [k1,k2,Ty.api]
  · simp [k1,k2,k3,Ty.api,abd,aij]
 | n + 1,.nest x s,.nest y t,ha,hb,h,h1,h2=>by
  rw [aiT,akB,akE,alx,agY,al_ ha h1,al_ hb h2]
  have k1:¬ x=7:=by rcases ha.1 with h | h <;> omega
  have k2:¬ y=7:=by rcases hb.1 with h | h <;> omega
  have hn:((x == 5) || (x == 6))=true:=by simp; exact ha.1
  simp only [Ty.dep] at h h1 h2
  obtain ⟨i1,i2⟩:=ar0 n s t ha.2 hb.2 (by omega) (by omega) (by omega)
  by_cases k3:x=y
  · subst k3; simp [k1,Ty.api,sG,Uv,hn,akq,af3,idx,i1,i2]
  · simp [k1,k2,k3,Ty.api,abd,aij]
theorem join_eq {a b:Ty} (ha:a.wf) (hb:b.wf) (h1:a.dep≤1000) (h2:b.dep≤1000):al1 a.api b.api=some (agY a b).api∧am0 a.api b.api=some (agY a b).api:=
 ar0 BIG a b ha hb (by have:=j_; omega) h1 h2
theorem amB {a b:Ty} (ha:a.wf) (hb:b.wf) (h1:a.dep≤16) (h2:b.dep≤16):ai0 a.api b.api=some (agY a b).api∧alo a.api b.api=some (agY a b).api:=by
 unfold ai0 alo alB anB
 rw [(afq _).1,(afq _).1,(afq _).2.1,(afq _).2.1,afp ha h1,afp hb h2]
 obtain ⟨j1,j2⟩:=join_eq ha hb (by omega) (by omega)
 simp [j1,j2]
end Go.Ft

namespace Go.Ft
open Go
attribute [local congr] jE
def xX :Ty→Ty→Bool
 | .leaf a,.leaf b=>((a == 0) || (a == 7)) || (b == 0) || (a == b)
 | .leaf a,.nest _ _=>(a == 0) || (a == 7)
 | .nest _ _,.leaf b=>b == 0
 | .nest a x,.nest b y=>(a == b) && xX x y
theorem ar_ :∀ (n:Nat) (a b:Ty),a.wf→b.wf→a.dep≤n→acV n a.api b.api=some (xX a b)∧afb n a.api b.api=some (xX a b)
 | 0,a,b,_,_,h=>by have:=a.abt; omega
 | n + 1,.leaf x,.leaf y,ha,hb,h=>by
  rw [acV,air,afb,ai5,xX]
  simp only [aad,abJ,Ty.api,ay]
  by_cases k:(((x == 0) || (x == 7)) || (y == 0))=true
  · simp only [k,if_true,Bool.true_or,and_self]
  ·
   rw [Bool.not_eq_true] at k
   simp only [k,Bool.false_eq_true,if_false,Bool.false_or]
   by_cases hxy:x=y
   · subst hxy; simp
   · simp [hxy]
 | n + 1,.leaf x,.nest y t,ha,hb,h=>by
  rw [acV,air,afb,ai5,xX]
  have k2:(y == 0)=false:=by simp; rcases hb.1 with h | h <;> omega
  have k3:(x != y)=true:=by
   simp only [bne_iff_ne]
   rintro rfl
   rcases hb.1 with h | h
   · exact ha.2.2.1 h
   · exact ha.2.2.2 h
  simp only [aad,abJ,Ty.api,ay,k2,k3,Bool.or_false]
  by_cases k:((x == 0) || (x == 7))=true
  · simp only [k,if_true,and_self]
  ·
   rw [Bool.not_eq_true] at k
   simp only [k,Bool.false_eq_true,if_false,if_true,and_self]
 | n + 1,.nest x s,.leaf y,ha,hb,h=>by
  rw [acV,air,afb,ai5,xX]
  have k1:((x == 0) || (x == 7))=false:=by simp; rcases ha.1 with h | h <;> omega
  have k3:(x != y)=true:=by
   simp only [bne_iff_ne]
   rintro rfl
   rcases ha.1 with h | h
   · exact hb.2.2.1 h
   · exact hb.2.2.2 h
  simp only [aad,abJ,Ty.api,ay,k1,k3,Bool.false_or]
  by_cases k:(y == 0)=true
  · simp only [k,if_true,and_self]
  ·
   rw [Bool.not_eq_true] at k
   simp only [k,Bool.false_eq_true,if_false,if_true,and_self]
 | n + 1,.nest x s,.nest y t,ha,hb,h=>by
  rw [acV,air,afb,ai5,xX]
  have k1:((x == 0) || (x == 7))=false:=by simp; rcases ha.1 with h | h <;> omega
  have k2:(y == 0)=false:=by simp; rcases hb.1 with h | h <;> omega
  simp only [Ty.dep] at h
  obtain ⟨i1,i2⟩:=ar_ n s t ha.2 hb.2 (by omega)
  simp only [aad,abJ,Ty.api,ay,k1,k2,Bool.false_or]
  by_cases hxy:x=y
  · subst hxy; simp [idx,i1,i2]
  · simp [hxy]
theorem aiW {a b:Ty} (ha:a.wf) (hb:b.wf) (h:a.dep≤1000):ae4 a.api b.api=some (xX a b)∧CU a.api b.api=some (xX a b):=
 ar_ BIG a b ha hb (by have:=j_; omega)
def tX (t:Ty):Bool:=(t.kind == 0) || (t.kind == 7)
theorem agu (t:Ty):aad t.api=some (tX t)∧abJ t.api=some (tX t):=by
 unfold aad abJ tX; rw [Ty.ajO]; exact ⟨rfl,rfl⟩
def ZT :b_:=b_.mk 0 []
def sc (k:Int):Ty:=.leaf k
theorem an3 {k:Int} (h:0≤k∧k≤7∧k≠5∧k≠6):(sc k).wf:=h
theorem of_eq (k:Int):Rv k=some (sc k).api∧aaA k=some (sc k).api∧aij k=some (sc k).api:=⟨rfl,rfl,rfl⟩
theorem aq3 (k:Int) (t:Ty):aiX k t.api=some (Ty.nest k t).api∧af3 k t.api=some (Ty.nest k t).api:=⟨rfl,rfl⟩
theorem akn {a:Ty} (ha:a.wf) (h:a.dep≤1000) {k:Int} (hk:0≤k∧k≤7∧k≠5∧k≠6):abH a.api k=some (xX a (sc k)):=by
 unfold abH
 rw [(of_eq k).2.1]
 exact (aiW ha (an3 hk) h).2
theorem akQ {k:Int} (h:k=0∨k=1∨k=2∨k=3∨k=4∨k=7):0≤k∧k≤7∧k≠5∧k≠6:=by omega
def aj6 (x:Option (b_ × Bool)):Option (b_ × Int):=
 fG x fun x6 ok1=>if !ok1 then some (ZT,9) else au (Nf x6) fun x7=>if x7 != 0 then some (ZT,13) else some (x6,0)
def RES (x y:Option (b_ × Int)):Prop:=∃ (T:Ty) (c:Int),T.wf∧T.dep≤16∧(c≠0→T=sc 0)∧x=some (T.api,c)∧y=some (T.api,c)
theorem RES.mk {x:Option (b_ × Int)} {y:Option (b_ × Bool)} (T:Ty) (b:Bool) (hx:x=some (if b then (T.api,0) else (ZT,9))) (hy:y=some (T.api,b)) (hw:b=true→T.wf∧T.dep≤16):RES x (aj6 y):=by
 subst hx hy
 unfold aj6
 cases b with
 | false=>exact ⟨sc 0,9,by simp [sc,Ty.wf],by simp [sc,Ty.dep],fun _=>rfl,rfl,rfl⟩
 | true=>
  obtain ⟨h1,h2⟩:=hw rfl
  refine ⟨T,0,h1,h2,fun h=>absurd rfl h,rfl,?_⟩
  simp only [dH,Bool.not_true,Bool.false_eq_true,if_false,(afq _).2.1,afp h1 h2]
  rfl
theorem aqh {t:Ty} (h:t.wf) (hd:t.dep≤16) {e:aj} (he:e.kind=3) (r:List b_):RES (alP t.api) (aj6 (aaG e (t.api :: r))):=by
 have i0:idx (t.api :: r) 0=some t.api:=rfl
 unfold alP aaG
 rw [(agu t).1]
 simp only [he,i0,ay,(agu t).2,Ty.ajO]
 cases t with
 | leaf k=>
  have h6:(k == 6)=false:=by simp; exact h.2.2.2
  refine RES.mk (.leaf k) (tX (.leaf k)) ?_ ?_ (fun _=>⟨h,hd⟩)
  ·
   simp only [Ty.kind,h6,Bool.false_eq_true,if_false]
   cases tX (.leaf k) <;> rfl
  · simp [Ty.kind,h6]
 | nest k s=>
  have hl:tX (.nest k s)=false:=by unfold tX; simp [Ty.kind]; rcases h.1 with h | h <;> omega
  simp only [Ty.dep] at hd
  by_cases h6:k=6
  ·
   subst h6
   refine RES.mk s true ?_ ?_ (fun _=>⟨h.2,by omega⟩)
   · simp [hl,Ty.kind,Ty.api,idx]
   · simp [Ty.kind,Ty.api,idx]
  ·
   refine RES.mk (.nest k s) false ?_ ?_ (fun hh=>by cases hh)
   · simp [hl,Ty.kind,h6,ZT]
   · simp [Ty.kind,h6,hl]
theorem aq5 {t i:Ty} (h:t.wf) (hd:t.dep≤16) (hi:i.wf) (hid:i.dep≤16) {e:aj} (he:e.kind=4) (r:List b_):RES (amb t.api i.api) (aj6 (aaG e (t.api :: i.api :: r))):=by
 have i0:idx (t.api :: i.api :: r) 0=some t.api:=rfl
 have i1:idx (t.api :: i.api :: r) 1=some i.api:=rfl
 unfold amb aaG amF
 have c3:=aiW hi (an3 (akQ (k:=3) (by omega))) (by omega)
 have c4:=aiW hi (an3 (akQ (k:=4) (by omega))) (by omega)
 simp only [he,i0,i1,ay,(agu t).1,(agu t).2,Ty.ajO,(of_eq _).1,c3.1,c4.1,akn hi (by omega) (akQ (k:=3) (by omega)),akn hi (by omega) (akQ (k:=4) (by omega))]
 generalize xX i (sc 3)=n3
 generalize xX i (sc 4)=n4
 cases t with
 | leaf k=>
  have h5:(k == 5)=false:=by simp; exact h.2.2.1
  have h6:(k == 6)=false:=by simp; exact h.2.2.2
  refine RES.mk (.leaf k) (tX (.leaf k) && (n3 || n4)) ?_ ?_ (fun _=>⟨h,hd⟩)
  ·
   simp only [Ty.kind,h5,h6,Bool.false_and,Bool.false_eq_true,if_false]
   cases tX (.leaf k) <;> cases n3 <;> cases n4 <;> rfl
  ·
   simp only [Ty.kind,h5,h6,Bool.false_eq_true,if_false]
   cases tX (.leaf k) <;> cases n3 <;> cases n4 <;> simp
 | nest k s=>
  have hl:tX (.nest k s)=false:=by unfold tX; simp [Ty.kind]; rcases h.1 with h | h <;> omega
  simp only [Ty.dep] at hd
  rcases h.1 with h5 | h6
  ·
   subst h5
   refine RES.mk s n3 ?_ ?_ (fun _=>⟨h.2,by omega⟩)
   ·
    simp only [hl,Ty.kind,Ty.api]
    cases n3 <;> simp [idx,ZT]
   · simp [Ty.kind,Ty.api,idx]
  ·
   subst h6
   refine RES.mk s n4 ?_ ?_ (fun _=>⟨h.2,by omega⟩)
   ·
    simp only [hl,Ty.kind,Ty.api]
    cases n4 <;> simp [idx,ZT]
   · simp [Ty.kind,Ty.api,idx]
theorem aqX {t:Ty} (h:t.wf) (hd:t.dep≤16) {e:aj} (he:e.kind=6) (r:List b_):RES (ama e.name t.api) (aj6 (aaG e (t.api :: r))):=by
 have i0:idx (t.api :: r) 0=some t.api:=rfl
 have c3:=aiW h (an3 (akQ (k:=3) (by omega))) (by omega)
 have c2:=aiW h (an3 (akQ (k:=2) (by omega))) (by omega)
 unfold ama aaG
 simp only [he,i0,ay,(of_eq _).1,(of_eq _).2.1,c3.1,c2.1,akn h (by omega) (akQ (k:=3) (by omega)),akn h (by omega) (akQ (k:=2) (by omega))]
 cases hop:(e.name == ([33]:Str)) with
 | true=>
  refine RES.mk (sc 2) (xX t (sc 2)) ?_ ?_ (fun _=>⟨by simp [sc,Ty.wf],by simp [sc,Ty.dep]⟩)
  · simp only [if_true]; cases xX t (sc 2) <;> rfl
  · simp
 | false=>
  refine RES.mk (sc 3) (xX t (sc 3)) ?_ ?_ (fun _=>⟨by simp [sc,Ty.wf],by simp [sc,Ty.dep]⟩)
  · simp only [Bool.false_eq_true,if_false]; cases xX t (sc 3) <;> rfl
  · simp
theorem ar9 {a b c:Ty} (ha:a.wf) (had:a.dep≤16) (hb:b.wf) (hbd:b.dep≤16) (hc:c.wf) (hcd:c.dep≤16) {e:aj} (he:e.kind=8) (r:List b_):
  RES (au (Rv 2) fun Vo=>au (ae4 a.api Vo) fun x15=>if !x15 then some ((b_.mk 0 []),9) else au (ai0 b.api c.api) fun Xh=>some (Xh,0)) (aj6 (aaG e (a.api :: b.api :: c.api :: r))):=by
 have i0:idx (a.api :: b.api :: c.api :: r) 0=some a.api:=rfl
 have i1:idx (a.api :: b.api :: c.api :: r) 1=some b.api:=rfl
 have i2:idx (a.api :: b.api :: c.api :: r) 2=some c.api:=rfl
 have c2:=aiW ha (an3 (akQ (k:=2) (by omega))) (by omega)
 have j:=amB hb hc hbd hcd
 have hjd:=alE b c
 refine RES.mk (agY b c) (xX a (sc 2)) ?_ ?_ (fun _=>⟨ajF b c hb hc,by omega⟩)
 ·
  simp only [(of_eq _).1,ay,c2.1,j.1]
  cases xX a (sc 2) <;> rfl
 ·
  unfold aaG
  simp [he,i0,i1,i2,j.2,akn ha (by omega) (akQ (k:=2) (by omega))]
end Go.Ft

namespace Go.Ft
open Go
attribute [local congr] jE
def cmB (a b:Ty) (k:Int):Bool:=(((tX a || (a.kind == k)) && (tX b || (b.kind == k))) && ((a.kind == k) || (b.kind == k)))
def kxT (a b:Ty):Int:=if tX a then b.kind else if tX b || (a.kind == b.kind) then a.kind else -1
theorem an0 (a b:Ty) (k:Int):acU a.api b.api k=some (cmB a b k):=by
 unfold acU cmB
 rw [(agu a).1,(agu b).1,Ty.ajO,Ty.ajO]
 simp only [ay]
 cases (tX a || (a.kind == k)) <;> simp
theorem amQ (a b:Ty):aku a.api b.api=some (kxT a b):=by
 unfold aku kxT
 rw [(agu a).2,(agu b).2,Ty.ajO,Ty.ajO]
 simp only [ay]
 cases tX a
 · simp only [Bool.false_eq_true,if_false]; split <;> rfl
 · rfl
theorem aoD {a b:Ty} (h:(tX a && tX b)=false) {k:Int} (hk:k≠0∧k≠7∧0≤k):cmB a b k=(kxT a b == k):=by
 unfold cmB kxT tX at *
 generalize a.kind=x at *
 generalize b.kind=y at *
 rw [Bool.eq_iff_iff]
 simp only [Bool.and_eq_false_iff,Bool.or_eq_false_iff,beq_eq_false_iff_ne] at h
 by_cases h1:x=0∨x=7
 ·
  have e:((x == 0) || (x == 7))=true:=by simpa using h1
  simp only [e,if_true,Bool.true_or,Bool.true_and,Bool.and_eq_true,Bool.or_eq_true,beq_iff_eq]
  omega
 ·
  have e:((x == 0) || (x == 7))=false:=by simpa using h1
  simp only [e,Bool.false_eq_true,if_false,Bool.false_or]
  by_cases h2:y=0∨y=7
  ·
   have e2:((y == 0) || (y == 7))=true:=by simpa using h2
   simp only [e2,Bool.true_or,if_true,Bool.and_true,Bool.and_eq_true,Bool.or_eq_true,beq_iff_eq]
   omega
  ·
   have e2:((y == 0) || (y == 7))=false:=by simpa using h2
   simp only [e2,Bool.false_or]
   by_cases h3:x=y
   · simp only [h3,beq_self_eq_true,if_true,Bool.and_eq_true,Bool.or_eq_true,beq_iff_eq]; omega
   ·
    have e3:(x == y)=false:=by simpa using h3
    simp only [e3,Bool.false_eq_true,if_false,Bool.and_eq_true,Bool.or_eq_true,beq_iff_eq]; omega
def elT :Ty→Ty
 | .leaf k=>.leaf k
 | .nest _ t=>t
theorem alV {t:Ty} (h:t.wf) (hl:tX t=true):t=sc t.kind∧(t.kind=0∨t.kind=7):=by
 unfold tX at hl
 simp only [Bool.or_eq_true,beq_iff_eq] at hl
 cases t with
 | leaf k=>exact ⟨rfl,hl⟩
 | nest k s=>simp only [Ty.kind] at hl; rcases h.1 with h | h <;> omega
theorem aqQ {t:Ty} (h:tX t=true∨t.kind=5) (hw:t.wf) (hd:t.dep≤16):ak1 t.api=some (elT t).api∧alD t.api=some (elT t).api∧(elT t).wf∧(elT t).dep≤15:=by
 unfold ak1 alD
 rw [(agu t).1,(agu t).2]
 simp only [ay]
 cases t with
 | leaf k=>
  have hl:tX (.leaf k)=true:=by
   rcases h with h | h
   · exact h
   · simp only [Ty.kind] at h; exact absurd h hw.2.2.1
  rw [hl]
  exact ⟨rfl,rfl,hw,by simp [elT,Ty.dep]⟩
 | nest k s=>
  have hl:tX (.nest k s)=false:=by unfold tX; simp [Ty.kind]; rcases hw.1 with h | h <;> omega
  rw [hl]
  simp only [Ty.dep] at hd
  exact ⟨by simp [Ty.api,idx,elT],by simp [Ty.api,idx,elT],hw.2,by simp only [elT]; omega⟩
theorem asA {a b:Ty} (ha:a.wf) (had:a.dep≤16) (hb:b.wf) (hbd:b.dep≤16):RES (amM a.api b.api) (aj6 (amy a.api b.api)):=by
 unfold amM amy
 rw [(agu a).1,(agu a).2,(agu b).1,(agu b).2,Ty.ajO,Ty.ajO]
 simp only [ay]
 have hone:(if tX a=true then some (tX b) else some false)=some (tX a && tX b):=by cases tX a <;> rfl
 rw [hone]
 simp only [ay]
 cases hl:(tX a && tX b) with
 | true=>
  simp only [Bool.and_eq_true] at hl
  obtain ⟨a1,a2⟩:=alV ha hl.1
  obtain ⟨b1,b2⟩:=alV hb hl.2
  rcases a2 with a2 | a2
  ·
   rw [a2] at a1
   subst a1
   exact RES.mk (sc 0) true rfl rfl (fun _=>⟨ha,had⟩)
  ·
   rw [a2] at a1
   subst a1
   rcases b2 with b2 | b2
   ·
    rw [b2] at b1
    subst b1
    exact RES.mk (sc 0) true rfl rfl (fun _=>⟨hb,hbd⟩)
   ·
    rw [b2] at b1
    subst b1
    exact RES.mk (sc 7) true rfl rfl (fun _=>⟨hb,hbd⟩)
 | false=>
  simp only [Bool.false_eq_true,if_false,an0,amQ,ay]
  rw [aoD hl (k:=3) (by omega),aoD hl (k:=4) (by omega),aoD hl (k:=5) (by omega)]
  by_cases k5:kxT a b=5
  ·
   have ea:tX a=true∨a.kind=5:=by
    unfold kxT at k5
    cases h:tX a with
    | true=>exact .inl rfl
    | false=>
     rw [h] at k5
     simp only [Bool.false_eq_true,if_false] at k5
     split at k5
     · exact .inr k5
     · omega
   have eb:tX b=true∨b.kind=5:=by
    unfold kxT at k5
    cases h:tX b with
    | true=>exact .inl rfl
    | false=>
     rw [h] at k5
     cases h2:tX a with
     | true=>rw [h2] at k5; exact .inr (by simpa using k5)
     | false=>
      rw [h2] at k5
      simp only [Bool.false_eq_true,if_false,Bool.false_or] at k5
      split at k5
      · rename_i h3; right; simp only [beq_iff_eq] at h3; omega
      · omega
   obtain ⟨x1,x2,x3,x4⟩:=aqQ ea ha had
   obtain ⟨y1,y2,y3,y4⟩:=aqQ eb hb hbd
   have j:=amB x3 y3 (by omega) (by omega)
   have jd:=alE (elT a) (elT b)
   refine RES.mk (.nest 5 (agY (elT a) (elT b))) true ?_ ?_ (fun _=>⟨⟨.inl rfl,ajF _ _ x3 y3⟩,by simp only [Ty.dep]; omega⟩)
   · simp [k5,x1,y1,j.1,aiX,Ty.api]
   · simp [k5,x2,y2,j.2,af3,Ty.api]
  ·
   refine RES.mk (sc (kxT a b)) ((kxT a b == 3) || (kxT a b == 4)) ?_ ?_ (fun hh=>⟨?_,by simp [sc,Ty.dep]⟩)
   ·
    by_cases k3:kxT a b=3
    · simp [k3,Rv,sc,Ty.api]
    ·
     by_cases k4:kxT a b=4
     · simp [k4,Rv,sc,Ty.api]
     · simp [k3,k4,k5,ZT]
   · simp [k5,aaA,aij,sc,Ty.api]
   ·
    simp only [Bool.or_eq_true,beq_iff_eq] at hh
    simp only [sc,Ty.wf]; omega
def opsL :List Str:=[[38,38],[124,124],[61,61],[33,61],[60],[60,61],[62],[62,61],[45],[42],[47],[37],[43]]
theorem Zy {s:Str} (h:0 < LQ s):s∈opsL:=by
 unfold LQ gG at h
 unfold opsL
 by_cases h1:s=[124,124]
 · simp [h1]
 by_cases h2:s=[38,38]
 · simp [h2]
 by_cases h3:s=[61,61]
 · simp [h3]
 by_cases h4:s=[33,61]
 · simp [h4]
 by_cases h5:s=[60]
 · simp [h5]
 by_cases h6:s=[60,61]
 · simp [h6]
 by_cases h7:s=[62]
 · simp [h7]
 by_cases h8:s=[62,61]
 · simp [h8]
 by_cases h9:s=[43]
 · simp [h9]
 by_cases h10:s=[45]
 · simp [h10]
 by_cases h11:s=[42]
 · simp [h11]
 by_cases h12:s=[47]
 · simp [h12]
 by_cases jq:s=[37]
 · simp [jq]
 simp [h1,h2,h3,h4,h5,h6,h7,h8,h9,h10,h11,h12,jq] at h
theorem aqT {a b:Ty} (ha:a.wf) (had:a.dep≤16) (hb:b.wf) (hbd:b.dep≤16) {k:Int} (hk:0≤k∧k≤7∧k≠5∧k≠6):ae9 k a.api b.api=some (xX a (sc k) && xX b (sc k)):=by
 unfold ae9
 rw [(of_eq k).1]
 simp only [ay,(aiW ha (an3 hk) (by omega)).1,(aiW hb (an3 hk) (by omega)).1]
 cases xX a (sc k) <;> rfl
theorem aqC {a b:Ty} (ha:a.wf) (had:a.dep≤16) (hb:b.wf) (hbd:b.dep≤16) {op:Str} (hop:op∈opsL):RES (amj op a.api b.api) (aj6 (aiV op a.api b.api)):=by
 have b2:=aqT ha had hb hbd (akQ (k:=2) (by omega))
 have b3:=aqT ha had hb hbd (akQ (k:=3) (by omega))
 have ia2:=akn ha (by omega) (akQ (k:=2) (by omega))
 have ib2:=akn hb (by omega) (akQ (k:=2) (by omega))
 have ia3:=akn ha (by omega) (akQ (k:=3) (by omega))
 have ib3:=akn hb (by omega) (akQ (k:=3) (by omega))
 have w2:(sc 2).wf∧(sc 2).dep≤16:=⟨by simp [sc,Ty.wf],by simp [sc,Ty.dep]⟩
 have w3:(sc 3).wf∧(sc 3).dep≤16:=⟨by simp [sc,Ty.wf],by simp [sc,Ty.dep]⟩
 have hone:∀ p q:Bool,(if p=true then some q else some false)=some (p && q):=by intro p q; cases p <;> rfl
 have rel:∀ (x:Option (b_ × Int)) (y:Option (b_ × Bool)),
   x=(au (aad a.api) fun x7=>au (if x7 then aad b.api else some false) fun b2=>au (if b2 then some true else acU a.api b.api 3) fun b3=>au (if b3 then some true else acU a.api b.api 4) fun b4=>
    if b4 then au (Rv 2) fun KP=>some (KP,0) else some ((b_.mk 0 []),9))→
   y=(au (aku a.api b.api) fun xO=>au (aaA 2) fun x9=>au (abJ a.api) fun CO=>au (if CO then abJ b.api else some false) fun b4=>some (x9,((b4 || (xO == 3)) || (xO == 4))))→RES x (aj6 y):=by
  intro x y hx hy
  rw [hx,hy,(agu a).1,(agu a).2,(agu b).1,(agu b).2,an0,an0,amQ,(of_eq 2).1,(of_eq 2).2.1]
  simp only [ay,hone]
  refine RES.mk (sc 2) (((tX a && tX b) || (kxT a b == 3)) || (kxT a b == 4)) ?_ rfl (fun _=>w2)
  cases hl:(tX a && tX b) with
  | true=>rfl
  | false=>
   rw [aoD hl (k:=3) (by omega),aoD hl (k:=4) (by omega)]
   cases (kxT a b == 3) <;> cases (kxT a b == 4) <;> rfl
 have lg:∀ (x:Option (b_ × Int)) (y:Option (b_ × Bool)),
   x=(au (ae9 2 a.api b.api) fun x1=>if x1 then au (Rv 2) fun x2=>some (x2,0) else some ((b_.mk 0 []),9))→
   y=(au (aaA 2) fun x1=>au (abH a.api 2) fun x2=>au (if x2 then abH b.api 2 else some false) fun b2=>some (x1,b2))→RES x (aj6 y):=by
  intro x y hx hy
  rw [hx,hy,b2,ia2,ib2,(of_eq 2).1,(of_eq 2).2.1]
  simp only [ay,hone]
  refine RES.mk (sc 2) (xX a (sc 2) && xX b (sc 2)) ?_ rfl (fun _=>w2)
  cases (xX a (sc 2) && xX b (sc 2)) <;> rfl
 have ar:∀ (x:Option (b_ × Int)) (y:Option (b_ × Bool)),
   x=(au (ae9 3 a.api b.api) fun x1=>if x1 then au (Rv 3) fun x2=>some (x2,0) else some ((b_.mk 0 []),9))→
   y=(au (aaA 3) fun x1=>au (abH a.api 3) fun x2=>au (if x2 then abH b.api 3 else some false) fun b2=>some (x1,b2))→RES x (aj6 y):=by
  intro x y hx hy
  rw [hx,hy,b3,ia3,ib3,(of_eq 3).1,(of_eq 3).2.1]
  simp only [ay,hone]
  refine RES.mk (sc 3) (xX a (sc 3) && xX b (sc 3)) ?_ rfl (fun _=>w3)
  cases (xX a (sc 3) && xX b (sc 3)) <;> rfl
 have eqq:∀ (x:Option (b_ × Int)) (y:Option (b_ × Bool)),x=(au (Rv 2) fun x5=>some (x5,0))→y=(au (aaA 2) fun x7=>some (x7,true))→RES x (aj6 y):=by
  intro x y hx hy
  exact RES.mk (sc 2) true (by rw [hx]; rfl) (by rw [hy]; rfl) (fun _=>w2)
 simp only [opsL,List.mem_cons,List.not_mem_nil,or_false] at hop
 rcases hop with rfl | rfl | rfl | rfl | rfl | rfl | rfl | rfl | rfl | rfl | rfl | rfl | rfl
 · exact lg _ _ rfl rfl
 · exact lg _ _ rfl rfl
 · exact eqq _ _ rfl rfl
 · exact eqq _ _ rfl rfl
 · exact rel _ _ rfl rfl
 · exact rel _ _ rfl rfl
 · exact rel _ _ rfl rfl
 · exact rel _ _ rfl rfl
 · exact ar _ _ rfl rfl
 · exact ar _ _ rfl rfl
 · exact ar _ _ rfl rfl
 · exact ar _ _ rfl rfl
 · exact asA ha had hb hbd
def alH :Ty→List Ty→Ty
 | t,[]=>t
 | t,x :: r=>alH (agY t x) r
theorem apP :∀ (l:List Ty) (t:Ty),t.wf→t.dep≤16→(∀ x∈l,x.wf∧x.dep≤16)→(alH t l).wf∧(alH t l).dep≤16
 | [],t,h,hd,_=>⟨h,hd⟩
 | x :: r,t,h,hd,hl=>by
  have hx:=hl x (by simp)
  have jd:=alE t x
  exact apP r (agY t x) (ajF t x h hx.1) (by omega) fun y hy=>hl y (by simp [hy])
theorem ao7 {K:b_→Option (b_ × Int)}:∀ (l:List Ty) (t:Ty) (i:Nat),t.wf→t.dep≤16→(∀ x∈l,x.wf∧x.dep≤16)→
  dQ (fun _ e1 (ae8:b_) r=>au (ai0 ae8 e1) fun x3=>r x3) K i (l.map Ty.api) t.api=K (alH t l).api
 | [],t,i,_,_,_=>rfl
 | x :: r,t,i,h,hd,hl=>by
  have hx:=hl x (by simp)
  have jd:=alE t x
  rw [List.map_cons,dQ,(amB h hx.1 hd hx.2).1]
  simp only [ay]
  exact ao7 r (agY t x) (i + 1) (ajF t x h hx.1) (by omega) fun y hy=>hl y (by simp [hy])
theorem ao5 {K:b_→Option (b_ × Bool)}:∀ (l:List Ty) (t:Ty) (i:Nat),t.wf→t.dep≤16→(∀ x∈l,x.wf∧x.dep≤16)→
  dQ (fun _ e1 (ae8:b_) r=>au (alo ae8 e1) fun x3=>r x3) K i (l.map Ty.api) t.api=K (alH t l).api
 | [],t,i,_,_,_=>rfl
 | x :: r,t,i,h,hd,hl=>by
  have hx:=hl x (by simp)
  have jd:=alE t x
  rw [List.map_cons,dQ,(amB h hx.1 hd hx.2).2]
  simp only [ay]
  exact ao5 r (agY t x) (i + 1) (ajF t x h hx.1) (by omega) fun y hy=>hl y (by simp [hy])
theorem anG {l:List Ty} (hl:∀ x∈l,x.wf∧x.dep≤16) (hn:l.length < 4611686018427387904) {k:Int} (hk:k=5∨k=6) {y:Option (b_ × Bool)} (hy:y=some ((Ty.nest k (alH (sc 7) l)).api,true)):
  RES (akK k (l.map Ty.api)) (aj6 y):=by
 have w7:(sc 7).wf∧(sc 7).dep≤16:=⟨by simp [sc,Ty.wf],by simp [sc,Ty.dep]⟩
 obtain ⟨f1,f2⟩:=apP l (sc 7) w7.1 w7.2 hl
 unfold akK
 rw [(of_eq 7).1]
 simp only [ay]
 have:=dP (F:=fun n s i=>aky k (l.map Ty.api) n i s) (l:=l.map Ty.api) (body:=fun _ e1 (ae8:b_) r=>au (ai0 ae8 e1) fun x3=>r x3)
  (fin:=fun ae8=>au (aiX k ae8) fun x4=>au (Ci x4) fun x5=>if x5 != 0 then some (ZT,13) else some (x4,0)) (by simpa using hn) (fun n s i=>rfl) (sc 7).api
 rw [this,ao7 l (sc 7) 0 w7.1 w7.2 hl,hy]
 unfold aj6
 rw [(aq3 k _).1]
 simp only [ay,dH,Bool.not_true,Bool.false_eq_true,if_false]
 obtain ⟨t1,t2,t3⟩:=afq (Ty.nest k (alH (sc 7) l)).api
 rw [t1,t2]
 simp only [ay]
 by_cases hc:Zx (Ty.nest k (alH (sc 7) l)).api=0
 ·
  obtain ⟨T,q1,q2,q3⟩:=t3 hc
  exact ⟨T,0,q1,q3,fun h=>absurd rfl h,by rw [hc,←q2]; rfl,by rw [hc,←q2]; rfl⟩
 · exact ⟨sc 0,13,by simp [sc,Ty.wf],by simp [sc,Ty.dep],fun _=>rfl,by rw [if_pos (by simpa using hc)]; rfl,by rw [if_pos (by simpa using hc)]; rfl⟩
theorem am7 {l:List Ty} (hl:∀ x∈l,x.wf∧x.dep≤16) (hn:l.length < 4611686018427387904) {e:aj} (he:e.kind=9∨e.kind=10):
  aaG e (l.map Ty.api)=some ((Ty.nest (if e.kind=10 then 6 else 5) (alH (sc 7) l)).api,true):=by
 have w7:(sc 7).wf∧(sc 7).dep≤16:=⟨by simp [sc,Ty.wf],by simp [sc,Ty.dep]⟩
 unfold aaG
 have:=dP (F:=fun n s i=>al8 e (l.map Ty.api) n i s) (l:=l.map Ty.api) (body:=fun _ e1 (ae8:b_) r=>au (alo ae8 e1) fun x3=>r x3)
  (fin:=fun t1=>if e.kind == 10 then (au (af3 6 t1) fun Xh=>some (Xh,true)) else (au (af3 5 t1) fun x17=>some (x17,true))) (by simpa using hn) (fun n s i=>rfl) (sc 7).api
 rw [(of_eq 7).2.1]
 simp only [ay]
 rw [this,ao5 l (sc 7) 0 w7.1 w7.2 hl]
 rcases he with he | he <;> simp [he,af3,Ty.api]
end Go.Ft

namespace Go.Ft
open Go
attribute [local congr] jE
theorem auo :∃ n,BIG=n + 4:=⟨BIG - 4,by decide⟩
theorem ars :bS (0 + 1)=1:=by decide
theorem atu :bS (1 + 1)=2:=by decide
theorem atA {a w:Ty} (ha:a.wf) (had:a.dep≤16) (hw:w.wf):akx [a.api] [w.api]=some (xX a w):=by
 obtain ⟨n,hn⟩:=auo
 unfold akx
 rw [hn]
 have i0:∀ x:Ty,idx [x.api] 0=some x.api:=fun _=>rfl
 simp only [akJ,i0,ay,(aiW ha hw (by omega)).1,ars]
 cases xX a w <;> simp
theorem arx {a b w v:Ty} (ha:a.wf) (had:a.dep≤16) (hb:b.wf) (hbd:b.dep≤16) (hw:w.wf) (hv:v.wf):akx [a.api,b.api] [w.api,v.api]=some (xX a w && xX b v):=by
 obtain ⟨n,hn⟩:=auo
 unfold akx
 rw [hn]
 have i0:∀ x y:Ty,idx [x.api,y.api] 0=some x.api:=fun _ _=>rfl
 have i1:∀ x y:Ty,idx [x.api,y.api] 1=some y.api:=fun _ _=>rfl
 simp only [akJ,i0,i1,ay,(aiW ha hw (by omega)).1,(aiW hb hv (by omega)).1,ars,atu]
 cases xX a w <;> cases xX b v <;> simp
theorem ato {e:aj} {alts:List (List b_)} {x:b_} {ts:List b_} (hl:alts.length < 4611686018427387904) (hne:(e.name == ([100,101,102,97,117,108,116]:Str))=false) (bs:List Bool)
  (h:alts.map (akx ts)=bs.map some):aja e alts x ts BIG 0=some (if bs.any id then (x,0) else (ZT,9)):=by
 have:=dP (F:=fun k (_:Unit) i=>aja e alts x ts k i) (l:=alts) (body:=fun _ al0 _ r=>au (akx ts al0) fun x3=>if !x3 then r () else if !(e.name == ([100,101,102,97,117,108,116]:Str)) then some (x,0) else
   au (idx ts 0) fun e3=>if e3.kind == 1 then au (idx ts 1) fun e4=>some (e4,0) else au (idx ts 0) fun e5=>some (e5,0)) (fin:=fun _=>some (ZT,9)) hl (fun k s i=>rfl) ()
 rw [this]
 clear this hl
 simp only [hne,Bool.not_false,if_true]
 generalize 0=i
 induction alts generalizing bs i with
 | nil=>
  cases bs with
  | nil=>rfl
  | cons b bs=>simp at h
 | cons w alts ih=>
  cases bs with
  | nil=>simp at h
  | cons b bs=>
   simp only [List.map_cons,List.cons.injEq] at h
   rw [dQ,h.1]
   simp only [ay,List.any_cons,id]
   cases b with
   | true=>simp
   | false=>
    simp only [Bool.not_false,if_true,Bool.false_or]
    exact ih bs h.2 (i + 1)
theorem apQ (a:Ty):xX a (sc 0)=true:=by
 cases a <;> simp [sc,xX]
theorem any_ok {k:Int} (h:0≤k∧k≤7∧k≠5∧k≠6):(sc k).wf∧(sc k).dep≤16:=⟨h,by simp [sc,Ty.dep]⟩
theorem ak5 {k j:Int} (hk:k=5∨k=6) (h:0≤j∧j≤7∧j≠5∧j≠6):(Ty.nest k (sc j)).wf∧(Ty.nest k (sc j)).dep≤16:=⟨⟨hk,h⟩,by simp [sc,Ty.dep]⟩
def alk (name:Str) (n:Nat):Prop:=∃ (alts:List (List b_)) (x:b_) (w:List b_) (r:List (List b_)),afd name=some (alts,x)∧alts=w :: r∧w.length=n∧FL name=some (n:Int)∧
 ∀ (e:aj) (Ts:List Ty),e.name=name→Ts.length=n→(∀ t∈Ts,t.wf∧t.dep≤16)→RES (aja e alts x (Ts.map Ty.api) BIG 0) (aj6 (abb name (Ts.map Ty.api)))
theorem aqS {name:Str} {alts:List Ty} {X:Ty} (hs:afd name=some (alts.map fun w=>[w.api],X.api)) (hne:alts≠[]) (hA:FL name=some 1) (hw:∀ w∈alts,w.wf) (hX:X.wf∧X.dep≤16) (hd:(name == ([100,101,102,97,117,108,116]:Str))=false)
  (hl:alts.length < 100)
  (hr:∀ a:Ty,a.wf→a.dep≤16→abb name [a.api]=some (X.api,(alts.map (xX a)).any id)):alk name 1:=by
 obtain ⟨w0,r0,h0⟩:∃ w0 r0,alts=w0 :: r0:=by
  cases alts with
  | nil=>exact absurd rfl hne
  | cons a b=>exact ⟨a,b,rfl⟩
 refine ⟨_,_,[w0.api],r0.map fun w=>[w.api],hs,by rw [h0]; rfl,rfl,hA,?_⟩
 intro e Ts hn hlen hT
 match Ts,hlen with
 | [a],_=>
  obtain ⟨a1,a2⟩:=hT a (by simp)
  simp only [List.map_cons,List.map_nil]
  refine RES.mk X ((alts.map (xX a)).any id) ?_ (hr a a1 a2) (fun _=>hX)
  rw [ato (by simp; omega) (by rw [hn]; exact hd) (alts.map (xX a)) ?_]
  ·
   simp only [List.map_map,Function.comp_def]
   refine List.map_congr_left fun w hwm=>?_
   exact atA a1 a2 (hw w hwm)
theorem asc {name:Str} {alts:List (Ty × Ty)} {X:Ty} (hs:afd name=some (alts.map fun w=>[w.1.api,w.2.api],X.api)) (hne:alts≠[]) (hA:FL name=some 2) (hw:∀ w∈alts,w.1.wf∧w.2.wf) (hX:X.wf∧X.dep≤16) (hd:(name == ([100,101,102,97,117,108,116]:Str))=false)
  (hl:alts.length < 100)
  (hr:∀ a b:Ty,a.wf→a.dep≤16→b.wf→b.dep≤16→abb name [a.api,b.api]=some (X.api,(alts.map fun w=>xX a w.1 && xX b w.2).any id)):alk name 2:=by
 obtain ⟨w0,r0,h0⟩:∃ w0 r0,alts=w0 :: r0:=by
  cases alts with
  | nil=>exact absurd rfl hne
  | cons a b=>exact ⟨a,b,rfl⟩
 refine ⟨_,_,[w0.1.api,w0.2.api],r0.map fun w=>[w.1.api,w.2.api],hs,by rw [h0]; rfl,rfl,hA,?_⟩
 intro e Ts hn hlen hT
 match Ts,hlen with
 | [a,b],_=>
  obtain ⟨a1,a2⟩:=hT a (by simp)
  obtain ⟨b1,b2⟩:=hT b (by simp)
  simp only [List.map_cons,List.map_nil]
  refine RES.mk X ((alts.map fun w=>xX a w.1 && xX b w.2).any id) ?_ (hr a b a1 a2 b1 b2) (fun _=>hX)
  rw [ato (by simp; omega) (by rw [hn]; exact hd) (alts.map fun w=>xX a w.1 && xX b w.2) ?_]
  ·
   simp only [List.map_map,Function.comp_def]
   refine List.map_congr_left fun w hwm=>?_
   exact arx a1 a2 b1 b2 (hw w hwm).1 (hw w hwm).2
theorem avy (a b:Ty):idx [a.api,b.api] 0=some a.api:=rfl
theorem avx (a b:Ty):idx [a.api,b.api] 1=some b.api:=rfl
theorem aeg (p:Bool) (q:Bool):(if p=true then some true else some q)=some (p || q):=by cases p <;> rfl
theorem PD (p:Bool) (q:Bool):(if p=true then some q else some false)=some (p && q):=by cases p <;> rfl
theorem asa :alk [108,101,110] 1:=
 aqS (alts:=[sc 4,.nest 5 (sc 0),.nest 6 (sc 0)]) (X:=sc 3) rfl (by simp) rfl (by simp [sc,Ty.wf]) (any_ok (by omega)) rfl (by simp) fun a h hd=>by
  have i4:=akn h (by omega) (akQ (k:=4) (by omega))
  have l5:=(aiW h (ak5 (k:=5) (j:=0) (by omega) (by omega)).1 (by omega)).2
  have l6:=(aiW h (ak5 (k:=6) (j:=0) (by omega) (by omega)).1 (by omega)).2
  rw [show abb [108,101,110] [a.api]=au (abH a.api 4) fun x3=>au (if x3 then some true else CU a.api (Ty.nest 5 (sc 0)).api) fun b1=>au (if b1 then some true else CU a.api (Ty.nest 6 (sc 0)).api) fun b2=>some ((sc 3).api,b2) from rfl,i4,l5,l6]
  simp only [ay,aeg,List.map_cons,List.map_nil,List.any_cons,List.any_nil,id,Bool.or_false,Bool.or_assoc]
theorem anq {name:Str} {X:Ty} (hX:X.wf∧X.dep≤16) (hs:afd name=some ([[(sc 4).api]],X.api)) (hA:FL name=some 1) (hd:(name == ([100,101,102,97,117,108,116]:Str))=false)
  (hr:∀ a:Ty,abb name [a.api]=au (abH a.api 4) fun b=>some (X.api,b)):alk name 1:=
 aqS (alts:=[sc 4]) (X:=X) hs (by simp) hA (by simp [sc,Ty.wf]) hX hd (by simp) fun a h hd=>by
  rw [hr,akn h (by omega) (akQ (k:=4) (by omega))]
  simp
theorem aqv :alk [108,111,119,101,114] 1:=anq (X:=sc 4) (any_ok (by omega)) rfl rfl rfl fun a=>rfl
theorem aqt :alk [117,112,112,101,114] 1:=anq (X:=sc 4) (any_ok (by omega)) rfl rfl rfl fun a=>rfl
theorem asb :alk [105,110,116] 1:=anq (X:=sc 3) (any_ok (by omega)) rfl rfl rfl fun a=>rfl
theorem apR :alk [115,116,114,105,110,103] 1:=
 aqS (alts:=[sc 1,sc 2,sc 3,sc 4]) (X:=sc 4) rfl (by simp) rfl (by simp [sc,Ty.wf]) (any_ok (by omega)) rfl (by simp) fun a h hd=>by
  have e1:abb [115,116,114,105,110,103] [a.api]=some ((sc 4).api,(a.kind != 5) && (a.kind != 6)):=by
   rw [show abb [115,116,114,105,110,103] [a.api]=au (if a.api.kind != 5 then some (a.api.kind != 6) else some false) fun b10=>some ((sc 4).api,b10) from rfl,Ty.ajO]
   cases (a.kind != 5) <;> rfl
  rw [e1]
  congr 2
  cases a with
  | leaf k=>
   have hk:k=0∨k=1∨k=2∨k=3∨k=4∨k=7:=by obtain ⟨h1,h2,h3,h4⟩:=h; omega
   rcases hk with rfl | rfl | rfl | rfl | rfl | rfl <;> rfl
  | nest k s=>rcases h.1 with rfl | rfl <;> simp [sc,xX,Ty.kind]
theorem aq8 :alk [107,101,121,115] 1:=
 aqS (alts:=[.nest 6 (sc 0)]) (X:=.nest 5 (sc 4)) rfl (by simp) rfl (by simp [sc,Ty.wf]) (ak5 (by omega) (by omega)) rfl (by simp) fun a h hd=>by
  have l6:=(aiW h (ak5 (k:=6) (j:=0) (by omega) (by omega)).1 (by omega)).2
  rw [show abb [107,101,121,115] [a.api]=au (CU a.api (Ty.nest 6 (sc 0)).api) fun x33=>some ((Ty.nest 5 (sc 4)).api,x33) from rfl,l6]
  simp
theorem aoV :alk [99,111,110,116,97,105,110,115] 2:=
 asc (alts:=[(.nest 5 (sc 0),sc 0),(sc 4,sc 4),(.nest 6 (sc 0),sc 4)]) (X:=sc 2) rfl (by simp) rfl (by simp [sc,Ty.wf]) (any_ok (by omega)) rfl (by simp) fun a b h hd hb hbd=>by
  have ia:=akn h (by omega) (akQ (k:=4) (by omega))
  have ib:=akn hb (by omega) (akQ (k:=4) (by omega))
  have l5:=(aiW h (ak5 (k:=5) (j:=0) (by omega) (by omega)).1 (by omega)).2
  have l6:=(aiW h (ak5 (k:=6) (j:=0) (by omega) (by omega)).1 (by omega)).2
  rw [show abb [99,111,110,116,97,105,110,115] [a.api,b.api]=au (CU a.api (Ty.nest 5 (sc 0)).api) fun CO=>au (if CO then some true else au (abH b.api 4) fun KP=>if KP then
    (au (abH a.api 4) fun TU=>if TU then some true else CU a.api (Ty.nest 6 (sc 0)).api) else some false) fun b3=>some ((sc 2).api,b3) from rfl,l5,l6,ia,ib]
  simp only [ay,List.map_cons,List.map_nil,List.any_cons,List.any_nil,id,apQ]
  cases xX a (Ty.nest 5 (sc 0)) <;> cases xX b (sc 4) <;> cases xX a (sc 4) <;> cases xX a (Ty.nest 6 (sc 0)) <;> rfl
theorem aq9 :alk [106,111,105,110] 2:=
 asc (alts:=[(.nest 5 (sc 4),sc 4)]) (X:=sc 4) rfl (by simp) rfl (by simp [sc,Ty.wf]) (any_ok (by omega)) rfl (by simp) fun a b h hd hb hbd=>by
  have ib:=akn hb (by omega) (akQ (k:=4) (by omega))
  have l5:=(aiW h (ak5 (k:=5) (j:=4) (by omega) (by omega)).1 (by omega)).2
  rw [show abb [106,111,105,110] [a.api,b.api]=au (CU a.api (Ty.nest 5 (sc 4)).api) fun Xh=>au (if Xh then abH b.api 4 else some false) fun b6=>some ((sc 4).api,b6) from rfl,l5,ib]
  simp [PD]
theorem anp {name:Str} {X:Ty} (hX:X.wf∧X.dep≤16) (hs:afd name=some ([[(sc 4).api,(sc 4).api]],X.api)) (hA:FL name=some 2) (hd:(name == ([100,101,102,97,117,108,116]:Str))=false)
  (hr:∀ a b:Ty,abb name [a.api,b.api]=au (abH a.api 4) fun x=>au (if x then abH b.api 4 else some false) fun b=>some (X.api,b)):alk name 2:=
 asc (alts:=[(sc 4,sc 4)]) (X:=X) hs (by simp) hA (by simp [sc,Ty.wf]) hX hd (by simp) fun a b h hd hb hbd=>by
  rw [hr,akn h (by omega) (akQ (k:=4) (by omega)),akn hb (by omega) (akQ (k:=4) (by omega))]
  simp [PD]
theorem aqu :alk [115,112,108,105,116] 2:=anp (X:=.nest 5 (sc 4)) (ak5 (by omega) (by omega)) rfl rfl rfl fun a b=>rfl
theorem apS :alk [115,116,97,114,116,115,119,105,116,104] 2:=anp (X:=sc 2) (any_ok (by omega)) rfl rfl rfl fun a b=>rfl
theorem aq_ :alk [101,110,100,115,119,105,116,104] 2:=anp (X:=sc 2) (any_ok (by omega)) rfl rfl rfl fun a b=>rfl
theorem apt :alk [100,101,102,97,117,108,116] 2:=by
 refine ⟨[[(sc 0).api,(sc 0).api]],(sc 0).api,[(sc 0).api,(sc 0).api],[],rfl,rfl,rfl,rfl,?_⟩
 intro e Ts hn hlen hT
 match Ts,hlen with
 | [a,b],_=>
  obtain ⟨a1,a2⟩:=hT a (by simp)
  obtain ⟨b1,b2⟩:=hT b (by simp)
  simp only [List.map_cons,List.map_nil]
  have e1:aja e [[(sc 0).api,(sc 0).api]] (sc 0).api [a.api,b.api] BIG 0=some (if a.kind == 1 then (b.api,0) else (a.api,0)):=by
   obtain ⟨n,hB⟩:=auo
   rw [hB,aja]
   have hsu:=arx a1 a2 b1 b2 (w:=sc 0) (v:=sc 0) (any_ok (by omega)).1 (any_ok (by omega)).1
   have i0:idx [[(sc 0).api,(sc 0).api]] 0=some [(sc 0).api,(sc 0).api]:=rfl
   rw [i0]
   simp only [ay,hsu,apQ,hn,avy,avx,Ty.ajO]
   simp
   split <;> rfl
  have e2:abb [100,101,102,97,117,108,116] [a.api,b.api]=some (if a.kind == 1 then (b.api,true) else (a.api,true)):=by
   rw [show abb [100,101,102,97,117,108,116] [a.api,b.api]=(if a.api.kind == 1 then some (b.api,true) else some (a.api,true)) from rfl,Ty.ajO]
   split <;> rfl
  rw [e1,e2]
  cases (a.kind == 1) with
  | true=>exact RES.mk b true rfl rfl (fun _=>⟨b1,b2⟩)
  | false=>exact RES.mk a true rfl rfl (fun _=>⟨a1,a2⟩)
theorem aq1 (name:Str):(afd name=some ([],(sc 0).api)∧FL name=some (-1))∨∃ n,alk name n:=by
 by_cases h1:name=[108,101,110]
 · subst h1; exact .inr ⟨_,asa⟩
 by_cases h2:name=[108,111,119,101,114]
 · subst h2; exact .inr ⟨_,aqv⟩
 by_cases h3:name=[117,112,112,101,114]
 · subst h3; exact .inr ⟨_,aqt⟩
 by_cases h4:name=[115,116,114,105,110,103]
 · subst h4; exact .inr ⟨_,apR⟩
 by_cases h5:name=[105,110,116]
 · subst h5; exact .inr ⟨_,asb⟩
 by_cases h6:name=[107,101,121,115]
 · subst h6; exact .inr ⟨_,aq8⟩
 by_cases h7:name=[99,111,110,116,97,105,110,115]
 · subst h7; exact .inr ⟨_,aoV⟩
 by_cases h8:name=[106,111,105,110]
 · subst h8; exact .inr ⟨_,aq9⟩
 by_cases h9:name=[115,112,108,105,116]
 · subst h9; exact .inr ⟨_,aqu⟩
 by_cases h10:name=[115,116,97,114,116,115,119,105,116,104]
 · subst h10; exact .inr ⟨_,apS⟩
 by_cases h11:name=[101,110,100,115,119,105,116,104]
 · subst h11; exact .inr ⟨_,aq_⟩
 by_cases h12:name=[100,101,102,97,117,108,116]
 · subst h12; exact .inr ⟨_,apt⟩
 left
 constructor
 · simp [afd,Rv,aiX,h1,h2,h3,h4,h5,h6,h7,h8,h9,h10,h11,h12,sc,Ty.api]
 · simp [FL,h1,h2,h3,h4,h5,h6,h7,h8,h9,h10,h11,h12]
end Go.Ft

namespace Go.Ft
open Go
attribute [local congr] jE
mutual
def ofT :ah→Ty
 | ⟨k,_,_,_,l,_⟩=>if k=0 then sc 1 else if k=1 then sc 2 else if k=2 then sc 3 else if k=3 then sc 4 else .nest (if k=4 then 5 else 6) (ajG l (sc 7))
def ajG :List ah→Ty→Ty
 | [],t=>t
 | x :: r,t=>ajG r (agY t (ofT x))
end
theorem amr (v:ah):ofT v=if v.kind=0 then sc 1 else if v.kind=1 then sc 2 else if v.kind=2 then sc 3 else if v.kind=3 then sc 4 else .nest (if v.kind=4 then 5 else 6) (ajG v.aI (sc 7)):=by cases v; rw [ofT]
theorem Zq {v:ah} {level:Nat} (h:ny v level=0):level≤16∧0≤v.kind∧v.kind≤5∧(v.kind=4∨v.kind=5→v.aI=[]→level≠16):=by
 unfold ny at h
 by_cases h0:16 < level
 · simp [h0] at h
 ·
  rw [if_neg h0] at h
  cases h1:(decide (v.kind < 0) || decide (5 < v.kind) || !qH v) with
  | true=>rw [h1] at h; simp at h
  | false=>
   rw [h1] at h
   simp only [Bool.or_eq_false_iff,decide_eq_false_iff_not] at h1
   refine ⟨by omega,by omega,by omega,fun hk hl h16=>?_⟩
   have e1:((((v.kind == 4) || (v.kind == 5)) && ((v.aI.length:Int) == 0)) && (level == 16))=true:=by
    rw [hl,h16]; rcases hk with hk | hk <;> simp [hk]
   rw [e1] at h
   simp only [Bool.false_eq_true,if_false,if_true] at h
   split at h
   · omega
   ·
    split at h
    · omega
    · split at h <;> omega
theorem Ua :∀ {l:List ah} {level:Nat},C_ l level=0→∀ x∈l,uZ x level=0
 | [],_,_,x,hx=>by cases hx
 | y :: r,level,h,x,hx=>by
  rw [C_] at h
  by_cases hy:uZ y level=0
  ·
   rw [if_neg (by simpa using hy)] at h
   rcases List.mem_cons.1 hx with rfl | hx
   · exact hy
   · exact Ua h x hx
  · rw [if_pos (by simpa using hy)] at h; exact absurd h hy
theorem abO {v:ah} {level:Nat} (h:uZ v level=0):ny v level=0∧∀ x∈v.aI,uZ x (level + 1)=0:=by
 rw [LG] at h
 by_cases hn:ny v level=0
 ·
  rw [if_neg (by simpa using hn)] at h
  exact ⟨hn,Ua h⟩
 · rw [if_pos (by simpa using hn)] at h; exact absurd h hn
theorem ofL {go:ah→Option b_} {join:b_→b_→Option b_} {K:b_→Option b_} {lv:Nat} (hlv:lv≤16) (hj:∀ a b:Ty,a.wf→b.wf→a.dep≤1000→b.dep≤1000→join a.api b.api=some (agY a b).api):
  ∀ (l:List ah) (t:Ty) (i:Nat),t.wf→t.dep + lv≤17→(∀ x∈l,go x=some (ofT x).api∧(ofT x).wf∧(ofT x).dep + lv≤17)→
  dQ (fun _ e1 (ae8:b_) r=>au (go e1) fun x7=>au (join ae8 x7) fun x8=>r x8) K i l t.api=K (ajG l t).api∧(ajG l t).wf∧(ajG l t).dep + lv≤17
 | [],t,i,h,hd,_=>⟨rfl,h,hd⟩
 | x :: r,t,i,h,hd,hl=>by
  obtain ⟨x1,x2,x3⟩:=hl x (by simp)
  have jd:=alE t (ofT x)
  rw [dQ,x1,ajG]
  simp only [ay,hj t (ofT x) h x2 (by omega) (by omega)]
  exact ofL hlv hj r (agY t (ofT x)) (i + 1) (ajF _ _ h x2) (by omega) fun y hy=>hl y (by simp [hy])
theorem at5 :∀ (n:Nat) (v:ah) (level:Nat),v.bulk≤n→v.bulk < 4611686018427387904→uZ v level=0→
  ai_ (n + 1) v=some (ofT v).api∧alK (n + 1) v=some (ofT v).api∧(ofT v).wf∧(ofT v).dep + level≤17
 | 0,v,_,h,_,_=>by have:=v.gF; omega
 | n + 1,v,level,h,hB,hc=>by
  obtain ⟨h0,hm⟩:=abO hc
  obtain ⟨z1,z2,z3,z4⟩:=Zq h0
  have hl:=uX v
  rw [ai_,alX,alK,anA,amr]
  by_cases k0:v.kind=0
  · simp only [k0]; exact ⟨rfl,rfl,(any_ok (by omega)).1,by simp [sc,Ty.dep]; omega⟩
  by_cases k1:v.kind=1
  · simp only [k1]; exact ⟨rfl,rfl,(any_ok (by omega)).1,by simp [sc,Ty.dep]; omega⟩
  by_cases k2:v.kind=2
  · simp only [k2]; exact ⟨rfl,rfl,(any_ok (by omega)).1,by simp [sc,Ty.dep]; omega⟩
  by_cases k3:v.kind=3
  · simp only [k3]; exact ⟨rfl,rfl,(any_ok (by omega)).1,by simp [sc,Ty.dep]; omega⟩
  have k45:v.kind=4∨v.kind=5:=by omega
  have hlv:level≤15:=by
   by_cases hnil:v.aI=[]
   · have:=z4 k45 hnil; omega
   ·
    obtain ⟨x,hx⟩:=List.exists_mem_of_ne_nil _ hnil
    have:=(Zq (abO (hm x hx)).1).1
    omega
  have e0:(v.kind == 0)=false:=by simpa using k0
  have e1:(v.kind == 1)=false:=by simpa using k1
  have e2:(v.kind == 2)=false:=by simpa using k2
  have e3:(v.kind == 3)=false:=by simpa using k3
  simp only [e0,e1,e2,e3,Bool.false_eq_true,if_false,k0,k1,k2,k3,ay]
  have w7:(sc 7).wf∧(sc 7).dep + (level + 1)≤17:=⟨(any_ok (by omega)).1,by simp [sc,Ty.dep]; omega⟩
  have ih:=fun x (hx:x∈v.aI)=>at5 n x (level + 1) (by have:=iH hx; omega) (by have:=iH hx; omega) (hm x hx)
  have s1:=dP (F:=fun k s i=>ald (ai_ (n + 1)) v k i s) (l:=v.aI) (body:=fun _ e1 (ae8:b_) r=>au (ai_ (n + 1) e1) fun x7=>au (al1 ae8 x7) fun x8=>r x8)
   (fin:=fun ae8=>if v.kind == 4 then akq 5 ae8 else akq 6 ae8) (by omega) (fun k s i=>rfl) (sc 7).api
  have s2:=dP (F:=fun k s i=>amG (alK (n + 1)) v k i s) (l:=v.aI) (body:=fun _ e1 (ae8:b_) r=>au (alK (n + 1) e1) fun x7=>au (am0 ae8 x7) fun x8=>r x8)
   (fin:=fun t1=>if v.kind == 5 then af3 6 t1 else af3 5 t1) (by omega) (fun k s i=>rfl) (sc 7).api
  obtain ⟨a1,a2,a3⟩:=ofL (lv:=level + 1) (K:=fun ae8=>if v.kind == 4 then akq 5 ae8 else akq 6 ae8) (by omega) (fun a b x y z w=>(join_eq x y z w).1) v.aI (sc 7) 0 w7.1 w7.2 (fun x hx=>⟨(ih x hx).1,(ih x hx).2.2⟩)
  obtain ⟨b1,_,_⟩:=ofL (lv:=level + 1) (K:=fun t1=>if v.kind == 5 then af3 6 t1 else af3 5 t1) (by omega) (fun a b x y z w=>(join_eq x y z w).2) v.aI (sc 7) 0 w7.1 w7.2 (fun x hx=>⟨(ih x hx).2.1,(ih x hx).2.2⟩)
  have t7:abd 7=some (sc 7).api:=rfl
  have p7:aij 7=some (sc 7).api:=rfl
  rw [t7,p7]
  simp only [ay]
  rw [s1,a1,s2,b1]
  refine ⟨?_,?_,⟨?_,a2⟩,by simp only [Ty.dep]; omega⟩
  · rcases k45 with k | k <;> simp [k,akq,Ty.api]
  · rcases k45 with k | k <;> simp [k,af3,Ty.api]
  ·
   split
   · exact .inl rfl
   · exact .inr rfl
theorem ash {v:ah} (h:v.bulk < 4611686018427387904) (hc:uZ v 1=0):amE v=some (ofT v).api∧anT v=some (ofT v).api∧(ofT v).wf∧(ofT v).dep≤16:=by
 obtain ⟨n,hn,hn2⟩:=ru
 obtain ⟨a1,a2,a3,a4⟩:=at5 n v 1 (by omega) h hc
 unfold amE anT al2 aqc
 rw [CP h,Vu h,hc,hn,a1,a2]
 exact ⟨rfl,rfl,a3,by omega⟩
theorem afH {s:Str} (h:s.length < 4611686018427387000):jY (aj.mk 2 s (ah.mk 0 false 0 ([]:Str) [] []) [] [])=some (if nY s then 0 else 1):=by
 have hb:(aj.mk 2 s (ah.mk 0 false 0 ([]:Str) [] []) [] []).bulk < 4611686018427387904:=by
  simp only [aj.bulk,ah.bulk,ah.lZ,aj.lZ,List.map_nil,List.sum_nil,List.length_nil]; omega
 rw [(Gf hb).1]
 have e1:ecnt (aj.mk 2 s (ah.mk 0 false 0 ([]:Str) [] []) [] [])=1:=by rw [tL]; rfl
 unfold xval
 rw [e1,JM]
 have e2:rV (aj.mk 2 s (ah.mk 0 false 0 ([]:Str) [] []) [] [])=nY s:=by
  have:Ob (ah.mk 0 false 0 ([]:Str) [] [])=true:=rfl
  simp [rV,Ab,this,Al,sW,Cb]
 have e3:tY (aj.mk 2 s (ah.mk 0 false 0 ([]:Str) [] []) [] []) 1=if nY s then 0 else 1:=by
  unfold tY
  rw [e2]
  cases nY s <;> simp [K_]
 rw [e3]
 cases nY s <;> simp [Il]
def apr :List Str→List qE→Int
 | _,[]=>0
 | seen,d :: r=>if !nY d.name then 1 else if Zx d.LK != 0 then Zx d.LK else if seen.contains d.name then 7 else apr (seen ++ [d.name]) r
def apz (env:List qE):Prop:=∀ d∈env,∃ T:Ty,T.wf∧T.dep≤16∧d.LK=T.api
theorem ar8 :∀ (r:List qE) (seen:List Str),apr seen r=0→apz r
 | [],_,_,d,hd=>by cases hd
 | x :: r,seen,h,d,hd=>by
  rw [apr] at h
  cases h1:nY x.name with
  | false=>rw [h1] at h; simp at h
  | true=>
   rw [h1] at h
   simp only [Bool.not_true,Bool.false_eq_true,if_false] at h
   by_cases h2:Zx x.LK=0
   ·
    rw [if_neg (by simpa using h2)] at h
    obtain ⟨T,t1,t2,t3⟩:=(afq x.LK).2.2 h2
    split at h
    · simp at h
    ·
     rcases List.mem_cons.1 hd with rfl | hd
     · exact ⟨T,t1,t3,t2⟩
     · exact ar8 r _ h d hd
   · rw [if_pos (by simpa using h2)] at h; exact absurd h h2
theorem au6 :∀ (r:List qE) (i:Nat) (y:List (Str × Int)) (seen:List Str),(∀ d∈r,d.name.length < 4611686018427387000)→(∀ s,sV y s=if s∈seen then 1 else 0)→
  dQ (fun _ e1 (y1:List (Str × Int)) r=>au (jY (aj.mk 2 e1.name (ah.mk 0 false 0 ([]:Str) [] []) [] [])) fun x2=>if x2 != 0 then some 1 else au (Ci e1.LK) fun e2=>if e2 != 0 then some e2 else
   if decide (1 < (sV (wE y1 e1.name (bS ((sV y1 e1.name) + 1))) e1.name)) then some 7 else r (wE y1 e1.name (bS ((sV y1 e1.name) + 1)))) (fun _=>some 0) i r y=some (apr seen r)
 | [],_,_,_,_,_=>rfl
 | d :: r,i,y,seen,hd,hy=>by
  rw [dQ,apr,afH (hd d (by simp)),(afq d.LK).1,J6,if_pos rfl,hy d.name]
  cases h1:nY d.name with
  | false=>simp
  | true=>
   simp only [if_true,ay,Bool.not_true,Bool.false_eq_true,if_false,bne_self_eq_false]
   by_cases h2:Zx d.LK=0
   ·
    simp only [h2,bne_self_eq_false,Bool.false_eq_true,if_false]
    by_cases hc:d.name∈seen
    ·
     have:bS 2=2:=by decide
     simp [hc,this]
    ·
     have:bS ((0:Int) + 1)=1:=by decide
     simp only [hc,if_false,this]
     have e:seen.contains d.name=false:=by simpa using hc
     rw [e]
     simp only [Int.lt_irrefl,decide_false,Bool.false_eq_true,if_false]
     refine au6 r (i + 1) _ (seen ++ [d.name]) (fun z hz=>hd z (by simp [hz])) fun s=>?_
     rw [J6,hy s]
     by_cases h1:s=d.name
     · subst h1; simp
     · simp [h1]
   · simp [h2]
theorem ar7 (l:List qE) (i:Nat) (hi:i < l.length) (hl:l.length < 4611686018427387904) (go:Int→Option Int):∀ (k j:Nat),i < k + j→j≤i→
  alU l (i:Int) go k (j:Int)=if (((l.take i).drop j).map (·.name)).contains l[i].name then some 7 else go ((i + 1:Nat):Int)
 | 0,j,h,h'=>by omega
 | k + 1,j,h,h'=>by
  rw [alU]
  by_cases hj:j < i
  ·
   have hlt:j < (l.take i).length:=by simp; omega
   rw [if_pos (by simpa using hj),rA hi,rA (by omega),List.drop_eq_getElem_cons hlt]
   simp only [ay,List.map_cons,List.contains_cons,List.getElem_take]
   by_cases h1:l[j].name=l[i].name
   · simp [h1]
   ·
    have e1:(l[j].name == l[i].name)=false:=by simpa using h1
    have e2:(l[i].name == l[j].name)=false:=by simpa using fun hh=>h1 hh.symm
    simp only [e1,e2,Bool.false_eq_true,if_false,Bool.false_or]
    rw [zB (by omega)]
    exact ar7 l i hi hl go k (j + 1) (by omega) (by omega)
  ·
   have:j=i:=by omega
   subst this
   rw [if_neg (by simp),zB (by omega)]
   have:(List.take j l).drop j=[]:=List.drop_eq_nil_of_le (by simp; omega)
   rw [this]
   simp
theorem au5 (l:List qE) (hl:l.length < 4611686018427387904) (hd:∀ d∈l,d.name.length < 4611686018427387000):∀ (k i:Nat),l.length < k + i→i≤l.length→alg l k (i:Int)=some (apr ((l.take i).map (·.name)) (l.drop i))
 | 0,i,h,h'=>by omega
 | k + 1,i,h,h'=>by
  rw [alg]
  by_cases hi:i < l.length
  ·
   have hn:=hd l[i] (List.getElem_mem hi)
   rw [if_pos (by simpa using hi),List.drop_eq_getElem_cons hi,apr,rA hi]
   have:=ar7 l i hi hl (alg l k) BIG 0 (by have:=j_; omega) (by omega)
   rw [show (0:Int)=((0:Nat):Int) from rfl,this,List.drop_zero,au5 l hl hd k (i + 1) (by omega) (by omega)]
   simp only [ay,(XZ l[i].name (by omega)).2,(afq _).2.1]
   have e:List.take (i + 1) l=List.take i l ++ [l[i]]:=by rw [List.take_add_one,List.getElem?_eq_getElem hi]; rfl
   rw [e,List.map_append]
   cases nY l[i].name with
   | false=>simp
   | true=>
    simp only [Bool.not_true,Bool.false_eq_true,if_false]
    by_cases h2:Zx l[i].LK=0
    ·
     simp only [h2,Int.natCast_zero,bne_self_eq_false,Bool.false_eq_true,if_false]
     split <;> rfl
    · simp [h2]
  ·
   have:i=l.length:=by omega
   subst this
   simp [apr]
def aqp (env:List qE):Int:=if 1024 < env.length then 3 else apr [] env
theorem auf {env:List qE} (hl:env.length < 4611686018427387904) (hd:∀ d∈env,d.name.length < 4611686018427387000):amm env=some (aqp env)∧anz env=some (aqp env)∧(aqp env=0→apz env):=by
 unfold amm anz aqp
 have e:decide ((1024:Int) < (env.length:Int))=decide (1024 < env.length):=by congr 1; simp; omega
 rw [e]
 by_cases h:1024 < env.length
 · simp [h]
 ·
  simp only [h,decide_false,Bool.false_eq_true,if_false]
  have s1:=dP (F:=fun k s i=>alR env k i s) (l:=env) (body:=fun _ e1 (y1:List (Str × Int)) r=>au (jY (aj.mk 2 e1.name (ah.mk 0 false 0 ([]:Str) [] []) [] [])) fun x2=>if x2 != 0 then some 1 else au (Ci e1.LK) fun e2=>if e2 != 0 then some e2 else
   if decide (1 < (sV (wE y1 e1.name (bS ((sV y1 e1.name) + 1))) e1.name)) then some 7 else r (wE y1 e1.name (bS ((sV y1 e1.name) + 1)))) (fin:=fun _=>some 0) hl (fun k s i=>rfl) []
  have s2:=au5 env hl hd BIG 0 (by have:=j_; omega) (by omega)
  refine ⟨?_,by simpa using s2,ar8 env []⟩
  rw [s1]
  exact au6 env 0 [] [] hd (fun s=>by simp [sV])
end Go.Ft

namespace Go.Ft
open Go
attribute [local congr] jE
theorem TT :∀ {l:List aj} {level:Nat},Il l level=0→∀ x∈l,zG x level=0
 | [],_,_,x,hx=>by cases hx
 | y :: r,level,h,x,hx=>by
  rw [Il] at h
  by_cases hy:zG y level=0
  ·
   rw [if_neg (by simpa using hy)] at h
   rcases List.mem_cons.1 hx with rfl | hx
   · exact hy
   · exact TT h x hx
  · rw [if_pos (by simpa using hy)] at h; exact absurd h hy
theorem KN {e:aj} {level:Nat} (h:tY e level=0):rV e=true∧(e.kind=1→uZ e.value 1=0)∧e.args.length≤1024:=by
 unfold tY at h
 split at h
 · omega
 ·
  cases h1:rV e with
  | false=>rw [h1] at h; simp at h
  | true=>
   rw [h1] at h
   simp only [Bool.not_true,Bool.false_eq_true,if_false] at h
   by_cases h2:(e.kind == 1 && (uZ e.value 1 != 0))=true
   ·
    rw [if_pos h2] at h
    simp [h] at h2
   ·
    rw [if_neg h2] at h
    refine ⟨rfl,fun hk=>?_,?_⟩
    ·
     simp only [Bool.and_eq_true,beq_iff_eq,bne_iff_ne,not_and] at h2
     have:=h2 hk
     simpa using this
    ·
     split at h
     · omega
     · rename_i h3; simp only [decide_eq_true_eq] at h3; omega
theorem M8 {e:aj} {level:Nat} (h:zG e level=0):tY e level=0∧∀ x∈e.args,zG x (level + 1)=0:=by
 rw [JM] at h
 by_cases hn:tY e level=0
 ·
  rw [if_neg (by simpa using hn)] at h
  exact ⟨hn,TT h⟩
 · rw [if_pos (by simpa using hn)] at h; exact absurd h hn
def bodyC (go:aj→Option (b_ × Int)):Nat→aj→List b_→(List b_→Option (List b_ × Int))→Option (List b_ × Int):=
 fun _ e1 aT r=>fG (go e1) fun x2 f1=>if f1 != 0 then some ([],f1) else au (app aT [x2]) fun Cq=>r Cq
def an9 (go:aj→Option (b_ × Int)):Nat→aj→List b_→(List b_→Option (b_ × Int))→Option (b_ × Int):=
 fun _ e1 aT r=>fG (go e1) fun x5 f1=>if f1 != 0 then some (ZT,f1) else au (app aT [x5]) fun l2=>r l2
theorem atr {goC goR:aj→Option (b_ × Int)} {K:List b_→Option (b_ × Int)}:∀ (l:List aj) (out:List Ty) (i:Nat),(∀ x∈l,RES (goC x) (goR x))→out.length + l.length≤4000→
  (∃ c,c≠0∧dQ (bodyC goC) (fun o=>some (o,0)) i l (out.map Ty.api)=some ([],c)∧dQ (an9 goR) K i l (out.map Ty.api)=some (ZT,c))∨
  (∃ Ts:List Ty,Ts.length=l.length∧(∀ t∈Ts,t.wf∧t.dep≤16)∧dQ (bodyC goC) (fun o=>some (o,0)) i l (out.map Ty.api)=some ((out ++ Ts).map Ty.api,0)∧dQ (an9 goR) K i l (out.map Ty.api)=K ((out ++ Ts).map Ty.api))
 | [],out,i,_,_=>.inr ⟨[],rfl,fun t ht=>(by cases ht),by simp [dQ],by simp [dQ]⟩
 | x :: r,out,i,h,hn=>by
  simp only [List.length_cons] at hn
  obtain ⟨T,c,w,d,z,e1,e2⟩:=h x (by simp)
  rw [dQ,dQ,bodyC,an9]
  simp only [e1,e2,dH]
  by_cases hc:c=0
  ·
   subst hc
   have ha:app (out.map Ty.api) [T.api]=some ((out ++ [T]).map Ty.api):=by
    rw [q8 (by simp [rC]; omega)]; simp
   simp only [bne_self_eq_false,Bool.false_eq_true,if_false,ha,ay]
   rcases atr (K:=K) r (out ++ [T]) (i + 1) (fun y hy=>h y (by simp [hy])) (by simp; omega) with ⟨c,c1,c2,c3⟩ | ⟨Ts,c1,c2,c3,c4⟩
   · exact .inl ⟨c,c1,c2,c3⟩
   ·
    refine .inr ⟨T :: Ts,by simp [c1],?_,?_,?_⟩
    ·
     intro t ht
     rcases List.mem_cons.1 ht with rfl | ht
     · exact ⟨w,d⟩
     · exact c2 t ht
    · have:=c3; rw [List.append_assoc] at this; exact this
    · have:=c4; rw [List.append_assoc] at this; exact this
  · exact .inl ⟨c,hc,by simp [hc],by simp [hc]⟩
theorem aps {env:List qE} (hW:apz env) (hl:env.length < 4611686018427387904) (e:aj) (he:e.kind=2):RES (alh env e.name) (alJ e env):=by
 unfold alh alJ
 have h1:(e.kind == 1)=false:=by simp [he]
 rw [h1]
 simp only [Bool.false_eq_true,if_false]
 have s1:=dP (F:=fun k (_:Unit) i=>akz env e.name k i) (l:=env) (body:=fun _ e1 _ r=>if e1.name == e.name then some (e1.LK,0) else r ()) (fin:=fun _=>some (ZT,10)) hl (fun k s i=>rfl) ()
 have s2:=dP (F:=fun k (_:Unit) i=>alC e env k i) (l:=env) (body:=fun (i:Nat) e1 _ r=>if e1.name == e.name then au (idx env (i:Int)) fun e3=>some (e3.LK,0) else r ()) (fin:=fun _=>some (ZT,10)) hl (fun k s i=>rfl) ()
 rw [s1,s2]
 have key:∀ (t:List qE) (i:Nat),t=env.drop i→RES (dQ (fun _ e1 (_:Unit) r=>if e1.name == e.name then some (e1.LK,0) else r ()) (fun _=>some (ZT,10)) i t ())
   (dQ (fun (i:Nat) e1 (_:Unit) r=>if e1.name == e.name then au (idx env (i:Int)) fun e3=>some (e3.LK,0) else r ()) (fun _=>some (ZT,10)) i t ()):=by
  intro t
  induction t with
  | nil=>intro i _; exact ⟨sc 0,10,(any_ok (by omega)).1,(any_ok (by omega)).2,fun _=>rfl,rfl,rfl⟩
  | cons d t ih=>
   intro i ht
   have hi:i < env.length:=by
    rcases Nat.lt_or_ge i env.length with h | h
    · exact h
    · rw [List.drop_eq_nil_of_le h] at ht; cases ht
   have hc:=List.drop_eq_getElem_cons hi
   rw [←ht] at hc
   have e1:d=env[i]:=(List.cons.inj hc).1
   have e2:=(List.cons.inj hc).2
   rw [dQ,dQ,rA hi,←e1]
   simp only [ay]
   cases (d.name == e.name) with
   | true=>
    simp only [if_true]
    obtain ⟨T,t1,t2,t3⟩:=hW d (by rw [e1]; exact List.getElem_mem hi)
    exact ⟨T,0,t1,t2,fun h=>absurd rfl h,by rw [t3],by rw [t3]⟩
   | false=>
    simp only [Bool.false_eq_true,if_false]
    exact ih (i + 1) e2
 exact key env 0 rfl
theorem Wp {e:aj} (h:rV e=true):Ab e=true∧Al e=true∧sW e=true:=by
 unfold rV at h
 simp only [Bool.and_eq_true] at h
 exact ⟨h.1.1.1.1,h.1.1.2,h.1.2⟩
theorem len1 {α:Type} {l:List α} (h:l.length=1):∃ a,l=[a]:=by
 match l,h with
 | [a],_=>exact ⟨a,rfl⟩
theorem len2 {α:Type} {l:List α} (h:l.length=2):∃ a b,l=[a,b]:=by
 match l,h with
 | [a,b],_=>exact ⟨a,b,rfl⟩
theorem akL {α:Type} {l:List α} (h:l.length=3):∃ a b c,l=[a,b,c]:=by
 match l,h with
 | [a,b,c],_=>exact ⟨a,b,c,rfl⟩
theorem anM {env:List qE} (hW:apz env) (hl:env.length < 4611686018427387904):∀ (b:Nat) (e:aj) (level k m:Nat),e.bulk≤b→e.bulk < 4611686018427387904→zG e level=0→3 * b + 3≤k→b + 1≤m→
  RES (abL k e env) (adX m e env)
 | 0,e,_,_,_,h,_,_,_,_=>by have:=e.gF; omega
 | b + 1,e,level,k,m,h,hB,hx,hk,hm=>by
  obtain ⟨x1,x2⟩:=M8 hx
  obtain ⟨f1,f2,f3⟩:=KN x1
  obtain ⟨p1,p2,p3⟩:=Wp f1
  have hal:=Am e
  obtain ⟨k1,rfl⟩:∃ k1,k=k1 + 3:=⟨k - 3,by omega⟩
  obtain ⟨m1,rfl⟩:∃ m1,m=m1 + 1:=⟨m - 1,by omega⟩
  have args:∀ k2:Nat,3 * b + 3≤k2→(∃ c,c≠0∧akl (abL k2) e.args env BIG [] 0=some ([],c)∧akw (adX m1) e env BIG [] 0=some (ZT,c))∨
    (∃ Ts:List Ty,Ts.length=e.args.length∧(∀ t∈Ts,t.wf∧t.dep≤16)∧akl (abL k2) e.args env BIG [] 0=some (Ts.map Ty.api,0)∧akw (adX m1) e env BIG [] 0=aj6 (aaG e (Ts.map Ty.api))):=by
   intro k2 hk2
   have s1:=dP (F:=fun k s i=>akl (abL k2) e.args env k s i) (l:=e.args) (body:=bodyC fun x=>abL k2 x env) (fin:=fun o=>some (o,0)) (by omega) (fun k s i=>rfl) []
   have s2:=dP (F:=fun k s i=>akw (adX m1) e env k s i) (l:=e.args) (body:=an9 fun x=>adX m1 x env) (fin:=fun l1=>aj6 (aaG e l1)) (by omega) (fun k s i=>rfl) []
   rw [s1,s2]
   have:=atr (K:=fun l1=>aj6 (aaG e l1)) (goC:=fun x=>abL k2 x env) (goR:=fun x=>adX m1 x env) e.args [] 0 (fun x hx=>anM hW hl b x (level + 1) k2 m1 (by have:=fF hx; omega) (by have:=fF hx; omega) (x2 x hx) hk2 (by omega)) (by simp; omega)
   simpa using this
  have err:∀ c:Int,RES (some (ZT,c)) (some (ZT,c)):=fun c=>⟨sc 0,c,(any_ok (by omega)).1,(any_ok (by omega)).2,fun _=>rfl,rfl,rfl⟩
  rw [abL,ami,adX,alv]
  unfold Ab at p1
  simp only [Bool.not_eq_true',Bool.or_eq_false_iff,decide_eq_false_iff_not] at p1
  have hkind:e.kind=1∨e.kind=2∨e.kind=3∨e.kind=4∨e.kind=5∨e.kind=6∨e.kind=7∨e.kind=8∨e.kind=9∨e.kind=10:=by omega
  have aiN:ail (k1 + 2) e.args env=akl (abL (k1 + 1)) e.args env BIG [] 0:=rfl
  rcases hkind with hk' | hk' | hk' | hk' | hk' | hk' | hk' | hk' | hk' | hk'
  ·
   
   have hz:e.args=[]:=by unfold sW at p3; simp [hk'] at p3; exact p3
   have h1:ail (k1 + 2) e.args env=some ([],0):=by
    rw [aiN,hz]; rfl
   obtain ⟨o1,o2,o3,o4⟩:=ash (v:=e.value) (by have:=xP e; omega) (f2 hk')
   rw [h1]
   unfold alJ
   simp only [hk',dH,o1,o2]
   exact ⟨ofT e.value,0,o3,o4,fun h=>absurd rfl h,rfl,rfl⟩
  ·
   
   have hz:e.args=[]:=by unfold sW at p3; simp [hk'] at p3; exact p3
   have h1:ail (k1 + 2) e.args env=some ([],0):=by
    rw [aiN,hz]; rfl
   have:=aps hW hl e hk'
   rw [h1]
   simpa [hk'] using this
  ·
   have hlen:e.args.length=1:=by unfold sW at p3; simp [hk'] at p3; omega
   rw [aiN]
   rcases args (k1 + 1) (by omega) with ⟨c,c1,c2,c3⟩ | ⟨Ts,c1,c2,c3,c4⟩
   · rw [c2]; simp only [hk']; simpa [c1,c3,ZT] using err c
   ·
    rw [c3]
    obtain ⟨t,rfl⟩:=len1 (c1.trans hlen)
    obtain ⟨w,d⟩:=c2 t (by simp)
    have:=aqh w d hk' []
    simp only [hk']
    simpa [c4,idx] using this
  ·
   have hlen:e.args.length=2:=by unfold sW at p3; simp [hk'] at p3; omega
   rw [aiN]
   rcases args (k1 + 1) (by omega) with ⟨c,c1,c2,c3⟩ | ⟨Ts,c1,c2,c3,c4⟩
   · rw [c2]; simp only [hk']; simpa [c1,c3,ZT] using err c
   ·
    rw [c3]
    obtain ⟨t,u,rfl⟩:=len2 (c1.trans hlen)
    obtain ⟨w,d⟩:=c2 t (by simp)
    obtain ⟨w',d'⟩:=c2 u (by simp)
    have:=aq5 w d w' d' hk' []
    simp only [hk']
    simpa [c4,idx] using this
  ·
   
   have hc5:aiY (k1 + 2) e env=alQ (abL (k1 + 1)) (aiY (k1 + 1)) (ail (k1 + 1)) e env:=rfl
   have au8:ail (k1 + 1) e.args env=akl (abL k1) e.args env BIG [] 0:=rfl
   simp only [hk']
   rw [hc5,alQ]
   rcases aq1 e.name with ⟨s1,s2⟩ | ⟨n,alts,x,w,r,s1,s2,s3,s4,s5⟩
   ·
    rw [s1,s2]
    simpa [ZT] using err 10
   ·
    rw [s1,s4]
    subst s2
    have hi:idx (w :: r) 0=some w:=rfl
    have hne:((((w :: r).length:Nat):Int) == 0)=false:=by simp; omega
    have hn0:decide (((n:Nat):Int) < 0)=false:=by simp
    simp only [dH,hne,Bool.false_eq_true,if_false,hi,ay,s3,hn0]
    by_cases hlen:e.args.length=n
    ·
     have e1:((e.args.length:Int) != (n:Int))=false:=by simp [hlen]
     have e2:((n:Int) != (e.args.length:Int))=false:=by simp [hlen]
     rw [au8]
     rcases args k1 (by omega) with ⟨c,c1,c2,c3⟩ | ⟨Ts,c1,c2,c3,c4⟩
     · rw [c2]; simpa [e1,e2,c1,c3,ZT] using err c
     ·
      have:=s5 e Ts rfl (by omega) c2
      have aoA:aaG e (Ts.map Ty.api)=abb e.name (Ts.map Ty.api):=by unfold aaG; simp [hk']
      rw [c3]
      rw [aoA] at c4
      simpa [e1,e2,c4] using this
    ·
     have e1:((e.args.length:Int) != (n:Int))=true:=by simp; omega
     have e2:((n:Int) != (e.args.length:Int))=true:=by simp; omega
     simpa [e1,e2,ZT] using err 1
  ·
   have hlen:e.args.length=1:=by unfold sW at p3; simp [hk'] at p3; omega
   rw [aiN]
   rcases args (k1 + 1) (by omega) with ⟨c,c1,c2,c3⟩ | ⟨Ts,c1,c2,c3,c4⟩
   · rw [c2]; simp only [hk']; simpa [c1,c3,ZT] using err c
   ·
    rw [c3]
    obtain ⟨t,rfl⟩:=len1 (c1.trans hlen)
    obtain ⟨w,d⟩:=c2 t (by simp)
    have:=aqX w d hk' []
    simp only [hk']
    simpa [c4,idx] using this
  ·
   have hlen:e.args.length=2:=by unfold sW at p3; simp [hk'] at p3; omega
   have hop:e.name∈opsL:=by
    unfold Al at p2
    simp [hk'] at p2
    exact Zy p2
   rw [aiN]
   rcases args (k1 + 1) (by omega) with ⟨c,c1,c2,c3⟩ | ⟨Ts,c1,c2,c3,c4⟩
   · rw [c2]; simp only [hk']; simpa [c1,c3,ZT] using err c
   ·
    rw [c3]
    obtain ⟨t,u,rfl⟩:=len2 (c1.trans hlen)
    obtain ⟨w,d⟩:=c2 t (by simp)
    obtain ⟨w',d'⟩:=c2 u (by simp)
    have:=aqC w d w' d' hop
    have aoA:aaG e [t.api,u.api]=aiV e.name t.api u.api:=by unfold aaG; simp [hk',idx]
    simp only [List.map_cons,List.map_nil] at c4
    rw [aoA] at c4
    simp only [hk']
    simpa [c4,idx] using this
  ·
   have hlen:e.args.length=3:=by unfold sW at p3; simp [hk'] at p3; omega
   rw [aiN]
   rcases args (k1 + 1) (by omega) with ⟨c,c1,c2,c3⟩ | ⟨Ts,c1,c2,c3,c4⟩
   · rw [c2]; simp only [hk']; simpa [c1,c3,ZT] using err c
   ·
    rw [c3]
    obtain ⟨t,u,v,rfl⟩:=akL (c1.trans hlen)
    obtain ⟨w,d⟩:=c2 t (by simp)
    obtain ⟨w',d'⟩:=c2 u (by simp)
    obtain ⟨w'',d''⟩:=c2 v (by simp)
    have:=ar9 w d w' d' w'' d'' hk' []
    simp only [hk']
    simpa [c4,idx] using this
  ·
   rw [aiN]
   rcases args (k1 + 1) (by omega) with ⟨c,c1,c2,c3⟩ | ⟨Ts,c1,c2,c3,c4⟩
   · rw [c2]; simp only [hk']; simpa [c1,c3,ZT] using err c
   ·
    rw [c3]
    have hn:=am7 c2 (by omega) (e:=e) (.inl hk')
    have:=anG c2 (by omega) (k:=5) (.inl rfl) (by simpa [hk'] using hn)
    simp only [hk']
    simpa [c4] using this
  ·
   rw [aiN]
   rcases args (k1 + 1) (by omega) with ⟨c,c1,c2,c3⟩ | ⟨Ts,c1,c2,c3,c4⟩
   · rw [c2]; simp only [hk']; simpa [c1,c3,ZT] using err c
   ·
    rw [c3]
    have hn:=am7 c2 (by omega) (e:=e) (.inr hk')
    have:=anG c2 (by omega) (k:=6) (.inr rfl) (by simpa [hk'] using hn)
    simp only [hk']
    simpa [c4] using this
end Go.Ft

namespace Go.Ft
open Go
attribute [local congr] jE
theorem as0 :akr=some true:=by decide +kernel
theorem apN (T:Ty):agY T (sc 7)=T:=by
 cases T with
 | leaf a=>
  unfold sc
  rw [agY]
  by_cases h:a=7
  · simp [h]
  · simp [h]
 | nest a t=>unfold sc; rw [agY]; simp
theorem aqD {T:Ty} (h:T.wf) (hd:T.dep≤16):ai0 T.api (sc 7).api=some T.api:=by
 rw [(amB h (any_ok (by omega)).1 hd (any_ok (by omega)).2).1,apN]
theorem arJ {e:aj} (h:e.bulk < 4611686018427387904) (n:Int):amH e n=some ((decide ((ecnt e:Int)≤5000)) && (decide (n≤300))):=by
 unfold amH
 rw [(count_eq h).2]
 rfl
end Go.Ft

namespace Go.Ft
open Go
attribute [local congr] jE
mutual
def SN :aj→List Str
 | ⟨k,s,_,args,_⟩=>(if k == 2 then [s] else []) ++ nmL args
def nmL :List aj→List Str
 | []=>[]
 | x :: r=>SN x ++ nmL r
end
end Go.Ft

namespace Go.Ft
open Go
attribute [local congr] jE
def ZV :ah:=ah.mk 0 false 0 ([]:Str) [] []
theorem PS :ZV.bulk=7:=by unfold ZV ah.bulk ah.lZ; simp
theorem Lb {go:ah→Option ah} {R:Type} {fin:ah→Option R}:∀ (l:List ah) (i:Nat) (out:ah),(∀ x∈l,go x=some x)→out.aI.length + l.length≤rC→
  dQ (fun _ x (out:ah) r=>au (go x) fun x3=>au (app out.aI [x3]) fun x4=>r (ah.mk out.kind out.dh out.bZ out.bI x4 out.keys)) fin i l out
   =fin (ah.mk out.kind out.dh out.bZ out.bI (out.aI ++ l) out.keys)
 | [],i,out,_,_=>by cases out; simp [dQ]
 | x :: l,i,out,h,hl=>by
  simp only [List.length_cons] at hl
  rw [dQ,h x (by simp),ay,q8 (by simp; omega),ay]
  refine (Lb l (i + 1) _ (fun y hy=>h y (by simp [hy])) (by simp; omega)).trans ?_
  simp
theorem Xq {S:ah→Prop} (hS:∀ v,S v→v.aI.length≤rC∧v.keys.length≤rC∧∀ x∈v.aI,S x):∀ (n:Nat) (v:ah),v.bulk≤n→v.bulk < 4611686018427387904→S v→lu (n + 1) v=some v∧mO (n + 1) v=some v
 | 0,v,h,_,_=>by have:=v.gF; omega
 | n + 1,v,h,hb,hs=>by
  obtain ⟨hl,hk,hm⟩:=hS v hs
  have ih:∀ x∈v.aI,lu (n + 1) x=some x∧mO (n + 1) x=some x:=fun x hx=>Xq hS n x (by have:=iH hx; omega) (by have:=iH hx; omega) (hm x hx)
  have hL:rC=4294967296:=rfl
  constructor
  ·
   rw [lu,AA,kP,q8 (by simp; omega),ay]
   rw [dP (F:=fun k s i=>um (lu (n + 1)) v k i s) (l:=v.aI) (body:=fun _ x (out:ah) r=>au (lu (n + 1) x) fun x3=>au (app out.aI [x3]) fun x4=>r (ah.mk out.kind out.dh out.bZ out.bI x4 out.keys)) (fin:=fun out=>some out) (by omega) (fun k s i=>rfl)]
   rw [Lb v.aI 0 _ (fun x hx=>(ih x hx).1) (by simp; omega)]
   cases v; simp
  ·
   rw [mO,Cx]
   rw [dP (F:=fun k s i=>wL (mO (n + 1)) v k i s) (l:=v.aI) (body:=fun _ x (out:ah) r=>au (mO (n + 1) x) fun x3=>au (app out.aI [x3]) fun x4=>r (ah.mk out.kind out.dh out.bZ out.bI x4 out.keys)) (fin:=fun out=>au (app out.keys v.keys) fun x4=>some (ah.mk out.kind out.dh out.bZ out.bI out.aI x4)) (by omega) (fun k s i=>rfl)]
   rw [Lb v.aI 0 _ (fun x hx=>(ih x hx).2) (by simp; omega),q8 (by simp; omega)]
   cases v; simp
theorem Xr {S:ah→Prop} (hS:∀ v,S v→v.aI.length≤rC∧v.keys.length≤rC∧∀ x∈v.aI,S x) {v:ah} (h:S v) (hb:v.bulk < 4611686018427387904):mU v=some v∧rT v=some v:=by
 obtain ⟨n,hn,hn2⟩:=ru
 unfold mU rT
 rw [hn]
 exact Xq hS n v (by omega) hb h
theorem T_ {v:ah} (h:v.bulk≤rC):mU v=some v∧rT v=some v:=
 Xr (S:=fun v=>v.bulk≤rC) (fun v h=>⟨by have:=uX v; omega,by have:=uY v; omega,fun x hx=>by have:=iH hx; omega⟩) h (by have hL:rC=4294967296:=rfl; omega)
def Ii :List Str→List ah→Str→Option ah
 | k :: ks,x :: xs,q=>if k=q then some x else Ii ks xs q
 | _,_,_=>none
theorem Yw :∀ {ks:List Str} {xs:List ah} {q:Str} {v:ah},Ii ks xs q=some v→v∈xs
 | k :: ks,x :: xs,q,v,h=>by
  rw [Ii] at h
  split at h
  · cases h; simp
  · simp [Yw h]
 | [],_,_,_,h=>by simp [Ii] at h
 | _ :: _,[],_,_,h=>by simp [Ii] at h
theorem Yv (ks:List Str) (q:Str):Ii ks [] q=none:=by cases ks <;> rfl
def Ny (v:ah) (q:Str):Option ah:=if v.kind=5 then Ii v.keys v.aI q else none
def ZX :Option ah→ah × Bool
 | some x=>(x,true)
 | none=>(ZV,false)
theorem Qn (v:ah) (q:Str) (hv:v.keys.length < 4611686018427387904):∀ (k i:Nat),v.keys.length < k + i→i≤v.keys.length→zX v q k (i:Int)=some (ZX (Ii (v.keys.drop i) (v.aI.drop i) q))
 | 0,i,h,h'=>by omega
 | k + 1,i,h,h'=>by
  rw [zX]
  by_cases hi:i < v.keys.length
  ·
   rw [if_pos (by simp; omega),rA hi,ay,List.drop_eq_getElem_cons hi]
   by_cases hl:i < v.aI.length
   ·
    rw [List.drop_eq_getElem_cons hl,Ii]
    by_cases he:v.keys[i]=q
    · rw [if_pos (by simpa using he),if_pos he,if_neg (by simp; omega),rA hl]; rfl
    · rw [if_neg (by simpa using he),if_neg he,zB (by omega),Qn v q hv k (i + 1) (by omega) (by omega)]
   ·
    have e0:v.aI.drop i=[]:=List.drop_eq_nil_of_le (by omega)
    have e1:v.aI.drop (i + 1)=[]:=List.drop_eq_nil_of_le (by omega)
    rw [e0,Yv]
    by_cases he:v.keys[i]=q
    · rw [if_pos (by simpa using he),if_pos (by simp; omega)]; rfl
    · rw [if_neg (by simpa using he),zB (by omega),Qn v q hv k (i + 1) (by omega) (by omega),e1,Yv]
  ·
   have:i=v.keys.length:=by omega
   subst this
   rw [if_neg (by simp),List.drop_length]
   cases v.aI.drop v.keys.length <;> rfl
theorem VN {v:ah} (hv:v.keys.length < 4611686018427387904) (q:Str):Gt v q=some (ZX (Ny v q)):=by
 unfold Gt Ny
 by_cases h:v.kind=5
 ·
  rw [if_neg (by simpa using h),if_pos h]
  exact Qn v q hv BIG 0 (by have:=j_; omega) (by omega)
 · rw [if_pos (by simpa using h),if_neg h]; rfl
theorem acr (l:List Str) (q:Str) (hl:l.length < 4611686018427387904):∃ j:Int,jy l q=some j∧((j=-1∧q∉l)∨∃ i:Nat,j=i∧∃ h:i < l.length,l[i]=q∧∀ k (hk:k < i),l[k]'(by omega)≠q):=by
 unfold jy
 rw [dP (F:=fun k (_:Unit) i=>iW l q k i) (l:=l) (body:=fun (i:Nat) e1 (_:Unit) r=>if q == e1 then some (i:Int) else r ()) (fin:=fun _=>some (-1)) hl (fun k s i=>rfl) ()]
 have key:∀ (t:List Str) (i:Nat),t=l.drop i→(∀ k (hk:k < i) (hl:k < l.length),l[k]≠q)→∃ j:Int,dQ (fun (i:Nat) e1 (_:Unit) r=>if q == e1 then some (i:Int) else r ()) (fun _=>some (-1)) i t ()=some j∧((j=-1∧q∉l)∨∃ i:Nat,j=i∧∃ h:i < l.length,l[i]=q∧∀ k (hk:k < i),l[k]'(by omega)≠q):=by
  intro t
  induction t with
  | nil=>
   intro i ht hne
   refine ⟨-1,rfl,.inl ⟨rfl,fun hm=>?_⟩⟩
   obtain ⟨k,hk,he⟩:=List.mem_iff_getElem.1 hm
   have:l.length≤i:=by
    rcases Nat.lt_or_ge i l.length with h | h
    · rw [List.drop_eq_getElem_cons h] at ht; cases ht
    · exact h
   exact hne k (by omega) hk he
  | cons d t ih=>
   intro i ht hne
   have hi:i < l.length:=by
    rcases Nat.lt_or_ge i l.length with h | h
    · exact h
    · rw [List.drop_eq_nil_of_le h] at ht; cases ht
   have hc:=List.drop_eq_getElem_cons hi
   rw [←ht] at hc
   have e1':=(List.cons.inj hc).1
   have e2':=(List.cons.inj hc).2
   rw [dQ]
   by_cases he:q=d
   ·
    rw [if_pos (by simpa using he)]
    exact ⟨i,rfl,.inr ⟨i,rfl,hi,by rw [←e1',he],fun k hk=>hne k hk (by omega)⟩⟩
   ·
    rw [if_neg (by simpa using he)]
    refine ih (i + 1) e2' fun k hk hkl=>?_
    by_cases hki:k=i
    · subst hki; rw [←e1']; exact fun h=>he h.symm
    · exact hne k (by omega) hkl
 exact key l 0 rfl (fun k hk=>by omega)
theorem abe :∀ (ks:List Str) (xs:List ah) (q:Str) (i:Nat) (h:i < ks.length),ks[i]=q→(∀ k (hk:k < i),ks[k]'(by omega)≠q)→Ii ks xs q=xs[i]?
 | [],_,_,i,h,_,_=>by simp at h
 | k :: ks,[],q,i,h,_,_=>by simp [Ii]
 | k :: ks,x :: xs,q,0,h,he,_=>by simp at he; simp [Ii,he]
 | k :: ks,x :: xs,q,i + 1,h,he,hn=>by
  have h0:=hn 0 (by omega)
  simp only [List.getElem_cons_zero] at h0
  rw [Ii,if_neg h0,List.getElem?_cons_succ]
  exact abe ks xs q i (by simpa using h) (by simpa using he) fun k hk=>by have:=hn (k + 1) (by omega); simpa using this
theorem Rc :∀ (ks:List Str) (xs:List ah) (q:Str),q∉ks→Ii ks xs q=none
 | [],_,_,_=>by simp [Ii]
 | k :: ks,[],q,_=>by simp [Ii]
 | k :: ks,x :: xs,q,h=>by
  simp only [List.mem_cons,not_or] at h
  rw [Ii,if_neg (fun e=>h.1 e.symm),Rc ks xs q h.2]
theorem ahg {v:ah} (hb:v.bulk < 4611686018427387904) (hv:∀ x∈v.aI,mU x=some x) (q:Str):zJ v q=some (ZX (Ny v q)):=by
 have hk:=uY v
 obtain ⟨j,h1,h2⟩:=acr v.keys q (by omega)
 unfold zJ Ny
 rw [h1,ay]
 by_cases h5:v.kind=5
 ·
  rw [if_pos h5]
  rcases h2 with ⟨rfl,hn⟩ | ⟨i,rfl,hi,he,hf⟩
  · rw [if_pos (by simp),Rc _ _ _ hn]; rfl
  ·
   rw [abe _ _ _ i hi he hf]
   by_cases hl:i < v.aI.length
   ·
    rw [if_neg (by simp [h5]; omega),rA hl,ay,List.getElem?_eq_getElem hl,hv _ (List.getElem_mem hl)]
    rfl
   · rw [if_pos (by simp [h5]; omega),List.getElem?_eq_none (by omega)]; rfl
 · rw [if_neg h5,if_pos (by simp [h5])]; rfl
end Go.Ft

namespace Go.Ft
open Go
attribute [local congr] jE
def xq {α:Type} (f:α→α→Int):List α→List α→Int
 | [],[]=>0
 | [],_ :: _=>-1
 | _ :: _,[]=>1
 | x :: xs,y :: ys=>if f x y != 0 then f x y else xq f xs ys
theorem tN {α:Type} {l t:List α} {d:α} {i:Nat} (h:d :: t=l.drop i):∃ hi:i < l.length,d=l[i]∧t=l.drop (i + 1):=by
 have hi:i < l.length:=by
  rcases Nat.lt_or_ge i l.length with h' | h'
  · exact h'
  · rw [List.drop_eq_nil_of_le h'] at h; cases h
 have hc:=List.drop_eq_getElem_cons hi
 rw [←h] at hc
 exact ⟨hi,(List.cons.inj hc).1,(List.cons.inj hc).2⟩
theorem Cy {α:Type} {l:List α} {i:Nat} (h:[]=l.drop i):l.length≤i:=by
 rcases Nat.lt_or_ge i l.length with h' | h'
 · rw [List.drop_eq_getElem_cons h'] at h; cases h
 · exact h'
theorem NJ {α:Type} {a b:List α} {cmp:α→α→Option Int} {f:α→α→Int} (hc:∀ x∈a,∀ y∈b,cmp x y=some (f x y)):∀ (s t:List α) (i:Nat),s=a.drop i→t=b.drop i→i≤a.length→i≤b.length→
  dQ (fun (i:Nat) e1 (_:Unit) r=>if decide ((b.length:Int)≤(i:Int)) then some 1 else au (idx b (i:Int)) fun e2=>au (cmp e1 e2) fun c1=>if c1 != 0 then some c1 else r ())
   (fun _=>if decide ((a.length:Int) < (b.length:Int)) then some (-1) else some 0) i s ()=some (xq f s t)
 | [],[],i,hs,ht,_,_=>by
  have h1:=Cy hs; have h2:=Cy ht
  rw [dQ,xq,if_neg (by simp; omega)]
 | [],y :: t,i,hs,ht,_,_=>by
  have h1:=Cy hs; obtain ⟨h2,_,_⟩:=tN ht
  rw [dQ,xq,if_pos (by simp; omega)]
 | x :: s,[],i,hs,ht,_,_=>by
  have h2:=Cy ht
  rw [dQ,xq,if_pos (by simp; omega)]
 | x :: s,y :: t,i,hs,ht,_,_=>by
  obtain ⟨h1,e1,e2⟩:=tN hs; obtain ⟨h2,e3,e4⟩:=tN ht
  rw [dQ,xq,if_neg (by simp; omega),rA h2,ay,←e3,hc x (by rw [e1]; exact List.getElem_mem h1) y (by rw [e3]; exact List.getElem_mem h2),ay]
  split
  · rfl
  · exact NJ hc s t (i + 1) e2 e4 (by omega) (by omega)
theorem sign_eq (b:Bool):mW b=some (if b then -1 else 1):=by unfold mW; cases b <;> rfl
theorem RF {α:Type} {a b:List α} {cmp:α→α→Option Int} {f:α→α→Int} {g:Int→Option Int} (hg:∀ x∈a,∀ y∈b,g (f x y)=some (f x y)) (hc:∀ x∈a,∀ y∈b,cmp x y=some (f x y)) (ha:a.length < 4611686018427387904) {F:Nat→Int→Option Int}
  (hF:∀ k (i:Nat),F (k + 1) (i:Int)=if (decide ((i:Int) < (a.length:Int))) && (decide ((i:Int) < (b.length:Int))) then au (idx a (i:Int)) fun e1=>au (idx b (i:Int)) fun e2=>au (cmp e1 e2) fun c1=>if c1 != 0 then g c1 else F k (bS ((i:Int) + 1))
   else if (a.length:Int) == (b.length:Int) then some 0 else mW (decide ((a.length:Int) < (b.length:Int)))):
  ∀ (s t:List α) (k i:Nat),s=a.drop i→t=b.drop i→i≤a.length→i≤b.length→a.length < k + i→F k (i:Int)=some (xq f s t)
 | _,_,0,i,_,_,_,_,h=>by omega
 | [],[],k + 1,i,hs,ht,_,_,_=>by
  have h1:=Cy hs; have h2:=Cy ht
  rw [hF,xq,if_neg (by simp; omega),if_pos (by simp; omega)]
 | [],y :: t,k + 1,i,hs,ht,_,_,_=>by
  have h1:=Cy hs; obtain ⟨h2,_,_⟩:=tN ht
  rw [hF,xq,if_neg (by simp; omega),if_neg (by simp; omega),sign_eq,if_pos (by simp; omega)]
 | x :: s,[],k + 1,i,hs,ht,_,_,_=>by
  have h2:=Cy ht; obtain ⟨h1,_,_⟩:=tN hs
  rw [hF,xq,if_neg (by simp; omega),if_neg (by simp; omega),sign_eq,if_neg (by simp; omega)]
 | x :: s,y :: t,k + 1,i,hs,ht,_,_,hk=>by
  obtain ⟨h1,e1,e2⟩:=tN hs; obtain ⟨h2,e3,e4⟩:=tN ht
  have hx:x∈a:=by rw [e1]; exact List.getElem_mem h1
  have hy:y∈b:=by rw [e3]; exact List.getElem_mem h2
  rw [hF,xq,if_pos (by simp; omega),rA h1,ay,rA h2,ay,←e1,←e3,hc x hx y hy,ay]
  split
  · exact hg x hx y hy
  ·
   rw [zB (by omega)]
   exact RF hg hc ha hF s t k (i + 1) e2 e4 (by omega) (by omega) (by omega)
mutual
def qw :ah→ah→Int
 | ⟨k,b,n,s,l,ks⟩,y=>
  if oV k y.kind != 0 then oV k y.kind else if k == 1 then vW (!b && y.dh) (b && !y.dh) else if k == 2 then oV n y.bZ else if k == 3 then DW s y.bI else if k == 4 then Oc l y.aI
  else if k == 5 then (if xq fA ks y.keys != 0 then xq fA ks y.keys else Oc l y.aI) else 0
def Oc :List ah→List ah→Int
 | [],[]=>0
 | [],_ :: _=>-1
 | _ :: _,[]=>1
 | x :: xs,y :: ys=>if qw x y != 0 then qw x y else Oc xs ys
end
theorem T9 :∀ l m:List ah,Oc l m=xq qw l m
 | [],[]=>by rw [Oc,xq]
 | [],_ :: _=>by rw [Oc,xq]
 | _ :: _,[]=>by rw [Oc,xq]
 | x :: xs,y :: ys=>by rw [Oc,xq,T9 xs ys]
theorem JR (x y:ah):qw x y=if oV x.kind y.kind != 0 then oV x.kind y.kind else if x.kind == 1 then vW (!x.dh && y.dh) (x.dh && !y.dh) else if x.kind == 2 then oV x.bZ y.bZ else if x.kind == 3 then DW x.bI y.bI else if x.kind == 4 then xq qw x.aI y.aI
  else if x.kind == 5 then (if xq fA x.keys y.keys != 0 then xq fA x.keys y.keys else xq qw x.aI y.aI) else 0:=by
 cases x; rw [qw,T9]
theorem YN (x y:Int):(if x != y then mW (decide (x < y)) else some 0)=some (oV x y):=by
 unfold oV vW
 rw [sign_eq]
 by_cases h:x=y
 · subst h; simp
 ·
  by_cases h2:x < y
  · simp [h,h2]
  ·
   have:y < x:=by omega
   simp [h,h2,this]
theorem X8 (x y:Str):(if (fA x y != 0)=true then mW (decide (fA x y < 0)) else some 0)=some (fA x y):=by
 rw [sign_eq]
 rcases (show fA x y=-1∨fA x y=0∨fA x y=1 from QV _ _) with h | h | h <;> simp [h]
theorem Zr :∀ (n:Nat) (a b:ah),a.bulk≤n→a.bulk < 4611686018427387904→b.bulk < 4611686018427387904→jr (n + 1) a b=some (qw a b)∧∀ m,2 * n + 2≤m→jS m a b=some (qw a b)
 | 0,a,_,h,_,_=>by have:=a.gF; omega
 | n + 1,a,b,h,hA,hB=>by
  have hla:=uX a; have hka:=uY a
  have hlb:=uX b; have hkb:=uY b
  have ih:∀ x∈a.aI,∀ y∈b.aI,jr (n + 1) x y=some (qw x y)∧∀ m,2 * n + 2≤m→jS m x y=some (qw x y):=
   fun x hx y hy=>Zr n x y (by have:=iH hx; omega) (by have:=iH hx; omega) (by have:=iH hy; omega)
  have ks:∀ x∈a.keys,x.length < 4611686018427387904:=fun x hx=>by have:=JQ hx; omega
  have ks':∀ x∈b.keys,x.length < 4611686018427387904:=fun x hx=>by have:=JQ hx; omega
  constructor
  ·
   rw [jr,wP,JR,rW,ay]
   have hL:bT a.aI b.aI (jr (n + 1))=some (xq qw a.aI b.aI):=by
    unfold bT
    rw [dP (F:=fun k (_:Unit) i=>cO a.aI b.aI (jr (n + 1)) k i) (l:=a.aI)
     (body:=fun (i:Nat) e1 (_:Unit) r=>if decide ((b.aI.length:Int)≤(i:Int)) then some 1 else au (idx b.aI (i:Int)) fun e2=>au (jr (n + 1) e1 e2) fun c1=>if c1 != 0 then some c1 else r ())
     (fin:=fun _=>if decide ((a.aI.length:Int) < (b.aI.length:Int)) then some (-1) else some 0) (by omega) (fun k s i=>rfl) ()]
    exact NJ (fun x hx y hy=>(ih x hx y hy).1) _ _ 0 rfl rfl (by omega) (by omega)
   have hK:eT a.keys b.keys jD=some (xq fA a.keys b.keys):=by
    unfold eT
    rw [dP (F:=fun k (_:Unit) i=>dY a.keys b.keys jD k i) (l:=a.keys)
     (body:=fun (i:Nat) e1 (_:Unit) r=>if decide ((b.keys.length:Int)≤(i:Int)) then some 1 else au (idx b.keys (i:Int)) fun e2=>au (jD e1 e2) fun c1=>if c1 != 0 then some c1 else r ())
     (fin:=fun _=>if decide ((a.keys.length:Int) < (b.keys.length:Int)) then some (-1) else some 0) (by omega) (fun k s i=>rfl) ()]
    exact NJ (fun x hx y hy=>Nn (ks x hx) (ks' y hy)) _ _ 0 rfl rfl (by omega) (by omega)
   rw [hL,hK,rW,RB,ay]
   have hb:(au (uj a.dh) fun x1=>au (uj b.dh) fun x2=>cmp_Compare_int x1 x2)=some (vW (!a.dh && b.dh) (a.dh && !b.dh)):=by
    unfold uj
    cases a.dh <;> cases b.dh <;> simp [rW,oV]
   rw [hb]
   repeat' split
   all_goals rfl
  ·
   intro m hm
   obtain ⟨m,rfl⟩:∃ q,m=q + 2:=⟨m - 2,by omega⟩
   rw [jS,AP,JR,rE,Es]
   have hL:vD (jS m) a.aI b.aI BIG 0=some (xq qw a.aI b.aI):=
    RF (g:=some) (fun x hx y hy=>rfl) (fun x hx y hy=>(ih x hx y hy).2 m (by omega)) (by omega) (F:=vD (jS m) a.aI b.aI) (fun k i=>rfl) _ _ BIG 0 rfl rfl (by omega) (by omega) (by have:=j_; omega)
   have hK:FT a.keys b.keys=some (xq fA a.keys b.keys):=by
    unfold FT
    refine RF (g:=fun c=>if c != 0 then mW (decide (c < 0)) else some 0) (fun x hx y hy=>X8 x y) (fun x hx y hy=>GD (ks x hx) (ks' y hy)) (by omega) (F:=vC a.keys b.keys) (fun k i=>?_) _ _ BIG 0 rfl rfl (by omega) (by omega) (by have:=j_; omega)
    rw [vC]
    congr 1
    congr 1; funext e1
    congr 1; funext e2
    congr 1; funext c
    by_cases hc:(c != 0)=true
    · rw [if_pos hc,if_pos hc,if_pos hc]
    · rw [if_neg hc,if_neg hc]
   rw [hL,hK,ay]
   by_cases hk:a.kind=b.kind
   ·
    have e1:(a.kind != b.kind)=false:=by simpa using hk
    have e2:(oV a.kind b.kind != 0)=false:=by simpa using Ap.2 hk
    rw [e1,e2]
    simp only [Bool.false_eq_true,if_false,YN]
    have hb:(if (!(a.dh == b.dh))=true then mW b.dh else some 0)=some (vW (!a.dh && b.dh) (a.dh && !b.dh)):=by
     rw [sign_eq]; cases a.dh <;> cases b.dh <;> rfl
    have hs:(if (!(a.bI == b.bI))=true then mW (Go.Op.bytesLess a.bI b.bI) else some 0)=some (DW a.bI b.bI):=by
     rw [sign_eq]
     unfold DW vW
     by_cases h:a.bI=b.bI
     · rw [h]; simp [Aw]
     · cases h1:Go.Op.bytesLess a.bI b.bI <;> simp [h]
    rw [hb,hs]
    repeat' split
    all_goals rfl
   ·
    have e1:(a.kind != b.kind)=true:=by simpa using hk
    have e2:(oV a.kind b.kind != 0)=true:=by simpa using fun h=>hk (Ap.1 h)
    have:=YN a.kind b.kind
    rw [if_pos e1] at this
    rw [if_pos e1,if_pos e2,this]
theorem Ll {a b:ah} (hA:a.bulk < 4611686018427387904) (hB:b.bulk < 4611686018427387904):wu a b=some (qw a b)∧Ew a b=some (qw a b):=by
 obtain ⟨n,hn,hn2⟩:=ru
 unfold wu Ew
 constructor
 · rw [hn]; exact (Zr n a b (by omega) hA hB).1
 · exact (Zr a.bulk a b (Nat.le_refl _) hA hB).2 BIG (by have:=j_; omega)
theorem Gb {a b:ah} (hA:a.bulk < 4611686018427387904) (hB:b.bulk < 4611686018427387904):mV a b=some (qw a b == 0)∧sJ a b=some (qw a b == 0):=by
 unfold mV sJ
 rw [(Ll hA hB).1,(Ll hA hB).2]
 exact ⟨rfl,rfl⟩
end Go.Ft

namespace Go.Ft
open Go
attribute [local congr] jE
mutual
def wS :ah→Nat
 | ⟨k,_,_,_,l,_⟩=>if (k == 4) || (k == 5) then Dy l 2 else 1
def Dy :List ah→Nat→Nat
 | [],n=>n
 | x :: r,n=>Dy r (max n (1 + wS x))
end
theorem uK (v:ah):wS v=if (v.kind == 4) || (v.kind == 5) then Dy v.aI 2 else 1:=by cases v; rw [wS]
theorem A8 :∀ (l:List ah) (n m:Nat),Dy l n≤m↔n≤m∧∀ x∈l,1 + wS x≤m
 | [],n,m=>by simp [Dy]
 | x :: r,n,m=>by
  rw [Dy,A8 r]
  simp only [List.mem_cons,forall_eq_or_imp,Nat.max_le]
  exact ⟨fun h=>⟨h.1.1,h.1.2,h.2⟩,fun h=>⟨⟨h.1,h.2.1⟩,h.2.2⟩⟩
theorem aa8 (l:List ah) (n:Nat):n≤Dy l n:=((A8 l n _).1 (Nat.le_refl _)).1
theorem Ym {l:List ah} {n:Nat} {x:ah} (h:x∈l):1 + wS x≤Dy l n:=((A8 l n _).1 (Nat.le_refl _)).2 x h
theorem V7 (v:ah):1≤wS v:=by
 rw [uK]; split
 · have:=aa8 v.aI 2; omega
 · omega
theorem Yl :∀ (n:Nat) (v:ah),v.bulk≤n→wS v≤v.bulk
 | 0,v,h=>by have:=v.gF; omega
 | n + 1,v,h=>by
  rw [uK]; split
  ·
   rw [A8]
   refine ⟨?_,fun x hx=>?_⟩
   · rw [ah.iC]; omega
   ·
    have:=iH hx
    have:=Yl n x (by omega)
    omega
  · exact v.gF
theorem Uq {go:ah→Option Int}:∀ (l:List ah) (i s:Nat),(∀ x∈l,go x=some (wS x:Int))→(∀ x∈l,wS x < 4611686018427387904)→
  dQ (fun _ e1 (n1:Int) r=>au (go e1) fun x1=>r (if n1 < (bS (1 + x1)) then (bS (1 + x1)) else n1)) (fun n1=>some n1) i l (s:Int)=some (Dy l s:Int)
 | [],i,s,_,_=>rfl
 | x :: r,i,s,h,hb=>by
  have hx:=hb x (by simp)
  rw [dQ,h x (by simp),ay,Dy]
  have e:bS (1 + (wS x:Int))=((1 + wS x:Nat):Int):=by rw [qG (by omega)]; omega
  rw [e]
  have e2:(if (s:Int) < ((1 + wS x:Nat):Int) then ((1 + wS x:Nat):Int) else (s:Int))=((max s (1 + wS x):Nat):Int):=by
   split <;> congr 1 <;> omega
  rw [e2]
  exact Uq r (i + 1) _ (fun y hy=>h y (by simp [hy])) (fun y hy=>hb y (by simp [hy]))
theorem ady :∀ (n:Nat) (v:ah),v.bulk≤n→v.bulk < 4611686018427387904→nV (n + 1) v=some (wS v:Int)
 | 0,v,h,_=>by have:=v.gF; omega
 | n + 1,v,h,hb=>by
  have hl:=uX v
  rw [nV,Cm,uK]
  by_cases hk:((v.kind == 4) || (v.kind == 5))=true
  ·
   rw [if_pos hk,if_neg (by simp at hk ⊢; omega)]
   rw [dP (F:=fun k s i=>wC (nV (n + 1)) v k s i) (l:=v.aI) (body:=fun _ e1 (n1:Int) r=>au (nV (n + 1) e1) fun x1=>r (if n1 < (bS (1 + x1)) then (bS (1 + x1)) else n1)) (fin:=fun n1=>some n1) (by omega) (fun k s i=>rfl)]
   exact Uq v.aI 0 2 (fun x hx=>ady n x (by have:=iH hx; omega) (by have:=iH hx; omega)) (fun x hx=>by have:=iH hx; have:=Yl _ x (Nat.le_refl _); omega)
  · rw [if_neg hk,if_pos (by simp at hk ⊢; omega)]; rfl
theorem Qs {v:ah} (h:v.bulk < 4611686018427387904):Dm v=some (wS v:Int):=by
 obtain ⟨n,hn,hn2⟩:=ru
 unfold Dm
 rw [hn]
 exact ady n v (by omega) h
mutual
def Xp :ah→Bool
 | ⟨a,b,c,d,l,f⟩=>(ny ⟨a,b,c,d,l,f⟩ 1 == 0) && ac6 l
def ac6 :List ah→Bool
 | []=>true
 | x :: r=>Xp x && ac6 r
end
theorem Xo :∀ l:List ah,ac6 l=true↔∀ x∈l,Xp x=true
 | []=>by simp [ac6]
 | x :: r=>by simp [ac6,Xo r]
theorem yg (v:ah):Xp v=true↔ny v 1=0∧∀ x∈v.aI,Xp x=true:=by
 cases v; rw [Xp,Bool.and_eq_true,Xo]; simp
theorem TY (v:ah) (level:Nat):ny v level=if 16 < level then 13 else if ny v 1≠0 then ny v 1 else if ((((v.kind == 4) || (v.kind == 5)) && ((v.aI.length:Int) == 0)) && level == 16)=true then 13 else 0:=by
 unfold ny
 have e1:((1:Nat) == 16)=false:=rfl
 rw [e1]
 generalize ((decide (v.kind < 0)) || (decide (5 < v.kind)) || !qH v)=c1
 generalize ((decide (v.bZ < (-9007199254740992))) || (decide (9007199254740992 < v.bZ)))=c2
 generalize (((decide (4096 < (v.bI.length:Int))) || (decide (1024 < (v.aI.length:Int)))) || (decide (1024 < (v.keys.length:Int))))=c3
 generalize (v.kind == 5 && !(((v.keys.length:Int) == (v.aI.length:Int)) && JG none v.keys))=c4
 generalize ((((v.kind == 4) || (v.kind == 5)) && ((v.aI.length:Int) == 0)) && level == 16)=c5
 by_cases h:16 < level
 · rw [if_pos h,if_pos h]
 ·
  rw [if_neg h,if_neg h]
  cases c1 <;> cases c2 <;> cases c3 <;> cases c4 <;> simp
theorem M_ {v:ah} (h:ny v 1=0):qH v=true:=by
 unfold ny at h
 cases hp:qH v with
 | true=>rfl
 | false=>simp [hp] at h
theorem Qa {v:ah} (h:Xp v=true) (hk:((v.kind == 4) || (v.kind == 5))=false):v.aI=[]:=by
 have hp:=M_ ((yg v).1 h).1
 unfold qH at hp
 simp only [Bool.and_eq_true,hk,Bool.false_or,beq_iff_eq] at hp
 exact List.eq_nil_of_length_eq_zero (by omega)
theorem Ub :∀ (l:List ah) (level:Nat),(∀ x∈l,uZ x level=if level + wS x≤17 then 0 else 13)→C_ l level=if ∀ x∈l,level + wS x≤17 then 0 else 13
 | [],level,_=>by simp [C_]
 | x :: r,level,h=>by
  rw [C_,h x (by simp),Ub r level fun y hy=>h y (by simp [hy])]
  by_cases h1:level + wS x≤17
  · simp [h1]
  · simp [h1]
theorem LD :∀ (n:Nat) (v:ah) (level:Nat),v.bulk≤n→Xp v=true→1≤level→uZ v level=if level + wS v≤17 then 0 else 13
 | 0,v,_,h,_,_=>by have:=v.gF; omega
 | n + 1,v,level,h,hv,hl=>by
  obtain ⟨h1,h2⟩:=(yg v).1 hv
  have hp:=V7 v
  have hn:ny v level=if 16 < level then 13 else if ((((v.kind == 4) || (v.kind == 5)) && ((v.aI.length:Int) == 0)) && level == 16)=true then 13 else 0:=by
   rw [TY,h1]; simp
  rw [LG]
  by_cases h16:16 < level
  ·
   rw [if_pos h16] at hn
   rw [hn,if_pos (by simp),if_neg (by omega)]
  ·
   rw [if_neg h16] at hn
   rw [Ub v.aI (level + 1) fun x hx=>LD n x (level + 1) (by have:=iH hx; omega) (h2 x hx) (by omega)]
   cases hk:((v.kind == 4) || (v.kind == 5)) with
   | false=>
    have he:=Qa hv hk
    rw [hk] at hn
    have hl1:wS v=1:=by rw [uK,hk]; rfl
    simp only [Bool.false_and,Bool.false_eq_true,if_false] at hn
    rw [hn,hl1,he,if_neg (by simp),if_pos (by simp),if_pos (by omega)]
   | true=>
    have hl1:wS v=Dy v.aI 2:=by rw [uK,hk]; rfl
    rw [hk] at hn
    simp only [Bool.true_and] at hn
    have key:level + Dy v.aI 2≤17↔level≤15∧∀ x∈v.aI,level + 1 + wS x≤17:=by
     have:=A8 v.aI 2 (17 - level)
     constructor
     ·
      intro h
      obtain ⟨a,b⟩:=this.1 (by omega)
      exact ⟨by omega,fun x hx=>by have:=b x hx; omega⟩
     ·
      rintro ⟨a,b⟩
      have:=this.2 ⟨by omega,fun x hx=>by have:=b x hx; omega⟩
      omega
    rw [hl1]
    by_cases he:v.aI=[]
    ·
     rw [if_pos (c:=∀ x∈v.aI,level + 1 + wS x≤17) (by simp [he])]
     by_cases kC:level=16
     ·
      rw [if_pos (by simp [he,kC])] at hn
      rw [hn,if_pos (by simp),if_neg (fun h=>by have:=key.1 h; omega)]
     ·
      rw [if_neg (by simp [kC])] at hn
      rw [hn,if_neg (by simp),if_pos (key.2 ⟨by omega,by simp [he]⟩)]
    ·
     have hpos:0 < v.aI.length:=List.length_pos_iff.2 he
     rw [if_neg (by simp [he])] at hn
     rw [hn,if_neg (by simp)]
     obtain ⟨x,hx⟩:=List.exists_mem_of_ne_nil _ he
     have hpx:=V7 x
     refine jE (propext (Iff.trans ?_ key.symm))
     exact ⟨fun h=>⟨by have:=h x hx; omega,h⟩,fun h=>h.2⟩
theorem ac5 :∀ (n:Nat) (v:ah) (level:Nat),v.bulk≤n→uZ v level=0→Xp v=true
 | 0,v,_,h,_=>by have:=v.gF; omega
 | n + 1,v,level,h,hc=>by
  obtain ⟨h1,h2⟩:=abO hc
  refine (yg v).2 ⟨?_,fun x hx=>ac5 n x (level + 1) (by have:=iH hx; omega) (h2 x hx)⟩
  rw [TY] at h1
  split at h1
  · omega
  ·
   split at h1
   · exact h1
   · rename_i hq; exact Decidable.not_not.1 hq
def VV (v:ah):Prop:=Xp v=true∧wS v≤16
theorem Fw (v:ah):uZ v 1=0↔VV v:=by
 constructor
 ·
  intro h
  have ho:=ac5 _ v 1 (Nat.le_refl _) h
  refine ⟨ho,?_⟩
  rw [LD _ v 1 (Nat.le_refl _) ho (by omega)] at h
  split at h
  · omega
  · cases h
 ·
  rintro ⟨h1,h2⟩
  rw [LD _ v 1 (Nat.le_refl _) h1 (by omega),if_pos (by omega)]
theorem VV.mem {v x:ah} (h:VV v) (hx:x∈v.aI):VV x:=by
 refine ⟨((yg v).1 h.1).2 x hx,?_⟩
 have h2:=h.2
 rw [uK] at h2
 split at h2
 · have:=Ym (n:=2) hx; omega
 ·
  rename_i hk
  have:=Qa h.1 (by simpa using hk)
  rw [this] at hx; cases hx
theorem TV {go:Int→ah→Int→Option (Bool × Int)} {level:Nat}:∀ (l:List ah) (i s:Nat),(∀ x∈l,∀ s:Nat,go (s:Int) x ((level + 1:Nat):Int)=some (true,((max s (level + wS x):Nat):Int)))→
  dQ (fun _ x1 (s1:Int) r=>fG (go s1 x1 ((level + 1:Nat):Int)) fun b1 s2=>if !b1 then some (false,s2) else r s2) (fun s1=>some (true,s1)) i l (s:Int)=some (true,((l.foldl (fun s x=>max s (level + wS x)) s:Nat):Int))
 | [],i,s,_=>rfl
 | x :: r,i,s,h=>by
  rw [dQ,h x (by simp),dH,if_neg (by simp)]
  exact TV r (i + 1) _ fun y hy=>h y (by simp [hy])
theorem Yy :∀ (l:List ah) (level s n:Nat),l.foldl (fun s x=>max s (level + wS x)) (max s (level + n))=max s (level + (Dy l (n + 1) - 1))
 | [],level,s,n=>by simp [Dy]
 | x :: r,level,s,n=>by
  rw [List.foldl_cons,Dy]
  have e:max (max s (level + n)) (level + wS x)=max s (level + max n (wS x)):=by omega
  rw [e,Yy r level s]
  congr 3
  rw [show max n (wS x) + 1=max (n + 1) (1 + wS x) from by omega]
theorem ac3 :∀ (n:Nat) (v:ah) (level s:Nat),v.bulk≤n→v.bulk < 4611686018427387904→Xp v=true→1≤level→level + n < 4611686018427387904→gV iK (n + 1) (s:Int) v (level:Int)=some (true,((max s (level - 1 + wS v):Nat):Int))
 | 0,v,_,_,h,_,_,_,_=>by have:=v.gF; omega
 | n + 1,v,level,s,h,hB,hv,hl,hn=>by
  have hll:=uX v
  obtain ⟨h1,h2⟩:=(yg v).1 hv
  rw [gV,u7,iK,dH,if_neg (by simp)]
  have hw:bS ((level:Int) + 1)=((level + 1:Nat):Int):=zB (by omega)
  have ih:∀ x∈v.aI,∀ s:Nat,gV iK (n + 1) (s:Int) x ((level + 1:Nat):Int)=some (true,((max s (level + wS x):Nat):Int)):=fun x hx s=>
   ac3 n x (level + 1) s (by have:=iH hx; omega) (by have:=iH hx; omega) (h2 x hx) (by omega) (by omega)
  have sc:∀ s:Nat,lq (gV iK (n + 1)) v (level:Int) BIG (s:Int) 0=some (true,((v.aI.foldl (fun s x=>max s (level + wS x)) s:Nat):Int)):=by
   intro s
   rw [dP (F:=fun k s i=>lq (gV iK (n + 1)) v (level:Int) k s i) (l:=v.aI) (body:=fun _ x1 (s1:Int) r=>fG (gV iK (n + 1) s1 x1 ((level + 1:Nat):Int)) fun b1 s2=>if !b1 then some (false,s2) else r s2) (fin:=fun s1=>some (true,s1)) (by omega) (fun k s i=>by rw [←hw]; rfl)]
   exact TV v.aI 0 s ih
  unfold rY
  rw [hw,uK]
  cases hk:((v.kind == 4) || (v.kind == 5)) with
  | false=>
   have hnil:=Qa hv hk
   simp only [Bool.false_and,Bool.false_eq_true,if_false]
   have e:(if (s:Int) < (level:Int) then (level:Int) else (s:Int))=((max s level:Nat):Int):=by split <;> omega
   rw [e,sc,hnil]
   simp only [List.foldl_nil]
   rw [show level - 1 + 1=level from by omega]
  | true=>
   simp only [Bool.true_and,if_true]
   by_cases he:v.aI=[]
   ·
    have q:((v.aI.length:Int) == 0)=true:=by simp [he]
    simp only [q,if_true]
    have e:(if (s:Int) < ((level + 1:Nat):Int) then ((level + 1:Nat):Int) else (s:Int))=((max s (level + 1):Nat):Int):=by split <;> omega
    rw [e,sc,he]
    simp only [List.foldl_nil,Dy]
    rw [show level - 1 + 2=level + 1 from by omega]
   ·
    have q:((v.aI.length:Int) == 0)=false:=by simp [he]
    simp only [q,Bool.false_eq_true,if_false]
    have e:(if (s:Int) < (level:Int) then (level:Int) else (s:Int))=((max s (level + 0):Nat):Int):=by split <;> omega
    rw [e,sc,Yy]
    have hne:∃ x r,v.aI=x :: r:=by
     cases hc:v.aI with
     | nil=>exact absurd hc he
     | cons x r=>exact ⟨x,r,rfl⟩
    obtain ⟨x,r,hc⟩:=hne
    have hx:=V7 x
    have e2:Dy v.aI (0 + 1)=Dy v.aI 2:=by
     rw [hc,Dy,Dy]; congr 1; omega
    rw [e2]
    have:=aa8 v.aI 2
    congr 3
    omega
theorem Zt {v:ah} (h:v.bulk < 2305843009213693952) (hv:Xp v=true):yj v=some (wS v:Int):=by
 obtain ⟨n,hn,hn2⟩:=ru
 unfold yj Db
 have key:=ac3 v.bulk v 1 0 (Nat.le_refl _) (by omega) hv (by omega) (by omega)
 have mono:∀ (k:Nat) (s:Int) (x:ah) (lv:Int) (r:Bool × Int),gV iK k s x lv=some r→∀ m,k≤m→gV iK m s x lv=some r:=by
  intro k
  induction k with
  | zero=>intro s x lv r h; cases h
  | succ k ih=>
   intro s x lv r h m hm
   obtain ⟨m,rfl⟩:∃ q,m=q + 1:=⟨m - 1,by omega⟩
   have lp:∀ (v:ah) (level:Int) (f:Nat) (s i:Int) (r:Bool × Int),lq (gV iK k) v level f s i=some r→lq (gV iK m) v level f s i=some r:=by
    intro v level f
    induction f with
    | zero=>intro s i r h; cases h
    | succ f ihf=>
     intro s i r h
     rw [lq] at h ⊢
     split at h
     ·
      rename_i hc
      rw [if_pos hc]
      obtain ⟨x,hx,h⟩:=aN h
      obtain ⟨b,s2,hb,h⟩:=aY h
      rw [hx,ay,ih _ _ _ _ hb m (by omega),dH]
      split at h
      · rename_i hc2; rw [if_pos hc2]; exact h
      · rename_i hc2; rw [if_neg hc2]; exact ihf _ _ _ h
     ·
      rename_i hc
      rw [if_neg hc]; exact h
   rw [gV,u7] at h ⊢
   obtain ⟨b,s2,hb,h⟩:=aY h
   rw [hb,dH]
   split at h
   · rename_i hc; rw [if_pos hc]; exact h
   · rename_i hc; rw [if_neg hc]; exact lp _ _ _ _ _ _ h
 have:=mono _ _ _ _ _ key BIG (by have:=j_; omega)
 rw [show ((0:Nat):Int)=0 from rfl,show ((1:Nat):Int)=1 from rfl] at this
 rw [this,dH]
 simp
theorem je {v:ah} (h:Xp v=true):v.bI.length≤4096∧v.aI.length≤1024∧v.keys.length≤1024∧-9007199254740992≤v.bZ∧v.bZ≤9007199254740992:=by
 have h1:=((yg v).1 h).1
 unfold ny at h1
 rw [if_neg (by omega)] at h1
 split at h1
 · cases h1
 ·
  split at h1
  · cases h1
  ·
   rename_i h2
   split at h1
   · cases h1
   ·
    rename_i h3
    simp only [Bool.or_eq_true,decide_eq_true_eq,not_or,Int.not_lt] at h2 h3
    omega
theorem JU {v:ah} (h:Xp v=true) (hb:v.bulk < 4611686018427387904):mU v=some v∧rT v=some v:=
 Xr (S:=fun v=>Xp v=true) (fun v h=>by
  have:=je h
  have hL:rC=4294967296:=rfl
  exact ⟨by omega,by omega,((yg v).1 h).2⟩) h hb
theorem aaL {v:ah} (h:Xp v=true) (hb:v.bulk < 4611686018427387904) (q:Str):zJ v q=some (ZX (Ny v q)):=
 ahg hb (fun x hx=>(JU (((yg v).1 h).2 x hx) (by have:=iH hx; omega)).1) q
end Go.Ft

