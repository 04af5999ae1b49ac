/- Proved here: plain facts on the functional texts. -/
import Derived.Test.YtggpjlegajicnaaGreatDoorCzPre1
import Derived.Test.YtggpjlegajicnaaGreatDoorCzFt1
import Derived.Test.YtggpjlegajicnaaGreatDoorCzPool1
set_option linter.unusedVariables false
set_option linter.unusedSimpArgs false
set_option linter.unusedSectionVars false
set_option maxHeartbeats 2000000
namespace Go.Ft
open Go
attribute [local congr] dZ
theorem KO {α:Type} {f:α→Nat} {l:List α} {x:α} (h:x∈l):f x≤(l.map f).sum:=by
 induction l with
 | nil=>cases h
 | cons y l ih=>
  simp only [List.map_cons,List.sum_cons]
  rcases List.mem_cons.1 h with rfl | h
  · omega
  · have:=ih h; omega
theorem Oj {α:Type} {f:α→Nat} {l:List α} (h:∀ x,1≤f x):l.length≤(l.map f).sum:=by
 induction l with
 | nil=>simp
 | cons y l ih=>simp only [List.map_cons,List.sum_cons,List.length_cons]; have:=h y; omega
theorem ah.jY (v:ah):1≤v.bulk:=by rw [ah.jA]; omega
theorem aj.jY (v:aj):1≤v.bulk:=by rw [aj.jA]; omega
theorem ak.jY (v:ak):1≤v.bulk:=by rw [ak.jA]; omega
theorem vW (v:ah):v.aO.length < v.bulk:=by rw [ah.jA,ah.kE]; have:=Oj (l:=v.aO) ah.jY; omega
theorem iV {v x:ah} (h:x∈v.aO):x.bulk < v.bulk:=by rw [ah.jA v,ah.kE]; have:=KO (f:=ah.bulk) h; omega
theorem yB (v:ah):v.keys.length < v.bulk:=by rw [ah.jA]; have:=Oj (l:=v.keys) (f:=fun z:Str=>z.length + 1) (fun x=>by omega); omega
theorem N8 {v:ah} {x:Str} (h:x∈v.keys):x.length < v.bulk:=by rw [ah.jA v]; have:=KO (f:=fun z:Str=>z.length + 1) h; omega
theorem J2 (e:aj):e.args.length < e.bulk:=by rw [aj.jA,aj.kE]; have:=Oj (l:=e.args) aj.jY; omega
theorem jl {e x:aj} (h:x∈e.args):x.bulk < e.bulk:=by rw [aj.jA e,aj.kE]; have:=KO (f:=aj.bulk) h; omega
theorem Om (v:aj):v.keys.length < v.bulk:=by rw [aj.jA]; have:=Oj (l:=v.keys) (f:=fun z:Str=>z.length + 1) (fun x=>by omega); omega
theorem ahB (v:aj):v.name.length < v.bulk:=by rw [aj.jA]; omega
theorem Ez (v:aj):v.value.bulk < v.bulk:=by rw [aj.jA]; omega
mutual
def ecnt :aj→Nat
 | ⟨_,_,_,args,_⟩=>1 + IX args
def IX :List aj→Nat
 | []=>0
 | x :: r=>ecnt x + IX r
end
theorem FD (e:aj):ecnt e=1 + IX e.args:=by cases e; rfl
theorem adk :∀ (l:List aj) (n:Nat),(∀ x∈l,ecnt x≤x.bulk)→IX l≤(l.map aj.bulk).sum
 | [],_,_=>by simp [IX]
 | x :: r,n,h=>by
  simp only [IX,List.map_cons,List.sum_cons]
  have:=h x (by simp)
  have:=adk r n fun y hy=>h y (by simp [hy])
  omega
theorem KY :∀ (n:Nat) (e:aj),e.bulk≤n→ecnt e≤e.bulk
 | 0,e,h=>by have:=e.jY; omega
 | n + 1,e,h=>by
  rw [FD,aj.jA,aj.kE]
  have:=adk e.args n fun x hx=>KY n x (by have:=jl hx; omega)
  omega
theorem ae8 {go:aj→Option Int}:∀ (l:List aj) (i s:Nat),(∀ x∈l,go x=some (ecnt x:Int))→s + IX l < 4611686018427387904→
  dG (fun _ e2 (n1:Int) r=>au (go e2) fun x2=>r (bZ (n1 + x2))) (fun n1=>some n1) i l (s:Int)=some ((s + IX l:Nat):Int)
 | [],i,s,_,_=>by simp [dG,IX]
 | x :: r,i,s,h,hs=>by
  simp only [IX] at hs ⊢
  rw [dG,h x (by simp)]
  simp only [ay]
  have:bZ ((s:Int) + (ecnt x:Int))=((s + ecnt x:Nat):Int):=by rw [vo (by omega)]; omega
  rw [this,ae8 r (i + 1) (s + ecnt x) (fun y hy=>h y (by simp [hy])) (by omega)]
  simp only [Option.some.injEq,Int.natCast_inj]; omega
theorem abb :∀ (n:Nat) (e:aj),e.bulk≤n→e.bulk < 4611686018427387904→nM (n + 1) e=some (ecnt e:Int)∧sQ (n + 1) e=some (ecnt e:Int)
 | 0,e,h,_=>by have:=e.jY; omega
 | n + 1,e,h,hB=>by
  have hl:=J2 e
  have hle:=KY _ e (Nat.le_refl _)
  rw [FD] at hle
  constructor
  ·
   unfold nM BO
   have:=dH (F:=fun k s i=>vS (nM (n + 1)) e k s i) (l:=e.args) (body:=fun _ e2 (n1:Int) r=>au (nM (n + 1) e2) fun x2=>r (bZ (n1 + x2))) (fin:=fun n1=>some n1) (by omega) (fun k s i=>rfl) 1
   rw [this,show (1:Int)=((1:Nat):Int) from rfl,ae8 e.args 0 1 (fun x hx=>(abb n x (by have:=jl hx; omega) (by have:=jl hx; omega)).1) (by omega),FD]
  ·
   unfold sQ Iw
   have:=dH (F:=fun k s i=>Bw (sQ (n + 1)) e k s i) (l:=e.args) (body:=fun _ e2 (n1:Int) r=>au (sQ (n + 1) e2) fun x2=>r (bZ (n1 + x2))) (fin:=fun n1=>some n1) (by omega) (fun k s i=>rfl) 1
   rw [this,show (1:Int)=((1:Nat):Int) from rfl,ae8 e.args 0 1 (fun x hx=>(abb n x (by have:=jl hx; omega) (by have:=jl hx; omega)).2) (by omega),FD]
theorem uW :∃ n,BIG=n + 1∧9223372036854775807≤n:=⟨BIG - 1,by decide,by decide⟩
theorem count_eq {e:aj} (h:e.bulk < 4611686018427387904):Fu e=some (ecnt e:Int)∧JJ e=some (ecnt e:Int):=by
 obtain ⟨n,hn,hn2⟩:=uW
 unfold Fu JJ
 rw [hn]
 exact abb n e (by omega) h
def isName (s:Str):Bool:=decide (1≤s.length) && decide (s.length≤64) && (match s with | c :: _=>isLet c | []=>false) && s.all fun c=>isLet c || eX c
def oZ (s:Str):Bool:=isName s && !((s == ([116,114,117,101]:Str)) || (s == ([102,97,108,115,101]:Str)) || (s == ([110,117,108,108]:Str)))
theorem ap7 (s:Str) (hs:s.length < 4611686018427387904):uJ s BIG 0=some (s.all fun c=>isLet c || eX c):=by
 have:=dH (F:=fun k (_:Unit) i=>uJ s k i) (l:=s) (body:=fun (i:Nat) x3 _ r=>au (if !(isLet x3) then au (idx s (i:Int)) fun x5=>some (!(eX x5)) else some false) fun b2=>if b2 then some false else r ()) (fin:=fun _=>some true) hs (fun k s i=>rfl) ()
 rw [this]
 have key:∀ (t:Str) (i:Nat),t=s.drop i→dG (fun (i:Nat) x3 (_:Unit) r=>au (if !(isLet x3) then au (idx s (i:Int)) fun x5=>some (!(eX x5)) else some false) fun b2=>if b2 then some false else r ()) (fun _=>some true) i t ()=some (t.all fun c=>isLet c || eX c):=by
  intro t
  induction t with
  | nil=>intro i _; rfl
  | cons c t ih=>
   intro i ht
   have hi:i < s.length:=by
    rcases Nat.lt_or_ge i s.length with h | h
    · exact h
    · rw [List.drop_eq_nil_of_le h] at ht; cases ht
   have hc:=List.drop_eq_getElem_cons hi
   rw [←ht] at hc
   have e1:c=s[i]:=(List.cons.inj hc).1
   have e2:=(List.cons.inj hc).2
   rw [dG,rW hi,←e1]
   simp only [ay]
   rw [ih (i + 1) e2]
   cases h1:isLet c <;> cases h2:eX c <;> simp [h1,h2]
 exact key s 0 rfl
theorem aoj (s:Str) (hs:s.length < 4611686018427387904):AQ s=some (isName s):=by
 unfold AQ isName
 rw [ap7 s hs]
 by_cases h1:s.length < 1
 ·
  have:s=[]:=by cases s; rfl; simp at h1
  subst this; simp
 ·
  by_cases h2:64 < s.length
  ·
   have e1:decide ((64:Int) < (s.length:Int))=true:=by simp; omega
   have e2:decide (s.length≤64)=false:=by simp; omega
   simp [e1,e2]
  ·
   cases s with
   | nil=>simp at h1
   | cons c s=>
    have e1:decide ((((c :: s).length:Nat):Int) < 1)=false:=by simp; omega
    have e2:decide ((64:Int) < (((c :: s).length:Nat):Int))=false:=by simp at h2 ⊢; omega
    have e3:decide ((c :: s).length≤64)=true:=by simp at h2 ⊢; omega
    have e4:idx (c :: s) 0=some c:=rfl
    rw [e1,e2,e3,e4]
    cases h3:isLet c <;> simp [h3]
theorem anz (s:Str) (hs:s.length < 4611686018427387904):ML s=some (isName s):=by
 unfold ML
 have:=dH (F:=fun k (_:Unit) i=>El s k i) (l:=s) (body:=fun (i:Nat) x3 _ r=>au (if !(isLet x3) then (if (i:Int) == 0 then some true else au (idx s (i:Int)) fun x5=>some (!(eX x5))) else some false) fun b2=>if b2 then some false else r ())
  (fin:=fun _=>some ((decide (1≤(s.length:Int))) && (decide ((s.length:Int)≤64)))) hs (fun k s i=>rfl) ()
 rw [this]
 have key:∀ (t:Str) (i:Nat),t=s.drop i→dG (fun (i:Nat) x3 (_:Unit) r=>au (if !(isLet x3) then (if (i:Int) == 0 then some true else au (idx s (i:Int)) fun x5=>some (!(eX x5))) else some false) fun b2=>if b2 then some false else r ())
   (fun _=>some ((decide (1≤(s.length:Int))) && (decide ((s.length:Int)≤64)))) i t ()=some ((decide (1≤s.length) && decide (s.length≤64)) && ((if i=0 then (match t with | c :: _=>isLet c | []=>true) else true) && t.all fun c=>isLet c || eX c)):=by
  intro t
  induction t with
  | nil=>
   intro i _
   rw [dG]
   have e1:decide ((1:Int)≤(s.length:Int))=decide (1≤s.length):=by congr 1; simp; omega
   have e2:decide ((s.length:Int)≤64)=decide (s.length≤64):=by congr 1; simp; omega
   rw [e1,e2]; simp
  | cons c t ih=>
   intro i ht
   have hi:i < s.length:=by
    rcases Nat.lt_or_ge i s.length with h | h
    · exact h
    · rw [List.drop_eq_nil_of_le h] at ht; cases ht
   have hc:=List.drop_eq_getElem_cons hi
   rw [←ht] at hc
   have e1:c=s[i]:=(List.cons.inj hc).1
   have e2:=(List.cons.inj hc).2
   rw [dG,rW hi,←e1]
   simp only [ay]
   rw [ih (i + 1) e2]
   by_cases h0:i=0
   ·
    subst h0
    cases h1:isLet c <;> simp [h1]
   ·
    have:((i:Int) == 0)=false:=by simp; omega
    rw [this]
    cases h1:isLet c <;> cases h2:eX c <;> simp [h1,h2,h0]
 rw [key s 0 rfl]
 unfold isName
 cases s with
 | nil=>simp
 | cons c s=>simp [Bool.and_assoc]
theorem VA (s:Str) (hs:s.length < 4611686018427387904):vD s=some (oZ s)∧yK s=some (oZ s):=by
 unfold vD yK oZ AL
 rw [aoj s hs,anz s hs]
 constructor
 · cases isName s <;> simp
 ·
  simp only [ay,Option.some.injEq]
  cases isName s <;> simp [Bool.not_or,Bool.and_assoc]
theorem Ip (s:Str):Bv s=iZ s:=rfl
theorem XR (s:Str):∃ n,iZ s=some n:=by
 have:(iZ s).isSome=true:=by
  unfold iZ
  simp only [apply_ite Option.isSome,Option.isSome_some,ite_self]
 exact Option.isSome_iff_exists.1 this
end Go.Ft

namespace Go.Ft
open Go
attribute [local congr] dZ
def xK (s:Str):Bool:=decide (1≤s.length) && decide (s.length≤64)
def XT (a b:Str):Int:=(qN a b).getD 0
theorem alT {a b:Str} (ha:a.length < 4611686018427387904) (hb:b.length < 4611686018427387904):kI a b=some (XT a b)∧qN a b=some (XT a b):=by
 obtain ⟨c,h1,h2⟩:=WE ha hb
 unfold XT
 rw [h2]
 exact ⟨h1,rfl⟩
def NN :Option Str→List Str→Bool
 | _,[]=>true
 | p,k :: r=>xK k && (match p with | none=>true | some q=>decide (XT q k < 0)) && NN (some k) r
theorem aaN (s:Str):((decide ((s.length:Int) < 1)) || (decide (64 < (s.length:Int))))=!xK s:=by
 unfold xK
 rw [Bool.eq_iff_iff]
 simp only [Bool.or_eq_true,Bool.not_eq_true',Bool.and_eq_false_iff,decide_eq_true_eq,decide_eq_false_iff_not]
 omega
theorem key_eq (s:Str):Ob s=some (xK s):=by
 unfold Ob xK
 simp only [Option.some.injEq]
 rw [Bool.eq_iff_iff]
 simp only [Bool.and_eq_true,decide_eq_true_eq]
 omega
def MU (l:List Str) (i:Nat):Option Str:=if i=0 then none else l[i - 1]?
theorem agG {v:ah} (hv:v.bulk < 4611686018427387904):∀ (k i:Nat),v.keys.length < k + i→i≤v.keys.length→
  uG v k (i:Int)=some (NN (MU v.keys i) (v.keys.drop i))∧
  qW v k (i:Int)=some (NN (MU v.keys i) (v.keys.drop i) && ((v.keys.length:Int) == (v.aO.length:Int)))
 | 0,i,h,h'=>by omega
 | k + 1,i,h,h'=>by
  have hlen:=yB v
  rw [uG,qW]
  by_cases hi:i < v.keys.length
  ·
   have hm:v.keys[i]∈v.keys:=List.getElem_mem hi
   have hb:=N8 hm
   rw [List.drop_eq_getElem_cons hi,if_pos (by simp; omega),if_pos (by simp; omega),rW hi]
   simp only [ay,aaN,key_eq,NN]
   obtain ⟨ih1,ih2⟩:=agG hv k (i + 1) (by omega) (by omega)
   have hp:MU v.keys (i + 1)=some v.keys[i]:=by simp [MU,hi]
   rw [hp] at ih1 ih2
   rw [zy (by omega),ih1,ih2]
   by_cases h0:i=0
   ·
    subst h0
    have hp0:MU v.keys 0=none:=rfl
    rw [hp0]
    cases xK v.keys[0] <;> simp
   ·
    have hi1:i - 1 < v.keys.length:=by omega
    have hm1:v.keys[i - 1]∈v.keys:=List.getElem_mem hi1
    have hb1:=N8 hm1
    have hp0:MU v.keys i=some v.keys[i - 1]:=by simp [MU,h0,hi1]
    have e1:bZ ((i:Int) - 1)=((i - 1:Nat):Int):=by rw [vo (by omega)]; omega
    obtain ⟨c1,c2⟩:=alT (a:=v.keys[i - 1]) (b:=v.keys[i]) (by omega) (by omega)
    have hpos:decide ((0:Int) < (i:Int))=true:=by simp; omega
    rw [hp0,e1,hpos,rW hi1]
    simp only [ay,c1,c2,if_true]
    have hn:decide (XT v.keys[i - 1] v.keys[i] < 0)=!decide (0≤XT v.keys[i - 1] v.keys[i]):=by
     by_cases h:0≤XT v.keys[i - 1] v.keys[i] <;> simp [h] <;> omega
    rw [hn]
    cases xK v.keys[i] <;> cases decide (0≤XT v.keys[i - 1] v.keys[i]) <;> simp
  ·
   have:i=v.keys.length:=by omega
   subst this
   simp [NN]
theorem ac0 {v:ah} (hv:v.bulk < 4611686018427387904):D9 v=some (((v.keys.length:Int) == (v.aO.length:Int)) && NN none v.keys)∧zN v=some (((v.keys.length:Int) == (v.aO.length:Int)) && NN none v.keys):=by
 have hlen:=yB v
 obtain ⟨h1,h2⟩:=agG hv BIG 0 (by have:=jq; omega) (by omega)
 have hp0:MU v.keys 0=none:=rfl
 rw [hp0,List.drop_zero] at h1 h2
 unfold D9 zN
 rw [show (0:Int)=((0:Nat):Int) from rfl,h1,h2]
 by_cases h:(v.keys.length:Int)=(v.aO.length:Int)
 · simp [h]
 ·
  have:((v.keys.length:Int) == (v.aO.length:Int))=false:=by simpa using h
  simp [this]
  intro hh; exact absurd hh h
def vv (v:ah):Bool:=
 (((((v.kind == 1) || (!v.dO)) && ((v.kind == 2) || (v.dI == 0))) && ((v.kind == 3) || (v.bR == ([]:Str)))) && (((v.kind == 4) || (v.kind == 5)) || ((v.aO.length:Int) == 0))) && ((v.kind == 5) || ((v.keys.length:Int) == 0))
theorem anA (v:ah):JL v=some (vv v):=by
 unfold JL vv
 have hl:decide (0 < (v.aO.length:Int))=!((v.aO.length:Int) == 0):=by
  cases h:v.aO <;> simp
  omega
 rw [hl]
 have hk:∀ n:Int,(v.kind != n)=!(v.kind == n):=fun n=>rfl
 have hi:(v.dI != 0)=!(v.dI == 0):=rfl
 rw [hk,hk,hk,hk,hk,hi]
 generalize (v.kind == 1)=a1
 generalize (v.kind == 2)=a2
 generalize (v.kind == 3)=a3
 generalize (v.kind == 4)=a4
 generalize (v.kind == 5)=a5
 generalize v.dO=b
 generalize (v.dI == 0)=c
 generalize (v.bR == ([]:Str))=d
 generalize ((v.aO.length:Int) == 0)=e
 generalize ((v.keys.length:Int) == 0)=f
 revert a1 a2 a3 a4 a5 b c d e f
 decide
def qL (v:ah) (level:Nat):Int:=
 if 16 < level then 13
 else if (decide (v.kind < 0)) || (decide (5 < v.kind)) || !vv v then 1
 else if (decide (v.dI < (-9007199254740992))) || (decide (9007199254740992 < v.dI)) then 2
 else if ((decide (4096 < (v.bR.length:Int))) || (decide (1024 < (v.aO.length:Int)))) || (decide (1024 < (v.keys.length:Int))) then 3
 else if v.kind == 5 && !(((v.keys.length:Int) == (v.aO.length:Int)) && NN none v.keys) then 1
 else if (((v.kind == 4) || (v.kind == 5)) && ((v.aO.length:Int) == 0)) && level == 16 then 13
 else 0
theorem alR {v:ah} (hv:v.bulk < 4611686018427387904) (level:Nat):Gn v (level:Int)=some (qL v level):=by
 unfold Gn qL Fa
 have h16:decide ((16:Int) < (level:Int))=decide (16 < level):=by congr 1; simp; omega
 have aoC:((level:Int) == 16)=(level == 16):=by
  rw [Bool.eq_iff_iff]; simp only [beq_iff_eq]; omega
 rw [h16,aoC,(ac0 hv).1]
 change (if decide (16 < level)=true then some 13 else au (if (decide (v.kind < 0) || decide (5 < v.kind))=true then some true else au (some (vv v)) fun x1=>some (!x1)) _)=_
 by_cases h0:16 < level
 · simp [h0]
 ·
  simp only [h0,decide_false,Bool.false_eq_true,if_false,ay]
  cases h1:(decide (v.kind < 0) || decide (5 < v.kind)) with
  | true=>simp
  | false=>
   cases h2:vv v with
   | false=>simp
   | true=>
    simp only [Bool.false_eq_true,if_false,Bool.not_true,ay,Bool.or_self]
    split
    · rfl
    ·
     split
     · rfl
     · cases h3:(v.kind == 5) <;> cases h4:(((v.keys.length:Int) == (v.aO.length:Int)) && NN none v.keys) <;> simp <;> (first | rfl | (split <;> rfl))
mutual
def zB :ah→Nat→Int
 | ⟨a,b,c,d,l,f⟩,level=>if qL ⟨a,b,c,d,l,f⟩ level != 0 then qL ⟨a,b,c,d,l,f⟩ level else Ik l (level + 1)
def Ik :List ah→Nat→Int
 | [],_=>0
 | x :: r,level=>if zB x level != 0 then zB x level else Ik r level
end
theorem UD (v:ah) (level:Nat):zB v level=if qL v level != 0 then qL v level else Ik v.aO (level + 1):=by cases v; rw [zB]
theorem aqI {go:ah→Int→Option Int} {level:Nat}:∀ (l:List ah) (i:Nat),(∀ x∈l,go x ((level + 1:Nat):Int)=some (zB x (level + 1)))→
  dG (fun _ e1 (_:Unit) r=>au (go e1 ((level + 1:Nat):Int)) fun e2=>if e2 != 0 then some e2 else r ()) (fun _=>some 0) i l ()=some (Ik l (level + 1))
 | [],i,_=>by simp [dG,Ik]
 | x :: r,i,h=>by
  rw [dG,h x (by simp),Ik]
  simp only [ay]
  rw [aqI r (i + 1) (fun y hy=>h y (by simp [hy]))]
  split <;> rfl
theorem adr :∀ (n:Nat) (v:ah) (level:Nat),v.bulk≤n→v.bulk < 4611686018427387904→level≤17→sS (n + 1) v (level:Int)=some (zB v level)
 | 0,v,_,h,_,_=>by have:=v.jY; omega
 | n + 1,v,level,h,hB,hlv=>by
  have hl:=vW v
  rw [UD]
  unfold sS IB
  have h16:decide ((16:Int) < (level:Int))=decide (16 < level):=by congr 1; simp; omega
  have aoC:((level:Int) == 16)=(level == 16):=by
   rw [Bool.eq_iff_iff]; simp only [beq_iff_eq]; omega
  rw [h16,aoC,(ac0 hB).2,anA]
  unfold qL
  by_cases h0:16 < level
  · simp [h0]
  ·
   have hw:bZ ((level:Int) + 1)=((level + 1:Nat):Int):=zy (by omega)
   have:=dH (F:=fun k (_:Unit) i=>BF (sS (n + 1)) v (level:Int) k i) (l:=v.aO) (body:=fun _ e1 _ r=>au (sS (n + 1) e1 ((level + 1:Nat):Int)) fun e2=>if e2 != 0 then some e2 else r ()) (fin:=fun _=>some 0) (by omega) (fun k s i=>by rw [←hw]; rfl) ()
   rw [this,aqI v.aO 0 fun x hx=>adr n x (level + 1) (by have:=iV hx; omega) (by have:=iV hx; omega) (by omega)]
   simp only [h0,decide_false,Bool.false_eq_true,if_false,ay]
   cases h1:(decide (v.kind < 0) || decide (5 < v.kind)) with
   | true=>simp
   | false=>
    cases h2:vv v with
    | false=>simp
    | true=>
     simp only [Bool.false_eq_true,if_false,Bool.not_true,ay,Bool.or_self]
     split
     · simp
     ·
      split
      · simp
      ·
       have h4:decide ((4:Int)≤v.kind)=((v.kind == 4) || (v.kind == 5)):=by
        simp only [Bool.or_eq_false_iff,decide_eq_false_iff_not] at h1
        rw [Bool.eq_iff_iff]
        simp only [Bool.or_eq_true,decide_eq_true_eq,beq_iff_eq]
        omega
       rw [h4]
       cases h3:(v.kind == 5) <;> cases h5:(((v.keys.length:Int) == (v.aO.length:Int)) && NN none v.keys) <;> simp <;> (first | rfl | (split <;> simp <;> rename_i hq <;> (first
        | exact fun hh=>absurd hq.2 (hh hq.1.1 hq.1.2)
        | exact fun a b c=>absurd ⟨⟨a,b⟩,c⟩ hq)))
theorem Ve {v:ah} (h:v.bulk < 4611686018427387904):yO v=some (zB v 1):=by
 obtain ⟨n,hn,hn2⟩:=uW
 unfold yO R6
 rw [hn]
 exact adr n v 1 (by omega) h (by omega)
def U5 (c:Int):Bool × Option Int:=if c != 0 then (false,some c) else (true,none)
theorem apo {v:ah} (hv:v.bulk < 4611686018427387904) (level:Nat):oU none (level:Int) v=some (U5 (qL v level)):=by
 unfold oU U5
 simp only [alR hv,ay]
 by_cases h:qL v level=0 <;> simp [h]
theorem amz {go:Option Int→ah→Int→Option (Bool × Option Int)} {level:Nat}:∀ (l:List ah) (i:Nat),(∀ x∈l,go none x ((level + 1:Nat):Int)=some (U5 (zB x (level + 1))))→
  dG (fun _ x1 (s1:Option Int) r=>fM (go s1 x1 ((level + 1:Nat):Int)) fun b1 s2=>if !b1 then some (false,s2) else r s2) (fun s1=>some (true,s1)) i l none=some (U5 (Ik l (level + 1)))
 | [],i,_=>by simp [dG,Ik,U5]
 | x :: r,i,h=>by
  rw [dG,h x (by simp),Ik]
  by_cases hc:zB x (level + 1)=0
  ·
   simp only [hc,U5,bne_self_eq_false,Bool.false_eq_true,if_false,bU,Bool.not_true]
   rw [amz r (i + 1) (fun y hy=>h y (by simp [hy]))]
   rfl
  · simp [hc,U5]
theorem aik :∀ (n:Nat) (v:ah) (level:Nat),v.bulk≤n→v.bulk < 4611686018427387904→level≤17→iJ oU (n + 1) none v (level:Int)=some (U5 (zB v level))
 | 0,v,_,h,_,_=>by have:=v.jY; omega
 | n + 1,v,level,h,hB,hlv=>by
  have hl:=vW v
  rw [UD]
  unfold iJ yC
  rw [apo hB]
  by_cases h0:qL v level=0
  ·
   have arF:level≤16:=by
    rcases Nat.lt_or_ge 16 level with h | h
    · unfold qL at h0; simp [h] at h0
    · exact h
   have hw:bZ ((level:Int) + 1)=((level + 1:Nat):Int):=zy (by omega)
   have:=dH (F:=fun k s i=>nA (iJ oU (n + 1)) v (level:Int) k s i) (l:=v.aO) (body:=fun _ x1 (s1:Option Int) r=>fM (iJ oU (n + 1) s1 x1 ((level + 1:Nat):Int)) fun b1 s2=>if !b1 then some (false,s2) else r s2) (fin:=fun s1=>some (true,s1)) (by omega) (fun k s i=>by rw [←hw]; rfl) none
   simp only [h0,U5,bne_self_eq_false,Bool.false_eq_true,if_false,bU,Bool.not_true]
   rw [this,amz v.aO 0 fun x hx=>aik n x (level + 1) (by have:=iV hx; omega) (by have:=iV hx; omega) (by omega)]
   rfl
  · simp [h0,U5]
theorem FT {v:ah} (h:v.bulk < 4611686018427387904):mY v=some (zB v 1):=by
 obtain ⟨n,hn,hn2⟩:=uW
 unfold mY Gm
 rw [hn,show (1:Int)=((1:Nat):Int) from rfl,aik n v 1 (by omega) h (by omega)]
 unfold U5
 by_cases hc:zB v 1=0 <;> simp [hc]
end Go.Ft

namespace Go.Ft
open Go
attribute [local congr] dZ
def Tg (v:ah):Bool:=(((((v.kind == 0) && (!v.dO)) && (v.dI == 0)) && (v.bR == ([]:Str))) && ((v.aO.length:Int) == 0)) && ((v.keys.length:Int) == 0)
theorem zero_eq (v:ah):IG v=some (Tg v):=rfl
theorem ag5 (v:ah):Gy v (ah.mk 0 false 0 ([]:Str) [] [])=some (Tg v):=by
 obtain ⟨n,hn,hn2⟩:=uW
 obtain ⟨m,hm⟩:∃ m,n=m + 1:=⟨n - 1,by omega⟩
 have hB:BIG=(m + 1) + 1:=by omega
 unfold Gy
 rw [hB,xB,Gx]
 have hz:Tg v=!(((((v.kind != 0) || (!(v.dO == false))) || (v.dI != 0)) || (!(v.bR == ([]:Str)))) || ((v.aO.length:Int) != (([]:List ah).length:Int)) || ((v.keys.length:Int) != (([]:List Str).length:Int))):=by
  unfold Tg
  have hk:(v.kind != 0)=!(v.kind == 0):=rfl
  have hi:(v.dI != 0)=!(v.dI == 0):=rfl
  have hl:((v.aO.length:Int) != (([]:List ah).length:Int))=!((v.aO.length:Int) == 0):=rfl
  have hks:((v.keys.length:Int) != (([]:List Str).length:Int))=!((v.keys.length:Int) == 0):=rfl
  rw [hk,hi,hl,hks]
  generalize (v.kind == 0)=a
  generalize v.dO=b
  generalize (v.dI == 0)=c
  generalize (v.bR == ([]:Str))=d
  generalize ((v.aO.length:Int) == 0)=e
  generalize ((v.keys.length:Int) == 0)=f
  revert a b c d e f
  decide
 cases h:(((((v.kind != 0) || (!(v.dO == false))) || (v.dI != 0)) || (!(v.bR == ([]:Str)))) || ((v.aO.length:Int) != (([]:List ah).length:Int)) || ((v.keys.length:Int) != (([]:List Str).length:Int))) with
 | true=>
  rw [hz,h]
  rfl
 | false=>
  rw [hz,h]
  simp only [Bool.or_eq_false_iff] at h
  have hl:v.aO=[]:=by have:=h.1.2; simpa using this
  have hk:v.keys=[]:=by have:=h.2; simpa using this
  simp only [Bool.false_eq_true,if_false,Bool.not_false]
  rw [hB,xC,hk]
  simp only [List.length_nil,Int.lt_irrefl,decide_false,Bool.false_eq_true,if_false,Int.ofNat_zero,Int.natCast_zero]
  rw [hB,pQ,hl]
  simp
def rP (e:aj):Bool:=
 if e.kind == 1 then (e.args.length:Int) == 0 else if e.kind == 2 then (e.args.length:Int) == 0 else if e.kind == 3 then (e.args.length:Int) == 1 else if e.kind == 6 then (e.args.length:Int) == 1
 else if e.kind == 4 then (e.args.length:Int) == 2 else if e.kind == 7 then (e.args.length:Int) == 2 else if e.kind == 8 then (e.args.length:Int) == 3 else ((e.kind == 5) || (e.kind == 9)) || (e.kind == 10)
theorem amr (e:aj):JI e=some (rP e):=by
 unfold JI rP
 simp only [apply_ite some]
def EU (e:aj):Bool:=!((decide (e.kind < 1)) || (decide (10 < e.kind)))
theorem ao0 (e:aj) (h:EU e=true):BM e=some (rP e):=by
 unfold BM rP
 unfold EU at h
 simp only [Bool.not_eq_true',Bool.or_eq_false_iff,decide_eq_false_iff_not] at h
 simp only [apply_ite some]
 have hh:¬ e.kind=1→¬ e.kind=2→¬ e.kind=3→¬ e.kind=6→¬ e.kind=4→¬ e.kind=7→¬ e.kind=8→(((e.kind == 5) || (e.kind == 9)) || (e.kind == 10))=true:=by
  intro h1 h2 h3 h6 h4 h7 h8
  simp only [Bool.or_eq_true,beq_iff_eq]
  omega
 by_cases h1:e.kind=1
 · simp [h1]
 by_cases h2:e.kind=2
 · simp [h2]
 by_cases h3:e.kind=3
 · simp [h3]
 by_cases h6:e.kind=6
 · simp [h6]
 by_cases h4:e.kind=4
 · simp [h4]
 by_cases h7:e.kind=7
 · simp [h7]
 by_cases h8:e.kind=8
 · simp [h8]
 rw [hh h1 h2 h3 h6 h4 h7 h8]
 all_goals simp [h1,h2,h3,h4,h6,h7,h8]
def Qv (s:Str):Int:=(iZ s).getD 0
theorem agX (s:Str):iZ s=some (Qv s):=by
 obtain ⟨n,h⟩:=XR s
 unfold Qv; rw [h]; rfl
def EY (e:aj):Bool:=
 if e.kind == 2 then oZ e.name else if e.kind == 3 then oZ e.name else if e.kind == 5 then oZ e.name else if e.kind == 6 then (e.name == ([33]:Str)) || (e.name == ([45]:Str))
 else if e.kind == 7 then decide (0 < Qv e.name) else e.name == ([]:Str)
theorem acN (e:aj) (h:e.bulk < 4611686018427387904):BJ e=some (EY e)∧JH e=some (EY e):=by
 have hn:=ahB e
 obtain ⟨p1,p2⟩:=VA e.name (by omega)
 unfold BJ JH EY
 rw [p1,p2,Ip,agX]
 simp only [ay,apply_ite some,and_self]
theorem ase (l:List Str) (hl:l.length < 4611686018427387904):iQ l mM=some (l.any fun k=>!xK k):=by
 unfold iQ kN
 have:=dH (F:=fun k (_:Unit) i=>iO l mM k i) (l:=l) (body:=fun (i:Nat) e1 _ r=>au (mM e1) fun x1=>if x1 then some (i:Int) else r ()) (fin:=fun _=>some (-1)) hl (fun k s i=>rfl) ()
 rw [this]
 have key:∀ (t:List Str) (i:Nat),au (dG (fun (i:Nat) e1 (_:Unit) r=>au (mM e1) fun x1=>if x1 then some (i:Int) else r ()) (fun _=>some (-1)) i t ()) (fun x1=>some (decide (0≤x1)))=some (t.any fun k=>!xK k):=by
  intro t
  induction t with
  | nil=>intro i; rfl
  | cons c t ih=>
   intro i
   rw [dG]
   have e1:mM c=some (!xK c):=by unfold mM; rw [aaN]
   rw [e1]
   simp only [ay,List.any_cons]
   cases h:xK c with
   | false=>simp
   | true=>
    simp only [Bool.not_true,Bool.false_eq_true,if_false,Bool.false_or]
    exact ih (i + 1)
 exact key l 0
def Nl (e:aj):Bool:=if e.kind != 10 then (e.keys.length:Int) == 0 else ((e.keys.length:Int) == (e.args.length:Int)) && !(e.keys.any fun k=>!xK k)
theorem aot (e:aj) (h:e.bulk < 4611686018427387904):BK e=some (Nl e):=by
 have hk:=Om e
 unfold BK Nl
 rw [ase e.keys (by omega)]
 split
 · rfl
 · cases ((e.keys.length:Int) == (e.args.length:Int)) <;> simp
theorem al5 (e:aj) (h:e.bulk < 4611686018427387904):vZ e BIG 0=some (!(e.keys.any fun k=>!xK k) && ((e.keys.length:Int) == (e.args.length:Int))):=by
 have hk:=Om e
 have:=dH (F:=fun k (_:Unit) i=>vZ e k i) (l:=e.keys) (body:=fun (i:Nat) e2 _ r=>au (if decide ((e2.length:Int) < 1) then some true else au (idx e.keys (i:Int)) fun e3=>some (decide (64 < (e3.length:Int)))) fun b4=>if b4 then some false else r ())
  (fin:=fun _=>some ((e.keys.length:Int) == (e.args.length:Int))) (by omega) (fun k s i=>rfl) ()
 rw [this]
 have key:∀ (t:List Str) (i:Nat),t=e.keys.drop i→dG (fun (i:Nat) e2 (_:Unit) r=>au (if decide ((e2.length:Int) < 1) then some true else au (idx e.keys (i:Int)) fun e3=>some (decide (64 < (e3.length:Int)))) fun b4=>if b4 then some false else r ())
   (fun _=>some ((e.keys.length:Int) == (e.args.length:Int))) i t ()=some (!(t.any fun k=>!xK k) && ((e.keys.length:Int) == (e.args.length:Int))):=by
  intro t
  induction t with
  | nil=>intro i _; rfl
  | cons c t ih=>
   intro i ht
   have hi:i < e.keys.length:=by
    rcases Nat.lt_or_ge i e.keys.length with h | h
    · exact h
    · rw [List.drop_eq_nil_of_le h] at ht; cases ht
   have hc:=List.drop_eq_getElem_cons hi
   rw [←ht] at hc
   have e1:c=e.keys[i]:=(List.cons.inj hc).1
   have e2:=(List.cons.inj hc).2
   rw [dG,rW hi,←e1]
   simp only [ay,List.any_cons]
   rw [ih (i + 1) e2]
   have e3:=aaN c
   cases h1:decide ((List.length c:Int) < 1) <;> rw [h1] at e3
   ·
    simp only [Bool.false_or] at e3
    simp only [Bool.false_eq_true,if_false,ay,e3]
    cases xK c <;> simp
   ·
    simp only [Bool.true_or] at e3
    have:xK c=false:=by
     cases h:xK c with
     | false=>rfl
     | true=>rw [h] at e3; cases e3
    simp [this]
 exact key e.keys 0 rfl
def Ae (e:aj):Bool:=EU e && ((e.kind == 1) || Tg e.value) && EY e && rP e && Nl e
theorem afz (e:aj) (h:rP e=true):EU e=true:=by
 unfold rP at h
 unfold EU
 simp only [Bool.not_eq_true',Bool.or_eq_false_iff,decide_eq_false_iff_not]
 by_cases h1:e.kind=1
 · omega
 by_cases h2:e.kind=2
 · omega
 by_cases h3:e.kind=3
 · omega
 by_cases h6:e.kind=6
 · omega
 by_cases h4:e.kind=4
 · omega
 by_cases h7:e.kind=7
 · omega
 by_cases h8:e.kind=8
 · omega
 simp [h1,h2,h3,h4,h6,h7,h8] at h
 omega
theorem ahx (e:aj) (h:e.bulk < 4611686018427387904):Gw e=some (Ae e):=by
 unfold Gw Ae
 rw [amr,(acN e h).2,ag5,al5 e h]
 have hk:=afz e
 unfold Nl
 have hne:(e.kind != 1)=!(e.kind == 1):=rfl
 rw [hne]
 cases h1:rP e with
 | false=>cases (e.kind == 1) <;> simp
 | true=>
  rw [hk h1]
  cases h2:EY e with
  | false=>cases (e.kind == 1) <;> simp
  | true=>
   cases h3:(e.kind == 1) <;> cases h4:Tg e.value <;> simp <;> (first | done | (split <;> simp [Bool.and_comm]))
theorem Ga (y:List (Str × Int)) (s t:Str) (n:Int):qp (uX y s n) t=if t=s then n else qp y t:=by
 induction y with
 | nil=>by_cases h:t=s <;> simp [uX,qp,h]
 | cons a y ih=>
  obtain ⟨k,v⟩:=a
  unfold uX
  by_cases h:s=k
  ·
   subst h
   simp only [beq_self_eq_true,if_true]
   unfold qp
   by_cases h2:t=s
   · simp [h2]
   ·
    have:(t == s)=false:=beq_eq_false_iff_ne.2 h2
    simp [this,h2]
  ·
   have:(s == k)=false:=beq_eq_false_iff_ne.2 h
   rw [this]
   simp only [Bool.false_eq_true,if_false]
   unfold qp
   by_cases h2:t=k
   ·
    subst h2
    have:¬ t=s:=fun hh=>h hh.symm
    simp [this]
   ·
    have h3:(t == k)=false:=beq_eq_false_iff_ne.2 h2
    rw [h3]
    simp only [Bool.false_eq_true,if_false]
    exact ih
def Rk :List Str→List Str→Bool
 | _,[]=>false
 | seen,s :: r=>seen.contains s || Rk (seen ++ [s]) r
theorem anw (l:List Str) (hl:l.length < 4611686018427387904):vR l=some (Rk [] l):=by
 unfold vR
 have:=dH (F:=fun k s i=>rG l k i s) (l:=l) (body:=fun _ s1 (y1:List (Str × Int)) r=>if decide (1 < (qp (uX y1 s1 (bZ ((qp y1 s1) + 1))) s1)) then some true else r (uX y1 s1 (bZ ((qp y1 s1) + 1)))) (fin:=fun _=>some false) hl (fun k s i=>rfl) []
 rw [this]
 have key:∀ (t:List Str) (i:Nat) (y:List (Str × Int)) (seen:List Str),(∀ s,qp y s=if s∈seen then 1 else 0)→
   dG (fun _ s1 (y1:List (Str × Int)) r=>if decide (1 < (qp (uX y1 s1 (bZ ((qp y1 s1) + 1))) s1)) then some true else r (uX y1 s1 (bZ ((qp y1 s1) + 1)))) (fun _=>some false) i t y=some (Rk seen t):=by
  intro t
  induction t with
  | nil=>intro i y seen _; rfl
  | cons c t ih=>
   intro i y seen hy
   rw [dG,Rk,Ga,if_pos rfl,hy c]
   by_cases hc:c∈seen
   ·
    have:bZ 2=2:=by decide
    simp [hc,this]
   ·
    have:bZ ((0:Int) + 1)=1:=by decide
    simp only [hc,if_false,this]
    have e:seen.contains c=false:=by simpa using hc
    rw [e]
    simp only [Int.lt_irrefl,decide_false,Bool.false_eq_true,if_false,Bool.false_or]
    refine ih (i + 1) _ (seen ++ [c]) fun s=>?_
    rw [Ga,hy s]
    by_cases h1:s=c
    · subst h1; simp
    · simp [h1]
 exact key l 0 [] [] (fun s=>by simp [qp])
theorem abX (l:List Str) (i:Nat) (hi:i < l.length) (hl:l.length < 4611686018427387904) (go:Int→Option Bool):∀ (k j:Nat),i < k + j→j≤i→
  yJ l (i:Int) go k (j:Int)=if ((l.take i).drop j).contains l[i] then some true else go ((i + 1:Nat):Int)
 | 0,j,h,h'=>by omega
 | k + 1,j,h,h'=>by
  rw [yJ]
  by_cases hj:j < i
  ·
   have hlt:j < (l.take i).length:=by simp; omega
   rw [if_pos (by simpa using hj),rW hi,rW (by omega),List.drop_eq_getElem_cons hlt]
   simp only [ay,List.contains_cons,List.getElem_take]
   cases h1:(l[i] == l[j]) with
   | true=>simp
   | false=>
    simp only [Bool.false_eq_true,if_false,Bool.false_or]
    rw [zy (by omega)]
    exact abX l i hi hl go k (j + 1) (by omega) (by omega)
  ·
   have:j=i:=by omega
   subst this
   rw [if_neg (by simp),zy (by omega)]
   have:(List.take j l).drop j=[]:=List.drop_eq_nil_of_le (by simp; omega)
   rw [this]
   simp
theorem YN (l:List Str) (hl:l.length < 4611686018427387904):∀ (k i:Nat),l.length < k + i→i≤l.length→sN l k (i:Int)=some (Rk (l.take i) (l.drop i))
 | 0,i,h,h'=>by omega
 | k + 1,i,h,h'=>by
  rw [sN]
  by_cases hi:i < l.length
  ·
   rw [if_pos (by simpa using hi),List.drop_eq_getElem_cons hi,Rk]
   have:=abX l i hi hl (sN l k) BIG 0 (by have:=jq; omega) (by omega)
   rw [show (0:Int)=((0:Nat):Int) from rfl,this,List.drop_zero,YN l hl k (i + 1) (by omega) (by omega)]
   have e:List.take (i + 1) l=List.take i l ++ [l[i]]:=by rw [List.take_add_one,List.getElem?_eq_getElem hi]; rfl
   rw [e]
   cases (l.take i).contains l[i] <;> simp
  ·
   have:i=l.length:=by omega
   subst this
   simp [Rk]
theorem aiA (l:List Str) (hl:l.length < 4611686018427387904):JG l=some (Rk [] l):=by
 have:=YN l hl BIG 0 (by have:=jq; omega) (by omega)
 simpa [JG] using this
def D5 (e:aj) (level:Nat):Int:=
 if 16 < level then 13 else if !Ae e then 1 else if e.kind == 1 && (zB e.value 1 != 0) then zB e.value 1 else if decide (1024 < (e.args.length:Int)) then 3 else if Rk [] e.keys then 7 else 0
theorem ai4 (e:aj) (h:e.bulk < 4611686018427387904) (level:Nat):Ep e (level:Int)=some (D5 e level):=by
 have hk:=Om e
 have hv:=Ez e
 unfold Ep D5
 have h16:decide ((16:Int) < (level:Int))=decide (16 < level):=by congr 1; simp; omega
 rw [h16,zero_eq,(acN e h).1,aot e h,FT (by omega),anw e.keys (by omega)]
 by_cases h0:16 < level
 · simp [h0]
 ·
  simp only [h0,decide_false,Bool.false_eq_true,if_false,ay]
  have hkd:((decide (e.kind < 1)) || (decide (10 < e.kind)))=!EU e:=by simp [EU]
  have hne:(e.kind != 1)=!(e.kind == 1):=rfl
  rw [hkd,hne]
  unfold Ae
  cases h1:EU e with
  | false=>simp
  | true=>
   rw [ao0 e h1]
   cases h3:(e.kind == 1) <;> cases h4:Tg e.value <;> cases h5:EY e <;> cases h6:rP e <;> cases h7:Nl e <;> simp <;>
    (first | done | (split <;> (first | rfl | (split <;> (first | rfl | (split <;> rfl))))))
end Go.Ft

namespace Go.Ft
open Go
attribute [local congr] dZ
mutual
def EO :aj→Nat→Int
 | ⟨a,b,c,l,f⟩,level=>if D5 ⟨a,b,c,l,f⟩ level != 0 then D5 ⟨a,b,c,l,f⟩ level else Qj l (level + 1)
def Qj :List aj→Nat→Int
 | [],_=>0
 | x :: r,level=>if EO x level != 0 then EO x level else Qj r level
end
theorem UA (e:aj) (level:Nat):EO e level=if D5 e level != 0 then D5 e level else Qj e.args (level + 1):=by cases e; rw [EO]
theorem Pd {go:aj→Int→Option Int} {level:Nat}:∀ (l:List aj) (i:Nat),(∀ x∈l,go x ((level + 1:Nat):Int)=some (EO x (level + 1)))→
  dG (fun _ e1 (_:Unit) r=>au (go e1 ((level + 1:Nat):Int)) fun e2=>if e2 != 0 then some e2 else r ()) (fun _=>some 0) i l ()=some (Qj l (level + 1))
 | [],i,_=>by simp [dG,Qj]
 | x :: r,i,h=>by
  rw [dG,h x (by simp),Qj]
  simp only [ay]
  rw [Pd r (i + 1) (fun y hy=>h y (by simp [hy]))]
  split <;> rfl
theorem U2 :∀ (n:Nat) (e:aj) (level:Nat),e.bulk≤n→e.bulk < 4611686018427387904→level≤17→nK (n + 1) e (level:Int)=some (EO e level)∧sO (n + 1) e (level:Int)=some (EO e level)
 | 0,e,_,h,_,_=>by have:=e.jY; omega
 | n + 1,e,level,h,hB,hlv=>by
  have hl:=J2 e
  have hv:=Ez e
  have hks:=Om e
  have hw:bZ ((level:Int) + 1)=((level + 1:Nat):Int):=zy (by omega)
  constructor
  ·
   rw [UA]
   unfold nK BI
   have:=dH (F:=fun k (_:Unit) i=>vQ (nK (n + 1)) e (level:Int) k i) (l:=e.args) (body:=fun _ e1 _ r=>au (nK (n + 1) e1 ((level + 1:Nat):Int)) fun e2=>if e2 != 0 then some e2 else r ()) (fin:=fun _=>some 0) (by omega) (fun k s i=>by rw [←hw]; rfl) ()
   rw [ai4 e hB,this]
   simp only [ay]
   by_cases h0:D5 e level=0
   ·
    have arF:level≤16:=by
     rcases Nat.lt_or_ge 16 level with h | h
     · unfold D5 at h0; simp [h] at h0
     · exact h
    rw [Pd e.args 0 fun x hx=>(U2 n x (level + 1) (by have:=jl hx; omega) (by have:=jl hx; omega) (by omega)).1]
    simp [h0]
   · simp [h0]
  ·
   rw [UA]
   unfold sO Iu
   have:=dH (F:=fun k (_:Unit) i=>Bu (sO (n + 1)) e (level:Int) k i) (l:=e.args) (body:=fun _ e1 _ r=>au (sO (n + 1) e1 ((level + 1:Nat):Int)) fun e2=>if e2 != 0 then some e2 else r ()) (fin:=fun _=>some 0) (by omega) (fun k s i=>by rw [←hw]; rfl) ()
   have h16:decide ((16:Int) < (level:Int))=decide (16 < level):=by congr 1; simp; omega
   rw [ahx e hB,Ve (by omega),aiA e.keys (by omega),this,h16]
   by_cases h0:16 < level
   · simp [D5,h0]
   ·
    rw [Pd e.args 0 fun x hx=>(U2 n x (level + 1) (by have:=jl hx; omega) (by have:=jl hx; omega) (by omega)).2]
    unfold D5
    simp only [h0,decide_false,Bool.false_eq_true,if_false,ay]
    cases Ae e with
    | false=>simp
    | true=>
     simp only [Bool.not_true,Bool.false_eq_true,if_false]
     cases h1:(e.kind == 1 && (zB e.value 1 != 0)) with
     | true=>
      have:zB e.value 1≠0:=by simp at h1; exact h1.2
      simp [this]
     | false=>
      simp only [Bool.false_eq_true,if_false]
      by_cases h2:(1024:Int) < (e.args.length:Int)
      · simp [h2]
      ·
       simp only [h2,decide_false,Bool.false_eq_true,if_false]
       cases Rk [] e.keys <;> simp
def xval (e:aj):Int:=if 4096 < ecnt e then 15 else EO e 1
theorem Uz {e:aj} (h:e.bulk < 4611686018427387904):kQ e=some (xval e)∧F6 e=some (xval e):=by
 obtain ⟨n,hn,hn2⟩:=uW
 obtain ⟨c1,c2⟩:=count_eq h
 obtain ⟨v1,v2⟩:=U2 n e 1 (by omega) h (by omega)
 unfold kQ F6 xval Kz R5
 rw [c1,c2,hn]
 have:decide ((4096:Int) < (ecnt e:Int))=decide (4096 < ecnt e):=by congr 1; simp; omega
 simp only [ay,this]
 rw [show (1:Int)=((1:Nat):Int) from rfl,v1,v2]
 by_cases h4:4096 < ecnt e <;> simp [h4]
inductive Ty where
 | leaf (k:Int)
 | nest (k:Int) (t:Ty)
namespace Ty
def api :Ty→ak
 | leaf k=>⟨k,[]⟩
 | nest k t=>⟨k,[t.api]⟩
def wf :Ty→Prop
 | leaf k=>0≤k∧k≤7∧k≠5∧k≠6
 | nest k t=>(k=5∨k=6)∧t.wf
def dep :Ty→Nat
 | leaf _=>1
 | nest _ t=>1 + t.dep
def kind :Ty→Int
 | leaf k=>k
 | nest k _=>k
theorem oG (t:Ty):t.api.kind=t.kind:=by cases t <;> rfl
theorem Rm (t:Ty):1≤t.dep:=by cases t <;> simp [dep] <;> omega
end Ty
theorem VO {k:Int} (h:0≤k∧k≤7):∃ s,Av k=some s∧(s == ([]:Str))=false:=by
 obtain ⟨n,rfl⟩:∃ n:Nat,k=n:=⟨k.toNat,by omega⟩
 have hn:n < 8:=by omega
 match n,hn with
 | 0,_=>exact ⟨_,rfl,rfl⟩
 | 1,_=>exact ⟨_,rfl,rfl⟩
 | 2,_=>exact ⟨_,rfl,rfl⟩
 | 3,_=>exact ⟨_,rfl,rfl⟩
 | 4,_=>exact ⟨_,rfl,rfl⟩
 | 5,_=>exact ⟨_,rfl,rfl⟩
 | 6,_=>exact ⟨_,rfl,rfl⟩
 | 7,_=>exact ⟨_,rfl,rfl⟩
theorem ajJ {k:Int} (h:¬ (0≤k∧k≤7)):Av k=some []:=by
 unfold Av
 rw [if_pos (by simp; omega)]
theorem aiB :∀ (k level:Nat) (t:ak),18≤k + level→level≤17→∃ c,mQ k (level:Int) t=some c∧xw k t (level:Int)=some c∧(c=0→∃ T:Ty,T.wf∧t=T.api∧T.dep + level≤17)
 | 0,level,t,h,h'=>by omega
 | k + 1,level,t,h,h'=>by
  rw [mQ,xw,Iy]
  have h16:decide ((16:Int) < (level:Int))=decide (16 < level):=by congr 1; simp; omega
  rw [h16]
  by_cases h0:16 < level
  · exact ⟨13,by simp [h0],by simp [h0],by simp⟩
  ·
   simp only [h0,decide_false,Bool.false_eq_true,if_false]
   by_cases hk:0≤t.kind∧t.kind≤7
   ·
    obtain ⟨s,hs,hs2⟩:=VO hk
    have hb:(decide (t.kind < 0) || decide (7 < t.kind))=false:=by simp; omega
    rw [hs,hb]
    simp only [ay,hs2,jS,Df,Bool.false_eq_true,if_false]
    cases hn:((t.kind == 5) || (t.kind == 6)) with
    | false=>
     simp only [Bool.false_and,Bool.not_false,Bool.true_and,Bool.false_eq_true,if_false,ay,if_true]
     cases he:t.elem with
     | nil=>
      refine ⟨0,by simp,by simp,fun _=>⟨.leaf t.kind,?_,?_,?_⟩⟩
      · simp at hn; exact ⟨hk.1,hk.2,hn.1,hn.2⟩
      · cases t; simp at he; subst he; rfl
      · simp only [Ty.dep]; omega
     | cons x r=>exact ⟨1,by first | (simp; done) | (simp; omega),by first | (simp; done) | (simp; omega),by simp⟩
    | true=>
     simp only [Bool.true_and,Bool.not_true,Bool.false_and,ay,Bool.false_eq_true,if_false]
     have hnk:t.kind=5∨t.kind=6:=by simpa using hn
     match he:t.elem with
     | []=>exact ⟨1,by simp,by simp,by simp⟩
     | [x]=>
      obtain ⟨c,c1,c2,c3⟩:=aiB k (level + 1) x (by omega) (by omega)
      have hw:bZ ((level:Int) + 1)=((level + 1:Nat):Int):=zy (by omega)
      refine ⟨c,?_,?_,fun hc=>?_⟩
      · rw [hw,←c1]; simp [idx]
      · rw [hw,←c2]; simp [idx]
      ·
       obtain ⟨T,w1,w2,w3⟩:=c3 hc
       refine ⟨.nest t.kind T,⟨hnk,w1⟩,?_,?_⟩
       · cases t; simp at he; subst he; simp [Ty.api,w2]
       · simp only [Ty.dep]; omega
     | x :: y :: r=>
      have hl:(((x :: y :: r).length:Int) != 1)=true:=by simp only [List.length_cons,bne_iff_ne]; omega
      exact ⟨1,by simp only [hl,if_true,ay],by simp only [hl,if_true],by simp⟩
   ·
    have hb:(decide (t.kind < 0) || decide (7 < t.kind))=true:=by simp; omega
    rw [ajJ hk,hb]
    exact ⟨1,by simp,by simp,by simp⟩
theorem amB :∀ (T:Ty) (k level:Nat),T.wf→T.dep + level≤17→18≤k + level→mQ k (level:Int) T.api=some 0
 | .leaf a,0,level,_,h,h'=>by simp only [Ty.dep] at h; omega
 | .leaf a,k + 1,level,hw,h,h'=>by
  simp only [Ty.dep] at h
  have h16:decide ((16:Int) < (level:Int))=false:=decide_eq_false (by omega)
  obtain ⟨s,hs,hs2⟩:=VO (k:=a) ⟨hw.1,hw.2.1⟩
  have hn:((a == 5) || (a == 6))=false:=by simp; exact ⟨hw.2.2.1,hw.2.2.2⟩
  simp [mQ,h16,Ty.api,hs,beq_eq_false_iff_ne.1 hs2,jS,hn]
 | .nest a T,0,level,_,h,h'=>by simp only [Ty.dep] at h; have:=T.Rm; omega
 | .nest a T,k + 1,level,hw,h,h'=>by
  simp only [Ty.dep] at h
  have hd:=T.Rm
  have h16:decide ((16:Int) < (level:Int))=false:=decide_eq_false (by omega)
  have hn:((a == 5) || (a == 6))=true:=by simpa using hw.1
  obtain ⟨s,hs,hs2⟩:=VO (k:=a) (by rcases hw.1 with h | h <;> omega)
  have hw64:bZ ((level:Int) + 1)=((level + 1:Nat):Int):=zy (by omega)
  have:=amB T k (level + 1) hw.2 (by omega) (by omega)
  rw [←this,←hw64]
  simp [mQ,h16,Ty.api,hs,beq_eq_false_iff_ne.1 hs2,jS,hn,idx]
def R3 (t:ak):Int:=(lW t).getD 0
theorem Dz (t:ak):lW t=some (R3 t)∧yL t=some (R3 t)∧(R3 t=0→∃ T:Ty,T.wf∧t=T.api∧T.dep≤16):=by
 obtain ⟨c,c1,c2,c3⟩:=aiB BIG 1 t (by have:=jq; omega) (by omega)
 have e1:lW t=some c:=c1
 have e2:yL t=some c:=c2
 have:R3 t=c:=by unfold R3; rw [e1]; rfl
 rw [this]
 exact ⟨e1,e2,fun h=>by obtain ⟨T,a,b,d⟩:=c3 h; exact ⟨T,a,b,by omega⟩⟩
theorem aag {T:Ty} (h:T.wf) (hd:T.dep≤16):R3 T.api=0:=by
 have:=amB T BIG 1 h (by omega) (by have:=jq; omega)
 have e1:lW T.api=some 0:=this
 unfold R3; rw [e1]; rfl
theorem agA :∀ (T:Ty) (n:Nat),T.wf→T.dep≤n→pJ n T.api=some T.api
 | .leaf a,0,_,h=>by simp [Ty.dep] at h
 | .leaf a,n + 1,hw,h=>by
  have hn:((a == 5) || (a == 6))=false:=by simp; exact ⟨hw.2.2.1,hw.2.2.2⟩
  simp [pJ,w_,jS,Ty.api,hn,g_]
 | .nest a T,0,_,h=>by simp only [Ty.dep] at h; omega
 | .nest a T,n + 1,hw,h=>by
  simp only [Ty.dep] at h
  have hn:((a == 5) || (a == 6))=true:=by simpa using hw.1
  have:=agA T n hw.2 (by omega)
  simp [pJ,w_,jS,Ty.api,hn,qU,idx,this]
theorem EC {T:Ty} (h:T.wf) (hd:T.dep≤1000):Fb T.api=some T.api:=agA T BIG h (by have:=jq; omega)
def kZ :Ty→Ty→Ty
 | .leaf a,.leaf b=>if a=7 then .leaf b else if b=7 then .leaf a else if a=b then .leaf a else .leaf 0
 | .leaf a,.nest b y=>if a=7 then .nest b y else .leaf 0
 | .nest a x,.leaf b=>if b=7 then .nest a x else .leaf 0
 | .nest a x,.nest b y=>if a=b then .nest a (kZ x y) else .leaf 0
theorem Dm :∀ (a b:Ty),(kZ a b).dep≤max a.dep b.dep
 | .leaf a,.leaf b=>by
  rw [kZ]; repeat' split
  all_goals simp only [Ty.dep]; omega
 | .leaf a,.nest b y=>by
  rw [kZ]; split
  all_goals simp only [Ty.dep]; omega
 | .nest a x,.leaf b=>by
  rw [kZ]; split
  all_goals simp only [Ty.dep]; omega
 | .nest a x,.nest b y=>by
  have:=Dm x y
  rw [kZ]; split
  all_goals simp only [Ty.dep]; omega
theorem qw :∀ (a b:Ty),a.wf→b.wf→(kZ a b).wf
 | .leaf a,.leaf b,ha,hb=>by
  rw [kZ]; repeat' split
  · exact hb
  · exact ha
  · exact ha
  · simp [Ty.wf]
 | .leaf a,.nest b y,ha,hb=>by
  rw [kZ]; split
  · exact hb
  · simp [Ty.wf]
 | .nest a x,.leaf b,ha,hb=>by
  rw [kZ]; split
  · exact ha
  · simp [Ty.wf]
 | .nest a x,.nest b y,ha,hb=>by
  have:=qw x y ha.2 hb.2
  rw [kZ]; split
  · exact ⟨ha.1,this⟩
  · simp [Ty.wf]
theorem ajP :∀ (n:Nat) (a b:Ty),a.wf→b.wf→a.dep≤n→a.dep≤1000→b.dep≤1000→nD n a.api b.api=some (kZ a b).api∧tZ n a.api b.api=some (kZ a b).api
 | 0,a,b,_,_,h,_,_=>by have:=a.Rm; omega
 | n + 1,.leaf x,.leaf y,ha,hb,h,h1,h2=>by
  rw [nD,tY,tZ,Ai,kZ,EC ha h1,EC hb h2]
  have hn:((x == 5) || (x == 6))=false:=by simp; exact ⟨ha.2.2.1,ha.2.2.2⟩
  by_cases k1:x=7
  · simp [k1,Ty.api]
  ·
   by_cases k2:y=7
   · simp [k1,k2,Ty.api]
   ·
    by_cases k3:x=y
    · subst k3; simp [k1,Ty.api,jS,Df,hn,g_]
    · simp [k1,k2,k3,Ty.api,g_,kH]
 | n + 1,.leaf x,.nest y t,ha,hb,h,h1,h2=>by
  rw [nD,tY,tZ,Ai,kZ,EC ha h1,EC hb h2]
  have k2:¬ y=7:=by rcases hb.1 with h | h <;> omega
  have k3:¬ x=y:=by
   rintro rfl
   rcases hb.1 with h | h
   · exact ha.2.2.1 h
   · exact ha.2.2.2 h
  by_cases k1:x=7
  · simp [k1,Ty.api]
  · simp [k1,k2,k3,Ty.api,g_,kH]
 | n + 1,.nest x s,.leaf y,ha,hb,h,h1,h2=>by
  rw [nD,tY,tZ,Ai,kZ,EC ha h1,EC hb h2]
  have k1:¬ x=7:=by rcases ha.1 with h | h <;> omega
  have k3:¬ x=y:=by
   rintro rfl
   rcases ha.1 with h | h
   · exact hb.2.2.1 h
   · exact hb.2.2.2 h
  by_cases k2:y=7
  · simp [k1,k2,Ty.api]
  · simp [k1,k2,k3,Ty.api,g_,kH]
 | n + 1,.nest x s,.nest y t,ha,hb,h,h1,h2=>by
  rw [nD,tY,tZ,Ai,kZ,EC ha h1,EC hb h2]
  have k1:¬ x=7:=by rcases ha.1 with h | h <;> omega
  have k2:¬ y=7:=by rcases hb.1 with h | h <;> omega
  have hn:((x == 5) || (x == 6))=true:=by simp; exact ha.1
  simp only [Ty.dep] at h h1 h2
  obtain ⟨i1,i2⟩:=ajP n s t ha.2 hb.2 (by omega) (by omega) (by omega)
  by_cases k3:x=y
  · subst k3; simp [k1,Ty.api,jS,Df,hn,qU,kP,idx,i1,i2]
  · simp [k1,k2,k3,Ty.api,g_,kH]
theorem join_eq {a b:Ty} (ha:a.wf) (hb:b.wf) (h1:a.dep≤1000) (h2:b.dep≤1000):Ec a.api b.api=some (kZ a b).api∧MN a.api b.api=some (kZ a b).api:=
 ajP BIG a b ha hb (by have:=jq; omega) h1 h2
theorem Lg {a b:Ty} (ha:a.wf) (hb:b.wf) (h1:a.dep≤16) (h2:b.dep≤16):nW a.api b.api=some (kZ a b).api∧BA a.api b.api=some (kZ a b).api:=by
 unfold nW BA Im QJ
 rw [(Dz _).1,(Dz _).1,(Dz _).2.1,(Dz _).2.1,aag ha h1,aag hb h2]
 obtain ⟨j1,j2⟩:=join_eq ha hb (by omega) (by omega)
 simp [j1,j2]
end Go.Ft

namespace Go.Ft
open Go
attribute [local congr] dZ
def eF :Ty→Ty→Bool
 | .leaf a,.leaf b=>((a == 0) || (a == 7)) || (b == 0) || (a == b)
 | .leaf a,.nest _ _=>(a == 0) || (a == 7)
 | .nest _ _,.leaf b=>b == 0
 | .nest a x,.nest b y=>(a == b) && eF x y
theorem akj :∀ (n:Nat) (a b:Ty),a.wf→b.wf→a.dep≤n→jG n a.api b.api=some (eF a b)∧kG n a.api b.api=some (eF a b)
 | 0,a,b,_,_,h=>by have:=a.Rm; omega
 | n + 1,.leaf x,.leaf y,ha,hb,h=>by
  rw [jG,mX,kG,oH,eF]
  simp only [gI,iI,Ty.api,ay]
  by_cases k:(((x == 0) || (x == 7)) || (y == 0))=true
  · simp only [k,if_true,Bool.true_or,and_self]
  ·
   rw [Bool.not_eq_true] at k
   simp only [k,Bool.false_eq_true,if_false,Bool.false_or]
   by_cases hxy:x=y
   · subst hxy; simp
   · simp [hxy]
 | n + 1,.leaf x,.nest y t,ha,hb,h=>by
  rw [jG,mX,kG,oH,eF]
  have k2:(y == 0)=false:=by simp; rcases hb.1 with h | h <;> omega
  have k3:(x != y)=true:=by
   simp only [bne_iff_ne]
   rintro rfl
   rcases hb.1 with h | h
   · exact ha.2.2.1 h
   · exact ha.2.2.2 h
  simp only [gI,iI,Ty.api,ay,k2,k3,Bool.or_false]
  by_cases k:((x == 0) || (x == 7))=true
  · simp only [k,if_true,and_self]
  ·
   rw [Bool.not_eq_true] at k
   simp only [k,Bool.false_eq_true,if_false,if_true,and_self]
 | n + 1,.nest x s,.leaf y,ha,hb,h=>by
  rw [jG,mX,kG,oH,eF]
  have k1:((x == 0) || (x == 7))=false:=by simp; rcases ha.1 with h | h <;> omega
  have k3:(x != y)=true:=by
   simp only [bne_iff_ne]
   rintro rfl
   rcases ha.1 with h | h
   · exact hb.2.2.1 h
   · exact hb.2.2.2 h
  simp only [gI,iI,Ty.api,ay,k1,k3,Bool.false_or]
  by_cases k:(y == 0)=true
  · simp only [k,if_true,and_self]
  ·
   rw [Bool.not_eq_true] at k
   simp only [k,Bool.false_eq_true,if_false,if_true,and_self]
 | n + 1,.nest x s,.nest y t,ha,hb,h=>by
  rw [jG,mX,kG,oH,eF]
  have k1:((x == 0) || (x == 7))=false:=by simp; rcases ha.1 with h | h <;> omega
  have k2:(y == 0)=false:=by simp; rcases hb.1 with h | h <;> omega
  simp only [Ty.dep] at h
  obtain ⟨i1,i2⟩:=akj n s t ha.2 hb.2 (by omega)
  simp only [gI,iI,Ty.api,ay,k1,k2,Bool.false_or]
  by_cases hxy:x=y
  · subst hxy; simp [idx,i1,i2]
  · simp [hxy]
theorem nP {a b:Ty} (ha:a.wf) (hb:b.wf) (h:a.dep≤1000):jP a.api b.api=some (eF a b)∧fV a.api b.api=some (eF a b):=
 akj BIG a b ha hb (by have:=jq; omega)
def eB (t:Ty):Bool:=(t.kind == 0) || (t.kind == 7)
theorem kR (t:Ty):gI t.api=some (eB t)∧iI t.api=some (eB t):=by
 unfold gI iI eB; rw [Ty.oG]; exact ⟨rfl,rfl⟩
def ZT :ak:=ak.mk 0 []
def sc (k:Int):Ty:=.leaf k
theorem Tq {k:Int} (h:0≤k∧k≤7∧k≠5∧k≠6):(sc k).wf:=h
theorem of_eq (k:Int):gB k=some (sc k).api∧gL k=some (sc k).api∧kH k=some (sc k).api:=⟨rfl,rfl,rfl⟩
theorem ahm (k:Int) (t:Ty):nQ k t.api=some (Ty.nest k t).api∧kP k t.api=some (Ty.nest k t).api:=⟨rfl,rfl⟩
theorem qO {a:Ty} (ha:a.wf) (h:a.dep≤1000) {k:Int} (hk:0≤k∧k≤7∧k≠5∧k≠6):ig a.api k=some (eF a (sc k)):=by
 unfold ig
 rw [(of_eq k).2.1]
 exact (nP ha (Tq hk) h).2
theorem vK {k:Int} (h:k=0∨k=1∨k=2∨k=3∨k=4∨k=7):0≤k∧k≤7∧k≠5∧k≠6:=by omega
def Ie (x:Option (ak × Bool)):Option (ak × Int):=
 fM x fun x6 ok1=>if !ok1 then some (ZT,9) else au (yL x6) fun x7=>if x7 != 0 then some (ZT,13) else some (x6,0)
def RES (x y:Option (ak × Int)):Prop:=∃ (T:Ty) (c:Int),T.wf∧T.dep≤16∧(c≠0→T=sc 0)∧x=some (T.api,c)∧y=some (T.api,c)
theorem RES.mk {x:Option (ak × Int)} {y:Option (ak × Bool)} (T:Ty) (b:Bool) (hx:x=some (if b then (T.api,0) else (ZT,9))) (hy:y=some (T.api,b)) (hw:b=true→T.wf∧T.dep≤16):RES x (Ie y):=by
 subst hx hy
 unfold Ie
 cases b with
 | false=>exact ⟨sc 0,9,by simp [sc,Ty.wf],by simp [sc,Ty.dep],fun _=>rfl,rfl,rfl⟩
 | true=>
  obtain ⟨h1,h2⟩:=hw rfl
  refine ⟨T,0,h1,h2,fun h=>absurd rfl h,rfl,?_⟩
  simp only [bU,Bool.not_true,Bool.false_eq_true,if_false,(Dz _).2.1,aag h1 h2]
  rfl
theorem aeS {t:Ty} (h:t.wf) (hd:t.dep≤16) {e:aj} (he:e.kind=3) (r:List ak):RES (Cm t.api) (Ie (gN e (t.api :: r))):=by
 have i0:idx (t.api :: r) 0=some t.api:=rfl
 unfold Cm gN
 rw [(kR t).1]
 simp only [he,i0,ay,(kR t).2,Ty.oG]
 cases t with
 | leaf k=>
  have h6:(k == 6)=false:=by simp; exact h.2.2.2
  refine RES.mk (.leaf k) (eB (.leaf k)) ?_ ?_ (fun _=>⟨h,hd⟩)
  ·
   simp only [Ty.kind,h6,Bool.false_eq_true,if_false]
   cases eB (.leaf k) <;> rfl
  · simp [Ty.kind,h6]
 | nest k s=>
  have hl:eB (.nest k s)=false:=by unfold eB; simp [Ty.kind]; rcases h.1 with h | h <;> omega
  simp only [Ty.dep] at hd
  by_cases h6:k=6
  ·
   subst h6
   refine RES.mk s true ?_ ?_ (fun _=>⟨h.2,by omega⟩)
   · simp [hl,Ty.kind,Ty.api,idx]
   · simp [Ty.kind,Ty.api,idx]
  ·
   refine RES.mk (.nest k s) false ?_ ?_ (fun hh=>by cases hh)
   · simp [hl,Ty.kind,h6,ZT]
   · simp [Ty.kind,h6,hl]
theorem ahu {t i:Ty} (h:t.wf) (hd:t.dep≤16) (hi:i.wf) (hid:i.dep≤16) {e:aj} (he:e.kind=4) (r:List ak):RES (EF t.api i.api) (Ie (gN e (t.api :: i.api :: r))):=by
 have i0:idx (t.api :: i.api :: r) 0=some t.api:=rfl
 have i1:idx (t.api :: i.api :: r) 1=some i.api:=rfl
 unfold EF gN JF
 have c3:=nP hi (Tq (vK (k:=3) (by omega))) (by omega)
 have c4:=nP hi (Tq (vK (k:=4) (by omega))) (by omega)
 simp only [he,i0,i1,ay,(kR t).1,(kR t).2,Ty.oG,(of_eq _).1,c3.1,c4.1,qO hi (by omega) (vK (k:=3) (by omega)),qO hi (by omega) (vK (k:=4) (by omega))]
 generalize eF i (sc 3)=n3
 generalize eF i (sc 4)=n4
 cases t with
 | leaf k=>
  have h5:(k == 5)=false:=by simp; exact h.2.2.1
  have h6:(k == 6)=false:=by simp; exact h.2.2.2
  refine RES.mk (.leaf k) (eB (.leaf k) && (n3 || n4)) ?_ ?_ (fun _=>⟨h,hd⟩)
  ·
   simp only [Ty.kind,h5,h6,Bool.false_and,Bool.false_eq_true,if_false]
   cases eB (.leaf k) <;> cases n3 <;> cases n4 <;> rfl
  ·
   simp only [Ty.kind,h5,h6,Bool.false_eq_true,if_false]
   cases eB (.leaf k) <;> cases n3 <;> cases n4 <;> simp
 | nest k s=>
  have hl:eB (.nest k s)=false:=by unfold eB; simp [Ty.kind]; rcases h.1 with h | h <;> omega
  simp only [Ty.dep] at hd
  rcases h.1 with h5 | h6
  ·
   subst h5
   refine RES.mk s n3 ?_ ?_ (fun _=>⟨h.2,by omega⟩)
   ·
    simp only [hl,Ty.kind,Ty.api]
    cases n3 <;> simp [idx,ZT]
   · simp [Ty.kind,Ty.api,idx]
  ·
   subst h6
   refine RES.mk s n4 ?_ ?_ (fun _=>⟨h.2,by omega⟩)
   ·
    simp only [hl,Ty.kind,Ty.api]
    cases n4 <;> simp [idx,ZT]
   · simp [Ty.kind,Ty.api,idx]
theorem agT {t:Ty} (h:t.wf) (hd:t.dep≤16) {e:aj} (he:e.kind=6) (r:List ak):RES (ED e.name t.api) (Ie (gN e (t.api :: r))):=by
 have i0:idx (t.api :: r) 0=some t.api:=rfl
 have c3:=nP h (Tq (vK (k:=3) (by omega))) (by omega)
 have c2:=nP h (Tq (vK (k:=2) (by omega))) (by omega)
 unfold ED gN
 simp only [he,i0,ay,(of_eq _).1,(of_eq _).2.1,c3.1,c2.1,qO h (by omega) (vK (k:=3) (by omega)),qO h (by omega) (vK (k:=2) (by omega))]
 cases hop:(e.name == ([33]:Str)) with
 | true=>
  refine RES.mk (sc 2) (eF t (sc 2)) ?_ ?_ (fun _=>⟨by simp [sc,Ty.wf],by simp [sc,Ty.dep]⟩)
  · simp only [if_true]; cases eF t (sc 2) <;> rfl
  · simp
 | false=>
  refine RES.mk (sc 3) (eF t (sc 3)) ?_ ?_ (fun _=>⟨by simp [sc,Ty.wf],by simp [sc,Ty.dep]⟩)
  · simp only [Bool.false_eq_true,if_false]; cases eF t (sc 3) <;> rfl
  · simp
theorem aki {a b c:Ty} (ha:a.wf) (had:a.dep≤16) (hb:b.wf) (hbd:b.dep≤16) (hc:c.wf) (hcd:c.dep≤16) {e:aj} (he:e.kind=8) (r:List ak):
  RES (au (gB 2) fun RP=>au (jP a.api RP) fun RO=>if !RO then some ((ak.mk 0 []),9) else au (nW b.api c.api) fun LP=>some (LP,0)) (Ie (gN e (a.api :: b.api :: c.api :: r))):=by
 have i0:idx (a.api :: b.api :: c.api :: r) 0=some a.api:=rfl
 have i1:idx (a.api :: b.api :: c.api :: r) 1=some b.api:=rfl
 have i2:idx (a.api :: b.api :: c.api :: r) 2=some c.api:=rfl
 have c2:=nP ha (Tq (vK (k:=2) (by omega))) (by omega)
 have j:=Lg hb hc hbd hcd
 have hjd:=Dm b c
 refine RES.mk (kZ b c) (eF a (sc 2)) ?_ ?_ (fun _=>⟨qw b c hb hc,by omega⟩)
 ·
  simp only [(of_eq _).1,ay,c2.1,j.1]
  cases eF a (sc 2) <;> rfl
 ·
  unfold gN
  simp [he,i0,i1,i2,j.2,qO ha (by omega) (vK (k:=2) (by omega))]
end Go.Ft

namespace Go.Ft
open Go
attribute [local congr] dZ
def cmB (a b:Ty) (k:Int):Bool:=(((eB a || (a.kind == k)) && (eB b || (b.kind == k))) && ((a.kind == k) || (b.kind == k)))
def PG (a b:Ty):Int:=if eB a then b.kind else if eB b || (a.kind == b.kind) then a.kind else -1
theorem SG (a b:Ty) (k:Int):jy a.api b.api k=some (cmB a b k):=by
 unfold jy cmB
 rw [(kR a).1,(kR b).1,Ty.oG,Ty.oG]
 simp only [ay]
 cases (eB a || (a.kind == k)) <;> simp
theorem Kq (a b:Ty):rD a.api b.api=some (PG a b):=by
 unfold rD PG
 rw [(kR a).2,(kR b).2,Ty.oG,Ty.oG]
 simp only [ay]
 cases eB a
 · simp only [Bool.false_eq_true,if_false]; split <;> rfl
 · rfl
theorem WM {a b:Ty} (h:(eB a && eB b)=false) {k:Int} (hk:k≠0∧k≠7∧0≤k):cmB a b k=(PG a b == k):=by
 unfold cmB PG eB at *
 generalize a.kind=x at *
 generalize b.kind=y at *
 rw [Bool.eq_iff_iff]
 simp only [Bool.and_eq_false_iff,Bool.or_eq_false_iff,beq_eq_false_iff_ne] at h
 by_cases h1:x=0∨x=7
 ·
  have e:((x == 0) || (x == 7))=true:=by simpa using h1
  simp only [e,if_true,Bool.true_or,Bool.true_and,Bool.and_eq_true,Bool.or_eq_true,beq_iff_eq]
  omega
 ·
  have e:((x == 0) || (x == 7))=false:=by simpa using h1
  simp only [e,Bool.false_eq_true,if_false,Bool.false_or]
  by_cases h2:y=0∨y=7
  ·
   have e2:((y == 0) || (y == 7))=true:=by simpa using h2
   simp only [e2,Bool.true_or,if_true,Bool.and_true,Bool.and_eq_true,Bool.or_eq_true,beq_iff_eq]
   omega
  ·
   have e2:((y == 0) || (y == 7))=false:=by simpa using h2
   simp only [e2,Bool.false_or]
   by_cases h3:x=y
   · simp only [h3,beq_self_eq_true,if_true,Bool.and_eq_true,Bool.or_eq_true,beq_iff_eq]; omega
   ·
    have e3:(x == y)=false:=by simpa using h3
    simp only [e3,Bool.false_eq_true,if_false,Bool.and_eq_true,Bool.or_eq_true,beq_iff_eq]; omega
def WA :Ty→Ty
 | .leaf k=>.leaf k
 | .nest _ t=>t
theorem Dj {t:Ty} (h:t.wf) (hl:eB t=true):t=sc t.kind∧(t.kind=0∨t.kind=7):=by
 unfold eB at hl
 simp only [Bool.or_eq_true,beq_iff_eq] at hl
 cases t with
 | leaf k=>exact ⟨rfl,hl⟩
 | nest k s=>simp only [Ty.kind] at hl; rcases h.1 with h | h <;> omega
theorem agw {t:Ty} (h:eB t=true∨t.kind=5) (hw:t.wf) (hd:t.dep≤16):wu t.api=some (WA t).api∧AJ t.api=some (WA t).api∧(WA t).wf∧(WA t).dep≤15:=by
 unfold wu AJ
 rw [(kR t).1,(kR t).2]
 simp only [ay]
 cases t with
 | leaf k=>
  have hl:eB (.leaf k)=true:=by
   rcases h with h | h
   · exact h
   · simp only [Ty.kind] at h; exact absurd h hw.2.2.1
  rw [hl]
  exact ⟨rfl,rfl,hw,by simp [WA,Ty.dep]⟩
 | nest k s=>
  have hl:eB (.nest k s)=false:=by unfold eB; simp [Ty.kind]; rcases hw.1 with h | h <;> omega
  rw [hl]
  simp only [Ty.dep] at hd
  exact ⟨by simp [Ty.api,idx,WA],by simp [Ty.api,idx,WA],hw.2,by simp only [WA]; omega⟩
theorem alj {a b:Ty} (ha:a.wf) (had:a.dep≤16) (hb:b.wf) (hbd:b.dep≤16):RES (J5 a.api b.api) (Ie (Ir a.api b.api)):=by
 unfold J5 Ir
 rw [(kR a).1,(kR a).2,(kR b).1,(kR b).2,Ty.oG,Ty.oG]
 simp only [ay]
 have hone:(if eB a=true then some (eB b) else some false)=some (eB a && eB b):=by cases eB a <;> rfl
 rw [hone]
 simp only [ay]
 cases hl:(eB a && eB b) with
 | true=>
  simp only [Bool.and_eq_true] at hl
  obtain ⟨a1,a2⟩:=Dj ha hl.1
  obtain ⟨b1,b2⟩:=Dj hb hl.2
  rcases a2 with a2 | a2
  ·
   rw [a2] at a1
   subst a1
   exact RES.mk (sc 0) true rfl rfl (fun _=>⟨ha,had⟩)
  ·
   rw [a2] at a1
   subst a1
   rcases b2 with b2 | b2
   ·
    rw [b2] at b1
    subst b1
    exact RES.mk (sc 0) true rfl rfl (fun _=>⟨hb,hbd⟩)
   ·
    rw [b2] at b1
    subst b1
    exact RES.mk (sc 7) true rfl rfl (fun _=>⟨hb,hbd⟩)
 | false=>
  simp only [Bool.false_eq_true,if_false,SG,Kq,ay]
  rw [WM hl (k:=3) (by omega),WM hl (k:=4) (by omega),WM hl (k:=5) (by omega)]
  by_cases k5:PG a b=5
  ·
   have ea:eB a=true∨a.kind=5:=by
    unfold PG at k5
    cases h:eB a with
    | true=>exact .inl rfl
    | false=>
     rw [h] at k5
     simp only [Bool.false_eq_true,if_false] at k5
     split at k5
     · exact .inr k5
     · omega
   have eb:eB b=true∨b.kind=5:=by
    unfold PG at k5
    cases h:eB b with
    | true=>exact .inl rfl
    | false=>
     rw [h] at k5
     cases h2:eB a with
     | true=>rw [h2] at k5; exact .inr (by simpa using k5)
     | false=>
      rw [h2] at k5
      simp only [Bool.false_eq_true,if_false,Bool.false_or] at k5
      split at k5
      · rename_i h3; right; simp only [beq_iff_eq] at h3; omega
      · omega
   obtain ⟨x1,x2,x3,x4⟩:=agw ea ha had
   obtain ⟨y1,y2,y3,y4⟩:=agw eb hb hbd
   have j:=Lg x3 y3 (by omega) (by omega)
   have jd:=Dm (WA a) (WA b)
   refine RES.mk (.nest 5 (kZ (WA a) (WA b))) true ?_ ?_ (fun _=>⟨⟨.inl rfl,qw _ _ x3 y3⟩,by simp only [Ty.dep]; omega⟩)
   · simp [k5,x1,y1,j.1,nQ,Ty.api]
   · simp [k5,x2,y2,j.2,kP,Ty.api]
  ·
   refine RES.mk (sc (PG a b)) ((PG a b == 3) || (PG a b == 4)) ?_ ?_ (fun hh=>⟨?_,by simp [sc,Ty.dep]⟩)
   ·
    by_cases k3:PG a b=3
    · simp [k3,gB,sc,Ty.api]
    ·
     by_cases k4:PG a b=4
     · simp [k4,gB,sc,Ty.api]
     · simp [k3,k4,k5,ZT]
   · simp [k5,gL,kH,sc,Ty.api]
   ·
    simp only [Bool.or_eq_true,beq_iff_eq] at hh
    simp only [sc,Ty.wf]; omega
def opsL :List Str:=[[38,38],[124,124],[61,61],[33,61],[60],[60,61],[62],[62,61],[45],[42],[47],[37],[43]]
theorem Vk {s:Str} (h:0 < Qv s):s∈opsL:=by
 unfold Qv iZ at h
 unfold opsL
 by_cases h1:s=[124,124]
 · simp [h1]
 by_cases h2:s=[38,38]
 · simp [h2]
 by_cases h3:s=[61,61]
 · simp [h3]
 by_cases h4:s=[33,61]
 · simp [h4]
 by_cases h5:s=[60]
 · simp [h5]
 by_cases h6:s=[60,61]
 · simp [h6]
 by_cases h7:s=[62]
 · simp [h7]
 by_cases h8:s=[62,61]
 · simp [h8]
 by_cases h9:s=[43]
 · simp [h9]
 by_cases h10:s=[45]
 · simp [h10]
 by_cases h11:s=[42]
 · simp [h11]
 by_cases h12:s=[47]
 · simp [h12]
 by_cases jJ:s=[37]
 · simp [jJ]
 simp [h1,h2,h3,h4,h5,h6,h7,h8,h9,h10,h11,h12,jJ] at h
theorem agF {a b:Ty} (ha:a.wf) (had:a.dep≤16) (hb:b.wf) (hbd:b.dep≤16) {k:Int} (hk:0≤k∧k≤7∧k≠5∧k≠6):kC k a.api b.api=some (eF a (sc k) && eF b (sc k)):=by
 unfold kC
 rw [(of_eq k).1]
 simp only [ay,(nP ha (Tq hk) (by omega)).1,(nP hb (Tq hk) (by omega)).1]
 cases eF a (sc k) <;> rfl
theorem afv {a b:Ty} (ha:a.wf) (had:a.dep≤16) (hb:b.wf) (hbd:b.dep≤16) {op:Str} (hop:op∈opsL):RES (FJ op a.api b.api) (Ie (nJ op a.api b.api)):=by
 have b2:=agF ha had hb hbd (vK (k:=2) (by omega))
 have b3:=agF ha had hb hbd (vK (k:=3) (by omega))
 have ia2:=qO ha (by omega) (vK (k:=2) (by omega))
 have ib2:=qO hb (by omega) (vK (k:=2) (by omega))
 have ia3:=qO ha (by omega) (vK (k:=3) (by omega))
 have ib3:=qO hb (by omega) (vK (k:=3) (by omega))
 have w2:(sc 2).wf∧(sc 2).dep≤16:=⟨by simp [sc,Ty.wf],by simp [sc,Ty.dep]⟩
 have w3:(sc 3).wf∧(sc 3).dep≤16:=⟨by simp [sc,Ty.wf],by simp [sc,Ty.dep]⟩
 have hone:∀ p q:Bool,(if p=true then some q else some false)=some (p && q):=by intro p q; cases p <;> rfl
 have rel:∀ (x:Option (ak × Int)) (y:Option (ak × Bool)),
   x=(au (gI a.api) fun x7=>au (if x7 then gI b.api else some false) fun b2=>au (if b2 then some true else jy a.api b.api 3) fun b3=>au (if b3 then some true else jy a.api b.api 4) fun b4=>
    if b4 then au (gB 2) fun H8=>some (H8,0) else some ((ak.mk 0 []),9))→
   y=(au (rD a.api b.api) fun rV=>au (gL 2) fun x9=>au (iI a.api) fun wS=>au (if wS then iI b.api else some false) fun b4=>some (x9,((b4 || (rV == 3)) || (rV == 4))))→RES x (Ie y):=by
  intro x y hx hy
  rw [hx,hy,(kR a).1,(kR a).2,(kR b).1,(kR b).2,SG,SG,Kq,(of_eq 2).1,(of_eq 2).2.1]
  simp only [ay,hone]
  refine RES.mk (sc 2) (((eB a && eB b) || (PG a b == 3)) || (PG a b == 4)) ?_ rfl (fun _=>w2)
  cases hl:(eB a && eB b) with
  | true=>rfl
  | false=>
   rw [WM hl (k:=3) (by omega),WM hl (k:=4) (by omega)]
   cases (PG a b == 3) <;> cases (PG a b == 4) <;> rfl
 have lg:∀ (x:Option (ak × Int)) (y:Option (ak × Bool)),
   x=(au (kC 2 a.api b.api) fun x1=>if x1 then au (gB 2) fun x2=>some (x2,0) else some ((ak.mk 0 []),9))→
   y=(au (gL 2) fun x1=>au (ig a.api 2) fun x2=>au (if x2 then ig b.api 2 else some false) fun b2=>some (x1,b2))→RES x (Ie y):=by
  intro x y hx hy
  rw [hx,hy,b2,ia2,ib2,(of_eq 2).1,(of_eq 2).2.1]
  simp only [ay,hone]
  refine RES.mk (sc 2) (eF a (sc 2) && eF b (sc 2)) ?_ rfl (fun _=>w2)
  cases (eF a (sc 2) && eF b (sc 2)) <;> rfl
 have ar:∀ (x:Option (ak × Int)) (y:Option (ak × Bool)),
   x=(au (kC 3 a.api b.api) fun x1=>if x1 then au (gB 3) fun x2=>some (x2,0) else some ((ak.mk 0 []),9))→
   y=(au (gL 3) fun x1=>au (ig a.api 3) fun x2=>au (if x2 then ig b.api 3 else some false) fun b2=>some (x1,b2))→RES x (Ie y):=by
  intro x y hx hy
  rw [hx,hy,b3,ia3,ib3,(of_eq 3).1,(of_eq 3).2.1]
  simp only [ay,hone]
  refine RES.mk (sc 3) (eF a (sc 3) && eF b (sc 3)) ?_ rfl (fun _=>w3)
  cases (eF a (sc 3) && eF b (sc 3)) <;> rfl
 have eqq:∀ (x:Option (ak × Int)) (y:Option (ak × Bool)),x=(au (gB 2) fun x5=>some (x5,0))→y=(au (gL 2) fun x7=>some (x7,true))→RES x (Ie y):=by
  intro x y hx hy
  exact RES.mk (sc 2) true (by rw [hx]; rfl) (by rw [hy]; rfl) (fun _=>w2)
 simp only [opsL,List.mem_cons,List.not_mem_nil,or_false] at hop
 rcases hop with rfl | rfl | rfl | rfl | rfl | rfl | rfl | rfl | rfl | rfl | rfl | rfl | rfl
 · exact lg _ _ rfl rfl
 · exact lg _ _ rfl rfl
 · exact eqq _ _ rfl rfl
 · exact eqq _ _ rfl rfl
 · exact rel _ _ rfl rfl
 · exact rel _ _ rfl rfl
 · exact rel _ _ rfl rfl
 · exact rel _ _ rfl rfl
 · exact ar _ _ rfl rfl
 · exact ar _ _ rfl rfl
 · exact ar _ _ rfl rfl
 · exact ar _ _ rfl rfl
 · exact alj ha had hb hbd
def A9 :Ty→List Ty→Ty
 | t,[]=>t
 | t,x :: r=>A9 (kZ t x) r
theorem ada :∀ (l:List Ty) (t:Ty),t.wf→t.dep≤16→(∀ x∈l,x.wf∧x.dep≤16)→(A9 t l).wf∧(A9 t l).dep≤16
 | [],t,h,hd,_=>⟨h,hd⟩
 | x :: r,t,h,hd,hl=>by
  have hx:=hl x (by simp)
  have jd:=Dm t x
  exact ada r (kZ t x) (qw t x h hx.1) (by omega) fun y hy=>hl y (by simp [hy])
theorem Zt {K:ak→Option (ak × Int)}:∀ (l:List Ty) (t:Ty) (i:Nat),t.wf→t.dep≤16→(∀ x∈l,x.wf∧x.dep≤16)→
  dG (fun _ e1 (kg:ak) r=>au (nW kg e1) fun x3=>r x3) K i (l.map Ty.api) t.api=K (A9 t l).api
 | [],t,i,_,_,_=>rfl
 | x :: r,t,i,h,hd,hl=>by
  have hx:=hl x (by simp)
  have jd:=Dm t x
  rw [List.map_cons,dG,(Lg h hx.1 hd hx.2).1]
  simp only [ay]
  exact Zt r (kZ t x) (i + 1) (qw t x h hx.1) (by omega) fun y hy=>hl y (by simp [hy])
theorem Zh {K:ak→Option (ak × Bool)}:∀ (l:List Ty) (t:Ty) (i:Nat),t.wf→t.dep≤16→(∀ x∈l,x.wf∧x.dep≤16)→
  dG (fun _ e1 (kg:ak) r=>au (BA kg e1) fun x3=>r x3) K i (l.map Ty.api) t.api=K (A9 t l).api
 | [],t,i,_,_,_=>rfl
 | x :: r,t,i,h,hd,hl=>by
  have hx:=hl x (by simp)
  have jd:=Dm t x
  rw [List.map_cons,dG,(Lg h hx.1 hd hx.2).2]
  simp only [ay]
  exact Zh r (kZ t x) (i + 1) (qw t x h hx.1) (by omega) fun y hy=>hl y (by simp [hy])
theorem Q7 {l:List Ty} (hl:∀ x∈l,x.wf∧x.dep≤16) (hn:l.length < 4611686018427387904) {k:Int} (hk:k=5∨k=6) {y:Option (ak × Bool)} (hy:y=some ((Ty.nest k (A9 (sc 7) l)).api,true)):
  RES (uS k (l.map Ty.api)) (Ie y):=by
 have w7:(sc 7).wf∧(sc 7).dep≤16:=⟨by simp [sc,Ty.wf],by simp [sc,Ty.dep]⟩
 obtain ⟨f1,f2⟩:=ada l (sc 7) w7.1 w7.2 hl
 unfold uS
 rw [(of_eq 7).1]
 simp only [ay]
 have:=dH (F:=fun n s i=>tF k (l.map Ty.api) n i s) (l:=l.map Ty.api) (body:=fun _ e1 (kg:ak) r=>au (nW kg e1) fun x3=>r x3)
  (fin:=fun kg=>au (nQ k kg) fun x4=>au (lW x4) fun x5=>if x5 != 0 then some (ZT,13) else some (x4,0)) (by simpa using hn) (fun n s i=>rfl) (sc 7).api
 rw [this,Zt l (sc 7) 0 w7.1 w7.2 hl,hy]
 unfold Ie
 rw [(ahm k _).1]
 simp only [ay,bU,Bool.not_true,Bool.false_eq_true,if_false]
 obtain ⟨t1,t2,t3⟩:=Dz (Ty.nest k (A9 (sc 7) l)).api
 rw [t1,t2]
 simp only [ay]
 by_cases hc:R3 (Ty.nest k (A9 (sc 7) l)).api=0
 ·
  obtain ⟨T,q1,q2,q3⟩:=t3 hc
  exact ⟨T,0,q1,q3,fun h=>absurd rfl h,by rw [hc,←q2]; rfl,by rw [hc,←q2]; rfl⟩
 · exact ⟨sc 0,13,by simp [sc,Ty.wf],by simp [sc,Ty.dep],fun _=>rfl,by rw [if_pos (by simpa using hc)]; rfl,by rw [if_pos (by simpa using hc)]; rfl⟩
theorem Oe {l:List Ty} (hl:∀ x∈l,x.wf∧x.dep≤16) (hn:l.length < 4611686018427387904) {e:aj} (he:e.kind=9∨e.kind=10):
  gN e (l.map Ty.api)=some ((Ty.nest (if e.kind=10 then 6 else 5) (A9 (sc 7) l)).api,true):=by
 have w7:(sc 7).wf∧(sc 7).dep≤16:=⟨by simp [sc,Ty.wf],by simp [sc,Ty.dep]⟩
 unfold gN
 have:=dH (F:=fun n s i=>Ei e (l.map Ty.api) n i s) (l:=l.map Ty.api) (body:=fun _ e1 (kg:ak) r=>au (BA kg e1) fun x3=>r x3)
  (fin:=fun t1=>if e.kind == 10 then (au (kP 6 t1) fun LP=>some (LP,true)) else (au (kP 5 t1) fun XD=>some (XD,true))) (by simpa using hn) (fun n s i=>rfl) (sc 7).api
 rw [(of_eq 7).2.1]
 simp only [ay]
 rw [this,Zh l (sc 7) 0 w7.1 w7.2 hl]
 rcases he with he | he <;> simp [he,kP,Ty.api]
end Go.Ft

namespace Go.Ft
open Go
attribute [local congr] dZ
theorem ao6 :∃ n,BIG=n + 4:=⟨BIG - 4,by decide⟩
theorem ain :bZ (0 + 1)=1:=by decide
theorem anj :bZ (1 + 1)=2:=by decide
theorem ant {a w:Ty} (ha:a.wf) (had:a.dep≤16) (hw:w.wf):tC [a.api] [w.api]=some (eF a w):=by
 obtain ⟨n,hn⟩:=ao6
 unfold tC
 rw [hn]
 have i0:∀ x:Ty,idx [x.api] 0=some x.api:=fun _=>rfl
 simp only [uR,i0,ay,(nP ha hw (by omega)).1,ain]
 cases eF a w <;> simp
theorem aiK {a b w v:Ty} (ha:a.wf) (had:a.dep≤16) (hb:b.wf) (hbd:b.dep≤16) (hw:w.wf) (hv:v.wf):tC [a.api,b.api] [w.api,v.api]=some (eF a w && eF b v):=by
 obtain ⟨n,hn⟩:=ao6
 unfold tC
 rw [hn]
 have i0:∀ x y:Ty,idx [x.api,y.api] 0=some x.api:=fun _ _=>rfl
 have i1:∀ x y:Ty,idx [x.api,y.api] 1=some y.api:=fun _ _=>rfl
 simp only [uR,i0,i1,ay,(nP ha hw (by omega)).1,(nP hb hv (by omega)).1,ain,anj]
 cases eF a w <;> cases eF b v <;> simp
theorem am_ {e:aj} {alts:List (List ak)} {x:ak} {ts:List ak} (hl:alts.length < 4611686018427387904) (hne:(e.name == ([100,101,102,97,117,108,116]:Str))=false) (bs:List Bool)
  (h:alts.map (tC ts)=bs.map some):pq e alts x ts BIG 0=some (if bs.any id then (x,0) else (ZT,9)):=by
 have:=dH (F:=fun k (_:Unit) i=>pq e alts x ts k i) (l:=alts) (body:=fun _ D7 _ r=>au (tC ts D7) fun x3=>if !x3 then r () else if !(e.name == ([100,101,102,97,117,108,116]:Str)) then some (x,0) else
   au (idx ts 0) fun e3=>if e3.kind == 1 then au (idx ts 1) fun e4=>some (e4,0) else au (idx ts 0) fun e5=>some (e5,0)) (fin:=fun _=>some (ZT,9)) hl (fun k s i=>rfl) ()
 rw [this]
 clear this hl
 simp only [hne,Bool.not_false,if_true]
 generalize 0=i
 induction alts generalizing bs i with
 | nil=>
  cases bs with
  | nil=>rfl
  | cons b bs=>simp at h
 | cons w alts ih=>
  cases bs with
  | nil=>simp at h
  | cons b bs=>
   simp only [List.map_cons,List.cons.injEq] at h
   rw [dG,h.1]
   simp only [ay,List.any_cons,id]
   cases b with
   | true=>simp
   | false=>
    simp only [Bool.not_false,if_true,Bool.false_or]
    exact ih bs h.2 (i + 1)
theorem ado (a:Ty):eF a (sc 0)=true:=by
 cases a <;> simp [sc,eF]
theorem any_ok {k:Int} (h:0≤k∧k≤7∧k≠5∧k≠6):(sc k).wf∧(sc k).dep≤16:=⟨h,by simp [sc,Ty.dep]⟩
theorem wL {k j:Int} (hk:k=5∨k=6) (h:0≤j∧j≤7∧j≠5∧j≠6):(Ty.nest k (sc j)).wf∧(Ty.nest k (sc j)).dep≤16:=⟨⟨hk,h⟩,by simp [sc,Ty.dep]⟩
def yx (name:Str) (n:Nat):Prop:=∃ (alts:List (List ak)) (x:ak) (w:List ak) (r:List (List ak)),kJ name=some (alts,x)∧alts=w :: r∧w.length=n∧rE name=some (n:Int)∧
 ∀ (e:aj) (Ts:List Ty),e.name=name→Ts.length=n→(∀ t∈Ts,t.wf∧t.dep≤16)→RES (pq e alts x (Ts.map Ty.api) BIG 0) (Ie (gY name (Ts.map Ty.api)))
theorem agC {name:Str} {alts:List Ty} {X:Ty} (hs:kJ name=some (alts.map fun w=>[w.api],X.api)) (hne:alts≠[]) (hA:rE name=some 1) (hw:∀ w∈alts,w.wf) (hX:X.wf∧X.dep≤16) (hd:(name == ([100,101,102,97,117,108,116]:Str))=false)
  (hl:alts.length < 100)
  (hr:∀ a:Ty,a.wf→a.dep≤16→gY name [a.api]=some (X.api,(alts.map (eF a)).any id)):yx name 1:=by
 obtain ⟨w0,r0,h0⟩:∃ w0 r0,alts=w0 :: r0:=by
  cases alts with
  | nil=>exact absurd rfl hne
  | cons a b=>exact ⟨a,b,rfl⟩
 refine ⟨_,_,[w0.api],r0.map fun w=>[w.api],hs,by rw [h0]; rfl,rfl,hA,?_⟩
 intro e Ts hn hlen hT
 match Ts,hlen with
 | [a],_=>
  obtain ⟨a1,a2⟩:=hT a (by simp)
  simp only [List.map_cons,List.map_nil]
  refine RES.mk X ((alts.map (eF a)).any id) ?_ (hr a a1 a2) (fun _=>hX)
  rw [am_ (by simp; omega) (by rw [hn]; exact hd) (alts.map (eF a)) ?_]
  ·
   simp only [List.map_map,Function.comp_def]
   refine List.map_congr_left fun w hwm=>?_
   exact ant a1 a2 (hw w hwm)
theorem akq {name:Str} {alts:List (Ty × Ty)} {X:Ty} (hs:kJ name=some (alts.map fun w=>[w.1.api,w.2.api],X.api)) (hne:alts≠[]) (hA:rE name=some 2) (hw:∀ w∈alts,w.1.wf∧w.2.wf) (hX:X.wf∧X.dep≤16) (hd:(name == ([100,101,102,97,117,108,116]:Str))=false)
  (hl:alts.length < 100)
  (hr:∀ a b:Ty,a.wf→a.dep≤16→b.wf→b.dep≤16→gY name [a.api,b.api]=some (X.api,(alts.map fun w=>eF a w.1 && eF b w.2).any id)):yx name 2:=by
 obtain ⟨w0,r0,h0⟩:∃ w0 r0,alts=w0 :: r0:=by
  cases alts with
  | nil=>exact absurd rfl hne
  | cons a b=>exact ⟨a,b,rfl⟩
 refine ⟨_,_,[w0.1.api,w0.2.api],r0.map fun w=>[w.1.api,w.2.api],hs,by rw [h0]; rfl,rfl,hA,?_⟩
 intro e Ts hn hlen hT
 match Ts,hlen with
 | [a,b],_=>
  obtain ⟨a1,a2⟩:=hT a (by simp)
  obtain ⟨b1,b2⟩:=hT b (by simp)
  simp only [List.map_cons,List.map_nil]
  refine RES.mk X ((alts.map fun w=>eF a w.1 && eF b w.2).any id) ?_ (hr a b a1 a2 b1 b2) (fun _=>hX)
  rw [am_ (by simp; omega) (by rw [hn]; exact hd) (alts.map fun w=>eF a w.1 && eF b w.2) ?_]
  ·
   simp only [List.map_map,Function.comp_def]
   refine List.map_congr_left fun w hwm=>?_
   exact aiK a1 a2 b1 b2 (hw w hwm).1 (hw w hwm).2
theorem arw (a b:Ty):idx [a.api,b.api] 0=some a.api:=rfl
theorem arv (a b:Ty):idx [a.api,b.api] 1=some b.api:=rfl
theorem aaO (p:Bool) (q:Bool):(if p=true then some true else some q)=some (p || q):=by cases p <;> rfl
theorem yZ (p:Bool) (q:Bool):(if p=true then some q else some false)=some (p && q):=by cases p <;> rfl
theorem ako :yx [108,101,110] 1:=
 agC (alts:=[sc 4,.nest 5 (sc 0),.nest 6 (sc 0)]) (X:=sc 3) rfl (by simp) rfl (by simp [sc,Ty.wf]) (any_ok (by omega)) rfl (by simp) fun a h hd=>by
  have i4:=qO h (by omega) (vK (k:=4) (by omega))
  have l5:=(nP h (wL (k:=5) (j:=0) (by omega) (by omega)).1 (by omega)).2
  have l6:=(nP h (wL (k:=6) (j:=0) (by omega) (by omega)).1 (by omega)).2
  rw [show gY [108,101,110] [a.api]=au (ig a.api 4) fun x3=>au (if x3 then some true else fV a.api (Ty.nest 5 (sc 0)).api) fun b1=>au (if b1 then some true else fV a.api (Ty.nest 6 (sc 0)).api) fun b2=>some ((sc 3).api,b2) from rfl,i4,l5,l6]
  simp only [ay,aaO,List.map_cons,List.map_nil,List.any_cons,List.any_nil,id,Bool.or_false,Bool.or_assoc]
theorem P6 {name:Str} {X:Ty} (hX:X.wf∧X.dep≤16) (hs:kJ name=some ([[(sc 4).api]],X.api)) (hA:rE name=some 1) (hd:(name == ([100,101,102,97,117,108,116]:Str))=false)
  (hr:∀ a:Ty,gY name [a.api]=au (ig a.api 4) fun b=>some (X.api,b)):yx name 1:=
 agC (alts:=[sc 4]) (X:=X) hs (by simp) hA (by simp [sc,Ty.wf]) hX hd (by simp) fun a h hd=>by
  rw [hr,qO h (by omega) (vK (k:=4) (by omega))]
  simp
theorem afe :yx [108,111,119,101,114] 1:=P6 (X:=sc 4) (any_ok (by omega)) rfl rfl rfl fun a=>rfl
theorem afc :yx [117,112,112,101,114] 1:=P6 (X:=sc 4) (any_ok (by omega)) rfl rfl rfl fun a=>rfl
theorem akp :yx [105,110,116] 1:=P6 (X:=sc 3) (any_ok (by omega)) rfl rfl rfl fun a=>rfl
theorem adt :yx [115,116,114,105,110,103] 1:=
 agC (alts:=[sc 1,sc 2,sc 3,sc 4]) (X:=sc 4) rfl (by simp) rfl (by simp [sc,Ty.wf]) (any_ok (by omega)) rfl (by simp) fun a h hd=>by
  have e1:gY [115,116,114,105,110,103] [a.api]=some ((sc 4).api,(a.kind != 5) && (a.kind != 6)):=by
   rw [show gY [115,116,114,105,110,103] [a.api]=au (if a.api.kind != 5 then some (a.api.kind != 6) else some false) fun b10=>some ((sc 4).api,b10) from rfl,Ty.oG]
   cases (a.kind != 5) <;> rfl
  rw [e1]
  congr 2
  cases a with
  | leaf k=>
   have hk:k=0∨k=1∨k=2∨k=3∨k=4∨k=7:=by obtain ⟨h1,h2,h3,h4⟩:=h; omega
   rcases hk with rfl | rfl | rfl | rfl | rfl | rfl <;> rfl
  | nest k s=>rcases h.1 with rfl | rfl <;> simp [sc,eF,Ty.kind]
theorem ahL :yx [107,101,121,115] 1:=
 agC (alts:=[.nest 6 (sc 0)]) (X:=.nest 5 (sc 4)) rfl (by simp) rfl (by simp [sc,Ty.wf]) (wL (by omega) (by omega)) rfl (by simp) fun a h hd=>by
  have l6:=(nP h (wL (k:=6) (j:=0) (by omega) (by omega)).1 (by omega)).2
  rw [show gY [107,101,121,115] [a.api]=au (fV a.api (Ty.nest 6 (sc 0)).api) fun x33=>some ((Ty.nest 5 (sc 4)).api,x33) from rfl,l6]
  simp
theorem Ye :yx [99,111,110,116,97,105,110,115] 2:=
 akq (alts:=[(.nest 5 (sc 0),sc 0),(sc 4,sc 4),(.nest 6 (sc 0),sc 4)]) (X:=sc 2) rfl (by simp) rfl (by simp [sc,Ty.wf]) (any_ok (by omega)) rfl (by simp) fun a b h hd hb hbd=>by
  have ia:=qO h (by omega) (vK (k:=4) (by omega))
  have ib:=qO hb (by omega) (vK (k:=4) (by omega))
  have l5:=(nP h (wL (k:=5) (j:=0) (by omega) (by omega)).1 (by omega)).2
  have l6:=(nP h (wL (k:=6) (j:=0) (by omega) (by omega)).1 (by omega)).2
  rw [show gY [99,111,110,116,97,105,110,115] [a.api,b.api]=au (fV a.api (Ty.nest 5 (sc 0)).api) fun wS=>au (if wS then some true else au (ig b.api 4) fun H8=>if H8 then
    (au (ig a.api 4) fun LQ=>if LQ then some true else fV a.api (Ty.nest 6 (sc 0)).api) else some false) fun b3=>some ((sc 2).api,b3) from rfl,l5,l6,ia,ib]
  simp only [ay,List.map_cons,List.map_nil,List.any_cons,List.any_nil,id,ado]
  cases eF a (Ty.nest 5 (sc 0)) <;> cases eF b (sc 4) <;> cases eF a (sc 4) <;> cases eF a (Ty.nest 6 (sc 0)) <;> rfl
theorem ahM :yx [106,111,105,110] 2:=
 akq (alts:=[(.nest 5 (sc 4),sc 4)]) (X:=sc 4) rfl (by simp) rfl (by simp [sc,Ty.wf]) (any_ok (by omega)) rfl (by simp) fun a b h hd hb hbd=>by
  have ib:=qO hb (by omega) (vK (k:=4) (by omega))
  have l5:=(nP h (wL (k:=5) (j:=4) (by omega) (by omega)).1 (by omega)).2
  rw [show gY [106,111,105,110] [a.api,b.api]=au (fV a.api (Ty.nest 5 (sc 4)).api) fun LP=>au (if LP then ig b.api 4 else some false) fun b6=>some ((sc 4).api,b6) from rfl,l5,ib]
  simp [yZ]
theorem P5 {name:Str} {X:Ty} (hX:X.wf∧X.dep≤16) (hs:kJ name=some ([[(sc 4).api,(sc 4).api]],X.api)) (hA:rE name=some 2) (hd:(name == ([100,101,102,97,117,108,116]:Str))=false)
  (hr:∀ a b:Ty,gY name [a.api,b.api]=au (ig a.api 4) fun x=>au (if x then ig b.api 4 else some false) fun b=>some (X.api,b)):yx name 2:=
 akq (alts:=[(sc 4,sc 4)]) (X:=X) hs (by simp) hA (by simp [sc,Ty.wf]) hX hd (by simp) fun a b h hd hb hbd=>by
  rw [hr,qO h (by omega) (vK (k:=4) (by omega)),qO hb (by omega) (vK (k:=4) (by omega))]
  simp [yZ]
theorem afd :yx [115,112,108,105,116] 2:=P5 (X:=.nest 5 (sc 4)) (wL (by omega) (by omega)) rfl rfl rfl fun a b=>rfl
theorem adu :yx [115,116,97,114,116,115,119,105,116,104] 2:=P5 (X:=sc 2) (any_ok (by omega)) rfl rfl rfl fun a b=>rfl
theorem ahN :yx [101,110,100,115,119,105,116,104] 2:=P5 (X:=sc 2) (any_ok (by omega)) rfl rfl rfl fun a b=>rfl
theorem abg :yx [100,101,102,97,117,108,116] 2:=by
 refine ⟨[[(sc 0).api,(sc 0).api]],(sc 0).api,[(sc 0).api,(sc 0).api],[],rfl,rfl,rfl,rfl,?_⟩
 intro e Ts hn hlen hT
 match Ts,hlen with
 | [a,b],_=>
  obtain ⟨a1,a2⟩:=hT a (by simp)
  obtain ⟨b1,b2⟩:=hT b (by simp)
  simp only [List.map_cons,List.map_nil]
  have e1:pq e [[(sc 0).api,(sc 0).api]] (sc 0).api [a.api,b.api] BIG 0=some (if a.kind == 1 then (b.api,0) else (a.api,0)):=by
   obtain ⟨n,hB⟩:=ao6
   rw [hB,pq]
   have hsu:=aiK a1 a2 b1 b2 (w:=sc 0) (v:=sc 0) (any_ok (by omega)).1 (any_ok (by omega)).1
   have i0:idx [[(sc 0).api,(sc 0).api]] 0=some [(sc 0).api,(sc 0).api]:=rfl
   rw [i0]
   simp only [ay,hsu,ado,hn,arw,arv,Ty.oG]
   simp
   split <;> rfl
  have e2:gY [100,101,102,97,117,108,116] [a.api,b.api]=some (if a.kind == 1 then (b.api,true) else (a.api,true)):=by
   rw [show gY [100,101,102,97,117,108,116] [a.api,b.api]=(if a.api.kind == 1 then some (b.api,true) else some (a.api,true)) from rfl,Ty.oG]
   split <;> rfl
  rw [e1,e2]
  cases (a.kind == 1) with
  | true=>exact RES.mk b true rfl rfl (fun _=>⟨b1,b2⟩)
  | false=>exact RES.mk a true rfl rfl (fun _=>⟨a1,a2⟩)
theorem ag4 (name:Str):(kJ name=some ([],(sc 0).api)∧rE name=some (-1))∨∃ n,yx name n:=by
 by_cases h1:name=[108,101,110]
 · subst h1; exact .inr ⟨_,ako⟩
 by_cases h2:name=[108,111,119,101,114]
 · subst h2; exact .inr ⟨_,afe⟩
 by_cases h3:name=[117,112,112,101,114]
 · subst h3; exact .inr ⟨_,afc⟩
 by_cases h4:name=[115,116,114,105,110,103]
 · subst h4; exact .inr ⟨_,adt⟩
 by_cases h5:name=[105,110,116]
 · subst h5; exact .inr ⟨_,akp⟩
 by_cases h6:name=[107,101,121,115]
 · subst h6; exact .inr ⟨_,ahL⟩
 by_cases h7:name=[99,111,110,116,97,105,110,115]
 · subst h7; exact .inr ⟨_,Ye⟩
 by_cases h8:name=[106,111,105,110]
 · subst h8; exact .inr ⟨_,ahM⟩
 by_cases h9:name=[115,112,108,105,116]
 · subst h9; exact .inr ⟨_,afd⟩
 by_cases h10:name=[115,116,97,114,116,115,119,105,116,104]
 · subst h10; exact .inr ⟨_,adu⟩
 by_cases h11:name=[101,110,100,115,119,105,116,104]
 · subst h11; exact .inr ⟨_,ahN⟩
 by_cases h12:name=[100,101,102,97,117,108,116]
 · subst h12; exact .inr ⟨_,abg⟩
 left
 constructor
 · simp [kJ,gB,nQ,h1,h2,h3,h4,h5,h6,h7,h8,h9,h10,h11,h12,sc,Ty.api]
 · simp [rE,h1,h2,h3,h4,h5,h6,h7,h8,h9,h10,h11,h12]
end Go.Ft

namespace Go.Ft
open Go
attribute [local congr] dZ
mutual
def Qi :ah→Ty
 | ⟨k,_,_,_,l,_⟩=>if k=0 then sc 1 else if k=1 then sc 2 else if k=2 then sc 3 else if k=3 then sc 4 else .nest (if k=4 then 5 else 6) (Sb l (sc 7))
def Sb :List ah→Ty→Ty
 | [],t=>t
 | x :: r,t=>Sb r (kZ t (Qi x))
end
theorem GJ (v:ah):Qi v=if v.kind=0 then sc 1 else if v.kind=1 then sc 2 else if v.kind=2 then sc 3 else if v.kind=3 then sc 4 else .nest (if v.kind=4 then 5 else 6) (Sb v.aO (sc 7)):=by cases v; rw [Qi]
theorem Gj {v:ah} {level:Nat} (h:qL v level=0):level≤16∧0≤v.kind∧v.kind≤5∧(v.kind=4∨v.kind=5→v.aO=[]→level≠16):=by
 unfold qL at h
 by_cases h0:16 < level
 · simp [h0] at h
 ·
  rw [if_neg h0] at h
  cases h1:(decide (v.kind < 0) || decide (5 < v.kind) || !vv v) with
  | true=>rw [h1] at h; simp at h
  | false=>
   rw [h1] at h
   simp only [Bool.or_eq_false_iff,decide_eq_false_iff_not] at h1
   refine ⟨by omega,by omega,by omega,fun hk hl h16=>?_⟩
   have e1:((((v.kind == 4) || (v.kind == 5)) && ((v.aO.length:Int) == 0)) && (level == 16))=true:=by
    rw [hl,h16]; rcases hk with hk | hk <;> simp [hk]
   rw [e1] at h
   simp only [Bool.false_eq_true,if_false,if_true] at h
   split at h
   · omega
   ·
    split at h
    · omega
    · split at h <;> omega
theorem YL :∀ {l:List ah} {level:Nat},Ik l level=0→∀ x∈l,zB x level=0
 | [],_,_,x,hx=>by cases hx
 | y :: r,level,h,x,hx=>by
  rw [Ik] at h
  by_cases hy:zB y level=0
  ·
   rw [if_neg (by simpa using hy)] at h
   rcases List.mem_cons.1 hx with rfl | hx
   · exact hy
   · exact YL h x hx
  · rw [if_pos (by simpa using hy)] at h; exact absurd h hy
theorem RZ {v:ah} {level:Nat} (h:zB v level=0):qL v level=0∧∀ x∈v.aO,zB x (level + 1)=0:=by
 rw [UD] at h
 by_cases hn:qL v level=0
 ·
  rw [if_neg (by simpa using hn)] at h
  exact ⟨hn,YL h⟩
 · rw [if_pos (by simpa using hn)] at h; exact absurd h hn
theorem ofL {go:ah→Option ak} {join:ak→ak→Option ak} {K:ak→Option ak} {lv:Nat} (hlv:lv≤16) (hj:∀ a b:Ty,a.wf→b.wf→a.dep≤1000→b.dep≤1000→join a.api b.api=some (kZ a b).api):
  ∀ (l:List ah) (t:Ty) (i:Nat),t.wf→t.dep + lv≤17→(∀ x∈l,go x=some (Qi x).api∧(Qi x).wf∧(Qi x).dep + lv≤17)→
  dG (fun _ e1 (kg:ak) r=>au (go e1) fun x7=>au (join kg x7) fun x8=>r x8) K i l t.api=K (Sb l t).api∧(Sb l t).wf∧(Sb l t).dep + lv≤17
 | [],t,i,h,hd,_=>⟨rfl,h,hd⟩
 | x :: r,t,i,h,hd,hl=>by
  obtain ⟨x1,x2,x3⟩:=hl x (by simp)
  have jd:=Dm t (Qi x)
  rw [dG,x1,Sb]
  simp only [ay,hj t (Qi x) h x2 (by omega) (by omega)]
  exact ofL hlv hj r (kZ t (Qi x)) (i + 1) (qw _ _ h x2) (by omega) fun y hy=>hl y (by simp [hy])
theorem ap5 :∀ (n:Nat) (v:ah) (level:Nat),v.bulk≤n→v.bulk < 4611686018427387904→zB v level=0→
  oV (n + 1) v=some (Qi v).api∧Bz (n + 1) v=some (Qi v).api∧(Qi v).wf∧(Qi v).dep + level≤17
 | 0,v,_,h,_,_=>by have:=v.jY; omega
 | n + 1,v,level,h,hB,hc=>by
  obtain ⟨h0,hm⟩:=RZ hc
  obtain ⟨z1,z2,z3,z4⟩:=Gj h0
  have hl:=vW v
  rw [oV,Dy,Bz,QI,GJ]
  by_cases k0:v.kind=0
  · simp only [k0]; exact ⟨rfl,rfl,(any_ok (by omega)).1,by simp [sc,Ty.dep]; omega⟩
  by_cases k1:v.kind=1
  · simp only [k1]; exact ⟨rfl,rfl,(any_ok (by omega)).1,by simp [sc,Ty.dep]; omega⟩
  by_cases k2:v.kind=2
  · simp only [k2]; exact ⟨rfl,rfl,(any_ok (by omega)).1,by simp [sc,Ty.dep]; omega⟩
  by_cases k3:v.kind=3
  · simp only [k3]; exact ⟨rfl,rfl,(any_ok (by omega)).1,by simp [sc,Ty.dep]; omega⟩
  have k45:v.kind=4∨v.kind=5:=by omega
  have hlv:level≤15:=by
   by_cases hnil:v.aO=[]
   · have:=z4 k45 hnil; omega
   ·
    obtain ⟨x,hx⟩:=List.exists_mem_of_ne_nil _ hnil
    have:=(Gj (RZ (hm x hx)).1).1
    omega
  have e0:(v.kind == 0)=false:=by simpa using k0
  have e1:(v.kind == 1)=false:=by simpa using k1
  have e2:(v.kind == 2)=false:=by simpa using k2
  have e3:(v.kind == 3)=false:=by simpa using k3
  simp only [e0,e1,e2,e3,Bool.false_eq_true,if_false,k0,k1,k2,k3,ay]
  have w7:(sc 7).wf∧(sc 7).dep + (level + 1)≤17:=⟨(any_ok (by omega)).1,by simp [sc,Ty.dep]; omega⟩
  have ih:=fun x (hx:x∈v.aO)=>ap5 n x (level + 1) (by have:=iV hx; omega) (by have:=iV hx; omega) (hm x hx)
  have s1:=dH (F:=fun k s i=>w9 (oV (n + 1)) v k i s) (l:=v.aO) (body:=fun _ e1 (kg:ak) r=>au (oV (n + 1) e1) fun x7=>au (Ec kg x7) fun x8=>r x8)
   (fin:=fun kg=>if v.kind == 4 then qU 5 kg else qU 6 kg) (by omega) (fun k s i=>rfl) (sc 7).api
  have s2:=dH (F:=fun k s i=>JK (Bz (n + 1)) v k i s) (l:=v.aO) (body:=fun _ e1 (kg:ak) r=>au (Bz (n + 1) e1) fun x7=>au (MN kg x7) fun x8=>r x8)
   (fin:=fun t1=>if v.kind == 5 then kP 6 t1 else kP 5 t1) (by omega) (fun k s i=>rfl) (sc 7).api
  obtain ⟨a1,a2,a3⟩:=ofL (lv:=level + 1) (K:=fun kg=>if v.kind == 4 then qU 5 kg else qU 6 kg) (by omega) (fun a b x y z w=>(join_eq x y z w).1) v.aO (sc 7) 0 w7.1 w7.2 (fun x hx=>⟨(ih x hx).1,(ih x hx).2.2⟩)
  obtain ⟨b1,_,_⟩:=ofL (lv:=level + 1) (K:=fun t1=>if v.kind == 5 then kP 6 t1 else kP 5 t1) (by omega) (fun a b x y z w=>(join_eq x y z w).2) v.aO (sc 7) 0 w7.1 w7.2 (fun x hx=>⟨(ih x hx).2.1,(ih x hx).2.2⟩)
  have t7:g_ 7=some (sc 7).api:=rfl
  have p7:kH 7=some (sc 7).api:=rfl
  rw [t7,p7]
  simp only [ay]
  rw [s1,a1,s2,b1]
  refine ⟨?_,?_,⟨?_,a2⟩,by simp only [Ty.dep]; omega⟩
  · rcases k45 with k | k <;> simp [k,qU,Ty.api]
  · rcases k45 with k | k <;> simp [k,kP,Ty.api]
  ·
   split
   · exact .inl rfl
   · exact .inr rfl
theorem agK {v:ah} (h:v.bulk < 4611686018427387904) (hc:zB v 1=0):Jv v=some (Qi v).api∧MO v=some (Qi v).api∧(Qi v).wf∧(Qi v).dep≤16:=by
 obtain ⟨n,hn,hn2⟩:=uW
 obtain ⟨a1,a2,a3,a4⟩:=ap5 n v 1 (by omega) h hc
 unfold Jv MO Mq aeB
 rw [FT h,Ve h,hc,hn,a1,a2]
 exact ⟨rfl,rfl,a3,by omega⟩
theorem af7 {s:Str} (h:s.length < 4611686018427387000):kQ (aj.mk 2 s (ah.mk 0 false 0 ([]:Str) [] []) [] [])=some (if oZ s then 0 else 1):=by
 have hb:(aj.mk 2 s (ah.mk 0 false 0 ([]:Str) [] []) [] []).bulk < 4611686018427387904:=by
  simp only [aj.bulk,ah.bulk,ah.nZ,aj.nZ,List.map_nil,List.sum_nil,List.length_nil]; omega
 rw [(Uz hb).1]
 have e1:ecnt (aj.mk 2 s (ah.mk 0 false 0 ([]:Str) [] []) [] [])=1:=by rw [FD]; rfl
 unfold xval
 rw [e1,UA]
 have e2:Ae (aj.mk 2 s (ah.mk 0 false 0 ([]:Str) [] []) [] [])=oZ s:=by
  have:Tg (ah.mk 0 false 0 ([]:Str) [] [])=true:=rfl
  simp [Ae,EU,this,EY,rP,Nl]
 have e3:D5 (aj.mk 2 s (ah.mk 0 false 0 ([]:Str) [] []) [] []) 1=if oZ s then 0 else 1:=by
  unfold D5
  rw [e2]
  cases oZ s <;> simp [Rk]
 rw [e3]
 cases oZ s <;> simp [Qj]
def aa5 :List Str→List aH→Int
 | _,[]=>0
 | seen,d :: r=>if !oZ d.name then 1 else if R3 d.rY != 0 then R3 d.rY else if seen.contains d.name then 7 else aa5 (seen ++ [d.name]) r
def abC (env:List aH):Prop:=∀ d∈env,∃ T:Ty,T.wf∧T.dep≤16∧d.rY=T.api
theorem akc :∀ (r:List aH) (seen:List Str),aa5 seen r=0→abC r
 | [],_,_,d,hd=>by cases hd
 | x :: r,seen,h,d,hd=>by
  rw [aa5] at h
  cases h1:oZ x.name with
  | false=>rw [h1] at h; simp at h
  | true=>
   rw [h1] at h
   simp only [Bool.not_true,Bool.false_eq_true,if_false] at h
   by_cases h2:R3 x.rY=0
   ·
    rw [if_neg (by simpa using h2)] at h
    obtain ⟨T,t1,t2,t3⟩:=(Dz x.rY).2.2 h2
    split at h
    · simp at h
    ·
     rcases List.mem_cons.1 hd with rfl | hd
     · exact ⟨T,t1,t3,t2⟩
     · exact akc r _ h d hd
   · rw [if_pos (by simpa using h2)] at h; exact absurd h h2
theorem aqE :∀ (r:List aH) (i:Nat) (y:List (Str × Int)) (seen:List Str),(∀ d∈r,d.name.length < 4611686018427387000)→(∀ s,qp y s=if s∈seen then 1 else 0)→
  dG (fun _ e1 (y1:List (Str × Int)) r=>au (kQ (aj.mk 2 e1.name (ah.mk 0 false 0 ([]:Str) [] []) [] [])) fun x2=>if x2 != 0 then some 1 else au (lW e1.rY) fun e2=>if e2 != 0 then some e2 else
   if decide (1 < (qp (uX y1 e1.name (bZ ((qp y1 e1.name) + 1))) e1.name)) then some 7 else r (uX y1 e1.name (bZ ((qp y1 e1.name) + 1)))) (fun _=>some 0) i r y=some (aa5 seen r)
 | [],_,_,_,_,_=>rfl
 | d :: r,i,y,seen,hd,hy=>by
  rw [dG,aa5,af7 (hd d (by simp)),(Dz d.rY).1,Ga,if_pos rfl,hy d.name]
  cases h1:oZ d.name with
  | false=>simp
  | true=>
   simp only [if_true,ay,Bool.not_true,Bool.false_eq_true,if_false,bne_self_eq_false]
   by_cases h2:R3 d.rY=0
   ·
    simp only [h2,bne_self_eq_false,Bool.false_eq_true,if_false]
    by_cases hc:d.name∈seen
    ·
     have:bZ 2=2:=by decide
     simp [hc,this]
    ·
     have:bZ ((0:Int) + 1)=1:=by decide
     simp only [hc,if_false,this]
     have e:seen.contains d.name=false:=by simpa using hc
     rw [e]
     simp only [Int.lt_irrefl,decide_false,Bool.false_eq_true,if_false]
     refine aqE r (i + 1) _ (seen ++ [d.name]) (fun z hz=>hd z (by simp [hz])) fun s=>?_
     rw [Ga,hy s]
     by_cases h1:s=d.name
     · subst h1; simp
     · simp [h1]
   · simp [h2]
theorem aj_ (l:List aH) (i:Nat) (hi:i < l.length) (hl:l.length < 4611686018427387904) (go:Int→Option Int):∀ (k j:Nat),i < k + j→j≤i→
  Da l (i:Int) go k (j:Int)=if (((l.take i).drop j).map (·.name)).contains l[i].name then some 7 else go ((i + 1:Nat):Int)
 | 0,j,h,h'=>by omega
 | k + 1,j,h,h'=>by
  rw [Da]
  by_cases hj:j < i
  ·
   have hlt:j < (l.take i).length:=by simp; omega
   rw [if_pos (by simpa using hj),rW hi,rW (by omega),List.drop_eq_getElem_cons hlt]
   simp only [ay,List.map_cons,List.contains_cons,List.getElem_take]
   by_cases h1:l[j].name=l[i].name
   · simp [h1]
   ·
    have e1:(l[j].name == l[i].name)=false:=by simpa using h1
    have e2:(l[i].name == l[j].name)=false:=by simpa using fun hh=>h1 hh.symm
    simp only [e1,e2,Bool.false_eq_true,if_false,Bool.false_or]
    rw [zy (by omega)]
    exact aj_ l i hi hl go k (j + 1) (by omega) (by omega)
  ·
   have:j=i:=by omega
   subst this
   rw [if_neg (by simp),zy (by omega)]
   have:(List.take j l).drop j=[]:=List.drop_eq_nil_of_le (by simp; omega)
   rw [this]
   simp
theorem aqD (l:List aH) (hl:l.length < 4611686018427387904) (hd:∀ d∈l,d.name.length < 4611686018427387000):∀ (k i:Nat),l.length < k + i→i≤l.length→xu l k (i:Int)=some (aa5 ((l.take i).map (·.name)) (l.drop i))
 | 0,i,h,h'=>by omega
 | k + 1,i,h,h'=>by
  rw [xu]
  by_cases hi:i < l.length
  ·
   have hn:=hd l[i] (List.getElem_mem hi)
   rw [if_pos (by simpa using hi),List.drop_eq_getElem_cons hi,aa5,rW hi]
   have:=aj_ l i hi hl (xu l k) BIG 0 (by have:=jq; omega) (by omega)
   rw [show (0:Int)=((0:Nat):Int) from rfl,this,List.drop_zero,aqD l hl hd k (i + 1) (by omega) (by omega)]
   simp only [ay,(VA l[i].name (by omega)).2,(Dz _).2.1]
   have e:List.take (i + 1) l=List.take i l ++ [l[i]]:=by rw [List.take_add_one,List.getElem?_eq_getElem hi]; rfl
   rw [e,List.map_append]
   cases oZ l[i].name with
   | false=>simp
   | true=>
    simp only [Bool.not_true,Bool.false_eq_true,if_false]
    by_cases h2:R3 l[i].rY=0
    ·
     simp only [h2,Int.natCast_zero,bne_self_eq_false,Bool.false_eq_true,if_false]
     split <;> rfl
    · simp [h2]
  ·
   have:i=l.length:=by omega
   subst this
   simp [aa5]
def ae4 (env:List aH):Int:=if 1024 < env.length then 3 else aa5 [] env
theorem aoG {env:List aH} (hl:env.length < 4611686018427387904) (hd:∀ d∈env,d.name.length < 4611686018427387000):J6 env=some (ae4 env)∧QH env=some (ae4 env)∧(ae4 env=0→abC env):=by
 unfold J6 QH ae4
 have e:decide ((1024:Int) < (env.length:Int))=decide (1024 < env.length):=by congr 1; simp; omega
 rw [e]
 by_cases h:1024 < env.length
 · simp [h]
 ·
  simp only [h,decide_false,Bool.false_eq_true,if_false]
  have s1:=dH (F:=fun k s i=>Co env k i s) (l:=env) (body:=fun _ e1 (y1:List (Str × Int)) r=>au (kQ (aj.mk 2 e1.name (ah.mk 0 false 0 ([]:Str) [] []) [] [])) fun x2=>if x2 != 0 then some 1 else au (lW e1.rY) fun e2=>if e2 != 0 then some e2 else
   if decide (1 < (qp (uX y1 e1.name (bZ ((qp y1 e1.name) + 1))) e1.name)) then some 7 else r (uX y1 e1.name (bZ ((qp y1 e1.name) + 1)))) (fin:=fun _=>some 0) hl (fun k s i=>rfl) []
  have s2:=aqD env hl hd BIG 0 (by have:=jq; omega) (by omega)
  refine ⟨?_,by simpa using s2,akc env []⟩
  rw [s1]
  exact aqE env 0 [] [] hd (fun s=>by simp [qp])
end Go.Ft

namespace Go.Ft
open Go
attribute [local congr] dZ
theorem YG :∀ {l:List aj} {level:Nat},Qj l level=0→∀ x∈l,EO x level=0
 | [],_,_,x,hx=>by cases hx
 | y :: r,level,h,x,hx=>by
  rw [Qj] at h
  by_cases hy:EO y level=0
  ·
   rw [if_neg (by simpa using hy)] at h
   rcases List.mem_cons.1 hx with rfl | hx
   · exact hy
   · exact YG h x hx
  · rw [if_pos (by simpa using hy)] at h; exact absurd h hy
theorem U3 {e:aj} {level:Nat} (h:D5 e level=0):Ae e=true∧(e.kind=1→zB e.value 1=0)∧e.args.length≤1024:=by
 unfold D5 at h
 split at h
 · omega
 ·
  cases h1:Ae e with
  | false=>rw [h1] at h; simp at h
  | true=>
   rw [h1] at h
   simp only [Bool.not_true,Bool.false_eq_true,if_false] at h
   by_cases h2:(e.kind == 1 && (zB e.value 1 != 0))=true
   ·
    rw [if_pos h2] at h
    simp [h] at h2
   ·
    rw [if_neg h2] at h
    refine ⟨rfl,fun hk=>?_,?_⟩
    ·
     simp only [Bool.and_eq_true,beq_iff_eq,bne_iff_ne,not_and] at h2
     have:=h2 hk
     simpa using this
    ·
     split at h
     · omega
     · rename_i h3; simp only [decide_eq_true_eq] at h3; omega
theorem RS {e:aj} {level:Nat} (h:EO e level=0):D5 e level=0∧∀ x∈e.args,EO x (level + 1)=0:=by
 rw [UA] at h
 by_cases hn:D5 e level=0
 ·
  rw [if_neg (by simpa using hn)] at h
  exact ⟨hn,YG h⟩
 · rw [if_pos (by simpa using hn)] at h; exact absurd h hn
def bodyC (go:aj→Option (ak × Int)):Nat→aj→List ak→(List ak→Option (List ak × Int))→Option (List ak × Int):=
 fun _ e1 bH r=>fM (go e1) fun x2 f1=>if f1 != 0 then some ([],f1) else au (app bH [x2]) fun yS=>r yS
def TT (go:aj→Option (ak × Int)):Nat→aj→List ak→(List ak→Option (ak × Int))→Option (ak × Int):=
 fun _ e1 bH r=>fM (go e1) fun x5 f1=>if f1 != 0 then some (ZT,f1) else au (app bH [x5]) fun l2=>r l2
theorem ane {goC goR:aj→Option (ak × Int)} {K:List ak→Option (ak × Int)}:∀ (l:List aj) (out:List Ty) (i:Nat),(∀ x∈l,RES (goC x) (goR x))→out.length + l.length≤4000→
  (∃ c,c≠0∧dG (bodyC goC) (fun o=>some (o,0)) i l (out.map Ty.api)=some ([],c)∧dG (TT goR) K i l (out.map Ty.api)=some (ZT,c))∨
  (∃ Ts:List Ty,Ts.length=l.length∧(∀ t∈Ts,t.wf∧t.dep≤16)∧dG (bodyC goC) (fun o=>some (o,0)) i l (out.map Ty.api)=some ((out ++ Ts).map Ty.api,0)∧dG (TT goR) K i l (out.map Ty.api)=K ((out ++ Ts).map Ty.api))
 | [],out,i,_,_=>.inr ⟨[],rfl,fun t ht=>(by cases ht),by simp [dG],by simp [dG]⟩
 | x :: r,out,i,h,hn=>by
  simp only [List.length_cons] at hn
  obtain ⟨T,c,w,d,z,e1,e2⟩:=h x (by simp)
  rw [dG,dG,bodyC,TT]
  simp only [e1,e2,bU]
  by_cases hc:c=0
  ·
   subst hc
   have ha:app (out.map Ty.api) [T.api]=some ((out ++ [T]).map Ty.api):=by
    rw [vN (by simp [wB]; omega)]; simp
   simp only [bne_self_eq_false,Bool.false_eq_true,if_false,ha,ay]
   rcases ane (K:=K) r (out ++ [T]) (i + 1) (fun y hy=>h y (by simp [hy])) (by simp; omega) with ⟨c,c1,c2,c3⟩ | ⟨Ts,c1,c2,c3,c4⟩
   · exact .inl ⟨c,c1,c2,c3⟩
   ·
    refine .inr ⟨T :: Ts,by simp [c1],?_,?_,?_⟩
    ·
     intro t ht
     rcases List.mem_cons.1 ht with rfl | ht
     · exact ⟨w,d⟩
     · exact c2 t ht
    · have:=c3; rw [List.append_assoc] at this; exact this
    · have:=c4; rw [List.append_assoc] at this; exact this
  · exact .inl ⟨c,hc,by simp [hc],by simp [hc]⟩
theorem aa_ {env:List aH} (hW:abC env) (hl:env.length < 4611686018427387904) (e:aj) (he:e.kind=2):RES (xW env e.name) (Br e env):=by
 unfold xW Br
 have h1:(e.kind == 1)=false:=by simp [he]
 rw [h1]
 simp only [Bool.false_eq_true,if_false]
 have s1:=dH (F:=fun k (_:Unit) i=>tH env e.name k i) (l:=env) (body:=fun _ e1 _ r=>if e1.name == e.name then some (e1.rY,0) else r ()) (fin:=fun _=>some (ZT,10)) hl (fun k s i=>rfl) ()
 have s2:=dH (F:=fun k (_:Unit) i=>AB e env k i) (l:=env) (body:=fun (i:Nat) e1 _ r=>if e1.name == e.name then au (idx env (i:Int)) fun e3=>some (e3.rY,0) else r ()) (fin:=fun _=>some (ZT,10)) hl (fun k s i=>rfl) ()
 rw [s1,s2]
 have key:∀ (t:List aH) (i:Nat),t=env.drop i→RES (dG (fun _ e1 (_:Unit) r=>if e1.name == e.name then some (e1.rY,0) else r ()) (fun _=>some (ZT,10)) i t ())
   (dG (fun (i:Nat) e1 (_:Unit) r=>if e1.name == e.name then au (idx env (i:Int)) fun e3=>some (e3.rY,0) else r ()) (fun _=>some (ZT,10)) i t ()):=by
  intro t
  induction t with
  | nil=>intro i _; exact ⟨sc 0,10,(any_ok (by omega)).1,(any_ok (by omega)).2,fun _=>rfl,rfl,rfl⟩
  | cons d t ih=>
   intro i ht
   have hi:i < env.length:=by
    rcases Nat.lt_or_ge i env.length with h | h
    · exact h
    · rw [List.drop_eq_nil_of_le h] at ht; cases ht
   have hc:=List.drop_eq_getElem_cons hi
   rw [←ht] at hc
   have e1:d=env[i]:=(List.cons.inj hc).1
   have e2:=(List.cons.inj hc).2
   rw [dG,dG,rW hi,←e1]
   simp only [ay]
   cases (d.name == e.name) with
   | true=>
    simp only [if_true]
    obtain ⟨T,t1,t2,t3⟩:=hW d (by rw [e1]; exact List.getElem_mem hi)
    exact ⟨T,0,t1,t2,fun h=>absurd rfl h,by rw [t3],by rw [t3]⟩
   | false=>
    simp only [Bool.false_eq_true,if_false]
    exact ih (i + 1) e2
 exact key env 0 rfl
theorem Q_ {e:aj} (h:Ae e=true):EU e=true∧EY e=true∧rP e=true:=by
 unfold Ae at h
 simp only [Bool.and_eq_true] at h
 exact ⟨h.1.1.1.1,h.1.1.2,h.1.2⟩
theorem len1 {α:Type} {l:List α} (h:l.length=1):∃ a,l=[a]:=by
 match l,h with
 | [a],_=>exact ⟨a,rfl⟩
theorem len2 {α:Type} {l:List α} (h:l.length=2):∃ a b,l=[a,b]:=by
 match l,h with
 | [a,b],_=>exact ⟨a,b,rfl⟩
theorem aos {α:Type} {l:List α} (h:l.length=3):∃ a b c,l=[a,b,c]:=by
 match l,h with
 | [a,b,c],_=>exact ⟨a,b,c,rfl⟩
theorem Rf {env:List aH} (hW:abC env) (hl:env.length < 4611686018427387904):∀ (b:Nat) (e:aj) (level k m:Nat),e.bulk≤b→e.bulk < 4611686018427387904→EO e level=0→3 * b + 3≤k→b + 1≤m→
  RES (iN k e env) (jM m e env)
 | 0,e,_,_,_,h,_,_,_,_=>by have:=e.jY; omega
 | b + 1,e,level,k,m,h,hB,hx,hk,hm=>by
  obtain ⟨x1,x2⟩:=RS hx
  obtain ⟨f1,f2,f3⟩:=U3 x1
  obtain ⟨p1,p2,p3⟩:=Q_ f1
  have hal:=J2 e
  obtain ⟨k1,rfl⟩:∃ k1,k=k1 + 3:=⟨k - 3,by omega⟩
  obtain ⟨m1,rfl⟩:∃ m1,m=m1 + 1:=⟨m - 1,by omega⟩
  have args:∀ k2:Nat,3 * b + 3≤k2→(∃ c,c≠0∧qJ (iN k2) e.args env BIG [] 0=some ([],c)∧sM (jM m1) e env BIG [] 0=some (ZT,c))∨
    (∃ Ts:List Ty,Ts.length=e.args.length∧(∀ t∈Ts,t.wf∧t.dep≤16)∧qJ (iN k2) e.args env BIG [] 0=some (Ts.map Ty.api,0)∧sM (jM m1) e env BIG [] 0=Ie (gN e (Ts.map Ty.api))):=by
   intro k2 hk2
   have s1:=dH (F:=fun k s i=>qJ (iN k2) e.args env k s i) (l:=e.args) (body:=bodyC fun x=>iN k2 x env) (fin:=fun o=>some (o,0)) (by omega) (fun k s i=>rfl) []
   have s2:=dH (F:=fun k s i=>sM (jM m1) e env k s i) (l:=e.args) (body:=TT fun x=>jM m1 x env) (fin:=fun l1=>Ie (gN e l1)) (by omega) (fun k s i=>rfl) []
   rw [s1,s2]
   have:=ane (K:=fun l1=>Ie (gN e l1)) (goC:=fun x=>iN k2 x env) (goR:=fun x=>jM m1 x env) e.args [] 0 (fun x hx=>Rf hW hl b x (level + 1) k2 m1 (by have:=jl hx; omega) (by have:=jl hx; omega) (x2 x hx) hk2 (by omega)) (by simp; omega)
   simpa using this
  have err:∀ c:Int,RES (some (ZT,c)) (some (ZT,c)):=fun c=>⟨sc 0,c,(any_ok (by omega)).1,(any_ok (by omega)).2,fun _=>rfl,rfl,rfl⟩
  rw [iN,FI,jM,Ah]
  unfold EU at p1
  simp only [Bool.not_eq_true',Bool.or_eq_false_iff,decide_eq_false_iff_not] at p1
  have hkind:e.kind=1∨e.kind=2∨e.kind=3∨e.kind=4∨e.kind=5∨e.kind=6∨e.kind=7∨e.kind=8∨e.kind=9∨e.kind=10:=by omega
  have Te:mD (k1 + 2) e.args env=qJ (iN (k1 + 1)) e.args env BIG [] 0:=rfl
  rcases hkind with hk' | hk' | hk' | hk' | hk' | hk' | hk' | hk' | hk' | hk'
  ·
   
   have hz:e.args=[]:=by unfold rP at p3; simp [hk'] at p3; exact p3
   have h1:mD (k1 + 2) e.args env=some ([],0):=by
    rw [Te,hz]; rfl
   obtain ⟨o1,o2,o3,o4⟩:=agK (v:=e.value) (by have:=Ez e; omega) (f2 hk')
   rw [h1]
   unfold Br
   simp only [hk',bU,o1,o2]
   exact ⟨Qi e.value,0,o3,o4,fun h=>absurd rfl h,rfl,rfl⟩
  ·
   
   have hz:e.args=[]:=by unfold rP at p3; simp [hk'] at p3; exact p3
   have h1:mD (k1 + 2) e.args env=some ([],0):=by
    rw [Te,hz]; rfl
   have:=aa_ hW hl e hk'
   rw [h1]
   simpa [hk'] using this
  ·
   have hlen:e.args.length=1:=by unfold rP at p3; simp [hk'] at p3; omega
   rw [Te]
   rcases args (k1 + 1) (by omega) with ⟨c,c1,c2,c3⟩ | ⟨Ts,c1,c2,c3,c4⟩
   · rw [c2]; simp only [hk']; simpa [c1,c3,ZT] using err c
   ·
    rw [c3]
    obtain ⟨t,rfl⟩:=len1 (c1.trans hlen)
    obtain ⟨w,d⟩:=c2 t (by simp)
    have:=aeS w d hk' []
    simp only [hk']
    simpa [c4,idx] using this
  ·
   have hlen:e.args.length=2:=by unfold rP at p3; simp [hk'] at p3; omega
   rw [Te]
   rcases args (k1 + 1) (by omega) with ⟨c,c1,c2,c3⟩ | ⟨Ts,c1,c2,c3,c4⟩
   · rw [c2]; simp only [hk']; simpa [c1,c3,ZT] using err c
   ·
    rw [c3]
    obtain ⟨t,u,rfl⟩:=len2 (c1.trans hlen)
    obtain ⟨w,d⟩:=c2 t (by simp)
    obtain ⟨w',d'⟩:=c2 u (by simp)
    have:=ahu w d w' d' hk' []
    simp only [hk']
    simpa [c4,idx] using this
  ·
   
   have hc5:nR (k1 + 2) e env=Cn (iN (k1 + 1)) (nR (k1 + 1)) (mD (k1 + 1)) e env:=rfl
   have aqM:mD (k1 + 1) e.args env=qJ (iN k1) e.args env BIG [] 0:=rfl
   simp only [hk']
   rw [hc5,Cn]
   rcases ag4 e.name with ⟨s1,s2⟩ | ⟨n,alts,x,w,r,s1,s2,s3,s4,s5⟩
   ·
    rw [s1,s2]
    simpa [ZT] using err 10
   ·
    rw [s1,s4]
    subst s2
    have hi:idx (w :: r) 0=some w:=rfl
    have hne:((((w :: r).length:Nat):Int) == 0)=false:=by simp; omega
    have hn0:decide (((n:Nat):Int) < 0)=false:=by simp
    simp only [bU,hne,Bool.false_eq_true,if_false,hi,ay,s3,hn0]
    by_cases hlen:e.args.length=n
    ·
     have e1:((e.args.length:Int) != (n:Int))=false:=by simp [hlen]
     have e2:((n:Int) != (e.args.length:Int))=false:=by simp [hlen]
     rw [aqM]
     rcases args k1 (by omega) with ⟨c,c1,c2,c3⟩ | ⟨Ts,c1,c2,c3,c4⟩
     · rw [c2]; simpa [e1,e2,c1,c3,ZT] using err c
     ·
      have:=s5 e Ts rfl (by omega) c2
      have Wh:gN e (Ts.map Ty.api)=gY e.name (Ts.map Ty.api):=by unfold gN; simp [hk']
      rw [c3]
      rw [Wh] at c4
      simpa [e1,e2,c4] using this
    ·
     have e1:((e.args.length:Int) != (n:Int))=true:=by simp; omega
     have e2:((n:Int) != (e.args.length:Int))=true:=by simp; omega
     simpa [e1,e2,ZT] using err 1
  ·
   have hlen:e.args.length=1:=by unfold rP at p3; simp [hk'] at p3; omega
   rw [Te]
   rcases args (k1 + 1) (by omega) with ⟨c,c1,c2,c3⟩ | ⟨Ts,c1,c2,c3,c4⟩
   · rw [c2]; simp only [hk']; simpa [c1,c3,ZT] using err c
   ·
    rw [c3]
    obtain ⟨t,rfl⟩:=len1 (c1.trans hlen)
    obtain ⟨w,d⟩:=c2 t (by simp)
    have:=agT w d hk' []
    simp only [hk']
    simpa [c4,idx] using this
  ·
   have hlen:e.args.length=2:=by unfold rP at p3; simp [hk'] at p3; omega
   have hop:e.name∈opsL:=by
    unfold EY at p2
    simp [hk'] at p2
    exact Vk p2
   rw [Te]
   rcases args (k1 + 1) (by omega) with ⟨c,c1,c2,c3⟩ | ⟨Ts,c1,c2,c3,c4⟩
   · rw [c2]; simp only [hk']; simpa [c1,c3,ZT] using err c
   ·
    rw [c3]
    obtain ⟨t,u,rfl⟩:=len2 (c1.trans hlen)
    obtain ⟨w,d⟩:=c2 t (by simp)
    obtain ⟨w',d'⟩:=c2 u (by simp)
    have:=afv w d w' d' hop
    have Wh:gN e [t.api,u.api]=nJ e.name t.api u.api:=by unfold gN; simp [hk',idx]
    simp only [List.map_cons,List.map_nil] at c4
    rw [Wh] at c4
    simp only [hk']
    simpa [c4,idx] using this
  ·
   have hlen:e.args.length=3:=by unfold rP at p3; simp [hk'] at p3; omega
   rw [Te]
   rcases args (k1 + 1) (by omega) with ⟨c,c1,c2,c3⟩ | ⟨Ts,c1,c2,c3,c4⟩
   · rw [c2]; simp only [hk']; simpa [c1,c3,ZT] using err c
   ·
    rw [c3]
    obtain ⟨t,u,v,rfl⟩:=aos (c1.trans hlen)
    obtain ⟨w,d⟩:=c2 t (by simp)
    obtain ⟨w',d'⟩:=c2 u (by simp)
    obtain ⟨w'',d''⟩:=c2 v (by simp)
    have:=aki w d w' d' w'' d'' hk' []
    simp only [hk']
    simpa [c4,idx] using this
  ·
   rw [Te]
   rcases args (k1 + 1) (by omega) with ⟨c,c1,c2,c3⟩ | ⟨Ts,c1,c2,c3,c4⟩
   · rw [c2]; simp only [hk']; simpa [c1,c3,ZT] using err c
   ·
    rw [c3]
    have hn:=Oe c2 (by omega) (e:=e) (.inl hk')
    have:=Q7 c2 (by omega) (k:=5) (.inl rfl) (by simpa [hk'] using hn)
    simp only [hk']
    simpa [c4] using this
  ·
   rw [Te]
   rcases args (k1 + 1) (by omega) with ⟨c,c1,c2,c3⟩ | ⟨Ts,c1,c2,c3,c4⟩
   · rw [c2]; simp only [hk']; simpa [c1,c3,ZT] using err c
   ·
    rw [c3]
    have hn:=Oe c2 (by omega) (e:=e) (.inr hk')
    have:=Q7 c2 (by omega) (k:=6) (.inr rfl) (by simpa [hk'] using hn)
    simp only [hk']
    simpa [c4] using this
end Go.Ft

namespace Go.Ft
open Go
attribute [local congr] dZ
theorem ac2 (T:Ty):kZ T (sc 7)=T:=by
 cases T with
 | leaf a=>
  unfold sc
  rw [kZ]
  by_cases h:a=7
  · simp [h]
  · simp [h]
 | nest a t=>unfold sc; rw [kZ]; simp
theorem afD {T:Ty} (h:T.wf) (hd:T.dep≤16):nW T.api (sc 7).api=some T.api:=by
 rw [(Lg h (any_ok (by omega)).1 hd (any_ok (by omega)).2).1,ac2]
end Go.Ft

namespace Go.Ft
open Go
attribute [local congr] dZ
theorem NY {e:aj} (h:xval e=0):EO e 1=0:=by
 unfold xval at h
 split at h
 · cases h
 · exact h
theorem WO {e:aj} {env:List aH} (h:e.bulk≤1099511627776) (hl:env.length < 4611686018427387904) (hd:∀ d∈env,d.name.length < 4611686018427387000):
  (∃ c,c≠0∧xX e env=some (ZT,c)∧Bt e env=some (ZT,c))∨(∃ T:Ty,T.wf∧T.dep≤16∧xX e env=some (T.api,0)∧Bt e env=some (T.api,0)∧pK e env=some (T.api,0)∧xval e=0∧ae4 env=0):=by
 obtain ⟨v1,v2,v3⟩:=aoG (env:=env) hl hd
 obtain ⟨x1,x2⟩:=Uz (e:=e) (by omega)
 unfold xX Bt
 rw [v1,v2,x1,x2]
 simp only [ay]
 by_cases hv:ae4 env=0
 ·
  simp only [hv,bne_self_eq_false,Bool.false_eq_true,if_false]
  by_cases hx:xval e=0
  ·
   simp only [hx,bne_self_eq_false,Bool.false_eq_true,if_false]
   have hc:=NY hx
   obtain ⟨T,c,w,d,z,r1,r2⟩:=Rf (v3 hv) hl e.bulk e 1 BIG BIG (Nat.le_refl _) (by omega) hc (by have:=jq; omega) (by have:=jq; omega)
   have r1':PZ e env=some (T.api,c):=r1
   have r2':pK e env=some (T.api,c):=r2
   rw [r1',r2']
   simp only [bU]
   by_cases h0:c=0
   ·
    subst h0
    have t7:gB 7=some (sc 7).api:=rfl
    rw [if_neg (by simp),t7]
    simp only [ay,afD w d]
    exact .inr ⟨T,w,d,by simp⟩
   ·
    rw [if_pos (by simpa using h0),z h0]
    exact .inl ⟨c,h0,rfl,rfl⟩
  ·
   have hx':(xval e != 0)=true:=by simpa using hx
   simp only [hx',if_true]
   exact .inl ⟨_,hx,rfl,rfl⟩
 ·
  have hv':(ae4 env != 0)=true:=by simpa using hv
  simp only [hv',if_true]
  exact .inl ⟨_,hv,rfl,rfl⟩
end Go.Ft

namespace Go.Ft
open Go
attribute [local congr] dZ
def ZV :ah:=ah.mk 0 false 0 ([]:Str) [] []
theorem amv :ZV.bulk=7:=by unfold ZV ah.bulk ah.nZ; simp
theorem PX {go:ah→Option ah} {R:Type} {fin:ah→Option R}:∀ (l:List ah) (i:Nat) (out:ah),(∀ x∈l,go x=some x)→out.aO.length + l.length≤wB→
  dG (fun _ x (out:ah) r=>au (go x) fun x3=>au (app out.aO [x3]) fun x4=>r (ah.mk out.kind out.dO out.dI out.bR x4 out.keys)) fin i l out
   =fin (ah.mk out.kind out.dO out.dI out.bR (out.aO ++ l) out.keys)
 | [],i,out,_,_=>by cases out; simp [dG]
 | x :: l,i,out,h,hl=>by
  simp only [List.length_cons] at hl
  rw [dG,h x (by simp),ay,vN (by simp; omega),ay]
  refine (PX l (i + 1) _ (fun y hy=>h y (by simp [hy])) (by simp; omega)).trans ?_
  simp
theorem abT {S:ah→Prop} (hS:∀ v,S v→v.aO.length≤wB∧v.keys.length≤wB∧∀ x∈v.aO,S x):∀ (n:Nat) (v:ah),v.bulk≤n→v.bulk < 4611686018427387904→S v→nC (n + 1) v=some v∧o_ (n + 1) v=some v
 | 0,v,h,_,_=>by have:=v.jY; omega
 | n + 1,v,h,hb,hs=>by
  obtain ⟨hl,hk,hm⟩:=hS v hs
  have ih:∀ x∈v.aO,nC (n + 1) x=some x∧o_ (n + 1) x=some x:=fun x hx=>abT hS n x (by have:=iV hx; omega) (by have:=iV hx; omega) (hm x hx)
  have hL:wB=4294967296:=rfl
  constructor
  ·
   rw [nC,Dx,mU,vN (by simp; omega),ay]
   rw [dH (F:=fun k s i=>wZ (nC (n + 1)) v k i s) (l:=v.aO) (body:=fun _ x (out:ah) r=>au (nC (n + 1) x) fun x3=>au (app out.aO [x3]) fun x4=>r (ah.mk out.kind out.dO out.dI out.bR x4 out.keys)) (fin:=fun out=>some out) (by omega) (fun k s i=>rfl)]
   rw [PX v.aO 0 _ (fun x hx=>(ih x hx).1) (by simp; omega)]
   cases v; simp
  ·
   rw [o_,Fz]
   rw [dH (F:=fun k s i=>zX (o_ (n + 1)) v k i s) (l:=v.aO) (body:=fun _ x (out:ah) r=>au (o_ (n + 1) x) fun x3=>au (app out.aO [x3]) fun x4=>r (ah.mk out.kind out.dO out.dI out.bR x4 out.keys)) (fin:=fun out=>au (app out.keys v.keys) fun x4=>some (ah.mk out.kind out.dO out.dI out.bR out.aO x4)) (by omega) (fun k s i=>rfl)]
   rw [PX v.aO 0 _ (fun x hx=>(ih x hx).2) (by simp; omega),vN (by simp; omega)]
   cases v; simp
theorem abU {S:ah→Prop} (hS:∀ v,S v→v.aO.length≤wB∧v.keys.length≤wB∧∀ x∈v.aO,S x) {v:ah} (h:S v) (hb:v.bulk < 4611686018427387904):pG v=some v∧Ap v=some v:=by
 obtain ⟨n,hn,hn2⟩:=uW
 unfold pG Ap
 rw [hn]
 exact abT hS n v (by omega) hb h
theorem agR {v:ah} (h:v.bulk≤wB):pG v=some v∧Ap v=some v:=
 abU (S:=fun v=>v.bulk≤wB) (fun v h=>⟨by have:=vW v; omega,by have:=yB v; omega,fun x hx=>by have:=iV hx; omega⟩) h (by have hL:wB=4294967296:=rfl; omega)
def LZ :List Str→List ah→Str→Option ah
 | k :: ks,x :: xs,q=>if k=q then some x else LZ ks xs q
 | _,_,_=>none
theorem Wo :∀ {ks:List Str} {xs:List ah} {q:Str} {v:ah},LZ ks xs q=some v→v∈xs
 | k :: ks,x :: xs,q,v,h=>by
  rw [LZ] at h
  split at h
  · cases h; simp
  · simp [Wo h]
 | [],_,_,_,h=>by simp [LZ] at h
 | _ :: _,[],_,_,h=>by simp [LZ] at h
theorem ac8 (ks:List Str) (q:Str):LZ ks [] q=none:=by cases ks <;> rfl
def Q5 (v:ah) (q:Str):Option ah:=if v.kind=5 then LZ v.keys v.aO q else none
def aeK :Option ah→ah × Bool
 | some x=>(x,true)
 | none=>(ZV,false)
theorem Vq (v:ah) (q:Str) (hv:v.keys.length < 4611686018427387904):∀ (k i:Nat),v.keys.length < k + i→i≤v.keys.length→Dh v q k (i:Int)=some (aeK (LZ (v.keys.drop i) (v.aO.drop i) q))
 | 0,i,h,h'=>by omega
 | k + 1,i,h,h'=>by
  rw [Dh]
  by_cases hi:i < v.keys.length
  ·
   rw [if_pos (by simp; omega),rW hi,ay,List.drop_eq_getElem_cons hi]
   by_cases hl:i < v.aO.length
   ·
    rw [List.drop_eq_getElem_cons hl,LZ]
    by_cases he:v.keys[i]=q
    · rw [if_pos (by simpa using he),if_pos he,if_neg (by simp; omega),rW hl]; rfl
    · rw [if_neg (by simpa using he),if_neg he,zy (by omega),Vq v q hv k (i + 1) (by omega) (by omega)]
   ·
    have e0:v.aO.drop i=[]:=List.drop_eq_nil_of_le (by omega)
    have e1:v.aO.drop (i + 1)=[]:=List.drop_eq_nil_of_le (by omega)
    rw [e0,ac8]
    by_cases he:v.keys[i]=q
    · rw [if_pos (by simpa using he),if_pos (by simp; omega)]; rfl
    · rw [if_neg (by simpa using he),zy (by omega),Vq v q hv k (i + 1) (by omega) (by omega),e1,ac8]
  ·
   have:i=v.keys.length:=by omega
   subst this
   rw [if_neg (by simp),List.drop_length]
   cases v.aO.drop v.keys.length <;> rfl
theorem aaw {v:ah} (hv:v.keys.length < 4611686018427387904) (q:Str):Kv v q=some (aeK (Q5 v q)):=by
 unfold Kv Q5
 by_cases h:v.kind=5
 ·
  rw [if_neg (by simpa using h),if_pos h]
  exact Vq v q hv BIG 0 (by have:=jq; omega) (by omega)
 · rw [if_pos (by simpa using h),if_neg h]; rfl
theorem ahv (l:List Str) (q:Str) (hl:l.length < 4611686018427387904):∃ j:Int,ku l q=some j∧((j=-1∧q∉l)∨∃ i:Nat,j=i∧∃ h:i < l.length,l[i]=q∧∀ k (hk:k < i),l[k]'(by omega)≠q):=by
 unfold ku
 rw [dH (F:=fun k (_:Unit) i=>jH l q k i) (l:=l) (body:=fun (i:Nat) e1 (_:Unit) r=>if q == e1 then some (i:Int) else r ()) (fin:=fun _=>some (-1)) hl (fun k s i=>rfl) ()]
 have key:∀ (t:List Str) (i:Nat),t=l.drop i→(∀ k (hk:k < i) (hl:k < l.length),l[k]≠q)→∃ j:Int,dG (fun (i:Nat) e1 (_:Unit) r=>if q == e1 then some (i:Int) else r ()) (fun _=>some (-1)) i t ()=some j∧((j=-1∧q∉l)∨∃ i:Nat,j=i∧∃ h:i < l.length,l[i]=q∧∀ k (hk:k < i),l[k]'(by omega)≠q):=by
  intro t
  induction t with
  | nil=>
   intro i ht hne
   refine ⟨-1,rfl,.inl ⟨rfl,fun hm=>?_⟩⟩
   obtain ⟨k,hk,he⟩:=List.mem_iff_getElem.1 hm
   have:l.length≤i:=by
    rcases Nat.lt_or_ge i l.length with h | h
    · rw [List.drop_eq_getElem_cons h] at ht; cases ht
    · exact h
   exact hne k (by omega) hk he
  | cons d t ih=>
   intro i ht hne
   have hi:i < l.length:=by
    rcases Nat.lt_or_ge i l.length with h | h
    · exact h
    · rw [List.drop_eq_nil_of_le h] at ht; cases ht
   have hc:=List.drop_eq_getElem_cons hi
   rw [←ht] at hc
   have e1':=(List.cons.inj hc).1
   have e2':=(List.cons.inj hc).2
   rw [dG]
   by_cases he:q=d
   ·
    rw [if_pos (by simpa using he)]
    exact ⟨i,rfl,.inr ⟨i,rfl,hi,by rw [←e1',he],fun k hk=>hne k hk (by omega)⟩⟩
   ·
    rw [if_neg (by simpa using he)]
    refine ih (i + 1) e2' fun k hk hkl=>?_
    by_cases hki:k=i
    · subst hki; rw [←e1']; exact fun h=>he h.symm
    · exact hne k (by omega) hkl
 exact key l 0 rfl (fun k hk=>by omega)
theorem agn :∀ (ks:List Str) (xs:List ah) (q:Str) (i:Nat) (h:i < ks.length),ks[i]=q→(∀ k (hk:k < i),ks[k]'(by omega)≠q)→LZ ks xs q=xs[i]?
 | [],_,_,i,h,_,_=>by simp at h
 | k :: ks,[],q,i,h,_,_=>by simp [LZ]
 | k :: ks,x :: xs,q,0,h,he,_=>by simp at he; simp [LZ,he]
 | k :: ks,x :: xs,q,i + 1,h,he,hn=>by
  have h0:=hn 0 (by omega)
  simp only [List.getElem_cons_zero] at h0
  rw [LZ,if_neg h0,List.getElem?_cons_succ]
  exact agn ks xs q i (by simpa using h) (by simpa using he) fun k hk=>by have:=hn (k + 1) (by omega); simpa using this
theorem Wn :∀ (ks:List Str) (xs:List ah) (q:Str),q∉ks→LZ ks xs q=none
 | [],_,_,_=>by simp [LZ]
 | k :: ks,[],q,_=>by simp [LZ]
 | k :: ks,x :: xs,q,h=>by
  simp only [List.mem_cons,not_or] at h
  rw [LZ,if_neg (fun e=>h.1 e.symm),Wn ks xs q h.2]
theorem ank {v:ah} (hb:v.bulk < 4611686018427387904) (hv:∀ x∈v.aO,pG x=some x) (q:Str):CO v q=some (aeK (Q5 v q)):=by
 have hk:=yB v
 obtain ⟨j,h1,h2⟩:=ahv v.keys q (by omega)
 unfold CO Q5
 rw [h1,ay]
 by_cases h5:v.kind=5
 ·
  rw [if_pos h5]
  rcases h2 with ⟨rfl,hn⟩ | ⟨i,rfl,hi,he,hf⟩
  · rw [if_pos (by simp),Wn _ _ _ hn]; rfl
  ·
   rw [agn _ _ _ i hi he hf]
   by_cases hl:i < v.aO.length
   ·
    rw [if_neg (by simp [h5]; omega),rW hl,ay,List.getElem?_eq_getElem hl,hv _ (List.getElem_mem hl)]
    rfl
   · rw [if_pos (by simp [h5]; omega),List.getElem?_eq_none (by omega)]; rfl
 · rw [if_neg h5,if_pos (by simp [h5])]; rfl
end Go.Ft

namespace Go.Ft
open Go
attribute [local congr] dZ
def Eu {α:Type} (f:α→α→Int):List α→List α→Int
 | [],[]=>0
 | [],_ :: _=>-1
 | _ :: _,[]=>1
 | x :: xs,y :: ys=>if f x y != 0 then f x y else Eu f xs ys
theorem wO {α:Type} {l t:List α} {d:α} {i:Nat} (h:d :: t=l.drop i):∃ hi:i < l.length,d=l[i]∧t=l.drop (i + 1):=by
 have hi:i < l.length:=by
  rcases Nat.lt_or_ge i l.length with h' | h'
  · exact h'
  · rw [List.drop_eq_nil_of_le h'] at h; cases h
 have hc:=List.drop_eq_getElem_cons hi
 rw [←h] at hc
 exact ⟨hi,(List.cons.inj hc).1,(List.cons.inj hc).2⟩
theorem FE {α:Type} {l:List α} {i:Nat} (h:[]=l.drop i):l.length≤i:=by
 rcases Nat.lt_or_ge i l.length with h' | h'
 · rw [List.drop_eq_getElem_cons h'] at h; cases h
 · exact h'
theorem SH {α:Type} {a b:List α} {cmp:α→α→Option Int} {f:α→α→Int} (hc:∀ x∈a,∀ y∈b,cmp x y=some (f x y)):∀ (s t:List α) (i:Nat),s=a.drop i→t=b.drop i→i≤a.length→i≤b.length→
  dG (fun (i:Nat) e1 (_:Unit) r=>if decide ((b.length:Int)≤(i:Int)) then some 1 else au (idx b (i:Int)) fun e2=>au (cmp e1 e2) fun c1=>if c1 != 0 then some c1 else r ())
   (fun _=>if decide ((a.length:Int) < (b.length:Int)) then some (-1) else some 0) i s ()=some (Eu f s t)
 | [],[],i,hs,ht,_,_=>by
  have h1:=FE hs; have h2:=FE ht
  rw [dG,Eu,if_neg (by simp; omega)]
 | [],y :: t,i,hs,ht,_,_=>by
  have h1:=FE hs; obtain ⟨h2,_,_⟩:=wO ht
  rw [dG,Eu,if_pos (by simp; omega)]
 | x :: s,[],i,hs,ht,_,_=>by
  have h2:=FE ht
  rw [dG,Eu,if_pos (by simp; omega)]
 | x :: s,y :: t,i,hs,ht,_,_=>by
  obtain ⟨h1,e1,e2⟩:=wO hs; obtain ⟨h2,e3,e4⟩:=wO ht
  rw [dG,Eu,if_neg (by simp; omega),rW h2,ay,←e3,hc x (by rw [e1]; exact List.getElem_mem h1) y (by rw [e3]; exact List.getElem_mem h2),ay]
  split
  · rfl
  · exact SH hc s t (i + 1) e2 e4 (by omega) (by omega)
theorem sign_eq (b:Bool):pO b=some (if b then -1 else 1):=by unfold pO; cases b <;> rfl
theorem WK {α:Type} {a b:List α} {cmp:α→α→Option Int} {f:α→α→Int} {g:Int→Option Int} (hg:∀ x∈a,∀ y∈b,g (f x y)=some (f x y)) (hc:∀ x∈a,∀ y∈b,cmp x y=some (f x y)) (ha:a.length < 4611686018427387904) {F:Nat→Int→Option Int}
  (hF:∀ k (i:Nat),F (k + 1) (i:Int)=if (decide ((i:Int) < (a.length:Int))) && (decide ((i:Int) < (b.length:Int))) then au (idx a (i:Int)) fun e1=>au (idx b (i:Int)) fun e2=>au (cmp e1 e2) fun c1=>if c1 != 0 then g c1 else F k (bZ ((i:Int) + 1))
   else if (a.length:Int) == (b.length:Int) then some 0 else pO (decide ((a.length:Int) < (b.length:Int)))):
  ∀ (s t:List α) (k i:Nat),s=a.drop i→t=b.drop i→i≤a.length→i≤b.length→a.length < k + i→F k (i:Int)=some (Eu f s t)
 | _,_,0,i,_,_,_,_,h=>by omega
 | [],[],k + 1,i,hs,ht,_,_,_=>by
  have h1:=FE hs; have h2:=FE ht
  rw [hF,Eu,if_neg (by simp; omega),if_pos (by simp; omega)]
 | [],y :: t,k + 1,i,hs,ht,_,_,_=>by
  have h1:=FE hs; obtain ⟨h2,_,_⟩:=wO ht
  rw [hF,Eu,if_neg (by simp; omega),if_neg (by simp; omega),sign_eq,if_pos (by simp; omega)]
 | x :: s,[],k + 1,i,hs,ht,_,_,_=>by
  have h2:=FE ht; obtain ⟨h1,_,_⟩:=wO hs
  rw [hF,Eu,if_neg (by simp; omega),if_neg (by simp; omega),sign_eq,if_neg (by simp; omega)]
 | x :: s,y :: t,k + 1,i,hs,ht,_,_,hk=>by
  obtain ⟨h1,e1,e2⟩:=wO hs; obtain ⟨h2,e3,e4⟩:=wO ht
  have hx:x∈a:=by rw [e1]; exact List.getElem_mem h1
  have hy:y∈b:=by rw [e3]; exact List.getElem_mem h2
  rw [hF,Eu,if_pos (by simp; omega),rW h1,ay,rW h2,ay,←e1,←e3,hc x hx y hy,ay]
  split
  · exact hg x hx y hy
  ·
   rw [zy (by omega)]
   exact WK hg hc ha hF s t k (i + 1) e2 e4 (by omega) (by omega) (by omega)
mutual
def uo :ah→ah→Int
 | ⟨k,b,n,s,l,ks⟩,y=>
  if ug k y.kind != 0 then ug k y.kind else if k == 1 then zQ (!b && y.dO) (b && !y.dO) else if k == 2 then ug n y.dI else if k == 3 then Hu s y.bR else if k == 4 then Ti l y.aO
  else if k == 5 then (if Eu iF ks y.keys != 0 then Eu iF ks y.keys else Ti l y.aO) else 0
def Ti :List ah→List ah→Int
 | [],[]=>0
 | [],_ :: _=>-1
 | _ :: _,[]=>1
 | x :: xs,y :: ys=>if uo x y != 0 then uo x y else Ti xs ys
end
theorem YK :∀ l m:List ah,Ti l m=Eu uo l m
 | [],[]=>by rw [Ti,Eu]
 | [],_ :: _=>by rw [Ti,Eu]
 | _ :: _,[]=>by rw [Ti,Eu]
 | x :: xs,y :: ys=>by rw [Ti,Eu,YK xs ys]
theorem UC (x y:ah):uo x y=if ug x.kind y.kind != 0 then ug x.kind y.kind else if x.kind == 1 then zQ (!x.dO && y.dO) (x.dO && !y.dO) else if x.kind == 2 then ug x.dI y.dI else if x.kind == 3 then Hu x.bR y.bR else if x.kind == 4 then Eu uo x.aO y.aO
  else if x.kind == 5 then (if Eu iF x.keys y.keys != 0 then Eu iF x.keys y.keys else Eu uo x.aO y.aO) else 0:=by
 cases x; rw [uo,YK]
theorem adp (x y:Int):(if x != y then pO (decide (x < y)) else some 0)=some (ug x y):=by
 unfold ug zQ
 rw [sign_eq]
 by_cases h:x=y
 · subst h; simp
 ·
  by_cases h2:x < y
  · simp [h,h2]
  ·
   have:y < x:=by omega
   simp [h,h2,this]
theorem acL (x y:Str):(if (iF x y != 0)=true then pO (decide (iF x y < 0)) else some 0)=some (iF x y):=by
 rw [sign_eq]
 rcases (show iF x y=-1∨iF x y=0∨iF x y=1 from V4 _ _) with h | h | h <;> simp [h]
theorem aeh :∀ (n:Nat) (a b:ah),a.bulk≤n→a.bulk < 4611686018427387904→b.bulk < 4611686018427387904→ko (n + 1) a b=some (uo a b)∧∀ m,2 * n + 2≤m→lN m a b=some (uo a b)
 | 0,a,_,h,_,_=>by have:=a.jY; omega
 | n + 1,a,b,h,hA,hB=>by
  have hla:=vW a; have hka:=yB a
  have hlb:=vW b; have hkb:=yB b
  have ih:∀ x∈a.aO,∀ y∈b.aO,ko (n + 1) x y=some (uo x y)∧∀ m,2 * n + 2≤m→lN m x y=some (uo x y):=
   fun x hx y hy=>aeh n x y (by have:=iV hx; omega) (by have:=iV hx; omega) (by have:=iV hy; omega)
  have ks:∀ x∈a.keys,x.length < 4611686018427387904:=fun x hx=>by have:=N8 hx; omega
  have ks':∀ x∈b.keys,x.length < 4611686018427387904:=fun x hx=>by have:=N8 hx; omega
  constructor
  ·
   rw [ko,z8,UC,vM,ay]
   have hL:dw a.aO b.aO (ko (n + 1))=some (Eu uo a.aO b.aO):=by
    unfold dw
    rw [dH (F:=fun k (_:Unit) i=>dL a.aO b.aO (ko (n + 1)) k i) (l:=a.aO)
     (body:=fun (i:Nat) e1 (_:Unit) r=>if decide ((b.aO.length:Int)≤(i:Int)) then some 1 else au (idx b.aO (i:Int)) fun e2=>au (ko (n + 1) e1 e2) fun c1=>if c1 != 0 then some c1 else r ())
     (fin:=fun _=>if decide ((a.aO.length:Int) < (b.aO.length:Int)) then some (-1) else some 0) (by omega) (fun k s i=>rfl) ()]
    exact SH (fun x hx y hy=>(ih x hx y hy).1) _ _ 0 rfl rfl (by omega) (by omega)
   have hK:fI a.keys b.keys kI=some (Eu iF a.keys b.keys):=by
    unfold fI
    rw [dH (F:=fun k (_:Unit) i=>fq a.keys b.keys kI k i) (l:=a.keys)
     (body:=fun (i:Nat) e1 (_:Unit) r=>if decide ((b.keys.length:Int)≤(i:Int)) then some 1 else au (idx b.keys (i:Int)) fun e2=>au (kI e1 e2) fun c1=>if c1 != 0 then some c1 else r ())
     (fin:=fun _=>if decide ((a.keys.length:Int) < (b.keys.length:Int)) then some (-1) else some 0) (by omega) (fun k s i=>rfl) ()]
    exact SH (fun x hx y hy=>Sg (ks x hx) (ks' y hy)) _ _ 0 rfl rfl (by omega) (by omega)
   rw [hL,hK,vM,WI,ay]
   have hb:(au (wY a.dO) fun x1=>au (wY b.dO) fun x2=>cmp_Compare_int x1 x2)=some (zQ (!a.dO && b.dO) (a.dO && !b.dO)):=by
    unfold wY
    cases a.dO <;> cases b.dO <;> simp [vM,ug]
   rw [hb]
   repeat' split
   all_goals rfl
  ·
   intro m hm
   obtain ⟨m,rfl⟩:∃ q,m=q + 2:=⟨m - 2,by omega⟩
   rw [lN,DL,UC,u_,Iz]
   have hL:yN (lN m) a.aO b.aO BIG 0=some (Eu uo a.aO b.aO):=
    WK (g:=some) (fun x hx y hy=>rfl) (fun x hx y hy=>(ih x hx y hy).2 m (by omega)) (by omega) (F:=yN (lN m) a.aO b.aO) (fun k i=>rfl) _ _ BIG 0 rfl rfl (by omega) (by omega) (by have:=jq; omega)
   have hK:JM a.keys b.keys=some (Eu iF a.keys b.keys):=by
    unfold JM
    refine WK (g:=fun c=>if c != 0 then pO (decide (c < 0)) else some 0) (fun x hx y hy=>acL x y) (fun x hx y hy=>Pq (ks x hx) (ks' y hy)) (by omega) (F:=yM a.keys b.keys) (fun k i=>?_) _ _ BIG 0 rfl rfl (by omega) (by omega) (by have:=jq; omega)
    rw [yM]
    congr 1
    congr 1; funext e1
    congr 1; funext e2
    congr 1; funext c
    by_cases hc:(c != 0)=true
    · rw [if_pos hc,if_pos hc,if_pos hc]
    · rw [if_neg hc,if_neg hc]
   rw [hL,hK,ay]
   by_cases hk:a.kind=b.kind
   ·
    have e1:(a.kind != b.kind)=false:=by simpa using hk
    have e2:(ug a.kind b.kind != 0)=false:=by simpa using J4.2 hk
    rw [e1,e2]
    simp only [Bool.false_eq_true,if_false,adp]
    have hb:(if (!(a.dO == b.dO))=true then pO b.dO else some 0)=some (zQ (!a.dO && b.dO) (a.dO && !b.dO)):=by
     rw [sign_eq]; cases a.dO <;> cases b.dO <;> rfl
    have hs:(if (!(a.bR == b.bR))=true then pO (Go.Op.bytesLess a.bR b.bR) else some 0)=some (Hu a.bR b.bR):=by
     rw [sign_eq]
     unfold Hu zQ
     by_cases h:a.bR=b.bR
     · rw [h]; simp [Dw]
     · cases h1:Go.Op.bytesLess a.bR b.bR <;> simp [h]
    rw [hb,hs]
    repeat' split
    all_goals rfl
   ·
    have e1:(a.kind != b.kind)=true:=by simpa using hk
    have e2:(ug a.kind b.kind != 0)=true:=by simpa using fun h=>hk (J4.1 h)
    have:=adp a.kind b.kind
    rw [if_pos e1] at this
    rw [if_pos e1,if_pos e2,this]
theorem Qh {a b:ah} (hA:a.bulk < 4611686018427387904) (hB:b.bulk < 4611686018427387904):zJ a b=some (uo a b)∧IE a b=some (uo a b):=by
 obtain ⟨n,hn,hn2⟩:=uW
 unfold zJ IE
 constructor
 · rw [hn]; exact (aeh n a b (by omega) hA hB).1
 · exact (aeh a.bulk a b (Nat.le_refl _) hA hB).2 BIG (by have:=jq; omega)
theorem NW {a b:ah} (hA:a.bulk < 4611686018427387904) (hB:b.bulk < 4611686018427387904):pI a b=some (uo a b == 0)∧yP a b=some (uo a b == 0):=by
 unfold pI yP
 rw [(Qh hA hB).1,(Qh hA hB).2]
 exact ⟨rfl,rfl⟩
end Go.Ft

namespace Go.Ft
open Go
attribute [local congr] dZ
mutual
def zU :ah→Nat
 | ⟨k,_,_,_,l,_⟩=>if (k == 4) || (k == 5) then GX l 2 else 1
def GX :List ah→Nat→Nat
 | [],n=>n
 | x :: r,n=>GX r (max n (1 + zU x))
end
theorem xI (v:ah):zU v=if (v.kind == 4) || (v.kind == 5) then GX v.aO 2 else 1:=by cases v; rw [zU]
theorem DN :∀ (l:List ah) (n m:Nat),GX l n≤m↔n≤m∧∀ x∈l,1 + zU x≤m
 | [],n,m=>by simp [GX]
 | x :: r,n,m=>by
  rw [GX,DN r]
  simp only [List.mem_cons,forall_eq_or_imp,Nat.max_le]
  exact ⟨fun h=>⟨h.1.1,h.1.2,h.2⟩,fun h=>⟨⟨h.1,h.2.1⟩,h.2.2⟩⟩
theorem agi (l:List ah) (n:Nat):n≤GX l n:=((DN l n _).1 (Nat.le_refl _)).1
theorem acZ {l:List ah} {n:Nat} {x:ah} (h:x∈l):1 + zU x≤GX l n:=((DN l n _).1 (Nat.le_refl _)).2 x h
theorem aaL (v:ah):1≤zU v:=by
 rw [xI]; split
 · have:=agi v.aO 2; omega
 · omega
theorem acY :∀ (n:Nat) (v:ah),v.bulk≤n→zU v≤v.bulk
 | 0,v,h=>by have:=v.jY; omega
 | n + 1,v,h=>by
  rw [xI]; split
  ·
   rw [DN]
   refine ⟨?_,fun x hx=>?_⟩
   · rw [ah.jA]; omega
   ·
    have:=iV hx
    have:=acY n x (by omega)
    omega
  · exact v.jY
theorem Y7 {go:ah→Option Int}:∀ (l:List ah) (i s:Nat),(∀ x∈l,go x=some (zU x:Int))→(∀ x∈l,zU x < 4611686018427387904)→
  dG (fun _ e1 (n1:Int) r=>au (go e1) fun x1=>r (if n1 < (bZ (1 + x1)) then (bZ (1 + x1)) else n1)) (fun n1=>some n1) i l (s:Int)=some (GX l s:Int)
 | [],i,s,_,_=>rfl
 | x :: r,i,s,h,hb=>by
  have hx:=hb x (by simp)
  rw [dG,h x (by simp),ay,GX]
  have e:bZ (1 + (zU x:Int))=((1 + zU x:Nat):Int):=by rw [vo (by omega)]; omega
  rw [e]
  have e2:(if (s:Int) < ((1 + zU x:Nat):Int) then ((1 + zU x:Nat):Int) else (s:Int))=((max s (1 + zU x):Nat):Int):=by
   split <;> congr 1 <;> omega
  rw [e2]
  exact Y7 r (i + 1) _ (fun y hy=>h y (by simp [hy])) (fun y hy=>hb y (by simp [hy]))
theorem aiY :∀ (n:Nat) (v:ah),v.bulk≤n→v.bulk < 4611686018427387904→qG (n + 1) v=some (zU v:Int)
 | 0,v,h,_=>by have:=v.jY; omega
 | n + 1,v,h,hb=>by
  have hl:=vW v
  rw [qG,Fp,xI]
  by_cases hk:((v.kind == 4) || (v.kind == 5))=true
  ·
   rw [if_pos hk,if_neg (by simp at hk ⊢; omega)]
   rw [dH (F:=fun k s i=>zO (qG (n + 1)) v k s i) (l:=v.aO) (body:=fun _ e1 (n1:Int) r=>au (qG (n + 1) e1) fun x1=>r (if n1 < (bZ (1 + x1)) then (bZ (1 + x1)) else n1)) (fin:=fun n1=>some n1) (by omega) (fun k s i=>rfl)]
   exact Y7 v.aO 0 2 (fun x hx=>aiY n x (by have:=iV hx; omega) (by have:=iV hx; omega)) (fun x hx=>by have:=iV hx; have:=acY _ x (Nat.le_refl _); omega)
  · rw [if_neg hk,if_pos (by simp at hk ⊢; omega)]; rfl
theorem Vx {v:ah} (h:v.bulk < 4611686018427387904):Gz v=some (zU v:Int):=by
 obtain ⟨n,hn,hn2⟩:=uW
 unfold Gz
 rw [hn]
 exact aiY n v (by omega) h
mutual
def y7 :ah→Bool
 | ⟨a,b,c,d,l,f⟩=>(qL ⟨a,b,c,d,l,f⟩ 1 == 0) && aip l
def aip :List ah→Bool
 | []=>true
 | x :: r=>y7 x && aip r
end
theorem abR :∀ l:List ah,aip l=true↔∀ x∈l,y7 x=true
 | []=>by simp [aip]
 | x :: r=>by simp [aip,abR r]
theorem zA (v:ah):y7 v=true↔qL v 1=0∧∀ x∈v.aO,y7 x=true:=by
 cases v; rw [y7,Bool.and_eq_true,abR]; simp
theorem YJ (v:ah) (level:Nat):qL v level=if 16 < level then 13 else if qL v 1≠0 then qL v 1 else if ((((v.kind == 4) || (v.kind == 5)) && ((v.aO.length:Int) == 0)) && level == 16)=true then 13 else 0:=by
 unfold qL
 have e1:((1:Nat) == 16)=false:=rfl
 rw [e1]
 generalize ((decide (v.kind < 0)) || (decide (5 < v.kind)) || !vv v)=c1
 generalize ((decide (v.dI < (-9007199254740992))) || (decide (9007199254740992 < v.dI)))=c2
 generalize (((decide (4096 < (v.bR.length:Int))) || (decide (1024 < (v.aO.length:Int)))) || (decide (1024 < (v.keys.length:Int))))=c3
 generalize (v.kind == 5 && !(((v.keys.length:Int) == (v.aO.length:Int)) && NN none v.keys))=c4
 generalize ((((v.kind == 4) || (v.kind == 5)) && ((v.aO.length:Int) == 0)) && level == 16)=c5
 by_cases h:16 < level
 · rw [if_pos h,if_pos h]
 ·
  rw [if_neg h,if_neg h]
  cases c1 <;> cases c2 <;> cases c3 <;> cases c4 <;> simp
theorem RX {v:ah} (h:qL v 1=0):vv v=true:=by
 unfold qL at h
 cases hp:vv v with
 | true=>rfl
 | false=>simp [hp] at h
theorem Vd {v:ah} (h:y7 v=true) (hk:((v.kind == 4) || (v.kind == 5))=false):v.aO=[]:=by
 have hp:=RX ((zA v).1 h).1
 unfold vv at hp
 simp only [Bool.and_eq_true,hk,Bool.false_or,beq_iff_eq] at hp
 exact List.eq_nil_of_length_eq_zero (by omega)
theorem YM :∀ (l:List ah) (level:Nat),(∀ x∈l,zB x level=if level + zU x≤17 then 0 else 13)→Ik l level=if ∀ x∈l,level + zU x≤17 then 0 else 13
 | [],level,_=>by simp [Ik]
 | x :: r,level,h=>by
  rw [Ik,h x (by simp),YM r level fun y hy=>h y (by simp [hy])]
  by_cases h1:level + zU x≤17
  · simp [h1]
  · simp [h1]
theorem Qq :∀ (n:Nat) (v:ah) (level:Nat),v.bulk≤n→y7 v=true→1≤level→zB v level=if level + zU v≤17 then 0 else 13
 | 0,v,_,h,_,_=>by have:=v.jY; omega
 | n + 1,v,level,h,hv,hl=>by
  obtain ⟨h1,h2⟩:=(zA v).1 hv
  have hp:=aaL v
  have hn:qL v level=if 16 < level then 13 else if ((((v.kind == 4) || (v.kind == 5)) && ((v.aO.length:Int) == 0)) && level == 16)=true then 13 else 0:=by
   rw [YJ,h1]; simp
  rw [UD]
  by_cases h16:16 < level
  ·
   rw [if_pos h16] at hn
   rw [hn,if_pos (by simp),if_neg (by omega)]
  ·
   rw [if_neg h16] at hn
   rw [YM v.aO (level + 1) fun x hx=>Qq n x (level + 1) (by have:=iV hx; omega) (h2 x hx) (by omega)]
   cases hk:((v.kind == 4) || (v.kind == 5)) with
   | false=>
    have he:=Vd hv hk
    rw [hk] at hn
    have hl1:zU v=1:=by rw [xI,hk]; rfl
    simp only [Bool.false_and,Bool.false_eq_true,if_false] at hn
    rw [hn,hl1,he,if_neg (by simp),if_pos (by simp),if_pos (by omega)]
   | true=>
    have hl1:zU v=GX v.aO 2:=by rw [xI,hk]; rfl
    rw [hk] at hn
    simp only [Bool.true_and] at hn
    have key:level + GX v.aO 2≤17↔level≤15∧∀ x∈v.aO,level + 1 + zU x≤17:=by
     have:=DN v.aO 2 (17 - level)
     constructor
     ·
      intro h
      obtain ⟨a,b⟩:=this.1 (by omega)
      exact ⟨by omega,fun x hx=>by have:=b x hx; omega⟩
     ·
      rintro ⟨a,b⟩
      have:=this.2 ⟨by omega,fun x hx=>by have:=b x hx; omega⟩
      omega
    rw [hl1]
    by_cases he:v.aO=[]
    ·
     rw [if_pos (c:=∀ x∈v.aO,level + 1 + zU x≤17) (by simp [he])]
     by_cases mo:level=16
     ·
      rw [if_pos (by simp [he,mo])] at hn
      rw [hn,if_pos (by simp),if_neg (fun h=>by have:=key.1 h; omega)]
     ·
      rw [if_neg (by simp [mo])] at hn
      rw [hn,if_neg (by simp),if_pos (key.2 ⟨by omega,by simp [he]⟩)]
    ·
     have hpos:0 < v.aO.length:=List.length_pos_iff.2 he
     rw [if_neg (by simp [he])] at hn
     rw [hn,if_neg (by simp)]
     obtain ⟨x,hx⟩:=List.exists_mem_of_ne_nil _ he
     have hpx:=aaL x
     refine dZ (propext (Iff.trans ?_ key.symm))
     exact ⟨fun h=>⟨by have:=h x hx; omega,h⟩,fun h=>h.2⟩
theorem aio :∀ (n:Nat) (v:ah) (level:Nat),v.bulk≤n→zB v level=0→y7 v=true
 | 0,v,_,h,_=>by have:=v.jY; omega
 | n + 1,v,level,h,hc=>by
  obtain ⟨h1,h2⟩:=RZ hc
  refine (zA v).2 ⟨?_,fun x hx=>aio n x (level + 1) (by have:=iV hx; omega) (h2 x hx)⟩
  rw [YJ] at h1
  split at h1
  · omega
  ·
   split at h1
   · exact h1
   · rename_i hq; exact Decidable.not_not.1 hq
def VV (v:ah):Prop:=y7 v=true∧zU v≤16
theorem NP (v:ah):zB v 1=0↔VV v:=by
 constructor
 ·
  intro h
  have ho:=aio _ v 1 (Nat.le_refl _) h
  refine ⟨ho,?_⟩
  rw [Qq _ v 1 (Nat.le_refl _) ho (by omega)] at h
  split at h
  · omega
  · cases h
 ·
  rintro ⟨h1,h2⟩
  rw [Qq _ v 1 (Nat.le_refl _) h1 (by omega),if_pos (by omega)]
theorem VV.mem {v x:ah} (h:VV v) (hx:x∈v.aO):VV x:=by
 refine ⟨((zA v).1 h.1).2 x hx,?_⟩
 have h2:=h.2
 rw [xI] at h2
 split at h2
 · have:=acZ (n:=2) hx; omega
 ·
  rename_i hk
  have:=Vd h.1 (by simpa using hk)
  rw [this] at hx; cases hx
theorem YH {go:Int→ah→Int→Option (Bool × Int)} {level:Nat}:∀ (l:List ah) (i s:Nat),(∀ x∈l,∀ s:Nat,go (s:Int) x ((level + 1:Nat):Int)=some (true,((max s (level + zU x):Nat):Int)))→
  dG (fun _ x1 (s1:Int) r=>fM (go s1 x1 ((level + 1:Nat):Int)) fun b1 s2=>if !b1 then some (false,s2) else r s2) (fun s1=>some (true,s1)) i l (s:Int)=some (true,((l.foldl (fun s x=>max s (level + zU x)) s:Nat):Int))
 | [],i,s,_=>rfl
 | x :: r,i,s,h=>by
  rw [dG,h x (by simp),bU,if_neg (by simp)]
  exact YH r (i + 1) _ fun y hy=>h y (by simp [hy])
theorem ac_ :∀ (l:List ah) (level s n:Nat),l.foldl (fun s x=>max s (level + zU x)) (max s (level + n))=max s (level + (GX l (n + 1) - 1))
 | [],level,s,n=>by simp [GX]
 | x :: r,level,s,n=>by
  rw [List.foldl_cons,GX]
  have e:max (max s (level + n)) (level + zU x)=max s (level + max n (zU x)):=by omega
  rw [e,ac_ r level s]
  congr 3
  rw [show max n (zU x) + 1=max (n + 1) (1 + zU x) from by omega]
theorem aij :∀ (n:Nat) (v:ah) (level s:Nat),v.bulk≤n→v.bulk < 4611686018427387904→y7 v=true→1≤level→level + n < 4611686018427387904→iJ jr (n + 1) (s:Int) v (level:Int)=some (true,((max s (level - 1 + zU v):Nat):Int))
 | 0,v,_,_,h,_,_,_,_=>by have:=v.jY; omega
 | n + 1,v,level,s,h,hB,hv,hl,hn=>by
  have hll:=vW v
  obtain ⟨h1,h2⟩:=(zA v).1 hv
  rw [iJ,yC,jr,bU,if_neg (by simp)]
  have hw:bZ ((level:Int) + 1)=((level + 1:Nat):Int):=zy (by omega)
  have ih:∀ x∈v.aO,∀ s:Nat,iJ jr (n + 1) (s:Int) x ((level + 1:Nat):Int)=some (true,((max s (level + zU x):Nat):Int)):=fun x hx s=>
   aij n x (level + 1) s (by have:=iV hx; omega) (by have:=iV hx; omega) (h2 x hx) (by omega) (by omega)
  have sc:∀ s:Nat,nA (iJ jr (n + 1)) v (level:Int) BIG (s:Int) 0=some (true,((v.aO.foldl (fun s x=>max s (level + zU x)) s:Nat):Int)):=by
   intro s
   rw [dH (F:=fun k s i=>nA (iJ jr (n + 1)) v (level:Int) k s i) (l:=v.aO) (body:=fun _ x1 (s1:Int) r=>fM (iJ jr (n + 1) s1 x1 ((level + 1:Nat):Int)) fun b1 s2=>if !b1 then some (false,s2) else r s2) (fin:=fun s1=>some (true,s1)) (by omega) (fun k s i=>by rw [←hw]; rfl)]
   exact YH v.aO 0 s ih
  unfold vO
  rw [hw,xI]
  cases hk:((v.kind == 4) || (v.kind == 5)) with
  | false=>
   have hnil:=Vd hv hk
   simp only [Bool.false_and,Bool.false_eq_true,if_false]
   have e:(if (s:Int) < (level:Int) then (level:Int) else (s:Int))=((max s level:Nat):Int):=by split <;> omega
   rw [e,sc,hnil]
   simp only [List.foldl_nil]
   rw [show level - 1 + 1=level from by omega]
  | true=>
   simp only [Bool.true_and,if_true]
   by_cases he:v.aO=[]
   ·
    have q:((v.aO.length:Int) == 0)=true:=by simp [he]
    simp only [q,if_true]
    have e:(if (s:Int) < ((level + 1:Nat):Int) then ((level + 1:Nat):Int) else (s:Int))=((max s (level + 1):Nat):Int):=by split <;> omega
    rw [e,sc,he]
    simp only [List.foldl_nil,GX]
    rw [show level - 1 + 2=level + 1 from by omega]
   ·
    have q:((v.aO.length:Int) == 0)=false:=by simp [he]
    simp only [q,Bool.false_eq_true,if_false]
    have e:(if (s:Int) < (level:Int) then (level:Int) else (s:Int))=((max s (level + 0):Nat):Int):=by split <;> omega
    rw [e,sc,ac_]
    have hne:∃ x r,v.aO=x :: r:=by
     cases hc:v.aO with
     | nil=>exact absurd hc he
     | cons x r=>exact ⟨x,r,rfl⟩
    obtain ⟨x,r,hc⟩:=hne
    have hx:=aaL x
    have e2:GX v.aO (0 + 1)=GX v.aO 2:=by
     rw [hc,GX,GX]; congr 1; omega
    rw [e2]
    have:=agi v.aO 2
    congr 3
    omega
theorem aei {v:ah} (h:v.bulk < 2305843009213693952) (hv:y7 v=true):Bh v=some (zU v:Int):=by
 obtain ⟨n,hn,hn2⟩:=uW
 unfold Bh Gm
 have key:=aij v.bulk v 1 0 (Nat.le_refl _) (by omega) hv (by omega) (by omega)
 have mono:∀ (k:Nat) (s:Int) (x:ah) (lv:Int) (r:Bool × Int),iJ jr k s x lv=some r→∀ m,k≤m→iJ jr m s x lv=some r:=by
  intro k
  induction k with
  | zero=>intro s x lv r h; cases h
  | succ k ih=>
   intro s x lv r h m hm
   obtain ⟨m,rfl⟩:∃ q,m=q + 1:=⟨m - 1,by omega⟩
   have lp:∀ (v:ah) (level:Int) (f:Nat) (s i:Int) (r:Bool × Int),nA (iJ jr k) v level f s i=some r→nA (iJ jr m) v level f s i=some r:=by
    intro v level f
    induction f with
    | zero=>intro s i r h; cases h
    | succ f ihf=>
     intro s i r h
     rw [nA] at h ⊢
     split at h
     ·
      rename_i hc
      rw [if_pos hc]
      obtain ⟨x,hx,h⟩:=aN h
      obtain ⟨b,s2,hb,h⟩:=aV h
      rw [hx,ay,ih _ _ _ _ hb m (by omega),bU]
      split at h
      · rename_i hc2; rw [if_pos hc2]; exact h
      · rename_i hc2; rw [if_neg hc2]; exact ihf _ _ _ h
     ·
      rename_i hc
      rw [if_neg hc]; exact h
   rw [iJ,yC] at h ⊢
   obtain ⟨b,s2,hb,h⟩:=aV h
   rw [hb,bU]
   split at h
   · rename_i hc; rw [if_pos hc]; exact h
   · rename_i hc; rw [if_neg hc]; exact lp _ _ _ _ _ _ h
 have:=mono _ _ _ _ _ key BIG (by have:=jq; omega)
 rw [show ((0:Nat):Int)=0 from rfl,show ((1:Nat):Int)=1 from rfl] at this
 rw [this,bU]
 simp
theorem kF {v:ah} (h:y7 v=true):v.bR.length≤4096∧v.aO.length≤1024∧v.keys.length≤1024∧-9007199254740992≤v.dI∧v.dI≤9007199254740992:=by
 have h1:=((zA v).1 h).1
 unfold qL at h1
 rw [if_neg (by omega)] at h1
 split at h1
 · cases h1
 ·
  split at h1
  · cases h1
  ·
   rename_i h2
   split at h1
   · cases h1
   ·
    rename_i h3
    simp only [Bool.or_eq_true,decide_eq_true_eq,not_or,Int.not_lt] at h2 h3
    omega
theorem RY {v:ah} (h:y7 v=true) (hb:v.bulk < 4611686018427387904):pG v=some v∧Ap v=some v:=
 abU (S:=fun v=>y7 v=true) (fun v h=>by
  have:=kF h
  have hL:wB=4294967296:=rfl
  exact ⟨by omega,by omega,((zA v).1 h).2⟩) h hb
theorem afL {v:ah} (h:y7 v=true) (hb:v.bulk < 4611686018427387904) (q:Str):CO v q=some (aeK (Q5 v q)):=
 ank hb (fun x hx=>(RY (((zA v).1 h).2 x hx) (by have:=iV hx; omega)).1) q
end Go.Ft

namespace Go.Ft
open Go
attribute [local congr] dZ
def VW (b:Bool):ah:=ah.mk 1 b 0 ([]:Str) [] []
def mkI (n:Int):ah:=ah.mk 2 false n ([]:Str) [] []
def mkS (s:Str):ah:=ah.mk 3 false 0 s [] []
def F9 (l:List ah):ah:=ah.mk 4 false 0 ([]:Str) l []
def X0 (lo hi:UInt8) (Cw:Int) (c:UInt8):UInt8:=if (decide ((lo.toNat:Int)≤(c.toNat:Int))) && (decide ((c.toNat:Int)≤(hi.toNat:Int))) then Ft.byteOf (bZ ((c.toNat:Int) + Cw)) else c
theorem oP {α:Type} {l m:List α} (h:l.length + m.length≤wB):app l m=some (l ++ m):=vN h
end Go.Ft
