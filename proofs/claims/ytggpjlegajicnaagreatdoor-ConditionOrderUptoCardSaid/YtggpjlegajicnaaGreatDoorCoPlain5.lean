/- Proved here: plain facts on the functional texts. -/
import Derived.Test.YtggpjlegajicnaaGreatDoorCoPlain1
import Derived.Test.YtggpjlegajicnaaGreatDoorCoPlain2
import Derived.Test.YtggpjlegajicnaaGreatDoorCoPlain3
import Derived.Test.YtggpjlegajicnaaGreatDoorCoPre1
import Derived.Test.YtggpjlegajicnaaGreatDoorCoPre2
import Derived.Test.YtggpjlegajicnaaGreatDoorCoFt1
import Derived.Test.YtggpjlegajicnaaGreatDoorCoFt2
import Derived.Test.YtggpjlegajicnaaGreatDoorCoFt3
set_option linter.unusedVariables false
set_option linter.unusedSimpArgs false
set_option linter.unusedSectionVars false
set_option maxHeartbeats 2000000
namespace Go.Ft
open Go
attribute [local congr] dZ
theorem N8 {v:ah} {x:Str} (h:x∈v.keys):x.length < v.bulk:=by rw [ah.jA v]; have:=KO (f:=fun z:Str=>z.length + 1) h; omega
theorem J2 (e:aj):e.args.length < e.bulk:=by rw [aj.jA,aj.kE]; have:=Oj (l:=e.args) aj.jY; omega
theorem jl {e x:aj} (h:x∈e.args):x.bulk < e.bulk:=by rw [aj.jA e,aj.kE]; have:=KO (f:=aj.bulk) h; omega
theorem Om (v:aj):v.keys.length < v.bulk:=by rw [aj.jA]; have:=Oj (l:=v.keys) (f:=fun z:Str=>z.length + 1) (fun x=>by omega); omega
theorem ahB (v:aj):v.name.length < v.bulk:=by rw [aj.jA]; omega
theorem Ez (v:aj):v.value.bulk < v.bulk:=by rw [aj.jA]; omega
mutual
def ecnt :aj→Nat
 | ⟨_,_,_,args,_⟩=>1 + IX args
def IX :List aj→Nat
 | []=>0
 | x :: r=>ecnt x + IX r
end
theorem FD (e:aj):ecnt e=1 + IX e.args:=by cases e; rfl
theorem adk :∀ (l:List aj) (n:Nat),(∀ x∈l,ecnt x≤x.bulk)→IX l≤(l.map aj.bulk).sum
 | [],_,_=>by simp [IX]
 | x :: r,n,h=>by
  simp only [IX,List.map_cons,List.sum_cons]
  have:=h x (by simp)
  have:=adk r n fun y hy=>h y (by simp [hy])
  omega
theorem KY :∀ (n:Nat) (e:aj),e.bulk≤n→ecnt e≤e.bulk
 | 0,e,h=>by have:=e.jY; omega
 | n + 1,e,h=>by
  rw [FD,aj.jA,aj.kE]
  have:=adk e.args n fun x hx=>KY n x (by have:=jl hx; omega)
  omega
theorem ae8 {go:aj→Option Int}:∀ (l:List aj) (i s:Nat),(∀ x∈l,go x=some (ecnt x:Int))→s + IX l < 4611686018427387904→
  dG (fun _ e2 (n1:Int) r=>au (go e2) fun x2=>r (bZ (n1 + x2))) (fun n1=>some n1) i l (s:Int)=some ((s + IX l:Nat):Int)
 | [],i,s,_,_=>by simp [dG,IX]
 | x :: r,i,s,h,hs=>by
  simp only [IX] at hs ⊢
  rw [dG,h x (by simp)]
  simp only [ay]
  have:bZ ((s:Int) + (ecnt x:Int))=((s + ecnt x:Nat):Int):=by rw [vo (by omega)]; omega
  rw [this,ae8 r (i + 1) (s + ecnt x) (fun y hy=>h y (by simp [hy])) (by omega)]
  simp only [Option.some.injEq,Int.natCast_inj]; omega
theorem abb :∀ (n:Nat) (e:aj),e.bulk≤n→e.bulk < 4611686018427387904→nM (n + 1) e=some (ecnt e:Int)∧sQ (n + 1) e=some (ecnt e:Int)
 | 0,e,h,_=>by have:=e.jY; omega
 | n + 1,e,h,hB=>by
  have hl:=J2 e
  have hle:=KY _ e (Nat.le_refl _)
  rw [FD] at hle
  constructor
  ·
   unfold nM BO
   have:=dH (F:=fun k s i=>vS (nM (n + 1)) e k s i) (l:=e.args) (body:=fun _ e2 (n1:Int) r=>au (nM (n + 1) e2) fun x2=>r (bZ (n1 + x2))) (fin:=fun n1=>some n1) (by omega) (fun k s i=>rfl) 1
   rw [this,show (1:Int)=((1:Nat):Int) from rfl,ae8 e.args 0 1 (fun x hx=>(abb n x (by have:=jl hx; omega) (by have:=jl hx; omega)).1) (by omega),FD]
  ·
   unfold sQ Iw
   have:=dH (F:=fun k s i=>Bw (sQ (n + 1)) e k s i) (l:=e.args) (body:=fun _ e2 (n1:Int) r=>au (sQ (n + 1) e2) fun x2=>r (bZ (n1 + x2))) (fin:=fun n1=>some n1) (by omega) (fun k s i=>rfl) 1
   rw [this,show (1:Int)=((1:Nat):Int) from rfl,ae8 e.args 0 1 (fun x hx=>(abb n x (by have:=jl hx; omega) (by have:=jl hx; omega)).2) (by omega),FD]
theorem count_eq {e:aj} (h:e.bulk < 4611686018427387904):Fu e=some (ecnt e:Int)∧JJ e=some (ecnt e:Int):=by
 obtain ⟨n,hn,hn2⟩:=uW
 unfold Fu JJ
 rw [hn]
 exact abb n e (by omega) h
def isName (s:Str):Bool:=decide (1≤s.length) && decide (s.length≤64) && (match s with | c :: _=>isLet c | []=>false) && s.all fun c=>isLet c || eX c
def oZ (s:Str):Bool:=isName s && !((s == ([116,114,117,101]:Str)) || (s == ([102,97,108,115,101]:Str)) || (s == ([110,117,108,108]:Str)))
theorem ap7 (s:Str) (hs:s.length < 4611686018427387904):uJ s BIG 0=some (s.all fun c=>isLet c || eX c):=by
 have:=dH (F:=fun k (_:Unit) i=>uJ s k i) (l:=s) (body:=fun (i:Nat) x3 _ r=>au (if !(isLet x3) then au (idx s (i:Int)) fun x5=>some (!(eX x5)) else some false) fun b2=>if b2 then some false else r ()) (fin:=fun _=>some true) hs (fun k s i=>rfl) ()
 rw [this]
 have key:∀ (t:Str) (i:Nat),t=s.drop i→dG (fun (i:Nat) x3 (_:Unit) r=>au (if !(isLet x3) then au (idx s (i:Int)) fun x5=>some (!(eX x5)) else some false) fun b2=>if b2 then some false else r ()) (fun _=>some true) i t ()=some (t.all fun c=>isLet c || eX c):=by
  intro t
  induction t with
  | nil=>intro i _; rfl
  | cons c t ih=>
   intro i ht
   have hi:i < s.length:=by
    rcases Nat.lt_or_ge i s.length with h | h
    · exact h
    · rw [List.drop_eq_nil_of_le h] at ht; cases ht
   have hc:=List.drop_eq_getElem_cons hi
   rw [←ht] at hc
   have e1:c=s[i]:=(List.cons.inj hc).1
   have e2:=(List.cons.inj hc).2
   rw [dG,rW hi,←e1]
   simp only [ay]
   rw [ih (i + 1) e2]
   cases h1:isLet c <;> cases h2:eX c <;> simp [h1,h2]
 exact key s 0 rfl
theorem aoj (s:Str) (hs:s.length < 4611686018427387904):AQ s=some (isName s):=by
 unfold AQ isName
 rw [ap7 s hs]
 by_cases h1:s.length < 1
 ·
  have:s=[]:=by cases s; rfl; simp at h1
  subst this; simp
 ·
  by_cases h2:64 < s.length
  ·
   have e1:decide ((64:Int) < (s.length:Int))=true:=by simp; omega
   have e2:decide (s.length≤64)=false:=by simp; omega
   simp [e1,e2]
  ·
   cases s with
   | nil=>simp at h1
   | cons c s=>
    have e1:decide ((((c :: s).length:Nat):Int) < 1)=false:=by simp; omega
    have e2:decide ((64:Int) < (((c :: s).length:Nat):Int))=false:=by simp at h2 ⊢; omega
    have e3:decide ((c :: s).length≤64)=true:=by simp at h2 ⊢; omega
    have e4:idx (c :: s) 0=some c:=rfl
    rw [e1,e2,e3,e4]
    cases h3:isLet c <;> simp [h3]
theorem anz (s:Str) (hs:s.length < 4611686018427387904):ML s=some (isName s):=by
 unfold ML
 have:=dH (F:=fun k (_:Unit) i=>El s k i) (l:=s) (body:=fun (i:Nat) x3 _ r=>au (if !(isLet x3) then (if (i:Int) == 0 then some true else au (idx s (i:Int)) fun x5=>some (!(eX x5))) else some false) fun b2=>if b2 then some false else r ())
  (fin:=fun _=>some ((decide (1≤(s.length:Int))) && (decide ((s.length:Int)≤64)))) hs (fun k s i=>rfl) ()
 rw [this]
 have key:∀ (t:Str) (i:Nat),t=s.drop i→dG (fun (i:Nat) x3 (_:Unit) r=>au (if !(isLet x3) then (if (i:Int) == 0 then some true else au (idx s (i:Int)) fun x5=>some (!(eX x5))) else some false) fun b2=>if b2 then some false else r ())
   (fun _=>some ((decide (1≤(s.length:Int))) && (decide ((s.length:Int)≤64)))) i t ()=some ((decide (1≤s.length) && decide (s.length≤64)) && ((if i=0 then (match t with | c :: _=>isLet c | []=>true) else true) && t.all fun c=>isLet c || eX c)):=by
  intro t
  induction t with
  | nil=>
   intro i _
   rw [dG]
   have e1:decide ((1:Int)≤(s.length:Int))=decide (1≤s.length):=by congr 1; simp; omega
   have e2:decide ((s.length:Int)≤64)=decide (s.length≤64):=by congr 1; simp; omega
   rw [e1,e2]; simp
  | cons c t ih=>
   intro i ht
   have hi:i < s.length:=by
    rcases Nat.lt_or_ge i s.length with h | h
    · exact h
    · rw [List.drop_eq_nil_of_le h] at ht; cases ht
   have hc:=List.drop_eq_getElem_cons hi
   rw [←ht] at hc
   have e1:c=s[i]:=(List.cons.inj hc).1
   have e2:=(List.cons.inj hc).2
   rw [dG,rW hi,←e1]
   simp only [ay]
   rw [ih (i + 1) e2]
   by_cases h0:i=0
   ·
    subst h0
    cases h1:isLet c <;> simp [h1]
   ·
    have:((i:Int) == 0)=false:=by simp; omega
    rw [this]
    cases h1:isLet c <;> cases h2:eX c <;> simp [h1,h2,h0]
 rw [key s 0 rfl]
 unfold isName
 cases s with
 | nil=>simp
 | cons c s=>simp [Bool.and_assoc]
theorem VA (s:Str) (hs:s.length < 4611686018427387904):vD s=some (oZ s)∧yK s=some (oZ s):=by
 unfold vD yK oZ AL
 rw [aoj s hs,anz s hs]
 constructor
 · cases isName s <;> simp
 ·
  simp only [ay,Option.some.injEq]
  cases isName s <;> simp [Bool.not_or,Bool.and_assoc]
theorem Ip (s:Str):Bv s=iZ s:=rfl
theorem XR (s:Str):∃ n,iZ s=some n:=by
 have:(iZ s).isSome=true:=by
  unfold iZ
  simp only [apply_ite Option.isSome,Option.isSome_some,ite_self]
 exact Option.isSome_iff_exists.1 this
end Go.Ft

namespace Go.Ft
open Go
attribute [local congr] dZ
theorem alT {a b:Str} (ha:a.length < 4611686018427387904) (hb:b.length < 4611686018427387904):kI a b=some (XT a b)∧qN a b=some (XT a b):=by
 obtain ⟨c,h1,h2⟩:=WE ha hb
 unfold XT
 rw [h2]
 exact ⟨h1,rfl⟩
theorem aaN (s:Str):((decide ((s.length:Int) < 1)) || (decide (64 < (s.length:Int))))=!xK s:=by
 unfold xK
 rw [Bool.eq_iff_iff]
 simp only [Bool.or_eq_true,Bool.not_eq_true',Bool.and_eq_false_iff,decide_eq_true_eq,decide_eq_false_iff_not]
 omega
theorem key_eq (s:Str):Ob s=some (xK s):=by
 unfold Ob xK
 simp only [Option.some.injEq]
 rw [Bool.eq_iff_iff]
 simp only [Bool.and_eq_true,decide_eq_true_eq]
 omega
def MU (l:List Str) (i:Nat):Option Str:=if i=0 then none else l[i - 1]?
theorem agG {v:ah} (hv:v.bulk < 4611686018427387904):∀ (k i:Nat),v.keys.length < k + i→i≤v.keys.length→
  uG v k (i:Int)=some (NN (MU v.keys i) (v.keys.drop i))∧
  qW v k (i:Int)=some (NN (MU v.keys i) (v.keys.drop i) && ((v.keys.length:Int) == (v.aO.length:Int)))
 | 0,i,h,h'=>by omega
 | k + 1,i,h,h'=>by
  have hlen:=yB v
  rw [uG,qW]
  by_cases hi:i < v.keys.length
  ·
   have hm:v.keys[i]∈v.keys:=List.getElem_mem hi
   have hb:=N8 hm
   rw [List.drop_eq_getElem_cons hi,if_pos (by simp; omega),if_pos (by simp; omega),rW hi]
   simp only [ay,aaN,key_eq,NN]
   obtain ⟨ih1,ih2⟩:=agG hv k (i + 1) (by omega) (by omega)
   have hp:MU v.keys (i + 1)=some v.keys[i]:=by simp [MU,hi]
   rw [hp] at ih1 ih2
   rw [zy (by omega),ih1,ih2]
   by_cases h0:i=0
   ·
    subst h0
    have hp0:MU v.keys 0=none:=rfl
    rw [hp0]
    cases xK v.keys[0] <;> simp
   ·
    have hi1:i - 1 < v.keys.length:=by omega
    have hm1:v.keys[i - 1]∈v.keys:=List.getElem_mem hi1
    have hb1:=N8 hm1
    have hp0:MU v.keys i=some v.keys[i - 1]:=by simp [MU,h0,hi1]
    have e1:bZ ((i:Int) - 1)=((i - 1:Nat):Int):=by rw [vo (by omega)]; omega
    obtain ⟨c1,c2⟩:=alT (a:=v.keys[i - 1]) (b:=v.keys[i]) (by omega) (by omega)
    have hpos:decide ((0:Int) < (i:Int))=true:=by simp; omega
    rw [hp0,e1,hpos,rW hi1]
    simp only [ay,c1,c2,if_true]
    have hn:decide (XT v.keys[i - 1] v.keys[i] < 0)=!decide (0≤XT v.keys[i - 1] v.keys[i]):=by
     by_cases h:0≤XT v.keys[i - 1] v.keys[i] <;> simp [h] <;> omega
    rw [hn]
    cases xK v.keys[i] <;> cases decide (0≤XT v.keys[i - 1] v.keys[i]) <;> simp
  ·
   have:i=v.keys.length:=by omega
   subst this
   simp [NN]
theorem ac0 {v:ah} (hv:v.bulk < 4611686018427387904):D9 v=some (((v.keys.length:Int) == (v.aO.length:Int)) && NN none v.keys)∧zN v=some (((v.keys.length:Int) == (v.aO.length:Int)) && NN none v.keys):=by
 have hlen:=yB v
 obtain ⟨h1,h2⟩:=agG hv BIG 0 (by have:=jq; omega) (by omega)
 have hp0:MU v.keys 0=none:=rfl
 rw [hp0,List.drop_zero] at h1 h2
 unfold D9 zN
 rw [show (0:Int)=((0:Nat):Int) from rfl,h1,h2]
 by_cases h:(v.keys.length:Int)=(v.aO.length:Int)
 · simp [h]
 ·
  have:((v.keys.length:Int) == (v.aO.length:Int))=false:=by simpa using h
  simp [this]
  intro hh; exact absurd hh h
theorem anA (v:ah):JL v=some (vv v):=by
 unfold JL vv
 have hl:decide (0 < (v.aO.length:Int))=!((v.aO.length:Int) == 0):=by
  cases h:v.aO <;> simp
  omega
 rw [hl]
 have hk:∀ n:Int,(v.kind != n)=!(v.kind == n):=fun n=>rfl
 have hi:(v.dI != 0)=!(v.dI == 0):=rfl
 rw [hk,hk,hk,hk,hk,hi]
 generalize (v.kind == 1)=a1
 generalize (v.kind == 2)=a2
 generalize (v.kind == 3)=a3
 generalize (v.kind == 4)=a4
 generalize (v.kind == 5)=a5
 generalize v.dO=b
 generalize (v.dI == 0)=c
 generalize (v.bR == ([]:Str))=d
 generalize ((v.aO.length:Int) == 0)=e
 generalize ((v.keys.length:Int) == 0)=f
 revert a1 a2 a3 a4 a5 b c d e f
 decide
theorem alR {v:ah} (hv:v.bulk < 4611686018427387904) (level:Nat):Gn v (level:Int)=some (qL v level):=by
 unfold Gn qL Fa
 have h16:decide ((16:Int) < (level:Int))=decide (16 < level):=by congr 1; simp; omega
 have aoC:((level:Int) == 16)=(level == 16):=by
  rw [Bool.eq_iff_iff]; simp only [beq_iff_eq]; omega
 rw [h16,aoC,(ac0 hv).1]
 change (if decide (16 < level)=true then some 13 else au (if (decide (v.kind < 0) || decide (5 < v.kind))=true then some true else au (some (vv v)) fun x1=>some (!x1)) _)=_
 by_cases h0:16 < level
 · simp [h0]
 ·
  simp only [h0,decide_false,Bool.false_eq_true,if_false,ay]
  cases h1:(decide (v.kind < 0) || decide (5 < v.kind)) with
  | true=>simp
  | false=>
   cases h2:vv v with
   | false=>simp
   | true=>
    simp only [Bool.false_eq_true,if_false,Bool.not_true,ay,Bool.or_self]
    split
    · rfl
    ·
     split
     · rfl
     · cases h3:(v.kind == 5) <;> cases h4:(((v.keys.length:Int) == (v.aO.length:Int)) && NN none v.keys) <;> simp <;> (first | rfl | (split <;> rfl))
mutual
def zB :ah→Nat→Int
 | ⟨a,b,c,d,l,f⟩,level=>if qL ⟨a,b,c,d,l,f⟩ level != 0 then qL ⟨a,b,c,d,l,f⟩ level else Ik l (level + 1)
def Ik :List ah→Nat→Int
 | [],_=>0
 | x :: r,level=>if zB x level != 0 then zB x level else Ik r level
end
theorem UD (v:ah) (level:Nat):zB v level=if qL v level != 0 then qL v level else Ik v.aO (level + 1):=by cases v; rw [zB]
theorem aqI {go:ah→Int→Option Int} {level:Nat}:∀ (l:List ah) (i:Nat),(∀ x∈l,go x ((level + 1:Nat):Int)=some (zB x (level + 1)))→
  dG (fun _ e1 (_:Unit) r=>au (go e1 ((level + 1:Nat):Int)) fun e2=>if e2 != 0 then some e2 else r ()) (fun _=>some 0) i l ()=some (Ik l (level + 1))
 | [],i,_=>by simp [dG,Ik]
 | x :: r,i,h=>by
  rw [dG,h x (by simp),Ik]
  simp only [ay]
  rw [aqI r (i + 1) (fun y hy=>h y (by simp [hy]))]
  split <;> rfl
theorem adr :∀ (n:Nat) (v:ah) (level:Nat),v.bulk≤n→v.bulk < 4611686018427387904→level≤17→sS (n + 1) v (level:Int)=some (zB v level)
 | 0,v,_,h,_,_=>by have:=v.jY; omega
 | n + 1,v,level,h,hB,hlv=>by
  have hl:=vW v
  rw [UD]
  unfold sS IB
  have h16:decide ((16:Int) < (level:Int))=decide (16 < level):=by congr 1; simp; omega
  have aoC:((level:Int) == 16)=(level == 16):=by
   rw [Bool.eq_iff_iff]; simp only [beq_iff_eq]; omega
  rw [h16,aoC,(ac0 hB).2,anA]
  unfold qL
  by_cases h0:16 < level
  · simp [h0]
  ·
   have hw:bZ ((level:Int) + 1)=((level + 1:Nat):Int):=zy (by omega)
   have:=dH (F:=fun k (_:Unit) i=>BF (sS (n + 1)) v (level:Int) k i) (l:=v.aO) (body:=fun _ e1 _ r=>au (sS (n + 1) e1 ((level + 1:Nat):Int)) fun e2=>if e2 != 0 then some e2 else r ()) (fin:=fun _=>some 0) (by omega) (fun k s i=>by rw [←hw]; rfl) ()
   rw [this,aqI v.aO 0 fun x hx=>adr n x (level + 1) (by have:=iV hx; omega) (by have:=iV hx; omega) (by omega)]
   simp only [h0,decide_false,Bool.false_eq_true,if_false,ay]
   cases h1:(decide (v.kind < 0) || decide (5 < v.kind)) with
   | true=>simp
   | false=>
    cases h2:vv v with
    | false=>simp
    | true=>
     simp only [Bool.false_eq_true,if_false,Bool.not_true,ay,Bool.or_self]
     split
     · simp
     ·
      split
      · simp
      ·
       have h4:decide ((4:Int)≤v.kind)=((v.kind == 4) || (v.kind == 5)):=by
        simp only [Bool.or_eq_false_iff,decide_eq_false_iff_not] at h1
        rw [Bool.eq_iff_iff]
        simp only [Bool.or_eq_true,decide_eq_true_eq,beq_iff_eq]
        omega
       rw [h4]
       cases h3:(v.kind == 5) <;> cases h5:(((v.keys.length:Int) == (v.aO.length:Int)) && NN none v.keys) <;> simp <;> (first | rfl | (split <;> simp <;> rename_i hq <;> (first
        | exact fun hh=>absurd hq.2 (hh hq.1.1 hq.1.2)
        | exact fun a b c=>absurd ⟨⟨a,b⟩,c⟩ hq)))
theorem Ve {v:ah} (h:v.bulk < 4611686018427387904):yO v=some (zB v 1):=by
 obtain ⟨n,hn,hn2⟩:=uW
 unfold yO R6
 rw [hn]
 exact adr n v 1 (by omega) h (by omega)
def U5 (c:Int):Bool × Option Int:=if c != 0 then (false,some c) else (true,none)
theorem apo {v:ah} (hv:v.bulk < 4611686018427387904) (level:Nat):oU none (level:Int) v=some (U5 (qL v level)):=by
 unfold oU U5
 simp only [alR hv,ay]
 by_cases h:qL v level=0 <;> simp [h]
theorem amz {go:Option Int→ah→Int→Option (Bool × Option Int)} {level:Nat}:∀ (l:List ah) (i:Nat),(∀ x∈l,go none x ((level + 1:Nat):Int)=some (U5 (zB x (level + 1))))→
  dG (fun _ x1 (s1:Option Int) r=>fM (go s1 x1 ((level + 1:Nat):Int)) fun b1 s2=>if !b1 then some (false,s2) else r s2) (fun s1=>some (true,s1)) i l none=some (U5 (Ik l (level + 1)))
 | [],i,_=>by simp [dG,Ik,U5]
 | x :: r,i,h=>by
  rw [dG,h x (by simp),Ik]
  by_cases hc:zB x (level + 1)=0
  ·
   simp only [hc,U5,bne_self_eq_false,Bool.false_eq_true,if_false,bU,Bool.not_true]
   rw [amz r (i + 1) (fun y hy=>h y (by simp [hy]))]
   rfl
  · simp [hc,U5]
theorem aik :∀ (n:Nat) (v:ah) (level:Nat),v.bulk≤n→v.bulk < 4611686018427387904→level≤17→iJ oU (n + 1) none v (level:Int)=some (U5 (zB v level))
 | 0,v,_,h,_,_=>by have:=v.jY; omega
 | n + 1,v,level,h,hB,hlv=>by
  have hl:=vW v
  rw [UD]
  unfold iJ yC
  rw [apo hB]
  by_cases h0:qL v level=0
  ·
   have arF:level≤16:=by
    rcases Nat.lt_or_ge 16 level with h | h
    · unfold qL at h0; simp [h] at h0
    · exact h
   have hw:bZ ((level:Int) + 1)=((level + 1:Nat):Int):=zy (by omega)
   have:=dH (F:=fun k s i=>nA (iJ oU (n + 1)) v (level:Int) k s i) (l:=v.aO) (body:=fun _ x1 (s1:Option Int) r=>fM (iJ oU (n + 1) s1 x1 ((level + 1:Nat):Int)) fun b1 s2=>if !b1 then some (false,s2) else r s2) (fin:=fun s1=>some (true,s1)) (by omega) (fun k s i=>by rw [←hw]; rfl) none
   simp only [h0,U5,bne_self_eq_false,Bool.false_eq_true,if_false,bU,Bool.not_true]
   rw [this,amz v.aO 0 fun x hx=>aik n x (level + 1) (by have:=iV hx; omega) (by have:=iV hx; omega) (by omega)]
   rfl
  · simp [h0,U5]
theorem FT {v:ah} (h:v.bulk < 4611686018427387904):mY v=some (zB v 1):=by
 obtain ⟨n,hn,hn2⟩:=uW
 unfold mY Gm
 rw [hn,show (1:Int)=((1:Nat):Int) from rfl,aik n v 1 (by omega) h (by omega)]
 unfold U5
 by_cases hc:zB v 1=0 <;> simp [hc]
end Go.Ft

namespace Go.Ft
open Go
attribute [local congr] dZ
def Tg (v:ah):Bool:=(((((v.kind == 0) && (!v.dO)) && (v.dI == 0)) && (v.bR == ([]:Str))) && ((v.aO.length:Int) == 0)) && ((v.keys.length:Int) == 0)
theorem zero_eq (v:ah):IG v=some (Tg v):=rfl
theorem ag5 (v:ah):Gy v (ah.mk 0 false 0 ([]:Str) [] [])=some (Tg v):=by
 obtain ⟨n,hn,hn2⟩:=uW
 obtain ⟨m,hm⟩:∃ m,n=m + 1:=⟨n - 1,by omega⟩
 have hB:BIG=(m + 1) + 1:=by omega
 unfold Gy
 rw [hB,xB,Gx]
 have hz:Tg v=!(((((v.kind != 0) || (!(v.dO == false))) || (v.dI != 0)) || (!(v.bR == ([]:Str)))) || ((v.aO.length:Int) != (([]:List ah).length:Int)) || ((v.keys.length:Int) != (([]:List Str).length:Int))):=by
  unfold Tg
  have hk:(v.kind != 0)=!(v.kind == 0):=rfl
  have hi:(v.dI != 0)=!(v.dI == 0):=rfl
  have hl:((v.aO.length:Int) != (([]:List ah).length:Int))=!((v.aO.length:Int) == 0):=rfl
  have hks:((v.keys.length:Int) != (([]:List Str).length:Int))=!((v.keys.length:Int) == 0):=rfl
  rw [hk,hi,hl,hks]
  generalize (v.kind == 0)=a
  generalize v.dO=b
  generalize (v.dI == 0)=c
  generalize (v.bR == ([]:Str))=d
  generalize ((v.aO.length:Int) == 0)=e
  generalize ((v.keys.length:Int) == 0)=f
  revert a b c d e f
  decide
 cases h:(((((v.kind != 0) || (!(v.dO == false))) || (v.dI != 0)) || (!(v.bR == ([]:Str)))) || ((v.aO.length:Int) != (([]:List ah).length:Int)) || ((v.keys.length:Int) != (([]:List Str).length:Int))) with
 | true=>
  rw [hz,h]
  rfl
 | false=>
  rw [hz,h]
  simp only [Bool.or_eq_false_iff] at h
  have hl:v.aO=[]:=by have:=h.1.2; simpa using this
  have hk:v.keys=[]:=by have:=h.2; simpa using this
  simp only [Bool.false_eq_true,if_false,Bool.not_false]
  rw [hB,xC,hk]
  simp only [List.length_nil,Int.lt_irrefl,decide_false,Bool.false_eq_true,if_false,Int.ofNat_zero,Int.natCast_zero]
  rw [hB,pQ,hl]
  simp
def rP (e:aj):Bool:=
 if e.kind == 1 then (e.args.length:Int) == 0 else if e.kind == 2 then (e.args.length:Int) == 0 else if e.kind == 3 then (e.args.length:Int) == 1 else if e.kind == 6 then (e.args.length:Int) == 1
 else if e.kind == 4 then (e.args.length:Int) == 2 else if e.kind == 7 then (e.args.length:Int) == 2 else if e.kind == 8 then (e.args.length:Int) == 3 else ((e.kind == 5) || (e.kind == 9)) || (e.kind == 10)
theorem amr (e:aj):JI e=some (rP e):=by
 unfold JI rP
 simp only [apply_ite some]
def EU (e:aj):Bool:=!((decide (e.kind < 1)) || (decide (10 < e.kind)))
theorem ao0 (e:aj) (h:EU e=true):BM e=some (rP e):=by
 unfold BM rP
 unfold EU at h
 simp only [Bool.not_eq_true',Bool.or_eq_false_iff,decide_eq_false_iff_not] at h
 simp only [apply_ite some]
 have hh:¬ e.kind=1→¬ e.kind=2→¬ e.kind=3→¬ e.kind=6→¬ e.kind=4→¬ e.kind=7→¬ e.kind=8→(((e.kind == 5) || (e.kind == 9)) || (e.kind == 10))=true:=by
  intro h1 h2 h3 h6 h4 h7 h8
  simp only [Bool.or_eq_true,beq_iff_eq]
  omega
 by_cases h1:e.kind=1
 · simp [h1]
 by_cases h2:e.kind=2
 · simp [h2]
 by_cases h3:e.kind=3
 · simp [h3]
 by_cases h6:e.kind=6
 · simp [h6]
 by_cases h4:e.kind=4
 · simp [h4]
 by_cases h7:e.kind=7
 · simp [h7]
 by_cases h8:e.kind=8
 · simp [h8]
 rw [hh h1 h2 h3 h6 h4 h7 h8]
 all_goals simp [h1,h2,h3,h4,h6,h7,h8]
def Qv (s:Str):Int:=(iZ s).getD 0
theorem agX (s:Str):iZ s=some (Qv s):=by
 obtain ⟨n,h⟩:=XR s
 unfold Qv; rw [h]; rfl
def EY (e:aj):Bool:=
 if e.kind == 2 then oZ e.name else if e.kind == 3 then oZ e.name else if e.kind == 5 then oZ e.name else if e.kind == 6 then (e.name == ([33]:Str)) || (e.name == ([45]:Str))
 else if e.kind == 7 then decide (0 < Qv e.name) else e.name == ([]:Str)
theorem acN (e:aj) (h:e.bulk < 4611686018427387904):BJ e=some (EY e)∧JH e=some (EY e):=by
 have hn:=ahB e
 obtain ⟨p1,p2⟩:=VA e.name (by omega)
 unfold BJ JH EY
 rw [p1,p2,Ip,agX]
 simp only [ay,apply_ite some,and_self]
theorem ase (l:List Str) (hl:l.length < 4611686018427387904):iQ l mM=some (l.any fun k=>!xK k):=by
 unfold iQ kN
 have:=dH (F:=fun k (_:Unit) i=>iO l mM k i) (l:=l) (body:=fun (i:Nat) e1 _ r=>au (mM e1) fun x1=>if x1 then some (i:Int) else r ()) (fin:=fun _=>some (-1)) hl (fun k s i=>rfl) ()
 rw [this]
 have key:∀ (t:List Str) (i:Nat),au (dG (fun (i:Nat) e1 (_:Unit) r=>au (mM e1) fun x1=>if x1 then some (i:Int) else r ()) (fun _=>some (-1)) i t ()) (fun x1=>some (decide (0≤x1)))=some (t.any fun k=>!xK k):=by
  intro t
  induction t with
  | nil=>intro i; rfl
  | cons c t ih=>
   intro i
   rw [dG]
   have e1:mM c=some (!xK c):=by unfold mM; rw [aaN]
   rw [e1]
   simp only [ay,List.any_cons]
   cases h:xK c with
   | false=>simp
   | true=>
    simp only [Bool.not_true,Bool.false_eq_true,if_false,Bool.false_or]
    exact ih (i + 1)
 exact key l 0
def Nl (e:aj):Bool:=if e.kind != 10 then (e.keys.length:Int) == 0 else ((e.keys.length:Int) == (e.args.length:Int)) && !(e.keys.any fun k=>!xK k)
theorem aot (e:aj) (h:e.bulk < 4611686018427387904):BK e=some (Nl e):=by
 have hk:=Om e
 unfold BK Nl
 rw [ase e.keys (by omega)]
 split
 · rfl
 · cases ((e.keys.length:Int) == (e.args.length:Int)) <;> simp
theorem al5 (e:aj) (h:e.bulk < 4611686018427387904):vZ e BIG 0=some (!(e.keys.any fun k=>!xK k) && ((e.keys.length:Int) == (e.args.length:Int))):=by
 have hk:=Om e
 have:=dH (F:=fun k (_:Unit) i=>vZ e k i) (l:=e.keys) (body:=fun (i:Nat) e2 _ r=>au (if decide ((e2.length:Int) < 1) then some true else au (idx e.keys (i:Int)) fun e3=>some (decide (64 < (e3.length:Int)))) fun b4=>if b4 then some false else r ())
  (fin:=fun _=>some ((e.keys.length:Int) == (e.args.length:Int))) (by omega) (fun k s i=>rfl) ()
 rw [this]
 have key:∀ (t:List Str) (i:Nat),t=e.keys.drop i→dG (fun (i:Nat) e2 (_:Unit) r=>au (if decide ((e2.length:Int) < 1) then some true else au (idx e.keys (i:Int)) fun e3=>some (decide (64 < (e3.length:Int)))) fun b4=>if b4 then some false else r ())
   (fun _=>some ((e.keys.length:Int) == (e.args.length:Int))) i t ()=some (!(t.any fun k=>!xK k) && ((e.keys.length:Int) == (e.args.length:Int))):=by
  intro t
  induction t with
  | nil=>intro i _; rfl
  | cons c t ih=>
   intro i ht
   have hi:i < e.keys.length:=by
    rcases Nat.lt_or_ge i e.keys.length with h | h
    · exact h
    · rw [List.drop_eq_nil_of_le h] at ht; cases ht
   have hc:=List.drop_eq_getElem_cons hi
   rw [←ht] at hc
   have e1:c=e.keys[i]:=(List.cons.inj hc).1
   have e2:=(List.cons.inj hc).2
   rw [dG,rW hi,←e1]
   simp only [ay,List.any_cons]
   rw [ih (i + 1) e2]
   have e3:=aaN c
   cases h1:decide ((List.length c:Int) < 1) <;> rw [h1] at e3
   ·
    simp only [Bool.false_or] at e3
    simp only [Bool.false_eq_true,if_false,ay,e3]
    cases xK c <;> simp
   ·
    simp only [Bool.true_or] at e3
    have:xK c=false:=by
     cases h:xK c with
     | false=>rfl
     | true=>rw [h] at e3; cases e3
    simp [this]
 exact key e.keys 0 rfl
def Ae (e:aj):Bool:=EU e && ((e.kind == 1) || Tg e.value) && EY e && rP e && Nl e
theorem afz (e:aj) (h:rP e=true):EU e=true:=by
 unfold rP at h
 unfold EU
 simp only [Bool.not_eq_true',Bool.or_eq_false_iff,decide_eq_false_iff_not]
 by_cases h1:e.kind=1
 · omega
 by_cases h2:e.kind=2
 · omega
 by_cases h3:e.kind=3
 · omega
 by_cases h6:e.kind=6
 · omega
 by_cases h4:e.kind=4
 · omega
 by_cases h7:e.kind=7
 · omega
 by_cases h8:e.kind=8
 · omega
 simp [h1,h2,h3,h4,h6,h7,h8] at h
 omega
theorem ahx (e:aj) (h:e.bulk < 4611686018427387904):Gw e=some (Ae e):=by
 unfold Gw Ae
 rw [amr,(acN e h).2,ag5,al5 e h]
 have hk:=afz e
 unfold Nl
 have hne:(e.kind != 1)=!(e.kind == 1):=rfl
 rw [hne]
 cases h1:rP e with
 | false=>cases (e.kind == 1) <;> simp
 | true=>
  rw [hk h1]
  cases h2:EY e with
  | false=>cases (e.kind == 1) <;> simp
  | true=>
   cases h3:(e.kind == 1) <;> cases h4:Tg e.value <;> simp <;> (first | done | (split <;> simp [Bool.and_comm]))
theorem Ga (y:List (Str × Int)) (s t:Str) (n:Int):qp (uX y s n) t=if t=s then n else qp y t:=by
 induction y with
 | nil=>by_cases h:t=s <;> simp [uX,qp,h]
 | cons a y ih=>
  obtain ⟨k,v⟩:=a
  unfold uX
  by_cases h:s=k
  ·
   subst h
   simp only [beq_self_eq_true,if_true]
   unfold qp
   by_cases h2:t=s
   · simp [h2]
   ·
    have:(t == s)=false:=beq_eq_false_iff_ne.2 h2
    simp [this,h2]
  ·
   have:(s == k)=false:=beq_eq_false_iff_ne.2 h
   rw [this]
   simp only [Bool.false_eq_true,if_false]
   unfold qp
   by_cases h2:t=k
   ·
    subst h2
    have:¬ t=s:=fun hh=>h hh.symm
    simp [this]
   ·
    have h3:(t == k)=false:=beq_eq_false_iff_ne.2 h2
    rw [h3]
    simp only [Bool.false_eq_true,if_false]
    exact ih
def Rk :List Str→List Str→Bool
 | _,[]=>false
 | seen,s :: r=>seen.contains s || Rk (seen ++ [s]) r
theorem anw (l:List Str) (hl:l.length < 4611686018427387904):vR l=some (Rk [] l):=by
 unfold vR
 have:=dH (F:=fun k s i=>rG l k i s) (l:=l) (body:=fun _ s1 (y1:List (Str × Int)) r=>if decide (1 < (qp (uX y1 s1 (bZ ((qp y1 s1) + 1))) s1)) then some true else r (uX y1 s1 (bZ ((qp y1 s1) + 1)))) (fin:=fun _=>some false) hl (fun k s i=>rfl) []
 rw [this]
 have key:∀ (t:List Str) (i:Nat) (y:List (Str × Int)) (seen:List Str),(∀ s,qp y s=if s∈seen then 1 else 0)→
   dG (fun _ s1 (y1:List (Str × Int)) r=>if decide (1 < (qp (uX y1 s1 (bZ ((qp y1 s1) + 1))) s1)) then some true else r (uX y1 s1 (bZ ((qp y1 s1) + 1)))) (fun _=>some false) i t y=some (Rk seen t):=by
  intro t
  induction t with
  | nil=>intro i y seen _; rfl
  | cons c t ih=>
   intro i y seen hy
   rw [dG,Rk,Ga,if_pos rfl,hy c]
   by_cases hc:c∈seen
   ·
    have:bZ 2=2:=by decide
    simp [hc,this]
   ·
    have:bZ ((0:Int) + 1)=1:=by decide
    simp only [hc,if_false,this]
    have e:seen.contains c=false:=by simpa using hc
    rw [e]
    simp only [Int.lt_irrefl,decide_false,Bool.false_eq_true,if_false,Bool.false_or]
    refine ih (i + 1) _ (seen ++ [c]) fun s=>?_
    rw [Ga,hy s]
    by_cases h1:s=c
    · subst h1; simp
    · simp [h1]
 exact key l 0 [] [] (fun s=>by simp [qp])
theorem abX (l:List Str) (i:Nat) (hi:i < l.length) (hl:l.length < 4611686018427387904) (go:Int→Option Bool):∀ (k j:Nat),i < k + j→j≤i→
  yJ l (i:Int) go k (j:Int)=if ((l.take i).drop j).contains l[i] then some true else go ((i + 1:Nat):Int)
 | 0,j,h,h'=>by omega
 | k + 1,j,h,h'=>by
  rw [yJ]
  by_cases hj:j < i
  ·
   have hlt:j < (l.take i).length:=by simp; omega
   rw [if_pos (by simpa using hj),rW hi,rW (by omega),List.drop_eq_getElem_cons hlt]
   simp only [ay,List.contains_cons,List.getElem_take]
   cases h1:(l[i] == l[j]) with
   | true=>simp
   | false=>
    simp only [Bool.false_eq_true,if_false,Bool.false_or]
    rw [zy (by omega)]
    exact abX l i hi hl go k (j + 1) (by omega) (by omega)
  ·
   have:j=i:=by omega
   subst this
   rw [if_neg (by simp),zy (by omega)]
   have:(List.take j l).drop j=[]:=List.drop_eq_nil_of_le (by simp; omega)
   rw [this]
   simp
theorem YN (l:List Str) (hl:l.length < 4611686018427387904):∀ (k i:Nat),l.length < k + i→i≤l.length→sN l k (i:Int)=some (Rk (l.take i) (l.drop i))
 | 0,i,h,h'=>by omega
 | k + 1,i,h,h'=>by
  rw [sN]
  by_cases hi:i < l.length
  ·
   rw [if_pos (by simpa using hi),List.drop_eq_getElem_cons hi,Rk]
   have:=abX l i hi hl (sN l k) BIG 0 (by have:=jq; omega) (by omega)
   rw [show (0:Int)=((0:Nat):Int) from rfl,this,List.drop_zero,YN l hl k (i + 1) (by omega) (by omega)]
   have e:List.take (i + 1) l=List.take i l ++ [l[i]]:=by rw [List.take_add_one,List.getElem?_eq_getElem hi]; rfl
   rw [e]
   cases (l.take i).contains l[i] <;> simp
  ·
   have:i=l.length:=by omega
   subst this
   simp [Rk]
theorem aiA (l:List Str) (hl:l.length < 4611686018427387904):JG l=some (Rk [] l):=by
 have:=YN l hl BIG 0 (by have:=jq; omega) (by omega)
 simpa [JG] using this
def D5 (e:aj) (level:Nat):Int:=
 if 16 < level then 13 else if !Ae e then 1 else if e.kind == 1 && (zB e.value 1 != 0) then zB e.value 1 else if decide (1024 < (e.args.length:Int)) then 3 else if Rk [] e.keys then 7 else 0
theorem ai4 (e:aj) (h:e.bulk < 4611686018427387904) (level:Nat):Ep e (level:Int)=some (D5 e level):=by
 have hk:=Om e
 have hv:=Ez e
 unfold Ep D5
 have h16:decide ((16:Int) < (level:Int))=decide (16 < level):=by congr 1; simp; omega
 rw [h16,zero_eq,(acN e h).1,aot e h,FT (by omega),anw e.keys (by omega)]
 by_cases h0:16 < level
 · simp [h0]
 ·
  simp only [h0,decide_false,Bool.false_eq_true,if_false,ay]
  have hkd:((decide (e.kind < 1)) || (decide (10 < e.kind)))=!EU e:=by simp [EU]
  have hne:(e.kind != 1)=!(e.kind == 1):=rfl
  rw [hkd,hne]
  unfold Ae
  cases h1:EU e with
  | false=>simp
  | true=>
   rw [ao0 e h1]
   cases h3:(e.kind == 1) <;> cases h4:Tg e.value <;> cases h5:EY e <;> cases h6:rP e <;> cases h7:Nl e <;> simp <;>
    (first | done | (split <;> (first | rfl | (split <;> (first | rfl | (split <;> rfl))))))
end Go.Ft

namespace Go.Ft
open Go
attribute [local congr] dZ
mutual
def EO :aj→Nat→Int
 | ⟨a,b,c,l,f⟩,level=>if D5 ⟨a,b,c,l,f⟩ level != 0 then D5 ⟨a,b,c,l,f⟩ level else Qj l (level + 1)
def Qj :List aj→Nat→Int
 | [],_=>0
 | x :: r,level=>if EO x level != 0 then EO x level else Qj r level
end
theorem UA (e:aj) (level:Nat):EO e level=if D5 e level != 0 then D5 e level else Qj e.args (level + 1):=by cases e; rw [EO]
theorem Pd {go:aj→Int→Option Int} {level:Nat}:∀ (l:List aj) (i:Nat),(∀ x∈l,go x ((level + 1:Nat):Int)=some (EO x (level + 1)))→
  dG (fun _ e1 (_:Unit) r=>au (go e1 ((level + 1:Nat):Int)) fun e2=>if e2 != 0 then some e2 else r ()) (fun _=>some 0) i l ()=some (Qj l (level + 1))
 | [],i,_=>by simp [dG,Qj]
 | x :: r,i,h=>by
  rw [dG,h x (by simp),Qj]
  simp only [ay]
  rw [Pd r (i + 1) (fun y hy=>h y (by simp [hy]))]
  split <;> rfl
theorem U2 :∀ (n:Nat) (e:aj) (level:Nat),e.bulk≤n→e.bulk < 4611686018427387904→level≤17→nK (n + 1) e (level:Int)=some (EO e level)∧sO (n + 1) e (level:Int)=some (EO e level)
 | 0,e,_,h,_,_=>by have:=e.jY; omega
 | n + 1,e,level,h,hB,hlv=>by
  have hl:=J2 e
  have hv:=Ez e
  have hks:=Om e
  have hw:bZ ((level:Int) + 1)=((level + 1:Nat):Int):=zy (by omega)
  constructor
  ·
   rw [UA]
   unfold nK BI
   have:=dH (F:=fun k (_:Unit) i=>vQ (nK (n + 1)) e (level:Int) k i) (l:=e.args) (body:=fun _ e1 _ r=>au (nK (n + 1) e1 ((level + 1:Nat):Int)) fun e2=>if e2 != 0 then some e2 else r ()) (fin:=fun _=>some 0) (by omega) (fun k s i=>by rw [←hw]; rfl) ()
   rw [ai4 e hB,this]
   simp only [ay]
   by_cases h0:D5 e level=0
   ·
    have arF:level≤16:=by
     rcases Nat.lt_or_ge 16 level with h | h
     · unfold D5 at h0; simp [h] at h0
     · exact h
    rw [Pd e.args 0 fun x hx=>(U2 n x (level + 1) (by have:=jl hx; omega) (by have:=jl hx; omega) (by omega)).1]
    simp [h0]
   · simp [h0]
  ·
   rw [UA]
   unfold sO Iu
   have:=dH (F:=fun k (_:Unit) i=>Bu (sO (n + 1)) e (level:Int) k i) (l:=e.args) (body:=fun _ e1 _ r=>au (sO (n + 1) e1 ((level + 1:Nat):Int)) fun e2=>if e2 != 0 then some e2 else r ()) (fin:=fun _=>some 0) (by omega) (fun k s i=>by rw [←hw]; rfl) ()
   have h16:decide ((16:Int) < (level:Int))=decide (16 < level):=by congr 1; simp; omega
   rw [ahx e hB,Ve (by omega),aiA e.keys (by omega),this,h16]
   by_cases h0:16 < level
   · simp [D5,h0]
   ·
    rw [Pd e.args 0 fun x hx=>(U2 n x (level + 1) (by have:=jl hx; omega) (by have:=jl hx; omega) (by omega)).2]
    unfold D5
    simp only [h0,decide_false,Bool.false_eq_true,if_false,ay]
    cases Ae e with
    | false=>simp
    | true=>
     simp only [Bool.not_true,Bool.false_eq_true,if_false]
     cases h1:(e.kind == 1 && (zB e.value 1 != 0)) with
     | true=>
      have:zB e.value 1≠0:=by simp at h1; exact h1.2
      simp [this]
     | false=>
      simp only [Bool.false_eq_true,if_false]
      by_cases h2:(1024:Int) < (e.args.length:Int)
      · simp [h2]
      ·
       simp only [h2,decide_false,Bool.false_eq_true,if_false]
       cases Rk [] e.keys <;> simp
def xval (e:aj):Int:=if 4096 < ecnt e then 15 else EO e 1
theorem Uz {e:aj} (h:e.bulk < 4611686018427387904):kQ e=some (xval e)∧F6 e=some (xval e):=by
 obtain ⟨n,hn,hn2⟩:=uW
 obtain ⟨c1,c2⟩:=count_eq h
 obtain ⟨v1,v2⟩:=U2 n e 1 (by omega) h (by omega)
 unfold kQ F6 xval Kz R5
 rw [c1,c2,hn]
 have:decide ((4096:Int) < (ecnt e:Int))=decide (4096 < ecnt e):=by congr 1; simp; omega
 simp only [ay,this]
 rw [show (1:Int)=((1:Nat):Int) from rfl,v1,v2]
 by_cases h4:4096 < ecnt e <;> simp [h4]
end Go.Ft

namespace Go.Ft
open Go
attribute [local congr] dZ
def opsL :List Str:=[[38,38],[124,124],[61,61],[33,61],[60],[60,61],[62],[62,61],[45],[42],[47],[37],[43]]
theorem Vk {s:Str} (h:0 < Qv s):s∈opsL:=by
 unfold Qv iZ at h
 unfold opsL
 by_cases h1:s=[124,124]
 · simp [h1]
 by_cases h2:s=[38,38]
 · simp [h2]
 by_cases h3:s=[61,61]
 · simp [h3]
 by_cases h4:s=[33,61]
 · simp [h4]
 by_cases h5:s=[60]
 · simp [h5]
 by_cases h6:s=[60,61]
 · simp [h6]
 by_cases h7:s=[62]
 · simp [h7]
 by_cases h8:s=[62,61]
 · simp [h8]
 by_cases h9:s=[43]
 · simp [h9]
 by_cases h10:s=[45]
 · simp [h10]
 by_cases h11:s=[42]
 · simp [h11]
 by_cases h12:s=[47]
 · simp [h12]
 by_cases jJ:s=[37]
 · simp [jJ]
 simp [h1,h2,h3,h4,h5,h6,h7,h8,h9,h10,h11,h12,jJ] at h
end Go.Ft

namespace Go.Ft
open Go
attribute [local congr] dZ
theorem aaO (p:Bool) (q:Bool):(if p=true then some true else some q)=some (p || q):=by cases p <;> rfl
end Go.Ft

namespace Go.Ft
open Go
attribute [local congr] dZ
theorem Gj {v:ah} {level:Nat} (h:qL v level=0):level≤16∧0≤v.kind∧v.kind≤5∧(v.kind=4∨v.kind=5→v.aO=[]→level≠16):=by
 unfold qL at h
 by_cases h0:16 < level
 · simp [h0] at h
 ·
  rw [if_neg h0] at h
  cases h1:(decide (v.kind < 0) || decide (5 < v.kind) || !vv v) with
  | true=>rw [h1] at h; simp at h
  | false=>
   rw [h1] at h
   simp only [Bool.or_eq_false_iff,decide_eq_false_iff_not] at h1
   refine ⟨by omega,by omega,by omega,fun hk hl h16=>?_⟩
   have e1:((((v.kind == 4) || (v.kind == 5)) && ((v.aO.length:Int) == 0)) && (level == 16))=true:=by
    rw [hl,h16]; rcases hk with hk | hk <;> simp [hk]
   rw [e1] at h
   simp only [Bool.false_eq_true,if_false,if_true] at h
   split at h
   · omega
   ·
    split at h
    · omega
    · split at h <;> omega
theorem YL :∀ {l:List ah} {level:Nat},Ik l level=0→∀ x∈l,zB x level=0
 | [],_,_,x,hx=>by cases hx
 | y :: r,level,h,x,hx=>by
  rw [Ik] at h
  by_cases hy:zB y level=0
  ·
   rw [if_neg (by simpa using hy)] at h
   rcases List.mem_cons.1 hx with rfl | hx
   · exact hy
   · exact YL h x hx
  · rw [if_pos (by simpa using hy)] at h; exact absurd h hy
theorem RZ {v:ah} {level:Nat} (h:zB v level=0):qL v level=0∧∀ x∈v.aO,zB x (level + 1)=0:=by
 rw [UD] at h
 by_cases hn:qL v level=0
 ·
  rw [if_neg (by simpa using hn)] at h
  exact ⟨hn,YL h⟩
 · rw [if_pos (by simpa using hn)] at h; exact absurd h hn
theorem af7 {s:Str} (h:s.length < 4611686018427387000):kQ (aj.mk 2 s (ah.mk 0 false 0 ([]:Str) [] []) [] [])=some (if oZ s then 0 else 1):=by
 have hb:(aj.mk 2 s (ah.mk 0 false 0 ([]:Str) [] []) [] []).bulk < 4611686018427387904:=by
  simp only [aj.bulk,ah.bulk,ah.nZ,aj.nZ,List.map_nil,List.sum_nil,List.length_nil]; omega
 rw [(Uz hb).1]
 have e1:ecnt (aj.mk 2 s (ah.mk 0 false 0 ([]:Str) [] []) [] [])=1:=by rw [FD]; rfl
 unfold xval
 rw [e1,UA]
 have e2:Ae (aj.mk 2 s (ah.mk 0 false 0 ([]:Str) [] []) [] [])=oZ s:=by
  have:Tg (ah.mk 0 false 0 ([]:Str) [] [])=true:=rfl
  simp [Ae,EU,this,EY,rP,Nl]
 have e3:D5 (aj.mk 2 s (ah.mk 0 false 0 ([]:Str) [] []) [] []) 1=if oZ s then 0 else 1:=by
  unfold D5
  rw [e2]
  cases oZ s <;> simp [Rk]
 rw [e3]
 cases oZ s <;> simp [Qj]
end Go.Ft

namespace Go.Ft
open Go
attribute [local congr] dZ
theorem YG :∀ {l:List aj} {level:Nat},Qj l level=0→∀ x∈l,EO x level=0
 | [],_,_,x,hx=>by cases hx
 | y :: r,level,h,x,hx=>by
  rw [Qj] at h
  by_cases hy:EO y level=0
  ·
   rw [if_neg (by simpa using hy)] at h
   rcases List.mem_cons.1 hx with rfl | hx
   · exact hy
   · exact YG h x hx
  · rw [if_pos (by simpa using hy)] at h; exact absurd h hy
theorem U3 {e:aj} {level:Nat} (h:D5 e level=0):Ae e=true∧(e.kind=1→zB e.value 1=0)∧e.args.length≤1024:=by
 unfold D5 at h
 split at h
 · omega
 ·
  cases h1:Ae e with
  | false=>rw [h1] at h; simp at h
  | true=>
   rw [h1] at h
   simp only [Bool.not_true,Bool.false_eq_true,if_false] at h
   by_cases h2:(e.kind == 1 && (zB e.value 1 != 0))=true
   ·
    rw [if_pos h2] at h
    simp [h] at h2
   ·
    rw [if_neg h2] at h
    refine ⟨rfl,fun hk=>?_,?_⟩
    ·
     simp only [Bool.and_eq_true,beq_iff_eq,bne_iff_ne,not_and] at h2
     have:=h2 hk
     simpa using this
    ·
     split at h
     · omega
     · rename_i h3; simp only [decide_eq_true_eq] at h3; omega
theorem RS {e:aj} {level:Nat} (h:EO e level=0):D5 e level=0∧∀ x∈e.args,EO x (level + 1)=0:=by
 rw [UA] at h
 by_cases hn:D5 e level=0
 ·
  rw [if_neg (by simpa using hn)] at h
  exact ⟨hn,YG h⟩
 · rw [if_pos (by simpa using hn)] at h; exact absurd h hn
theorem Q_ {e:aj} (h:Ae e=true):EU e=true∧EY e=true∧rP e=true:=by
 unfold Ae at h
 simp only [Bool.and_eq_true] at h
 exact ⟨h.1.1.1.1,h.1.1.2,h.1.2⟩
theorem len1 {α:Type} {l:List α} (h:l.length=1):∃ a,l=[a]:=by
 match l,h with
 | [a],_=>exact ⟨a,rfl⟩
theorem len2 {α:Type} {l:List α} (h:l.length=2):∃ a b,l=[a,b]:=by
 match l,h with
 | [a,b],_=>exact ⟨a,b,rfl⟩
theorem aos {α:Type} {l:List α} (h:l.length=3):∃ a b c,l=[a,b,c]:=by
 match l,h with
 | [a,b,c],_=>exact ⟨a,b,c,rfl⟩
end Go.Ft

namespace Go.Ft
open Go
attribute [local congr] dZ
theorem NY {e:aj} (h:xval e=0):EO e 1=0:=by
 unfold xval at h
 split at h
 · cases h
 · exact h
end Go.Ft
