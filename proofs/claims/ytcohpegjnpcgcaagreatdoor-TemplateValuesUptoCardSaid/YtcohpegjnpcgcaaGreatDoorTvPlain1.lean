/- Proved here: plain facts on the functional texts. -/
import Derived.Test.YtcohpegjnpcgcaaGreatDoorTvPre1
import Derived.Test.YtcohpegjnpcgcaaGreatDoorTvFt1
import Derived.Test.YtcohpegjnpcgcaaGreatDoorTvPool1
import Derived.KernelRfl
set_option linter.unusedVariables false
set_option linter.unusedSimpArgs false
set_option linter.unusedSectionVars false
set_option maxHeartbeats 2000000
namespace Go.Ft
open Go
attribute [local congr] yP
theorem Vm {α:Type} {f:α→Nat} {l:List α} {x:α} (h:x∈l):f x≤(l.map f).sum:=by
 induction l with
 | nil=>cases h
 | cons y l ih=>
  simp only [List.map_cons,List.sum_cons]; rcases List.mem_cons.1 h with rfl | h
  · omega
  · have:=ih h; omega
theorem P_ {α:Type} {f:α→Nat} {l:List α} (h:∀ x,1≤f x):l.length≤(l.map f).sum:=by
 induction l with
 | nil=>simp
 | cons y l ih=>simp only [List.map_cons,List.sum_cons,List.length_cons]; have:=h y; omega
theorem ah.rE (v:ah):1≤v.bulk:=by rw [ah.rF]; omega
theorem aj.rE (v:aj):1≤v.bulk:=by rw [aj.rF]; omega
theorem aJ.rE (v:aJ):1≤v.bulk:=by rw [aJ.rF]; omega
theorem Aq (v:ah):v.aW.length < v.bulk:=by rw [ah.rF,ah.sV]; have:=P_ (l:=v.aW) ah.rE; omega
theorem nG {v x:ah} (h:x∈v.aW):x.bulk < v.bulk:=by rw [ah.rF v,ah.sV]; have:=Vm (f:=ah.bulk) h; omega
theorem Dg (v:ah):v.keys.length < v.bulk:=by rw [ah.rF]; have:=P_ (l:=v.keys) (f:=fun z:Str=>z.length + 1) (fun x=>by omega); omega
theorem J8 {v:ah} {x:Str} (h:x∈v.keys):x.length < v.bulk:=by rw [ah.rF v]; have:=Vm (f:=fun z:Str=>z.length + 1) h; omega
theorem UA (e:aj):e.args.length < e.bulk:=by rw [aj.rF,aj.sV]; have:=P_ (l:=e.args) aj.rE; omega
theorem wU {e x:aj} (h:x∈e.args):x.bulk < e.bulk:=by rw [aj.rF e,aj.sV]; have:=Vm (f:=aj.bulk) h; omega
theorem Km (v:aj):v.keys.length < v.bulk:=by rw [aj.rF]; have:=P_ (l:=v.keys) (f:=fun z:Str=>z.length + 1) (fun x=>by omega); omega
theorem aad (v:aj):v.name.length < v.bulk:=by rw [aj.rF]; omega
theorem O0 (v:aj):v.value.bulk < v.bulk:=by rw [aj.rF]; omega
mutual
def ecnt :aj→Nat
 | ⟨_,_,_,args,_⟩=>1 + Jq args
def Jq :List aj→Nat
 | []=>0
 | x :: r=>ecnt x + Jq r
end
theorem GN (e:aj):ecnt e=1 + Jq e.args:=by cases e; rfl
theorem Xh :∀ (l:List aj) (n:Nat),(∀ x∈l,ecnt x≤x.bulk)→Jq l≤(l.map aj.bulk).sum
 | [],_,_=>by simp [Jq]
 | x :: r,n,h=>by
  simp only [Jq,List.map_cons,List.sum_cons]; have:=h x (by simp); have:=Xh r n fun y hy=>h y (by simp [hy]); omega
theorem Zc :∀ (n:Nat) (e:aj),e.bulk≤n→ecnt e≤e.bulk
 | 0,e,h=>by have:=e.rE; omega
 | n + 1,e,h=>by
  rw [GN,aj.rF,aj.sV]; have:=Xh e.args n fun x hx=>Zc n x (by have:=wU hx; omega); omega
theorem Ym {go:aj→Option Int}:∀ (l:List aj) (i s:Nat),(∀ x∈l,go x=some (ecnt x:Int))→s + Jq l < 4611686018427387904→
  mP (fun _ e2 (n1:Int) r=>av (go e2) fun x2=>r (cZ (n1 + x2))) (fun n1=>some n1) i l (s:Int)=some ((s + Jq l:Nat):Int)
 | [],i,s,_,_=>by simp [mP,Jq]
 | x :: r,i,s,h,hs=>by
  simp only [Jq] at hs ⊢; rw [mP,h x (by simp)]; simp only [aF]; have:cZ ((s:Int) + (ecnt x:Int))=((s + ecnt x:Nat):Int):=by rw [Zw (by omega)]; omega
  rw [this,Ym r (i + 1) (s + ecnt x) (fun y hy=>h y (by simp [hy])) (by omega)]; simp only [Option.some.injEq,Int.natCast_inj]; omega
theorem VB :∀ (n:Nat) (e:aj),e.bulk≤n→e.bulk < 4611686018427387904→mV (n + 1) e=some (ecnt e:Int)∧za (n + 1) e=some (ecnt e:Int)
 | 0,e,h,_=>by have:=e.rE; omega
 | n + 1,e,h,hB=>by
  have hl:=UA e; have hle:=Zc _ e (Nat.le_refl _); rw [GN] at hle; constructor
  ·
   unfold mV zL; have:=lu (F:=fun k s i=>uH (mV (n + 1)) e k s i) (l:=e.args) (body:=fun _ e2 (n1:Int) r=>av (mV (n + 1) e2) fun x2=>r (cZ (n1 + x2))) (fin:=fun n1=>some n1) (by omega) (fun k s i=>rfl) 1; rw [this,show (1:Int)=((1:Nat):Int) from rfl,Ym e.args 0 1 (fun x hx=>(VB n x (by have:=wU hx; omega) (by have:=wU hx; omega)).1) (by omega),GN]
  ·
   unfold za OP; have:=lu (F:=fun k s i=>Gi (za (n + 1)) e k s i) (l:=e.args) (body:=fun _ e2 (n1:Int) r=>av (za (n + 1) e2) fun x2=>r (cZ (n1 + x2))) (fin:=fun n1=>some n1) (by omega) (fun k s i=>rfl) 1; rw [this,show (1:Int)=((1:Nat):Int) from rfl,Ym e.args 0 1 (fun x hx=>(VB n x (by have:=wU hx; omega) (by have:=wU hx; omega)).2) (by omega),GN]
theorem Aj :∃ n,BIG=n + 1∧9223372036854775807≤n:=⟨BIG - 1,by decide,by decide⟩
theorem count_eq {e:aj} (h:e.bulk < 4611686018427387904):CR e=some (ecnt e:Int)∧NJ e=some (ecnt e:Int):=by
 obtain ⟨n,hn,hn2⟩:=Aj; unfold CR NJ; rw [hn]; exact VB n e (by omega) h
def isName (s:Str):Bool:=decide (1≤s.length) && decide (s.length≤64) && (match s with | c :: _=>isLet c | []=>false) && s.all fun c=>isLet c || eX c
def Kh (s:Str):Bool:=isName s && !((s == ([116,114,117,101]:Str)) || (s == ([102,97,108,115,101]:Str)) || (s == ([110,117,108,108]:Str)))
theorem ag6 (s:Str) (hs:s.length < 4611686018427387904):sw s BIG 0=some (s.all fun c=>isLet c || eX c):=by
 have:=lu (F:=fun k (_:Unit) i=>sw s k i) (l:=s) (body:=fun (i:Nat) x3 _ r=>av (if !(isLet x3) then av (idx s (i:Int)) fun x5=>some (!(eX x5)) else some false) fun b2=>if b2 then some false else r ()) (fin:=fun _=>some true) hs (fun k s i=>rfl) (); rw [this]
 have key:∀ (t:Str) (i:Nat),t=s.drop i→mP (fun (i:Nat) x3 (_:Unit) r=>av (if !(isLet x3) then av (idx s (i:Int)) fun x5=>some (!(eX x5)) else some false) fun b2=>if b2 then some false else r ()) (fun _=>some true) i t ()=some (t.all fun c=>isLet c || eX c):=by
  intro t
  induction t with
  | nil=>intro i _; rfl
  | cons c t ih=>
   intro i ht
   have hi:i < s.length:=by
    rcases Nat.lt_or_ge i s.length with h | h
    · exact h
    · rw [List.drop_eq_nil_of_le h] at ht; cases ht
   have hc:=List.drop_eq_getElem_cons hi; rw [←ht] at hc; have e1:c=s[i]:=(List.cons.inj hc).1; have e2:=(List.cons.inj hc).2; rw [mP,KC hi,←e1]; simp only [aF]; rw [ih (i + 1) e2]; cases h1:isLet c <;> cases h2:eX c <;> simp [h1,h2]
 exact key s 0 rfl
theorem afd (s:Str) (hs:s.length < 4611686018427387904):zi s=some (isName s):=by
 unfold zi isName; rw [ag6 s hs]; by_cases h1:s.length < 1
 ·
  have:s=[]:=by cases s; rfl; simp at h1
  subst this; simp
 ·
  by_cases h2:64 < s.length
  ·
   have e1:decide ((64:Int) < (s.length:Int))=true:=by simp; omega
   have e2:decide (s.length≤64)=false:=by simp; omega
   simp [e1,e2]
  ·
   cases s with
   | nil=>simp at h1
   | cons c s=>
    have e1:decide ((((c :: s).length:Nat):Int) < 1)=false:=by simp; omega
    have e2:decide ((64:Int) < (((c :: s).length:Nat):Int))=false:=by simp at h2 ⊢; omega
    have e3:decide ((c :: s).length≤64)=true:=by simp at h2 ⊢; omega
    have e4:idx (c :: s) 0=some c:=rfl; rw [e1,e2,e3,e4]; cases h3:isLet c <;> simp [h3]
theorem aep (s:Str) (hs:s.length < 4611686018427387904):QK s=some (isName s):=by
 unfold QK
 have:=lu (F:=fun k (_:Unit) i=>IV s k i) (l:=s) (body:=fun (i:Nat) x3 _ r=>av (if !(isLet x3) then (if (i:Int) == 0 then some true else av (idx s (i:Int)) fun x5=>some (!(eX x5))) else some false) fun b2=>if b2 then some false else r ())
  (fin:=fun _=>some ((decide (1≤(s.length:Int))) && (decide ((s.length:Int)≤64)))) hs (fun k s i=>rfl) ()
 rw [this]
 have key:∀ (t:Str) (i:Nat),t=s.drop i→mP (fun (i:Nat) x3 (_:Unit) r=>av (if !(isLet x3) then (if (i:Int) == 0 then some true else av (idx s (i:Int)) fun x5=>some (!(eX x5))) else some false) fun b2=>if b2 then some false else r ())
   (fun _=>some ((decide (1≤(s.length:Int))) && (decide ((s.length:Int)≤64)))) i t ()=some ((decide (1≤s.length) && decide (s.length≤64)) && ((if i=0 then (match t with | c :: _=>isLet c | []=>true) else true) && t.all fun c=>isLet c || eX c)):=by
  intro t
  induction t with
  | nil=>
   intro i _; rw [mP]; have e1:decide ((1:Int)≤(s.length:Int))=decide (1≤s.length):=by congr 1; simp; omega
   have e2:decide ((s.length:Int)≤64)=decide (s.length≤64):=by congr 1; simp; omega
   rw [e1,e2]; simp
  | cons c t ih=>
   intro i ht
   have hi:i < s.length:=by
    rcases Nat.lt_or_ge i s.length with h | h
    · exact h
    · rw [List.drop_eq_nil_of_le h] at ht; cases ht
   have hc:=List.drop_eq_getElem_cons hi; rw [←ht] at hc; have e1:c=s[i]:=(List.cons.inj hc).1; have e2:=(List.cons.inj hc).2; rw [mP,KC hi,←e1]; simp only [aF]; rw [ih (i + 1) e2]; by_cases h0:i=0
   ·
    subst h0; cases h1:isLet c <;> simp [h1]
   ·
    have:((i:Int) == 0)=false:=by simp; omega
    rw [this]; cases h1:isLet c <;> cases h2:eX c <;> simp [h1,h2,h0]
 rw [key s 0 rfl]; unfold isName; cases s with
 | nil=>simp
 | cons c s=>simp [Bool.and_assoc]
theorem abj (s:Str) (hs:s.length < 4611686018427387904):tY s=some (Kh s)∧FE s=some (Kh s):=by
 unfold tY FE Kh ze; rw [afd s hs,aep s hs]; constructor
 · cases isName s <;> simp
 ·
  simp only [aF,Option.some.injEq]; cases isName s <;> simp [Bool.not_or,Bool.and_assoc]
theorem Wp (s:Str):MJ s=jr s:=rfl
theorem SV (s:Str):∃ n,jr s=some n:=by
 have:(jr s).isSome=true:=by
  unfold jr; simp only [apply_ite Option.isSome,Option.isSome_some,ite_self]
 exact Option.isSome_iff_exists.1 this
end Go.Ft
namespace Go.Ft
open Go
attribute [local congr] yP
def BH (s:Str):Bool:=decide (1≤s.length) && decide (s.length≤64)
def WM (a b:Str):Int:=(qU a b).getD 0
theorem adk {a b:Str} (ha:a.length < 4611686018427387904) (hb:b.length < 4611686018427387904):jY a b=some (WM a b)∧qU a b=some (WM a b):=by
 obtain ⟨c,h1,h2⟩:=RH ha hb; unfold WM; rw [h2]; exact ⟨h1,rfl⟩
def TT :Option Str→List Str→Bool
 | _,[]=>true
 | p,k :: r=>BH k && (match p with | none=>true | some q=>decide (WM q k < 0)) && TT (some k) r
theorem Vo (s:Str):((decide ((s.length:Int) < 1)) || (decide (64 < (s.length:Int))))=!BH s:=by
 unfold BH; rw [Bool.eq_iff_iff]; simp only [Bool.or_eq_true,Bool.not_eq_true',Bool.and_eq_false_iff,decide_eq_true_eq,decide_eq_false_iff_not]; omega
theorem key_eq (s:Str):MK s=some (BH s):=by
 unfold MK BH; simp only [Option.some.injEq]; rw [Bool.eq_iff_iff]; simp only [Bool.and_eq_true,decide_eq_true_eq]; omega
def I7 (l:List Str) (i:Nat):Option Str:=if i=0 then none else l[i - 1]?
theorem Zn {v:ah} (hv:v.bulk < 4611686018427387904):∀ (k i:Nat),v.keys.length < k + i→i≤v.keys.length→
  rV v k (i:Int)=some (TT (I7 v.keys i) (v.keys.drop i))∧
  p8 v k (i:Int)=some (TT (I7 v.keys i) (v.keys.drop i) && ((v.keys.length:Int) == (v.aW.length:Int)))
 | 0,i,h,h'=>by omega
 | k + 1,i,h,h'=>by
  have hlen:=Dg v; rw [rV,p8]; by_cases hi:i < v.keys.length
  ·
   have hm:v.keys[i]∈v.keys:=List.getElem_mem hi; have hb:=J8 hm; rw [List.drop_eq_getElem_cons hi,if_pos (by simp; omega),if_pos (by simp; omega),KC hi]; simp only [aF,Vo,key_eq,TT]; obtain ⟨ih1,ih2⟩:=Zn hv k (i + 1) (by omega) (by omega); have hp:I7 v.keys (i + 1)=some v.keys[i]:=by simp [I7,hi]
   rw [hp] at ih1 ih2; rw [Lm (by omega),ih1,ih2]; by_cases h0:i=0
   ·
    subst h0; have hp0:I7 v.keys 0=none:=rfl; rw [hp0]; cases BH v.keys[0] <;> simp
   ·
    have hi1:i - 1 < v.keys.length:=by omega
    have hm1:v.keys[i - 1]∈v.keys:=List.getElem_mem hi1; have hb1:=J8 hm1; have hp0:I7 v.keys i=some v.keys[i - 1]:=by simp [I7,h0,hi1]
    have e1:cZ ((i:Int) - 1)=((i - 1:Nat):Int):=by rw [Zw (by omega)]; omega
    obtain ⟨c1,c2⟩:=adk (a:=v.keys[i - 1]) (b:=v.keys[i]) (by omega) (by omega); have hpos:decide ((0:Int) < (i:Int))=true:=by simp; omega
    rw [hp0,e1,hpos,KC hi1]; simp only [aF,c1,c2,if_true]
    have hn:decide (WM v.keys[i - 1] v.keys[i] < 0)=!decide (0≤WM v.keys[i - 1] v.keys[i]):=by
     by_cases h:0≤WM v.keys[i - 1] v.keys[i] <;> simp [h] <;> omega
    rw [hn]; cases BH v.keys[i] <;> cases decide (0≤WM v.keys[i - 1] v.keys[i]) <;> simp
  ·
   have:i=v.keys.length:=by omega
   subst this; simp [TT]
theorem WW {v:ah} (hv:v.bulk < 4611686018427387904):Bu v=some (((v.keys.length:Int) == (v.aW.length:Int)) && TT none v.keys)∧xM v=some (((v.keys.length:Int) == (v.aW.length:Int)) && TT none v.keys):=by
 have hlen:=Dg v; obtain ⟨h1,h2⟩:=Zn hv BIG 0 (by have:=uw; omega) (by omega); have hp0:I7 v.keys 0=none:=rfl; rw [hp0,List.drop_zero] at h1 h2; unfold Bu xM; rw [show (0:Int)=((0:Nat):Int) from rfl,h1,h2]; by_cases h:(v.keys.length:Int)=(v.aW.length:Int)
 · simp [h]
 ·
  have:((v.keys.length:Int) == (v.aW.length:Int))=false:=by simpa using h
  simp [this]; intro hh; exact absurd hh h
def Lp (v:ah):Bool:=
 (((((v.kind == 1) || (!v.eB)) && ((v.kind == 2) || (v.gI == 0))) && ((v.kind == 3) || (v.fM == ([]:Str)))) && (((v.kind == 4) || (v.kind == 5)) || ((v.aW.length:Int) == 0))) && ((v.kind == 5) || ((v.keys.length:Int) == 0))
theorem aer (v:ah):FI v=some (Lp v):=by
 unfold FI Lp
 have hl:decide (0 < (v.aW.length:Int))=!((v.aW.length:Int) == 0):=by
  cases h:v.aW <;> simp; omega
 rw [hl]; have hk:∀ n:Int,(v.kind != n)=!(v.kind == n):=fun n=>rfl; have hi:(v.gI != 0)=!(v.gI == 0):=rfl; rw [hk,hk,hk,hk,hk,hi]; generalize (v.kind == 1)=a1; generalize (v.kind == 2)=a2; generalize (v.kind == 3)=a3; generalize (v.kind == 4)=a4; generalize (v.kind == 5)=a5; generalize v.eB=b; generalize (v.gI == 0)=c; generalize (v.fM == ([]:Str))=d; generalize ((v.aW.length:Int) == 0)=e; generalize ((v.keys.length:Int) == 0)=f; revert a1 a2 a3 a4 a5 b c d e f; decide
def Cu (v:ah) (level:Nat):Int:=
 if 16 < level then 13
 else if (decide (v.kind < 0)) || (decide (5 < v.kind)) || !Lp v then 1
 else if (decide (v.gI < (-9007199254740992))) || (decide (9007199254740992 < v.gI)) then 2
 else if ((decide (4096 < (v.fM.length:Int))) || (decide (1024 < (v.aW.length:Int)))) || (decide (1024 < (v.keys.length:Int))) then 3
 else if v.kind == 5 && !(((v.keys.length:Int) == (v.aW.length:Int)) && TT none v.keys) then 1
 else if (((v.kind == 4) || (v.kind == 5)) && ((v.aW.length:Int) == 0)) && level == 16 then 13
 else 0
theorem adi {v:ah} (hv:v.bulk < 4611686018427387904) (level:Nat):Dv v (level:Int)=some (Cu v level):=by
 unfold Dv Cu Cz; have h16:decide ((16:Int) < (level:Int))=decide (16 < level):=by congr 1; simp; omega
 have afA:((level:Int) == 16)=(level == 16):=by
  rw [Bool.eq_iff_iff]; simp only [beq_iff_eq]; omega
 rw [h16,afA,(WW hv).1]; change (if decide (16 < level)=true then some 13 else av (if (decide (v.kind < 0) || decide (5 < v.kind))=true then some true else av (some (Lp v)) fun x1=>some (!x1)) _)=_
 by_cases h0:16 < level
 · simp [h0]
 ·
  simp only [h0,decide_false,Bool.false_eq_true,if_false,aF]; cases h1:(decide (v.kind < 0) || decide (5 < v.kind)) with
  | true=>simp
  | false=>
   cases h2:Lp v with
   | false=>simp
   | true=>
    simp only [Bool.false_eq_true,if_false,Bool.not_true,aF,Bool.or_self]; split
    · rfl
    ·
     split
     · rfl
     · cases h3:(v.kind == 5) <;> cases h4:(((v.keys.length:Int) == (v.aW.length:Int)) && TT none v.keys) <;> simp <;> (first | rfl | (split <;> rfl))
mutual
def mF :ah→Nat→Int
 | ⟨a,b,c,d,l,f⟩,level=>if Cu ⟨a,b,c,d,l,f⟩ level != 0 then Cu ⟨a,b,c,d,l,f⟩ level else IC l (level + 1)
def IC :List ah→Nat→Int
 | [],_=>0
 | x :: r,level=>if mF x level != 0 then mF x level else IC r level
end
theorem U2 (v:ah) (level:Nat):mF v level=if Cu v level != 0 then Cu v level else IC v.aW (level + 1):=by cases v; rw [mF]
theorem ahG {go:ah→Int→Option Int} {level:Nat}:∀ (l:List ah) (i:Nat),(∀ x∈l,go x ((level + 1:Nat):Int)=some (mF x (level + 1)))→
  mP (fun _ e1 (_:Unit) r=>av (go e1 ((level + 1:Nat):Int)) fun e2=>if e2 != 0 then some e2 else r ()) (fun _=>some 0) i l ()=some (IC l (level + 1))
 | [],i,_=>by simp [mP,IC]
 | x :: r,i,h=>by
  rw [mP,h x (by simp),IC]; simp only [aF]; rw [ahG r (i + 1) (fun y hy=>h y (by simp [hy]))]; split <;> rfl
theorem Xq :∀ (n:Nat) (v:ah) (level:Nat),v.bulk≤n→v.bulk < 4611686018427387904→level≤17→qR (n + 1) v (level:Int)=some (mF v level)
 | 0,v,_,h,_,_=>by have:=v.rE; omega
 | n + 1,v,level,h,hB,hlv=>by
  have hl:=Aq v; rw [U2]; unfold qR ED; have h16:decide ((16:Int) < (level:Int))=decide (16 < level):=by congr 1; simp; omega
  have afA:((level:Int) == 16)=(level == 16):=by
   rw [Bool.eq_iff_iff]; simp only [beq_iff_eq]; omega
  rw [h16,afA,(WW hB).2,aer]; unfold Cu; by_cases h0:16 < level
  · simp [h0]
  ·
   have hw:cZ ((level:Int) + 1)=((level + 1:Nat):Int):=Lm (by omega); have:=lu (F:=fun k (_:Unit) i=>zF (qR (n + 1)) v (level:Int) k i) (l:=v.aW) (body:=fun _ e1 _ r=>av (qR (n + 1) e1 ((level + 1:Nat):Int)) fun e2=>if e2 != 0 then some e2 else r ()) (fin:=fun _=>some 0) (by omega) (fun k s i=>by rw [←hw]; rfl) (); rw [this,ahG v.aW 0 fun x hx=>Xq n x (level + 1) (by have:=nG hx; omega) (by have:=nG hx; omega) (by omega)]; simp only [h0,decide_false,Bool.false_eq_true,if_false,aF]; cases h1:(decide (v.kind < 0) || decide (5 < v.kind)) with
   | true=>simp
   | false=>
    cases h2:Lp v with
    | false=>simp
    | true=>
     simp only [Bool.false_eq_true,if_false,Bool.not_true,aF,Bool.or_self]; split
     · simp
     ·
      split
      · simp
      ·
       have h4:decide ((4:Int)≤v.kind)=((v.kind == 4) || (v.kind == 5)):=by
        simp only [Bool.or_eq_false_iff,decide_eq_false_iff_not] at h1; rw [Bool.eq_iff_iff]; simp only [Bool.or_eq_true,decide_eq_true_eq,beq_iff_eq]; omega
       rw [h4]
       cases h3:(v.kind == 5) <;> cases h5:(((v.keys.length:Int) == (v.aW.length:Int)) && TT none v.keys) <;> simp <;> (first | rfl | (split <;> simp <;> rename_i hq <;> (first
        | exact fun hh=>absurd hq.2 (hh hq.1.1 hq.1.2)
        | exact fun a b c=>absurd ⟨⟨a,b⟩,c⟩ hq)))
theorem aaM {v:ah} (h:v.bulk < 4611686018427387904):Dj v=some (mF v 1):=by
 obtain ⟨n,hn,hn2⟩:=Aj; unfold Dj NP; rw [hn]; exact Xq n v 1 (by omega) h (by omega)
def Qh (c:Int):Bool × Option Int:=if c != 0 then (false,some c) else (true,none)
theorem agi {v:ah} (hv:v.bulk < 4611686018427387904) (level:Nat):nR none (level:Int) v=some (Qh (Cu v level)):=by
 unfold nR Qh; simp only [adi hv,aF]; by_cases h:Cu v level=0 <;> simp [h]
theorem adJ {go:Option Int→ah→Int→Option (Bool × Option Int)} {level:Nat}:∀ (l:List ah) (i:Nat),(∀ x∈l,go none x ((level + 1:Nat):Int)=some (Qh (mF x (level + 1))))→
  mP (fun _ x1 (s1:Option Int) r=>fU (go s1 x1 ((level + 1:Nat):Int)) fun b1 s2=>if !b1 then some (false,s2) else r s2) (fun s1=>some (true,s1)) i l none=some (Qh (IC l (level + 1)))
 | [],i,_=>by simp [mP,IC,Qh]
 | x :: r,i,h=>by
  rw [mP,h x (by simp),IC]; by_cases hc:mF x (level + 1)=0
  ·
   simp only [hc,Qh,bne_self_eq_false,Bool.false_eq_true,if_false,iU,Bool.not_true]; rw [adJ r (i + 1) (fun y hy=>h y (by simp [hy]))]; rfl
  · simp [hc,Qh]
theorem aaJ :∀ (n:Nat) (v:ah) (level:Nat),v.bulk≤n→v.bulk < 4611686018427387904→level≤17→qM nR (n + 1) none v (level:Int)=some (Qh (mF v level))
 | 0,v,_,h,_,_=>by have:=v.rE; omega
 | n + 1,v,level,h,hB,hlv=>by
  have hl:=Aq v; rw [U2]; unfold qM Cy; rw [agi hB]; by_cases h0:Cu v level=0
  ·
   have ain:level≤16:=by
    rcases Nat.lt_or_ge 16 level with h | h
    · unfold Cu at h0; simp [h] at h0
    · exact h
   have hw:cZ ((level:Int) + 1)=((level + 1:Nat):Int):=Lm (by omega); have:=lu (F:=fun k s i=>xJ (qM nR (n + 1)) v (level:Int) k s i) (l:=v.aW) (body:=fun _ x1 (s1:Option Int) r=>fU (qM nR (n + 1) s1 x1 ((level + 1:Nat):Int)) fun b1 s2=>if !b1 then some (false,s2) else r s2) (fin:=fun s1=>some (true,s1)) (by omega) (fun k s i=>by rw [←hw]; rfl) none; simp only [h0,Qh,bne_self_eq_false,Bool.false_eq_true,if_false,iU,Bool.not_true]; rw [this,adJ v.aW 0 fun x hx=>aaJ n x (level + 1) (by have:=nG hx; omega) (by have:=nG hx; omega) (by omega)]; rfl
  · simp [h0,Qh]
theorem TV {v:ah} (h:v.bulk < 4611686018427387904):l5 v=some (mF v 1):=by
 obtain ⟨n,hn,hn2⟩:=Aj; unfold l5 F9; rw [hn,show (1:Int)=((1:Nat):Int) from rfl,aaJ n v 1 (by omega) h (by omega)]; unfold Qh; by_cases hc:mF v 1=0 <;> simp [hc]
end Go.Ft
namespace Go.Ft
open Go
attribute [local congr] yP
def OD (v:ah):Bool:=(((((v.kind == 0) && (!v.eB)) && (v.gI == 0)) && (v.fM == ([]:Str))) && ((v.aW.length:Int) == 0)) && ((v.keys.length:Int) == 0)
theorem zero_eq (v:ah):EF v=some (OD v):=rfl
theorem ZJ (v:ah):QN v (ah.mk 0 false 0 ([]:Str) [] [])=some (OD v):=by
 obtain ⟨n,hn,hn2⟩:=Aj; obtain ⟨m,hm⟩:∃ m,n=m + 1:=⟨n - 1,by omega⟩; have hB:BIG=(m + 1) + 1:=by omega
 unfold QN; rw [hB,LA,QM]
 have hz:OD v=!(((((v.kind != 0) || (!(v.eB == false))) || (v.gI != 0)) || (!(v.fM == ([]:Str)))) || ((v.aW.length:Int) != (([]:List ah).length:Int)) || ((v.keys.length:Int) != (([]:List Str).length:Int))):=by
  unfold OD; have hk:(v.kind != 0)=!(v.kind == 0):=rfl; have hi:(v.gI != 0)=!(v.gI == 0):=rfl; have hl:((v.aW.length:Int) != (([]:List ah).length:Int))=!((v.aW.length:Int) == 0):=rfl; have hks:((v.keys.length:Int) != (([]:List Str).length:Int))=!((v.keys.length:Int) == 0):=rfl; rw [hk,hi,hl,hks]; generalize (v.kind == 0)=a; generalize v.eB=b; generalize (v.gI == 0)=c; generalize (v.fM == ([]:Str))=d; generalize ((v.aW.length:Int) == 0)=e; generalize ((v.keys.length:Int) == 0)=f; revert a b c d e f; decide
 cases h:(((((v.kind != 0) || (!(v.eB == false))) || (v.gI != 0)) || (!(v.fM == ([]:Str)))) || ((v.aW.length:Int) != (([]:List ah).length:Int)) || ((v.keys.length:Int) != (([]:List Str).length:Int))) with
 | true=>
  rw [hz,h]; rfl
 | false=>
  rw [hz,h]; simp only [Bool.or_eq_false_iff] at h; have hl:v.aW=[]:=by have:=h.1.2; simpa using this
  have hk:v.keys=[]:=by have:=h.2; simpa using this
  simp only [Bool.false_eq_true,if_false,Bool.not_false]; rw [hB,IZ,hk]; simp only [List.length_nil,Int.lt_irrefl,decide_false,Bool.false_eq_true,if_false,Int.ofNat_zero,Int.natCast_zero]; rw [hB,IY,hl]; simp
def D5 (e:aj):Bool:=
 if e.kind == 1 then (e.args.length:Int) == 0 else if e.kind == 2 then (e.args.length:Int) == 0 else if e.kind == 3 then (e.args.length:Int) == 1 else if e.kind == 6 then (e.args.length:Int) == 1
 else if e.kind == 4 then (e.args.length:Int) == 2 else if e.kind == 7 then (e.args.length:Int) == 2 else if e.kind == 8 then (e.args.length:Int) == 3 else ((e.kind == 5) || (e.kind == 9)) || (e.kind == 10)
theorem adF (e:aj):NI e=some (D5 e):=by
 unfold NI D5; simp only [apply_ite some]
def Fb (e:aj):Bool:=!((decide (e.kind < 1)) || (decide (10 < e.kind)))
theorem afT (e:aj) (h:Fb e=true):zK e=some (D5 e):=by
 unfold zK D5; unfold Fb at h; simp only [Bool.not_eq_true',Bool.or_eq_false_iff,decide_eq_false_iff_not] at h; simp only [apply_ite some]
 have hh:¬ e.kind=1→¬ e.kind=2→¬ e.kind=3→¬ e.kind=6→¬ e.kind=4→¬ e.kind=7→¬ e.kind=8→(((e.kind == 5) || (e.kind == 9)) || (e.kind == 10))=true:=by
  intro h1 h2 h3 h6 h4 h7 h8; simp only [Bool.or_eq_true,beq_iff_eq]; omega
 by_cases h1:e.kind=1
 · simp [h1]
 by_cases h2:e.kind=2
 · simp [h2]
 by_cases h3:e.kind=3
 · simp [h3]
 by_cases h6:e.kind=6
 · simp [h6]
 by_cases h4:e.kind=4
 · simp [h4]
 by_cases h7:e.kind=7
 · simp [h7]
 by_cases h8:e.kind=8
 · simp [h8]
 rw [hh h1 h2 h3 h6 h4 h7 h8]
 all_goals simp [h1,h2,h3,h4,h6,h7,h8]
def U6 (s:Str):Int:=(jr s).getD 0
theorem ZF (s:Str):jr s=some (U6 s):=by
 obtain ⟨n,h⟩:=SV s; unfold U6; rw [h]; rfl
def Jp (e:aj):Bool:=
 if e.kind == 2 then Kh e.name else if e.kind == 3 then Kh e.name else if e.kind == 5 then Kh e.name else if e.kind == 6 then (e.name == ([33]:Str)) || (e.name == ([45]:Str))
 else if e.kind == 7 then decide (0 < U6 e.name) else e.name == ([]:Str)
theorem WQ (e:aj) (h:e.bulk < 4611686018427387904):zH e=some (Jp e)∧NH e=some (Jp e):=by
 have hn:=aad e; obtain ⟨p1,p2⟩:=abj e.name (by omega); unfold zH NH Jp; rw [p1,p2,Wp,ZF]; simp only [aF,apply_ite some,and_self]
theorem aiO (l:List Str) (hl:l.length < 4611686018427387904):ig l lG=some (l.any fun k=>!BH k):=by
 unfold ig j5; have:=lu (F:=fun k (_:Unit) i=>h_ l lG k i) (l:=l) (body:=fun (i:Nat) e1 _ r=>av (lG e1) fun x1=>if x1 then some (i:Int) else r ()) (fin:=fun _=>some (-1)) hl (fun k s i=>rfl) (); rw [this]
 have key:∀ (t:List Str) (i:Nat),av (mP (fun (i:Nat) e1 (_:Unit) r=>av (lG e1) fun x1=>if x1 then some (i:Int) else r ()) (fun _=>some (-1)) i t ()) (fun x1=>some (decide (0≤x1)))=some (t.any fun k=>!BH k):=by
  intro t
  induction t with
  | nil=>intro i; rfl
  | cons c t ih=>
   intro i; rw [mP]; have e1:lG c=some (!BH c):=by unfold lG; rw [Vo]
   rw [e1]; simp only [aF,List.any_cons]; cases h:BH c with
   | false=>simp
   | true=>
    simp only [Bool.not_true,Bool.false_eq_true,if_false,Bool.false_or]; exact ih (i + 1)
 exact key l 0
def L6 (e:aj):Bool:=if e.kind != 10 then (e.keys.length:Int) == 0 else ((e.keys.length:Int) == (e.args.length:Int)) && !(e.keys.any fun k=>!BH k)
theorem afs (e:aj) (h:e.bulk < 4611686018427387904):zI e=some (L6 e):=by
 have hk:=Km e; unfold zI L6; rw [aiO e.keys (by omega)]; split
 · rfl
 · cases ((e.keys.length:Int) == (e.args.length:Int)) <;> simp
theorem ads (e:aj) (h:e.bulk < 4611686018427387904):Bh e BIG 0=some (!(e.keys.any fun k=>!BH k) && ((e.keys.length:Int) == (e.args.length:Int))):=by
 have hk:=Km e
 have:=lu (F:=fun k (_:Unit) i=>Bh e k i) (l:=e.keys) (body:=fun (i:Nat) e2 _ r=>av (if decide ((e2.length:Int) < 1) then some true else av (idx e.keys (i:Int)) fun e3=>some (decide (64 < (e3.length:Int)))) fun b4=>if b4 then some false else r ())
  (fin:=fun _=>some ((e.keys.length:Int) == (e.args.length:Int))) (by omega) (fun k s i=>rfl) ()
 rw [this]
 have key:∀ (t:List Str) (i:Nat),t=e.keys.drop i→mP (fun (i:Nat) e2 (_:Unit) r=>av (if decide ((e2.length:Int) < 1) then some true else av (idx e.keys (i:Int)) fun e3=>some (decide (64 < (e3.length:Int)))) fun b4=>if b4 then some false else r ())
   (fun _=>some ((e.keys.length:Int) == (e.args.length:Int))) i t ()=some (!(t.any fun k=>!BH k) && ((e.keys.length:Int) == (e.args.length:Int))):=by
  intro t
  induction t with
  | nil=>intro i _; rfl
  | cons c t ih=>
   intro i ht
   have hi:i < e.keys.length:=by
    rcases Nat.lt_or_ge i e.keys.length with h | h
    · exact h
    · rw [List.drop_eq_nil_of_le h] at ht; cases ht
   have hc:=List.drop_eq_getElem_cons hi; rw [←ht] at hc; have e1:c=e.keys[i]:=(List.cons.inj hc).1; have e2:=(List.cons.inj hc).2; rw [mP,KC hi,←e1]; simp only [aF,List.any_cons]; rw [ih (i + 1) e2]; have e3:=Vo c; cases h1:decide ((List.length c:Int) < 1) <;> rw [h1] at e3
   ·
    simp only [Bool.false_or] at e3; simp only [Bool.false_eq_true,if_false,aF,e3]; cases BH c <;> simp
   ·
    simp only [Bool.true_or] at e3
    have:BH c=false:=by
     cases h:BH c with
     | false=>rfl
     | true=>rw [h] at e3; cases e3
    simp [this]
 exact key e.keys 0 rfl
def C9 (e:aj):Bool:=Fb e && ((e.kind == 1) || OD e.value) && Jp e && D5 e && L6 e
theorem Yt (e:aj) (h:D5 e=true):Fb e=true:=by
 unfold D5 at h; unfold Fb; simp only [Bool.not_eq_true',Bool.or_eq_false_iff,decide_eq_false_iff_not]; by_cases h1:e.kind=1
 · omega
 by_cases h2:e.kind=2
 · omega
 by_cases h3:e.kind=3
 · omega
 by_cases h6:e.kind=6
 · omega
 by_cases h4:e.kind=4
 · omega
 by_cases h7:e.kind=7
 · omega
 by_cases h8:e.kind=8
 · omega
 simp [h1,h2,h3,h4,h6,h7,h8] at h; omega
theorem aac (e:aj) (h:e.bulk < 4611686018427387904):Lx e=some (C9 e):=by
 unfold Lx C9; rw [adF,(WQ e h).2,ZJ,ads e h]; have hk:=Yt e; unfold L6; have hne:(e.kind != 1)=!(e.kind == 1):=rfl; rw [hne]; cases h1:D5 e with
 | false=>cases (e.kind == 1) <;> simp
 | true=>
  rw [hk h1]; cases h2:Jp e with
  | false=>cases (e.kind == 1) <;> simp
  | true=>
   cases h3:(e.kind == 1) <;> cases h4:OD e.value <;> simp <;> (first | done | (split <;> simp [Bool.and_comm]))
theorem Uq (y:List (Str × Int)) (s t:Str) (n:Int):wQ (xQ y s n) t=if t=s then n else wQ y t:=by
 induction y with
 | nil=>by_cases h:t=s <;> simp [xQ,wQ,h]
 | cons a y ih=>
  obtain ⟨k,v⟩:=a; unfold xQ; by_cases h:s=k
  ·
   subst h; simp only [beq_self_eq_true,if_true]; unfold wQ; by_cases h2:t=s
   · simp [h2]
   ·
    have:(t == s)=false:=beq_eq_false_iff_ne.2 h2; simp [this,h2]
  ·
   have:(s == k)=false:=beq_eq_false_iff_ne.2 h; rw [this]; simp only [Bool.false_eq_true,if_false]; unfold wQ; by_cases h2:t=k
   ·
    subst h2; have:¬ t=s:=fun hh=>h hh.symm; simp [this]
   ·
    have h3:(t == k)=false:=beq_eq_false_iff_ne.2 h2; rw [h3]; simp only [Bool.false_eq_true,if_false]; exact ih
def PE :List Str→List Str→Bool
 | _,[]=>false
 | seen,s :: r=>seen.contains s || PE (seen ++ [s]) r
theorem aeo (l:List Str) (hl:l.length < 4611686018427387904):uG l=some (PE [] l):=by
 unfold uG; have:=lu (F:=fun k s i=>qh l k i s) (l:=l) (body:=fun _ s1 (y1:List (Str × Int)) r=>if decide (1 < (wQ (xQ y1 s1 (cZ ((wQ y1 s1) + 1))) s1)) then some true else r (xQ y1 s1 (cZ ((wQ y1 s1) + 1)))) (fin:=fun _=>some false) hl (fun k s i=>rfl) []; rw [this]
 have key:∀ (t:List Str) (i:Nat) (y:List (Str × Int)) (seen:List Str),(∀ s,wQ y s=if s∈seen then 1 else 0)→
   mP (fun _ s1 (y1:List (Str × Int)) r=>if decide (1 < (wQ (xQ y1 s1 (cZ ((wQ y1 s1) + 1))) s1)) then some true else r (xQ y1 s1 (cZ ((wQ y1 s1) + 1)))) (fun _=>some false) i t y=some (PE seen t):=by
  intro t
  induction t with
  | nil=>intro i y seen _; rfl
  | cons c t ih=>
   intro i y seen hy; rw [mP,PE,Uq,if_pos rfl,hy c]; by_cases hc:c∈seen
   ·
    have:cZ 2=2:=by decide
    simp [hc,this]
   ·
    have:cZ ((0:Int) + 1)=1:=by decide
    simp only [hc,if_false,this]; have e:seen.contains c=false:=by simpa using hc
    rw [e]; simp only [Int.lt_irrefl,decide_false,Bool.false_eq_true,if_false,Bool.false_or]; refine ih (i + 1) _ (seen ++ [c]) fun s=>?_; rw [Uq,hy s]; by_cases h1:s=c
    · subst h1; simp
    · simp [h1]
 exact key l 0 [] [] (fun s=>by simp [wQ])
theorem Wh (l:List Str) (i:Nat) (hi:i < l.length) (hl:l.length < 4611686018427387904) (go:Int→Option Bool):∀ (k j:Nat),i < k + j→j≤i→
  CK l (i:Int) go k (j:Int)=if ((l.take i).drop j).contains l[i] then some true else go ((i + 1:Nat):Int)
 | 0,j,h,h'=>by omega
 | k + 1,j,h,h'=>by
  rw [CK]; by_cases hj:j < i
  ·
   have hlt:j < (l.take i).length:=by simp; omega
   rw [if_pos (by simpa using hj),KC hi,KC (by omega),List.drop_eq_getElem_cons hlt]; simp only [aF,List.contains_cons,List.getElem_take]; cases h1:(l[i] == l[j]) with
   | true=>simp
   | false=>
    simp only [Bool.false_eq_true,if_false,Bool.false_or]; rw [Lm (by omega)]; exact Wh l i hi hl go k (j + 1) (by omega) (by omega)
  ·
   have:j=i:=by omega
   subst this; rw [if_neg (by simp),Lm (by omega)]; have:(List.take j l).drop j=[]:=List.drop_eq_nil_of_le (by simp; omega); rw [this]; simp
theorem Ua (l:List Str) (hl:l.length < 4611686018427387904):∀ (k i:Nat),l.length < k + i→i≤l.length→zC l k (i:Int)=some (PE (l.take i) (l.drop i))
 | 0,i,h,h'=>by omega
 | k + 1,i,h,h'=>by
  rw [zC]; by_cases hi:i < l.length
  ·
   rw [if_pos (by simpa using hi),List.drop_eq_getElem_cons hi,PE]; have:=Wh l i hi hl (zC l k) BIG 0 (by have:=uw; omega) (by omega); rw [show (0:Int)=((0:Nat):Int) from rfl,this,List.drop_zero,Ua l hl k (i + 1) (by omega) (by omega)]; have e:List.take (i + 1) l=List.take i l ++ [l[i]]:=by rw [List.take_add_one,List.getElem?_eq_getElem hi]; rfl
   rw [e]; cases (l.take i).contains l[i] <;> simp
  ·
   have:i=l.length:=by omega
   subst this; simp [PE]
theorem aaY (l:List Str) (hl:l.length < 4611686018427387904):NG l=some (PE [] l):=by
 have:=Ua l hl BIG 0 (by have:=uw; omega) (by omega); simpa [NG] using this
def Ew (e:aj) (level:Nat):Int:=
 if 16 < level then 13 else if !C9 e then 1 else if e.kind == 1 && (mF e.value 1 != 0) then mF e.value 1 else if decide (1024 < (e.args.length:Int)) then 3 else if PE [] e.keys then 7 else 0
theorem abh (e:aj) (h:e.bulk < 4611686018427387904) (level:Nat):Bw e (level:Int)=some (Ew e level):=by
 have hk:=Km e; have hv:=O0 e; unfold Bw Ew; have h16:decide ((16:Int) < (level:Int))=decide (16 < level):=by congr 1; simp; omega
 rw [h16,zero_eq,(WQ e h).1,afs e h,TV (by omega),aeo e.keys (by omega)]; by_cases h0:16 < level
 · simp [h0]
 ·
  simp only [h0,decide_false,Bool.false_eq_true,if_false,aF]; have hkd:((decide (e.kind < 1)) || (decide (10 < e.kind)))=!Fb e:=by simp [Fb]
  have hne:(e.kind != 1)=!(e.kind == 1):=rfl; rw [hkd,hne]; unfold C9; cases h1:Fb e with
  | false=>simp
  | true=>
   rw [afT e h1]
   cases h3:(e.kind == 1) <;> cases h4:OD e.value <;> cases h5:Jp e <;> cases h6:D5 e <;> cases h7:L6 e <;> simp <;>
    (first | done | (split <;> (first | rfl | (split <;> (first | rfl | (split <;> rfl))))))
end Go.Ft
namespace Go.Ft
open Go
attribute [local congr] yP
mutual
def SE :aj→Nat→Int
 | ⟨a,b,c,l,f⟩,level=>if Ew ⟨a,b,c,l,f⟩ level != 0 then Ew ⟨a,b,c,l,f⟩ level else OB l (level + 1)
def OB :List aj→Nat→Int
 | [],_=>0
 | x :: r,level=>if SE x level != 0 then SE x level else OB r level
end
theorem P5 (e:aj) (level:Nat):SE e level=if Ew e level != 0 then Ew e level else OB e.args (level + 1):=by cases e; rw [SE]
theorem Lh {go:aj→Int→Option Int} {level:Nat}:∀ (l:List aj) (i:Nat),(∀ x∈l,go x ((level + 1:Nat):Int)=some (SE x (level + 1)))→
  mP (fun _ e1 (_:Unit) r=>av (go e1 ((level + 1:Nat):Int)) fun e2=>if e2 != 0 then some e2 else r ()) (fun _=>some 0) i l ()=some (OB l (level + 1))
 | [],i,_=>by simp [mP,OB]
 | x :: r,i,h=>by
  rw [mP,h x (by simp),OB]; simp only [aF]; rw [Lh r (i + 1) (fun y hy=>h y (by simp [hy]))]; split <;> rfl
theorem Qe :∀ (n:Nat) (e:aj) (level:Nat),e.bulk≤n→e.bulk < 4611686018427387904→level≤17→mQ (n + 1) e (level:Int)=some (SE e level)∧yZ (n + 1) e (level:Int)=some (SE e level)
 | 0,e,_,h,_,_=>by have:=e.rE; omega
 | n + 1,e,level,h,hB,hlv=>by
  have hl:=UA e; have hv:=O0 e; have hks:=Km e; have hw:cZ ((level:Int) + 1)=((level + 1:Nat):Int):=Lm (by omega); constructor
  ·
   rw [P5]; unfold mQ zG; have:=lu (F:=fun k (_:Unit) i=>uF (mQ (n + 1)) e (level:Int) k i) (l:=e.args) (body:=fun _ e1 _ r=>av (mQ (n + 1) e1 ((level + 1:Nat):Int)) fun e2=>if e2 != 0 then some e2 else r ()) (fin:=fun _=>some 0) (by omega) (fun k s i=>by rw [←hw]; rfl) (); rw [abh e hB,this]; simp only [aF]; by_cases h0:Ew e level=0
   ·
    have ain:level≤16:=by
     rcases Nat.lt_or_ge 16 level with h | h
     · unfold Ew at h0; simp [h] at h0
     · exact h
    rw [Lh e.args 0 fun x hx=>(Qe n x (level + 1) (by have:=wU hx; omega) (by have:=wU hx; omega) (by omega)).1]; simp [h0]
   · simp [h0]
  ·
   rw [P5]; unfold yZ OO; have:=lu (F:=fun k (_:Unit) i=>Gh (yZ (n + 1)) e (level:Int) k i) (l:=e.args) (body:=fun _ e1 _ r=>av (yZ (n + 1) e1 ((level + 1:Nat):Int)) fun e2=>if e2 != 0 then some e2 else r ()) (fin:=fun _=>some 0) (by omega) (fun k s i=>by rw [←hw]; rfl) (); have h16:decide ((16:Int) < (level:Int))=decide (16 < level):=by congr 1; simp; omega
   rw [aac e hB,aaM (by omega),aaY e.keys (by omega),this,h16]; by_cases h0:16 < level
   · simp [Ew,h0]
   ·
    rw [Lh e.args 0 fun x hx=>(Qe n x (level + 1) (by have:=wU hx; omega) (by have:=wU hx; omega) (by omega)).2]; unfold Ew; simp only [h0,decide_false,Bool.false_eq_true,if_false,aF]; cases C9 e with
    | false=>simp
    | true=>
     simp only [Bool.not_true,Bool.false_eq_true,if_false]; cases h1:(e.kind == 1 && (mF e.value 1 != 0)) with
     | true=>
      have:mF e.value 1≠0:=by simp at h1; exact h1.2
      simp [this]
     | false=>
      simp only [Bool.false_eq_true,if_false]; by_cases h2:(1024:Int) < (e.args.length:Int)
      · simp [h2]
      ·
       simp only [h2,decide_false,Bool.false_eq_true,if_false]; cases PE [] e.keys <;> simp
def xval (e:aj):Int:=if 4096 < ecnt e then 15 else SE e 1
theorem YA {e:aj} (h:e.bulk < 4611686018427387904):jq e=some (xval e)∧Uk e=some (xval e):=by
 obtain ⟨n,hn,hn2⟩:=Aj; obtain ⟨c1,c2⟩:=count_eq h; obtain ⟨v1,v2⟩:=Qe n e 1 (by omega) h (by omega); unfold jq Uk xval Gl Uj; rw [c1,c2,hn]; have:decide ((4096:Int) < (ecnt e:Int))=decide (4096 < ecnt e):=by congr 1; simp; omega
 simp only [aF,this]; rw [show (1:Int)=((1:Nat):Int) from rfl,v1,v2]; by_cases h4:4096 < ecnt e <;> simp [h4]
inductive Ty where
 | leaf (k:Int)
 | nest (k:Int) (t:Ty)
namespace Ty
def api :Ty→aJ
 | leaf k=>⟨k,[]⟩
 | nest k t=>⟨k,[t.api]⟩
def wf :Ty→Prop
 | leaf k=>0≤k∧k≤7∧k≠5∧k≠6
 | nest k t=>(k=5∨k=6)∧t.wf
def dep :Ty→Nat
 | leaf _=>1
 | nest _ t=>1 + t.dep
def kind :Ty→Int
 | leaf k=>k
 | nest k _=>k
theorem ahL (t:Ty):t.api.kind=t.kind:=by cases t <;> rfl
theorem VA (t:Ty):1≤t.dep:=by cases t <;> simp [dep] <;> omega
end Ty
theorem Q5 {k:Int} (h:0≤k∧k≤7):∃ s,tF k=some s∧(s == ([]:Str))=false:=by
 obtain ⟨n,rfl⟩:∃ n:Nat,k=n:=⟨k.toNat,by omega⟩; have hn:n < 8:=by omega
 match n,hn with
 | 0,_=>exact ⟨_,rfl,rfl⟩
 | 1,_=>exact ⟨_,rfl,rfl⟩
 | 2,_=>exact ⟨_,rfl,rfl⟩
 | 3,_=>exact ⟨_,rfl,rfl⟩
 | 4,_=>exact ⟨_,rfl,rfl⟩
 | 5,_=>exact ⟨_,rfl,rfl⟩
 | 6,_=>exact ⟨_,rfl,rfl⟩
 | 7,_=>exact ⟨_,rfl,rfl⟩
theorem abQ {k:Int} (h:¬ (0≤k∧k≤7)):tF k=some []:=by
 unfold tF; rw [if_pos (by simp; omega)]
theorem aaZ :∀ (k level:Nat) (t:aJ),18≤k + level→level≤17→∃ c,lQ k (level:Int) t=some c∧EC k t (level:Int)=some c∧(c=0→∃ T:Ty,T.wf∧t=T.api∧T.dep + level≤17)
 | 0,level,t,h,h'=>by omega
 | k + 1,level,t,h,h'=>by
  rw [lQ,EC,OQ]; have h16:decide ((16:Int) < (level:Int))=decide (16 < level):=by congr 1; simp; omega
  rw [h16]; by_cases h0:16 < level
  · exact ⟨13,by simp [h0],by simp [h0],by simp⟩
  ·
   simp only [h0,decide_false,Bool.false_eq_true,if_false]; by_cases hk:0≤t.kind∧t.kind≤7
   ·
    obtain ⟨s,hs,hs2⟩:=Q5 hk; have hb:(decide (t.kind < 0) || decide (7 < t.kind))=false:=by simp; omega
    rw [hs,hb]; simp only [aF,hs2,iM,FH,Bool.false_eq_true,if_false]; cases hn:((t.kind == 5) || (t.kind == 6)) with
    | false=>
     simp only [Bool.false_and,Bool.not_false,Bool.true_and,Bool.false_eq_true,if_false,aF,if_true]; cases he:t.elem with
     | nil=>
      refine ⟨0,by simp,by simp,fun _=>⟨.leaf t.kind,?_,?_,?_⟩⟩
      · simp at hn; exact ⟨hk.1,hk.2,hn.1,hn.2⟩
      · cases t; simp at he; subst he; rfl
      · simp only [Ty.dep]; omega
     | cons x r=>exact ⟨1,by first | (simp; done) | (simp; omega),by first | (simp; done) | (simp; omega),by simp⟩
    | true=>
     simp only [Bool.true_and,Bool.not_true,Bool.false_and,aF,Bool.false_eq_true,if_false]; have hnk:t.kind=5∨t.kind=6:=by simpa using hn
     match he:t.elem with
     | []=>exact ⟨1,by simp,by simp,by simp⟩
     | [x]=>
      obtain ⟨c,c1,c2,c3⟩:=aaZ k (level + 1) x (by omega) (by omega); have hw:cZ ((level:Int) + 1)=((level + 1:Nat):Int):=Lm (by omega); refine ⟨c,?_,?_,fun hc=>?_⟩
      · rw [hw,←c1]; simp [idx]
      · rw [hw,←c2]; simp [idx]
      ·
       obtain ⟨T,w1,w2,w3⟩:=c3 hc; refine ⟨.nest t.kind T,⟨hnk,w1⟩,?_,?_⟩
       · cases t; simp at he; subst he; simp [Ty.api,w2]
       · simp only [Ty.dep]; omega
     | x :: y :: r=>
      have hl:(((x :: y :: r).length:Int) != 1)=true:=by simp only [List.length_cons,bne_iff_ne]; omega
      exact ⟨1,by simp only [hl,if_true,aF],by simp only [hl,if_true],by simp⟩
   ·
    have hb:(decide (t.kind < 0) || decide (7 < t.kind))=true:=by simp; omega
    rw [abQ hk,hb]; exact ⟨1,by simp,by simp,by simp⟩
theorem adL :∀ (T:Ty) (k level:Nat),T.wf→T.dep + level≤17→18≤k + level→lQ k (level:Int) T.api=some 0
 | .leaf a,0,level,_,h,h'=>by simp only [Ty.dep] at h; omega
 | .leaf a,k + 1,level,hw,h,h'=>by
  simp only [Ty.dep] at h; have h16:decide ((16:Int) < (level:Int))=false:=decide_eq_false (by omega); obtain ⟨s,hs,hs2⟩:=Q5 (k:=a) ⟨hw.1,hw.2.1⟩; have hn:((a == 5) || (a == 6))=false:=by simp; exact ⟨hw.2.2.1,hw.2.2.2⟩
  simp [lQ,h16,Ty.api,hs,beq_eq_false_iff_ne.1 hs2,iM,hn]
 | .nest a T,0,level,_,h,h'=>by simp only [Ty.dep] at h; have:=T.VA; omega
 | .nest a T,k + 1,level,hw,h,h'=>by
  simp only [Ty.dep] at h; have hd:=T.VA; have h16:decide ((16:Int) < (level:Int))=false:=decide_eq_false (by omega); have hn:((a == 5) || (a == 6))=true:=by simpa using hw.1
  obtain ⟨s,hs,hs2⟩:=Q5 (k:=a) (by rcases hw.1 with h | h <;> omega); have hw64:cZ ((level:Int) + 1)=((level + 1:Nat):Int):=Lm (by omega); have:=adL T k (level + 1) hw.2 (by omega) (by omega); rw [←this,←hw64]; simp [lQ,h16,Ty.api,hs,beq_eq_false_iff_ne.1 hs2,iM,hn,idx]
def XZ (t:aJ):Int:=(pF t).getD 0
theorem YI (t:aJ):pF t=some (XZ t)∧NM t=some (XZ t)∧(XZ t=0→∃ T:Ty,T.wf∧t=T.api∧T.dep≤16):=by
 obtain ⟨c,c1,c2,c3⟩:=aaZ BIG 1 t (by have:=uw; omega) (by omega); have e1:pF t=some c:=c1; have e2:NM t=some c:=c2; have:XZ t=c:=by unfold XZ; rw [e1]; rfl
 rw [this]; exact ⟨e1,e2,fun h=>by obtain ⟨T,a,b,d⟩:=c3 h; exact ⟨T,a,b,by omega⟩⟩
theorem YH {T:Ty} (h:T.wf) (hd:T.dep≤16):XZ T.api=0:=by
 have:=adL T BIG 1 h (by omega) (by have:=uw; omega); have e1:pF T.api=some 0:=this; unfold XZ; rw [e1]; rfl
theorem Zh :∀ (T:Ty) (n:Nat),T.wf→T.dep≤n→nZ n T.api=some T.api
 | .leaf a,0,_,h=>by simp [Ty.dep] at h
 | .leaf a,n + 1,hw,h=>by
  have hn:((a == 5) || (a == 6))=false:=by simp; exact ⟨hw.2.2.1,hw.2.2.2⟩
  simp [nZ,vM,iM,Ty.api,hn,gU]
 | .nest a T,0,_,h=>by simp only [Ty.dep] at h; omega
 | .nest a T,n + 1,hw,h=>by
  simp only [Ty.dep] at h; have hn:((a == 5) || (a == 6))=true:=by simpa using hw.1
  have:=Zh T n hw.2 (by omega); simp [nZ,vM,iM,Ty.api,hn,oC,idx,this]
theorem BM {T:Ty} (h:T.wf) (hd:T.dep≤1000):CJ T.api=some T.api:=Zh T BIG h (by have:=uw; omega)
def xu :Ty→Ty→Ty
 | .leaf a,.leaf b=>if a=7 then .leaf b else if b=7 then .leaf a else if a=b then .leaf a else .leaf 0
 | .leaf a,.nest b y=>if a=7 then .nest b y else .leaf 0
 | .nest a x,.leaf b=>if b=7 then .nest a x else .leaf 0
 | .nest a x,.nest b y=>if a=b then .nest a (xu x y) else .leaf 0
theorem Ut :∀ (a b:Ty),(xu a b).dep≤max a.dep b.dep
 | .leaf a,.leaf b=>by
  rw [xu]; repeat' split
  all_goals simp only [Ty.dep]; omega
 | .leaf a,.nest b y=>by
  rw [xu]; split
  all_goals simp only [Ty.dep]; omega
 | .nest a x,.leaf b=>by
  rw [xu]; split
  all_goals simp only [Ty.dep]; omega
 | .nest a x,.nest b y=>by
  have:=Ut x y; rw [xu]; split
  all_goals simp only [Ty.dep]; omega
theorem WY :∀ (a b:Ty),a.wf→b.wf→(xu a b).wf
 | .leaf a,.leaf b,ha,hb=>by
  rw [xu]; repeat' split
  · exact hb
  · exact ha
  · exact ha
  · simp [Ty.wf]
 | .leaf a,.nest b y,ha,hb=>by
  rw [xu]; split
  · exact hb
  · simp [Ty.wf]
 | .nest a x,.leaf b,ha,hb=>by
  rw [xu]; split
  · exact ha
  · simp [Ty.wf]
 | .nest a x,.nest b y,ha,hb=>by
  have:=WY x y ha.2 hb.2; rw [xu]; split
  · exact ⟨ha.1,this⟩
  · simp [Ty.wf]
theorem abV :∀ (n:Nat) (a b:Ty),a.wf→b.wf→a.dep≤n→a.dep≤1000→b.dep≤1000→mH n a.api b.api=some (xu a b).api∧yL n a.api b.api=some (xu a b).api
 | 0,a,b,_,_,h,_,_=>by have:=a.VA; omega
 | n + 1,.leaf x,.leaf y,ha,hb,h,h1,h2=>by
  rw [mH,rJ,yL,DJ,xu,BM ha h1,BM hb h2]; have hn:((x == 5) || (x == 6))=false:=by simp; exact ⟨ha.2.2.1,ha.2.2.2⟩
  by_cases k1:x=7
  · simp [k1,Ty.api]
  ·
   by_cases k2:y=7
   · simp [k1,k2,Ty.api]
   ·
    by_cases k3:x=y
    · subst k3; simp [k1,Ty.api,iM,FH,hn,gU]
    · simp [k1,k2,k3,Ty.api,gU,sj]
 | n + 1,.leaf x,.nest y t,ha,hb,h,h1,h2=>by
  rw [mH,rJ,yL,DJ,xu,BM ha h1,BM hb h2]; have k2:¬ y=7:=by rcases hb.1 with h | h <;> omega
  have k3:¬ x=y:=by
   rintro rfl; rcases hb.1 with h | h
   · exact ha.2.2.1 h
   · exact ha.2.2.2 h
  by_cases k1:x=7
  · simp [k1,Ty.api]
  · simp [k1,k2,k3,Ty.api,gU,sj]
 | n + 1,.nest x s,.leaf y,ha,hb,h,h1,h2=>by
  rw [mH,rJ,yL,DJ,xu,BM ha h1,BM hb h2]; have k1:¬ x=7:=by rcases ha.1 with h | h <;> omega
  have k3:¬ x=y:=by
   rintro rfl; rcases ha.1 with h | h
   · exact hb.2.2.1 h
   · exact hb.2.2.2 h
  by_cases k2:y=7
  · simp [k1,k2,Ty.api]
  · simp [k1,k2,k3,Ty.api,gU,sj]
 | n + 1,.nest x s,.nest y t,ha,hb,h,h1,h2=>by
  rw [mH,rJ,yL,DJ,xu,BM ha h1,BM hb h2]; have k1:¬ x=7:=by rcases ha.1 with h | h <;> omega
  have k2:¬ y=7:=by rcases hb.1 with h | h <;> omega
  have hn:((x == 5) || (x == 6))=true:=by simp; exact ha.1
  simp only [Ty.dep] at h h1 h2; obtain ⟨i1,i2⟩:=abV n s t ha.2 hb.2 (by omega) (by omega) (by omega); by_cases k3:x=y
  · subst k3; simp [k1,Ty.api,iM,FH,hn,oC,zD,idx,i1,i2]
  · simp [k1,k2,k3,Ty.api,gU,sj]
theorem join_eq {a b:Ty} (ha:a.wf) (hb:b.wf) (h1:a.dep≤1000) (h2:b.dep≤1000):Ey a.api b.api=some (xu a b).api∧QL a.api b.api=some (xu a b).api:=
 abV BIG a b ha hb (by have:=uw; omega) h1 h2
end Go.Ft
namespace Go.Ft
open Go
attribute [local congr] yP
def ZT :aJ:=aJ.mk 0 []
def sc (k:Int):Ty:=.leaf k
def ahA (x:Option (aJ × Bool)):Option (aJ × Int):=
 fU x fun x6 ok1=>if !ok1 then some (ZT,9) else av (NM x6) fun x7=>if x7 != 0 then some (ZT,13) else some (x6,0)
def RES (x y:Option (aJ × Int)):Prop:=∃ (T:Ty) (c:Int),T.wf∧T.dep≤16∧(c≠0→T=sc 0)∧x=some (T.api,c)∧y=some (T.api,c)
theorem RES.mk {x:Option (aJ × Int)} {y:Option (aJ × Bool)} (T:Ty) (b:Bool) (hx:x=some (if b then (T.api,0) else (ZT,9))) (hy:y=some (T.api,b)) (hw:b=true→T.wf∧T.dep≤16):RES x (ahA y):=by
 subst hx hy; unfold ahA; cases b with
 | false=>exact ⟨sc 0,9,by simp [sc,Ty.wf],by simp [sc,Ty.dep],fun _=>rfl,rfl,rfl⟩
 | true=>
  obtain ⟨h1,h2⟩:=hw rfl; refine ⟨T,0,h1,h2,fun h=>absurd rfl h,rfl,?_⟩; simp only [iU,Bool.not_true,Bool.false_eq_true,if_false,(YI _).2.1,YH h1 h2]; rfl
end Go.Ft
namespace Go.Ft
open Go
attribute [local congr] yP
theorem any_ok {k:Int} (h:0≤k∧k≤7∧k≠5∧k≠6):(sc k).wf∧(sc k).dep≤16:=⟨h,by simp [sc,Ty.dep]⟩
end Go.Ft
namespace Go.Ft
open Go
attribute [local congr] yP
mutual
def Y2 :ah→Ty
 | ⟨k,_,_,_,l,_⟩=>if k=0 then sc 1 else if k=1 then sc 2 else if k=2 then sc 3 else if k=3 then sc 4 else .nest (if k=4 then 5 else 6) (Yd l (sc 7))
def Yd :List ah→Ty→Ty
 | [],t=>t
 | x :: r,t=>Yd r (xu t (Y2 x))
end
theorem afk (v:ah):Y2 v=if v.kind=0 then sc 1 else if v.kind=1 then sc 2 else if v.kind=2 then sc 3 else if v.kind=3 then sc 4 else .nest (if v.kind=4 then 5 else 6) (Yd v.aW (sc 7)):=by cases v; rw [Y2]
theorem Qr {v:ah} {level:Nat} (h:Cu v level=0):level≤16∧0≤v.kind∧v.kind≤5∧(v.kind=4∨v.kind=5→v.aW=[]→level≠16):=by
 unfold Cu at h; by_cases h0:16 < level
 · simp [h0] at h
 ·
  rw [if_neg h0] at h; cases h1:(decide (v.kind < 0) || decide (5 < v.kind) || !Lp v) with
  | true=>rw [h1] at h; simp at h
  | false=>
   rw [h1] at h; simp only [Bool.or_eq_false_iff,decide_eq_false_iff_not] at h1; refine ⟨by omega,by omega,by omega,fun hk hl h16=>?_⟩
   have e1:((((v.kind == 4) || (v.kind == 5)) && ((v.aW.length:Int) == 0)) && (level == 16))=true:=by
    rw [hl,h16]; rcases hk with hk | hk <;> simp [hk]
   rw [e1] at h; simp only [Bool.false_eq_true,if_false,if_true] at h; split at h
   · omega
   ·
    split at h
    · omega
    · split at h <;> omega
theorem T_ :∀ {l:List ah} {level:Nat},IC l level=0→∀ x∈l,mF x level=0
 | [],_,_,x,hx=>by cases hx
 | y :: r,level,h,x,hx=>by
  rw [IC] at h; by_cases hy:mF y level=0
  ·
   rw [if_neg (by simpa using hy)] at h; rcases List.mem_cons.1 hx with rfl | hx
   · exact hy
   · exact T_ h x hx
  · rw [if_pos (by simpa using hy)] at h; exact absurd h hy
theorem T9 {v:ah} {level:Nat} (h:mF v level=0):Cu v level=0∧∀ x∈v.aW,mF x (level + 1)=0:=by
 rw [U2] at h; by_cases hn:Cu v level=0
 ·
  rw [if_neg (by simpa using hn)] at h; exact ⟨hn,T_ h⟩
 · rw [if_pos (by simpa using hn)] at h; exact absurd h hn
theorem ofL {go:ah→Option aJ} {join:aJ→aJ→Option aJ} {K:aJ→Option aJ} {lv:Nat} (hlv:lv≤16) (hj:∀ a b:Ty,a.wf→b.wf→a.dep≤1000→b.dep≤1000→join a.api b.api=some (xu a b).api):
  ∀ (l:List ah) (t:Ty) (i:Nat),t.wf→t.dep + lv≤17→(∀ x∈l,go x=some (Y2 x).api∧(Y2 x).wf∧(Y2 x).dep + lv≤17)→
  mP (fun _ e1 (qE:aJ) r=>av (go e1) fun x7=>av (join qE x7) fun x8=>r x8) K i l t.api=K (Yd l t).api∧(Yd l t).wf∧(Yd l t).dep + lv≤17
 | [],t,i,h,hd,_=>⟨rfl,h,hd⟩
 | x :: r,t,i,h,hd,hl=>by
  obtain ⟨x1,x2,x3⟩:=hl x (by simp); have jd:=Ut t (Y2 x); rw [mP,x1,Yd]; simp only [aF,hj t (Y2 x) h x2 (by omega) (by omega)]; exact ofL hlv hj r (xu t (Y2 x)) (i + 1) (WY _ _ h x2) (by omega) fun y hy=>hl y (by simp [hy])
theorem ag5 :∀ (n:Nat) (v:ah) (level:Nat),v.bulk≤n→v.bulk < 4611686018427387904→mF v level=0→
  nS (n + 1) v=some (Y2 v).api∧IW (n + 1) v=some (Y2 v).api∧(Y2 v).wf∧(Y2 v).dep + level≤17
 | 0,v,_,h,_,_=>by have:=v.rE; omega
 | n + 1,v,level,h,hB,hc=>by
  obtain ⟨h0,hm⟩:=T9 hc; obtain ⟨z1,z2,z3,z4⟩:=Qr h0; have hl:=Aq v; rw [nS,Bf,IW,WB,afk]; by_cases k0:v.kind=0
  · simp only [k0]; exact ⟨rfl,rfl,(any_ok (by omega)).1,by simp [sc,Ty.dep]; omega⟩
  by_cases k1:v.kind=1
  · simp only [k1]; exact ⟨rfl,rfl,(any_ok (by omega)).1,by simp [sc,Ty.dep]; omega⟩
  by_cases k2:v.kind=2
  · simp only [k2]; exact ⟨rfl,rfl,(any_ok (by omega)).1,by simp [sc,Ty.dep]; omega⟩
  by_cases k3:v.kind=3
  · simp only [k3]; exact ⟨rfl,rfl,(any_ok (by omega)).1,by simp [sc,Ty.dep]; omega⟩
  have k45:v.kind=4∨v.kind=5:=by omega
  have hlv:level≤15:=by
   by_cases hnil:v.aW=[]
   · have:=z4 k45 hnil; omega
   ·
    obtain ⟨x,hx⟩:=List.exists_mem_of_ne_nil _ hnil; have:=(Qr (T9 (hm x hx)).1).1; omega
  have e0:(v.kind == 0)=false:=by simpa using k0
  have e1:(v.kind == 1)=false:=by simpa using k1
  have e2:(v.kind == 2)=false:=by simpa using k2
  have e3:(v.kind == 3)=false:=by simpa using k3
  simp only [e0,e1,e2,e3,Bool.false_eq_true,if_false,k0,k1,k2,k3,aF]; have w7:(sc 7).wf∧(sc 7).dep + (level + 1)≤17:=⟨(any_ok (by omega)).1,by simp [sc,Ty.dep]; omega⟩; have ih:=fun x (hx:x∈v.aW)=>ag5 n x (level + 1) (by have:=nG hx; omega) (by have:=nG hx; omega) (hm x hx)
  have s1:=lu (F:=fun k s i=>vL (nS (n + 1)) v k i s) (l:=v.aW) (body:=fun _ e1 (qE:aJ) r=>av (nS (n + 1) e1) fun x7=>av (Ey qE x7) fun x8=>r x8)
   (fin:=fun qE=>if v.kind == 4 then oC 5 qE else oC 6 qE) (by omega) (fun k s i=>rfl) (sc 7).api
  have s2:=lu (F:=fun k s i=>NK (IW (n + 1)) v k i s) (l:=v.aW) (body:=fun _ e1 (qE:aJ) r=>av (IW (n + 1) e1) fun x7=>av (QL qE x7) fun x8=>r x8)
   (fin:=fun t1=>if v.kind == 5 then zD 6 t1 else zD 5 t1) (by omega) (fun k s i=>rfl) (sc 7).api
  obtain ⟨a1,a2,a3⟩:=ofL (lv:=level + 1) (K:=fun qE=>if v.kind == 4 then oC 5 qE else oC 6 qE) (by omega) (fun a b x y z w=>(join_eq x y z w).1) v.aW (sc 7) 0 w7.1 w7.2 (fun x hx=>⟨(ih x hx).1,(ih x hx).2.2⟩); obtain ⟨b1,_,_⟩:=ofL (lv:=level + 1) (K:=fun t1=>if v.kind == 5 then zD 6 t1 else zD 5 t1) (by omega) (fun a b x y z w=>(join_eq x y z w).2) v.aW (sc 7) 0 w7.1 w7.2 (fun x hx=>⟨(ih x hx).2.1,(ih x hx).2.2⟩); have t7:gU 7=some (sc 7).api:=rfl; have p7:sj 7=some (sc 7).api:=rfl; rw [t7,p7]; simp only [aF]; rw [s1,a1,s2,b1]; refine ⟨?_,?_,⟨?_,a2⟩,by simp only [Ty.dep]; omega⟩
  · rcases k45 with k | k <;> simp [k,oC,Ty.api]
  · rcases k45 with k | k <;> simp [k,zD,Ty.api]
  ·
   split
   · exact .inl rfl
   · exact .inr rfl
end Go.Ft
namespace Go.Ft
open Go
attribute [local congr] yP
def ZV :ah:=ah.mk 0 false 0 ([]:Str) [] []
theorem L8 {go:ah→Option ah} {R:Type} {fin:ah→Option R}:∀ (l:List ah) (i:Nat) (out:ah),(∀ x∈l,go x=some x)→out.aW.length + l.length≤Ik→
  mP (fun _ x (out:ah) r=>av (go x) fun x3=>av (app out.aW [x3]) fun x4=>r (ah.mk out.kind out.eB out.gI out.fM x4 out.keys)) fin i l out
   =fin (ah.mk out.kind out.eB out.gI out.fM (out.aW ++ l) out.keys)
 | [],i,out,_,_=>by cases out; simp [mP]
 | x :: l,i,out,h,hl=>by
  simp only [List.length_cons] at hl; rw [mP,h x (by simp),aF,JV (by simp; omega),aF]; refine (L8 l (i + 1) _ (fun y hy=>h y (by simp [hy])) (by simp; omega)).trans ?_; simp
theorem V_ {S:ah→Prop} (hS:∀ v,S v→v.aW.length≤Ik∧v.keys.length≤Ik∧∀ x∈v.aW,S x):∀ (n:Nat) (v:ah),v.bulk≤n→v.bulk < 4611686018427387904→S v→mG (n + 1) v=some v∧nX (n + 1) v=some v
 | 0,v,h,_,_=>by have:=v.rE; omega
 | n + 1,v,h,hb,hs=>by
  obtain ⟨hl,hk,hm⟩:=hS v hs; have ih:∀ x∈v.aW,mG (n + 1) x=some x∧nX (n + 1) x=some x:=fun x hx=>V_ hS n x (by have:=nG hx; omega) (by have:=nG hx; omega) (hm x hx); have hL:Ik=4294967296:=rfl; constructor
  ·
   rw [mG,Bd,dW,JV (by simp; omega),aF]; rw [lu (F:=fun k s i=>vK (mG (n + 1)) v k i s) (l:=v.aW) (body:=fun _ x (out:ah) r=>av (mG (n + 1) x) fun x3=>av (app out.aW [x3]) fun x4=>r (ah.mk out.kind out.eB out.gI out.fM x4 out.keys)) (fin:=fun out=>some out) (by omega) (fun k s i=>rfl)]; rw [L8 v.aW 0 _ (fun x hx=>(ih x hx).1) (by simp; omega)]; cases v; simp
  ·
   rw [nX,C8]; rw [lu (F:=fun k s i=>xX (nX (n + 1)) v k i s) (l:=v.aW) (body:=fun _ x (out:ah) r=>av (nX (n + 1) x) fun x3=>av (app out.aW [x3]) fun x4=>r (ah.mk out.kind out.eB out.gI out.fM x4 out.keys)) (fin:=fun out=>av (app out.keys v.keys) fun x4=>some (ah.mk out.kind out.eB out.gI out.fM out.aW x4)) (by omega) (fun k s i=>rfl)]; rw [L8 v.aW 0 _ (fun x hx=>(ih x hx).2) (by simp; omega),JV (by simp; omega)]; cases v; simp
theorem aaK {S:ah→Prop} (hS:∀ v,S v→v.aW.length≤Ik∧v.keys.length≤Ik∧∀ x∈v.aW,S x) {v:ah} (h:S v) (hb:v.bulk < 4611686018427387904):yV v=some v∧AU v=some v:=by
 obtain ⟨n,hn,hn2⟩:=Aj; unfold yV AU; rw [hn]; exact V_ hS n v (by omega) hb h
theorem Zx {v:ah} (h:v.bulk≤Ik):yV v=some v∧AU v=some v:=
 aaK (S:=fun v=>v.bulk≤Ik) (fun v h=>⟨by have:=Aq v; omega,by have:=Dg v; omega,fun x hx=>by have:=nG hx; omega⟩) h (by have hL:Ik=4294967296:=rfl; omega)
end Go.Ft
namespace Go.Ft
open Go
attribute [local congr] yP
def yO {α:Type} (f:α→α→Int):List α→List α→Int
 | [],[]=>0
 | [],_ :: _=>-1
 | _ :: _,[]=>1
 | x :: xs,y :: ys=>if f x y != 0 then f x y else yO f xs ys
theorem GQ {α:Type} {l t:List α} {d:α} {i:Nat} (h:d :: t=l.drop i):∃ hi:i < l.length,d=l[i]∧t=l.drop (i + 1):=by
 have hi:i < l.length:=by
  rcases Nat.lt_or_ge i l.length with h' | h'
  · exact h'
  · rw [List.drop_eq_nil_of_le h'] at h; cases h
 have hc:=List.drop_eq_getElem_cons hi; rw [←h] at hc; exact ⟨hi,(List.cons.inj hc).1,(List.cons.inj hc).2⟩
theorem EL {α:Type} {l:List α} {i:Nat} (h:[]=l.drop i):l.length≤i:=by
 rcases Nat.lt_or_ge i l.length with h' | h'
 · rw [List.drop_eq_getElem_cons h'] at h; cases h
 · exact h'
theorem Og {α:Type} {a b:List α} {cmp:α→α→Option Int} {f:α→α→Int} (hc:∀ x∈a,∀ y∈b,cmp x y=some (f x y)):∀ (s t:List α) (i:Nat),s=a.drop i→t=b.drop i→i≤a.length→i≤b.length→
  mP (fun (i:Nat) e1 (_:Unit) r=>if decide ((b.length:Int)≤(i:Int)) then some 1 else av (idx b (i:Int)) fun e2=>av (cmp e1 e2) fun c1=>if c1 != 0 then some c1 else r ())
   (fun _=>if decide ((a.length:Int) < (b.length:Int)) then some (-1) else some 0) i s ()=some (yO f s t)
 | [],[],i,hs,ht,_,_=>by
  have h1:=EL hs; have h2:=EL ht; rw [mP,yO,if_neg (by simp; omega)]
 | [],y :: t,i,hs,ht,_,_=>by
  have h1:=EL hs; obtain ⟨h2,_,_⟩:=GQ ht; rw [mP,yO,if_pos (by simp; omega)]
 | x :: s,[],i,hs,ht,_,_=>by
  have h2:=EL ht; rw [mP,yO,if_pos (by simp; omega)]
 | x :: s,y :: t,i,hs,ht,_,_=>by
  obtain ⟨h1,e1,e2⟩:=GQ hs; obtain ⟨h2,e3,e4⟩:=GQ ht; rw [mP,yO,if_neg (by simp; omega),KC h2,aF,←e3,hc x (by rw [e1]; exact List.getElem_mem h1) y (by rw [e3]; exact List.getElem_mem h2),aF]; split
  · rfl
  · exact Og hc s t (i + 1) e2 e4 (by omega) (by omega)
theorem sign_eq (b:Bool):qg b=some (if b then -1 else 1):=by unfold qg; cases b <;> rfl
theorem RL {α:Type} {a b:List α} {cmp:α→α→Option Int} {f:α→α→Int} {g:Int→Option Int} (hg:∀ x∈a,∀ y∈b,g (f x y)=some (f x y)) (hc:∀ x∈a,∀ y∈b,cmp x y=some (f x y)) (ha:a.length < 4611686018427387904) {F:Nat→Int→Option Int}
  (hF:∀ k (i:Nat),F (k + 1) (i:Int)=if (decide ((i:Int) < (a.length:Int))) && (decide ((i:Int) < (b.length:Int))) then av (idx a (i:Int)) fun e1=>av (idx b (i:Int)) fun e2=>av (cmp e1 e2) fun c1=>if c1 != 0 then g c1 else F k (cZ ((i:Int) + 1))
   else if (a.length:Int) == (b.length:Int) then some 0 else qg (decide ((a.length:Int) < (b.length:Int)))):
  ∀ (s t:List α) (k i:Nat),s=a.drop i→t=b.drop i→i≤a.length→i≤b.length→a.length < k + i→F k (i:Int)=some (yO f s t)
 | _,_,0,i,_,_,_,_,h=>by omega
 | [],[],k + 1,i,hs,ht,_,_,_=>by
  have h1:=EL hs; have h2:=EL ht; rw [hF,yO,if_neg (by simp; omega),if_pos (by simp; omega)]
 | [],y :: t,k + 1,i,hs,ht,_,_,_=>by
  have h1:=EL hs; obtain ⟨h2,_,_⟩:=GQ ht; rw [hF,yO,if_neg (by simp; omega),if_neg (by simp; omega),sign_eq,if_pos (by simp; omega)]
 | x :: s,[],k + 1,i,hs,ht,_,_,_=>by
  have h2:=EL ht; obtain ⟨h1,_,_⟩:=GQ hs; rw [hF,yO,if_neg (by simp; omega),if_neg (by simp; omega),sign_eq,if_neg (by simp; omega)]
 | x :: s,y :: t,k + 1,i,hs,ht,_,_,hk=>by
  obtain ⟨h1,e1,e2⟩:=GQ hs; obtain ⟨h2,e3,e4⟩:=GQ ht; have hx:x∈a:=by rw [e1]; exact List.getElem_mem h1
  have hy:y∈b:=by rw [e3]; exact List.getElem_mem h2
  rw [hF,yO,if_pos (by simp; omega),KC h1,aF,KC h2,aF,←e1,←e3,hc x hx y hy,aF]; split
  · exact hg x hx y hy
  ·
   rw [Lm (by omega)]; exact RL hg hc ha hF s t k (i + 1) e2 e4 (by omega) (by omega) (by omega)
mutual
def F8 :ah→ah→Int
 | ⟨k,b,n,s,l,ks⟩,y=>
  if uX k y.kind != 0 then uX k y.kind else if k == 1 then yM (!b && y.eB) (b && !y.eB) else if k == 2 then uX n y.gI else if k == 3 then KF s y.fM else if k == 4 then OE l y.aW
  else if k == 5 then (if yO jo ks y.keys != 0 then yO jo ks y.keys else OE l y.aW) else 0
def OE :List ah→List ah→Int
 | [],[]=>0
 | [],_ :: _=>-1
 | _ :: _,[]=>1
 | x :: xs,y :: ys=>if F8 x y != 0 then F8 x y else OE xs ys
end
theorem TY :∀ l m:List ah,OE l m=yO F8 l m
 | [],[]=>by rw [OE,yO]
 | [],_ :: _=>by rw [OE,yO]
 | _ :: _,[]=>by rw [OE,yO]
 | x :: xs,y :: ys=>by rw [OE,yO,TY xs ys]
theorem U1 (x y:ah):F8 x y=if uX x.kind y.kind != 0 then uX x.kind y.kind else if x.kind == 1 then yM (!x.eB && y.eB) (x.eB && !y.eB) else if x.kind == 2 then uX x.gI y.gI else if x.kind == 3 then KF x.fM y.fM else if x.kind == 4 then yO F8 x.aW y.aW
  else if x.kind == 5 then (if yO jo x.keys y.keys != 0 then yO jo x.keys y.keys else yO F8 x.aW y.aW) else 0:=by
 cases x; rw [F8,TY]
theorem Xo (x y:Int):(if x != y then qg (decide (x < y)) else some 0)=some (uX x y):=by
 unfold uX yM; rw [sign_eq]; by_cases h:x=y
 · subst h; simp
 ·
  by_cases h2:x < y
  · simp [h,h2]
  ·
   have:y < x:=by omega
   simp [h,h2,this]
theorem WO (x y:Str):(if (jo x y != 0)=true then qg (decide (jo x y < 0)) else some 0)=some (jo x y):=by
 rw [sign_eq]; rcases (show jo x y=-1∨jo x y=0∨jo x y=1 from Rk _ _) with h | h | h <;> simp [h]
theorem XU :∀ (n:Nat) (a b:ah),a.bulk≤n→a.bulk < 4611686018427387904→b.bulk < 4611686018427387904→jR (n + 1) a b=some (F8 a b)∧∀ m,2 * n + 2≤m→pR m a b=some (F8 a b)
 | 0,a,_,h,_,_=>by have:=a.rE; omega
 | n + 1,a,b,h,hA,hB=>by
  have hla:=Aq a; have hka:=Dg a; have hlb:=Aq b; have hkb:=Dg b
  have ih:∀ x∈a.aW,∀ y∈b.aW,jR (n + 1) x y=some (F8 x y)∧∀ m,2 * n + 2≤m→pR m x y=some (F8 x y):=
   fun x hx y hy=>XU n x y (by have:=nG hx; omega) (by have:=nG hx; omega) (by have:=nG hy; omega)
  have ks:∀ x∈a.keys,x.length < 4611686018427387904:=fun x hx=>by have:=J8 hx; omega
  have ks':∀ x∈b.keys,x.length < 4611686018427387904:=fun x hx=>by have:=J8 hx; omega
  constructor
  ·
   rw [jR,yj,U1,um,aF]
   have hL:b_ a.aW b.aW (jR (n + 1))=some (yO F8 a.aW b.aW):=by
    unfold b_
    rw [lu (F:=fun k (_:Unit) i=>dw a.aW b.aW (jR (n + 1)) k i) (l:=a.aW)
     (body:=fun (i:Nat) e1 (_:Unit) r=>if decide ((b.aW.length:Int)≤(i:Int)) then some 1 else av (idx b.aW (i:Int)) fun e2=>av (jR (n + 1) e1 e2) fun c1=>if c1 != 0 then some c1 else r ())
     (fin:=fun _=>if decide ((a.aW.length:Int) < (b.aW.length:Int)) then some (-1) else some 0) (by omega) (fun k s i=>rfl) ()]
    exact Og (fun x hx y hy=>(ih x hx y hy).1) _ _ 0 rfl rfl (by omega) (by omega)
   have hK:eP a.keys b.keys jY=some (yO jo a.keys b.keys):=by
    unfold eP
    rw [lu (F:=fun k (_:Unit) i=>dZ a.keys b.keys jY k i) (l:=a.keys)
     (body:=fun (i:Nat) e1 (_:Unit) r=>if decide ((b.keys.length:Int)≤(i:Int)) then some 1 else av (idx b.keys (i:Int)) fun e2=>av (jY e1 e2) fun c1=>if c1 != 0 then some c1 else r ())
     (fin:=fun _=>if decide ((a.keys.length:Int) < (b.keys.length:Int)) then some (-1) else some 0) (by omega) (fun k s i=>rfl) ()]
    exact Og (fun x hx y hy=>NT (ks x hx) (ks' y hy)) _ _ 0 rfl rfl (by omega) (by omega)
   rw [hL,hK,um,RI,aF]
   have hb:(av (vJ a.eB) fun x1=>av (vJ b.eB) fun x2=>cmp_Compare_int x1 x2)=some (yM (!a.eB && b.eB) (a.eB && !b.eB)):=by
    unfold vJ; cases a.eB <;> cases b.eB <;> simp [um,uX]
   rw [hb]
   repeat' split
   all_goals rfl
  ·
   intro m hm; obtain ⟨m,rfl⟩:∃ q,m=q + 2:=⟨m - 2,by omega⟩; rw [pR,KU,U1,IX,OT]
   have hL:CP (pR m) a.aW b.aW BIG 0=some (yO F8 a.aW b.aW):=
    RL (g:=some) (fun x hx y hy=>rfl) (fun x hx y hy=>(ih x hx y hy).2 m (by omega)) (by omega) (F:=CP (pR m) a.aW b.aW) (fun k i=>rfl) _ _ BIG 0 rfl rfl (by omega) (by omega) (by have:=uw; omega)
   have hK:NN a.keys b.keys=some (yO jo a.keys b.keys):=by
    unfold NN; refine RL (g:=fun c=>if c != 0 then qg (decide (c < 0)) else some 0) (fun x hx y hy=>WO x y) (fun x hx y hy=>Yf (ks x hx) (ks' y hy)) (by omega) (F:=CO a.keys b.keys) (fun k i=>?_) _ _ BIG 0 rfl rfl (by omega) (by omega) (by have:=uw; omega); rw [CO]; congr 1; congr 1; funext e1; congr 1; funext e2; congr 1; funext c; by_cases hc:(c != 0)=true
    · rw [if_pos hc,if_pos hc,if_pos hc]
    · rw [if_neg hc,if_neg hc]
   rw [hL,hK,aF]; by_cases hk:a.kind=b.kind
   ·
    have e1:(a.kind != b.kind)=false:=by simpa using hk
    have e2:(uX a.kind b.kind != 0)=false:=by simpa using Dp.2 hk
    rw [e1,e2]; simp only [Bool.false_eq_true,if_false,Xo]
    have hb:(if (!(a.eB == b.eB))=true then qg b.eB else some 0)=some (yM (!a.eB && b.eB) (a.eB && !b.eB)):=by
     rw [sign_eq]; cases a.eB <;> cases b.eB <;> rfl
    have hs:(if (!(a.fM == b.fM))=true then qg (Go.Op.bytesLess a.fM b.fM) else some 0)=some (KF a.fM b.fM):=by
     rw [sign_eq]; unfold KF yM; by_cases h:a.fM=b.fM
     · rw [h]; simp [A_]
     · cases h1:Go.Op.bytesLess a.fM b.fM <;> simp [h]
    rw [hb,hs]
    repeat' split
    all_goals rfl
   ·
    have e1:(a.kind != b.kind)=true:=by simpa using hk
    have e2:(uX a.kind b.kind != 0)=true:=by simpa using fun h=>hk (Dp.1 h)
    have:=Xo a.kind b.kind; rw [if_pos e1] at this; rw [if_pos e1,if_pos e2,this]
theorem Sz {a b:ah} (hA:a.bulk < 4611686018427387904) (hB:b.bulk < 4611686018427387904):xK a b=some (F8 a b)∧I4 a b=some (F8 a b):=by
 obtain ⟨n,hn,hn2⟩:=Aj; unfold xK I4; constructor
 · rw [hn]; exact (XU n a b (by omega) hA hB).1
 · exact (XU a.bulk a b (Nat.le_refl _) hA hB).2 BIG (by have:=uw; omega)
theorem acA {a b:ah} (hA:a.bulk < 4611686018427387904) (hB:b.bulk < 4611686018427387904):pQ a b=some (F8 a b == 0)∧Um a b=some (F8 a b == 0):=by
 unfold pQ Um; rw [(Sz hA hB).1,(Sz hA hB).2]; exact ⟨rfl,rfl⟩
end Go.Ft
namespace Go.Ft
open Go
attribute [local congr] yP
mutual
def lev :ah→Nat
 | ⟨k,_,_,_,l,_⟩=>if (k == 4) || (k == 5) then ag9 l 2 else 1
def ag9 :List ah→Nat→Nat
 | [],n=>n
 | x :: r,n=>ag9 r (max n (1 + lev x))
end
mutual
def vok :ah→Bool
 | ⟨a,b,c,d,l,f⟩=>(Cu ⟨a,b,c,d,l,f⟩ 1 == 0) && agj l
def agj :List ah→Bool
 | []=>true
 | x :: r=>vok x && agj r
end
def VV (v:ah):Prop:=vok v=true∧lev v≤16
end Go.Ft
namespace Go.Ft
open Go
attribute [local congr] yP
def toX {α:Type} (p:α × Int):fB aI α:=if p.2=0 then .ok p.1 else .bad ⟨p.2⟩
def okV (v:ah):ah × Int:=(v,0)
@[simp] theorem ahZ (v:ah):toX (okV v)=.ok v:=rfl
def GV (p:ah × Int) (N:Nat):Prop:=(p.2=0→VV p.1∧p.1.bulk≤N)∧(p.2≠0→p.1=ZV)
theorem GV.ok {v:ah} {N:Nat} (h:VV v) (hb:v.bulk≤N):GV (okV v) N:=⟨fun _=>⟨h,hb⟩,fun h=>absurd rfl h⟩
end Go.Ft
namespace Go.Ft
open Go
attribute [local congr] yP
theorem NV {α:Type} {c:α→α→Int}:∀ l:List α,(∀ x∈l,c x x=0)→yO c l l=0
 | [],_=>by rw [yO]
 | x :: r,h=>by rw [yO,h x (by simp),NV r fun y hy=>h y (by simp [hy])]; simp
theorem TW :∀ (n:Nat) (v:ah),v.bulk≤n→F8 v v=0
 | 0,v,h=>by have:=v.rE; omega
 | n + 1,v,h=>by
  have h1:yO F8 v.aW v.aW=0:=NV _ fun x hx=>TW n x (by have:=nG hx; omega); have h2:yO jo v.keys v.keys=0:=NV _ fun x _=>OW x; have h3:∀ x:Int,uX x x=0:=fun x=>Dp.2 rfl; rw [U1,h1,h2,h3,h3,UE]; have h4:yM (!v.eB && v.eB) (v.eB && !v.eB)=0:=by cases v.eB <;> rfl
  rw [h4]; simp
end Go.Ft
namespace Go.Ft
open Go
attribute [local congr] yP
abbrev PZ :ah:=ah.mk 0 false 0 ([]:Str) [] []
theorem RG {go:ah→Option ah} {l:List ah} (hl:l.length < 4611686018427387904) (hg:∀ x∈l,go x=some x):∀ kk i:Nat,l.length < kk + i→i≤l.length→lg go (l.length:Int) kk l (i:Int)=some l
 | 0,i,h,h'=>by omega
 | kk + 1,i,h,h'=>by
  rw [lg]; by_cases hi:i < l.length
  ·
   rw [if_pos (by simpa using hi),KC hi,aF,hg _ (List.getElem_mem hi),aF,Lm (by omega),Int.toNat_natCast,List.set_getElem_self]; exact RG hl hg kk (i + 1) (by omega) (by omega)
  · rw [if_neg (by simp; omega)]
theorem Zf :∀ (n:Nat) (v:ah),v.bulk≤n→v.bulk≤Ik→l8 (n + 1) v=some v
 | 0,v,h,_=>by have:=v.rE; omega
 | n + 1,v,h,hb=>by
  have hL:Ik=4294967296:=rfl; have hl:=Aq v; have hk:=Dg v; rw [l8,qO]; unfold dW eT
  rw [JV (by simp; omega),aF,JV (by simp; omega),aF,List.nil_append,List.nil_append,show (0:Int)=((0:Nat):Int) from rfl,
   RG (by omega) (fun x hx=>Zf n x (by have:=nG hx; omega) (by have:=nG hx; omega)) BIG 0 (by have:=uw; omega) (by omega)]
  cases v; rfl
theorem copyV {v:ah} (h:v.bulk≤Ik):jM v=some v:=by
 have hL:Ik=4294967296:=rfl; obtain ⟨n,hn,hn2⟩:=Aj; unfold jM; rw [hn]; exact Zf n v (by omega) h
theorem Zm :AA=some true:=by kernel_rfl
end Go.Ft
namespace Go.Ft
open Go
attribute [local congr] yP
def lit (v:ah):aj:=aj.mk 1 ([]:Str) v [] []
theorem abS (v:ah) {level:Nat} (hl:level≤16):Ew (lit v) level=mF v 1:=by
 unfold Ew; have e2:C9 (lit v)=true:=by simp [C9,Fb,lit,Jp,D5,L6]
 rw [e2,if_neg (by omega)]; by_cases hc:mF v 1=0
 · simp [lit,hc,PE]
 · simp [lit,hc]
theorem Y4 (v:ah) {level:Nat} (hl:level≤16):SE (lit v) level=mF v 1:=by
 rw [P5,abS v hl]; by_cases hc:mF v 1=0
 · simp [hc,lit,OB]
 · simp [hc]
theorem WU (v:ah):(lit v).bulk=v.bulk + 5:=by simp [lit,aj.bulk,aj.pz]; omega
def TU :Nat:=18446744073709551615
theorem tN :BIG=TU + 1:=rfl
abbrev sN :Str:=[110]
abbrev sM :Str:=[109]
abbrev El (s:Str):aj:=aj.mk 2 s PZ [] []
abbrev tyB :au:=au.mk [112,97,114,97,109] sN [aK.mk [116,121,112,101] (aj.mk 1 [] (ah.mk 3 false 0 [97,110,121] [] []) [] [])] []
abbrev uW (a:aj):aj:=aj.mk 9 [] PZ [a,El sM] []
abbrev Dy (a:aj):au:=au.mk [115,116,101,112] [] [aK.mk [121] (uW a)] []
abbrev Sv (a:aj):au:=au.mk [] [] [aK.mk [120] a] [Dy a]
abbrev aaP (x:Str):au:=au.mk [117,115,101] [116] [aK.mk sN (El x)] []
abbrev Td (x:Str):au:=au.mk [106,111,98] [] [] [aaP x]
abbrev Za (x:Str):cO:=cO.mk [Td x,au.mk [116,101,109,112,108,97,116,101] [116] [aK.mk [120] (El sN)] [tyB,Dy (El sN)]]
abbrev Lu :bI:=bI.mk [116] [bN.mk sN (aJ.mk 0 []) false PZ] (Sv (El sN))
abbrev Gs (v:ah):au:=au.mk [106,111,98] [] [aK.mk [120] (lit v)] [Dy (lit v)]
theorem acd :r9 (Za sN)=some ([Lu],cO.mk [Td sN],0):=by kernel_rfl
theorem ace :r9 (Za sM)=some ([Lu],cO.mk [Td sM],0):=by kernel_rfl
theorem aeh {v:ah} (hb:v.bulk≤1048576) (hc:mF v 1=0):l5 v=some 0:=by rw [TV (by omega),hc]
theorem ab4 {v:ah} (hb:v.bulk≤1048576) (hc:mF v 1=0):yX v (aJ.mk 0 [])=some true:=by
 obtain ⟨n,hn,hn2⟩:=Aj; obtain ⟨a1,a2,a3,a4⟩:=ag5 n v 1 (by omega) (by omega) hc; unfold yX II Gc Ez EY; rw [aeh hb hc,aF,if_pos (by first | decide | rfl | simp),hn,a1,aF,(YI (Y2 v).api).1,YH a3 (by omega),aF,if_pos (by first | decide | rfl | simp),show pF (aJ.mk 0 [])=some 0 from by kernel_rfl,aF,aF,if_pos (by first | decide | rfl | simp),qJ,yu,if_pos (by simp)]
theorem cpV {v:ah} (hb:v.bulk≤1048576) (hc:mF v 1=0):jM v=some v:=copyV (by have:Ik=4294967296:=rfl; omega)
theorem clV {v:ah} (hb:v.bulk≤1048576) (hc:mF v 1=0):AU v=some v:=(Zx (by have:Ik=4294967296:=rfl; omega)).2
theorem ab8 {v:ah} (hb:v.bulk≤1048576) (hc:mF v 1=0) {x:Str} (hx:x=sN∨x=sM):BK [aA.mk x v]=some 0:=by
 unfold BK; rw [if_neg (by simp),tN,BJ,if_pos (by simp),show idx [aA.mk x v] 0=some (aA.mk x v) from rfl,aF]; rcases hx with rfl | rfl
 ·
  rw [show jq (aj.mk 2 (aA.mk sN v).name (ah.mk 0 false 0 ([]:Str) [] []) [] [])=some 0 from by kernel_rfl,aF,if_neg (by first | decide | (intro h; cases h) | simp),aeh hb hc,aF,if_neg (by first | decide | (intro h; cases h) | simp),if_neg (by first | decide | (intro h; cases h) | simp)]
  kernel_rfl
 ·
  rw [show jq (aj.mk 2 (aA.mk sM v).name (ah.mk 0 false 0 ([]:Str) [] []) [] [])=some 0 from by kernel_rfl,aF,if_neg (by first | decide | (intro h; cases h) | simp),aeh hb hc,aF,if_neg (by first | decide | (intro h; cases h) | simp),if_neg (by first | decide | (intro h; cases h) | simp)]
  kernel_rfl
theorem ahB {v:ah} (hb:v.bulk≤1048576) (hc:mF v 1=0) {x:Str} (hx:x=sN∨x=sM):AV (El x) [aA.mk x v]=some (v,0):=by
 unfold AV EJ; rw [ab8 hb hc hx,aF,if_neg (by first | decide | (intro h; cases h) | simp)]
 rcases hx with rfl | rfl
 · rw [show jq (El sN)=some 0 from by kernel_rfl,aF,if_neg (by first | decide | (intro h; cases h) | simp),iU,if_neg (by first | decide | (intro h; cases h) | simp),show wu [aA.mk sN v] (El sN)=some (v,0) from by kernel_rfl,iU,clV hb hc,aF]
 · rw [show jq (El sM)=some 0 from by kernel_rfl,aF,if_neg (by first | decide | (intro h; cases h) | simp),iU,if_neg (by first | decide | (intro h; cases h) | simp),show wu [aA.mk sM v] (El sM)=some (v,0) from by kernel_rfl,iU,clV hb hc,aF]
theorem ahJ {v:ah} (hb:v.bulk≤1048576) (hc:mF v 1=0):uQ Lu.params [aA.mk sN v]=some ([aA.mk sN v],0):=by
 unfold uQ
 rw [tN,pW,if_pos (by simp),show idx [aA.mk sN v] 0=some (aA.mk sN v) from rfl,aF,show gL Lu.params (fun z0=>uE z0 (aA.mk sN v))=some 0 from by kernel_rfl,aF,
  show sl [aA.mk sN v] 0 0=some [] from rfl,aF,show nT [] (aA.mk sN v).name=some (PZ,false) from by kernel_rfl,iU,if_neg (by first | decide | (intro h; cases h) | simp),if_neg (by first | decide | (intro h; cases h) | simp),show idx Lu.params 0=some (bN.mk sN (aJ.mk 0 []) false PZ) from rfl,aF,ab4 hb hc,aF,if_neg (by first | decide | (intro h; cases h) | simp),show TU=18446744073709551614 + 1 from rfl,pW,if_neg (by simp [Zw]),
  tN,nH,if_pos (by simp),show idx Lu.params 0=some (bN.mk sN (aJ.mk 0 []) false PZ) from rfl,aF,show nT [aA.mk sN v] sN=some (v,true) from by kernel_rfl,iU,if_neg (by first | decide | (intro h; cases h) | simp),if_neg (by first | decide | (intro h; cases h) | simp),r_,cpV hb hc,aF]
 kernel_rfl
theorem aic {v:ah} (hb:v.bulk≤1048576) (hc:mF v 1=0) (k:Nat):iN (k + 1) (El sN) [aA.mk sN v]=some (lit v,true,0):=by
 rw [iN,rP,show nT [aA.mk sN v] (El sN).name=some (v,true) from by kernel_rfl,iU,if_pos (by first | decide | rfl | simp),cpV hb hc]
 rfl
theorem rwN {v:ah} (hb:v.bulk≤1048576) (hc:mF v 1=0) (k j:Nat):ji (k + 1) (El sN) (fun z0=>iN (j + 1) z0 [aA.mk sN v])=some (lit v,0):=by
 rw [ji,lX,aic hb hc,rO,if_pos (by first | decide | rfl | simp)]
theorem ah_ {v:ah} (hb:v.bulk≤1048576) (hc:mF v 1=0):oN (El sN) [aA.mk sN v]=some (lit v,0):=by
 unfold oN l6; rw [tN]; exact rwN hb hc _ _
theorem aia {v:ah} (hb:v.bulk≤1048576) (hc:mF v 1=0):oN (uW (El sN)) [aA.mk sN v]=some (uW (lit v),0):=by
 unfold oN l6
 rw [tN,ji,lX,show iN (TU + 1) (uW (El sN)) [aA.mk sN v]=some (aj.mk 0 [] PZ [] [],false,0) from by kernel_rfl,rO,if_neg (by first | decide | (intro h; cases h) | simp),show jM (uW (El sN)).value=some PZ from by kernel_rfl,aF,show dW (uW (El sN)).keys=some [] from by kernel_rfl,aF,
  show eF (uW (El sN)).args=some [El sN,El sM] from by kernel_rfl,aF,tN,mZ,if_pos (by first | decide | rfl | simp),show idx [El sN,El sM] 0=some (El sN) from rfl,aF,show TU=18446744073709551614 + 1 from rfl,rwN hb hc,iU,if_neg (by first | decide | (intro h; cases h) | simp)]
 kernel_rfl
theorem aiD {v:ah} (hb:v.bulk≤1048576) (hc:mF v 1=0):xU [] [aA.mk sN v]=some ([],0):=by
 unfold xU; rw [show t_ []=some ([],0,0) from by kernel_rfl,rO,if_neg (by first | decide | (intro h; cases h) | simp),ab8 hb hc (.inl rfl),aF,if_neg (by first | decide | (intro h; cases h) | simp)]
 kernel_rfl
theorem ah9 {v:ah} (hb:v.bulk≤1048576) (hc:mF v 1=0) (k:Nat):iY (k + 1) (Dy (El sN)) [aA.mk sN v]=some (Dy (lit v),0):=by
 rw [iY,mM,tN,jA,if_pos (by first | decide | rfl | simp),show idx (Dy (El sN)).attrs 0=some (aK.mk [121] (uW (El sN))) from rfl,aF,aia hb hc,iU,if_neg (by first | decide | (intro h; cases h) | simp)]
 kernel_rfl
theorem aib {v:ah} (hb:v.bulk≤1048576) (hc:mF v 1=0):qN (Sv (El sN)) [aA.mk sN v]=some (Sv (lit v),0):=by
 unfold qN
 rw [tN,iY,mM,tN,jA,if_pos (by first | decide | rfl | simp),show idx (Sv (El sN)).attrs 0=some (aK.mk [120] (El sN)) from rfl,aF,ah_ hb hc,iU,if_neg (by first | decide | (intro h; cases h) | simp),JV (by simp [Ik]),aF,show TU=18446744073709551614 + 1 from rfl,jA,if_neg (by first | decide | (intro h; cases h) | simp),
  tN,l7,if_pos (by first | decide | rfl | simp),show idx (Sv (El sN)).blocks 0=some (Dy (El sN)) from rfl,aF,show (Dy (El sN)).name=[] from rfl,aiD hb hc,iU,if_neg (by first | decide | (intro h; cases h) | simp),show TU=18446744073709551614 + 1 from rfl]
 rw [show au.mk (Dy (El sN)).kind [] (Dy (El sN)).attrs (Dy (El sN)).blocks=Dy (El sN) from rfl,ah9 hb hc,iU,if_neg (by first | decide | (intro h; cases h) | simp)]
 kernel_rfl
theorem cpE {v:ah} (hb:v.bulk≤1048576) (hc:mF v 1=0) (k:Nat):ji (k + 1) (lit v) kU=some (lit v,0):=by
 rw [ji,lX,show kU (lit v)=some (aj.mk 0 [] PZ [] [],false,0) from rfl,rO,if_neg (by first | decide | (intro h; cases h) | simp),show (lit v).value=v from rfl,cpV hb hc,aF]
 kernel_rfl
theorem cpL {v:ah} (hb:v.bulk≤1048576) (hc:mF v 1=0):mO (uW (lit v))=some (uW (lit v)):=by
 unfold mO l6
 rw [tN,ji,lX,show kU (uW (lit v))=some (aj.mk 0 [] PZ [] [],false,0) from rfl,rO,if_neg (by first | decide | (intro h; cases h) | simp),show jM (uW (lit v)).value=some PZ from by kernel_rfl,aF,show dW (uW (lit v)).keys=some [] from by kernel_rfl,aF,
  show eF (uW (lit v)).args=some [lit v,El sM] from by kernel_rfl,aF,tN,mZ,if_pos (by simp),show idx [lit v,El sM] 0=some (lit v) from rfl,aF,show TU=18446744073709551614 + 1 from rfl,cpE hb hc,iU,if_neg (by first | decide | (intro h; cases h) | simp)]
 kernel_rfl
theorem cpX {v:ah} (hb:v.bulk≤1048576) (hc:mF v 1=0):mO (lit v)=some (lit v):=by
 unfold mO l6; rw [tN,cpE hb hc,iU]
theorem aiJ {v:ah} (hb:v.bulk≤1048576) (hc:mF v 1=0):iF [aK.mk [120] (lit v)]=some [aK.mk [120] (lit v)]:=by
 unfold iF; rw [show dF [aK.mk [120] (lit v)]=some [aK.mk [120] (lit v)] from by kernel_rfl,aF,tN,lq,if_pos (by simp),show idx [aK.mk [120] (lit v)] 0=some (aK.mk [120] (lit v)) from rfl,aF,cpX hb hc,aF]; kernel_rfl
theorem aiI {v:ah} (hb:v.bulk≤1048576) (hc:mF v 1=0):iF [aK.mk [121] (uW (lit v))]=some [aK.mk [121] (uW (lit v))]:=by
 unfold iF; rw [show dF [aK.mk [121] (uW (lit v))]=some [aK.mk [121] (uW (lit v))] from by kernel_rfl,aF,tN,lq,if_pos (by simp),show idx [aK.mk [121] (uW (lit v))] 0=some (aK.mk [121] (uW (lit v))) from rfl,aF,cpL hb hc,aF]; kernel_rfl
theorem aiM {v:ah} (hb:v.bulk≤1048576) (hc:mF v 1=0) (k:Nat) (X:aH) (d:Int):dV (k + 1) X (Dy (lit v)) d=some (Dy (lit v),0,X):=by
 rw [dV,jB,show (Dy (lit v)).attrs=[aK.mk [121] (uW (lit v))] from rfl,aiI hb hc,aF]; kernel_rfl
theorem aiN {v:ah} (hb:v.bulk≤1048576) (hc:mF v 1=0) (k:Nat) (X:aH) (d:Int):dV (k + 2) X (Sv (lit v)) d=some (Sv (lit v),0,X):=by
 rw [dV,jB,show (Sv (lit v)).attrs=[aK.mk [120] (lit v)] from rfl,aiJ hb hc,aF,tN,gy,if_pos (by simp),show idx (Sv (lit v)).blocks 0=some (Dy (lit v)) from rfl,aF,if_pos (by first | decide | rfl | simp),aiM hb hc,rO,if_neg (by first | decide | (intro h; cases h) | simp)]
 kernel_rfl
theorem ah1 {v:ah} (hb:v.bulk≤1048576) (hc:mF v 1=0) {x:Str} (hx:x=sN∨x=sM) (k:Nat):fJ (k + 3) (aH.mk [Lu] [aA.mk x v] 0) (aaP x) 0=some (Sv (lit v),0,aH.mk [Lu] [aA.mk x v] 1):=by
 rw [fJ,mh,show fE (aH.mk [Lu] [aA.mk x v] 0).templates (fun z0=>j4 z0 (aaP x))=some 0 from by kernel_rfl,aF,if_neg (by simp),if_neg (by first | decide | (intro h; cases h) | simp),if_neg (by first | decide | (intro h; cases h) | simp),if_neg (by simp),tN,iV,if_pos (by simp),show idx (aaP x).attrs 0=some (aK.mk sN (El x)) from rfl,aF,
  ahB hb hc hx,iU,if_neg (by first | decide | (intro h; cases h) | simp),JV (by simp [Ik]),aF,show TU=18446744073709551614 + 1 from rfl,iV,if_neg (by simp [Zw]),show idx (aH.mk [Lu] [aA.mk x v] 0).templates 0=some Lu from rfl,aF,show ([]:List aA) ++ [aA.mk (aK.mk sN (El x)).name v]=[aA.mk sN v] from rfl,ahJ hb hc,iU,if_neg (by first | decide | (intro h; cases h) | simp),aF,show Lu.body=Sv (El sN) from rfl,aib hb hc,iU,if_neg (by first | decide | (intro h; cases h) | simp),aiN hb hc]
 rfl
theorem ahb {v:ah} (hb:v.bulk≤1048576) (hc:mF v 1=0) {x:Str} (hx:x=sN∨x=sM):nU (aH.mk [Lu] [aA.mk x v] 0) (Td x) 0=some (Gs v,0,aH.mk [Lu] [aA.mk x v] 1):=by
 unfold nU; rw [show BIG=18446744073709551612 + 3 + 1 from rfl,dV,jB,show iF (Td x).attrs=some [] from by kernel_rfl,aF,tN,gy,if_pos (by simp),show idx (Td x).blocks 0=some (aaP x) from rfl,aF,if_neg (by first | decide | (intro h; cases h) | simp),ah1 hb hc hx,rO,if_neg (by first | decide | (intro h; cases h) | simp)]
 kernel_rfl
theorem agy {v:ah} (hb:v.bulk≤1048576) (hc:mF v 1=0):jq (lit v)=some 0:=by
 have hl:=WU v
 have hxl:xval (lit v)=0:=by
  unfold xval; have:ecnt (lit v)=1:=by rw [GN]; rfl
  rw [this,if_neg (by omega),Y4 v (by omega),hc]
 rw [(YA (e:=lit v) (by omega)).1,hxl]
theorem agx {v:ah} (hb:v.bulk≤1048576) (hc:mF v 1=0):jq (uW (lit v))=some 0:=by
 have hl:=WU v
 have hval:xval (uW (lit v))=0:=by
  unfold xval; have e1:ecnt (uW (lit v))=3:=by rw [GN]; simp [Jq,GN,lit]
  have e2:C9 (uW (lit v))=true:=by
   have:OD (ah.mk 0 false 0 ([]:Str) [] [])=true:=rfl; simp [C9,Fb,this,Jp,D5,L6]
  have e3:Ew (uW (lit v)) 1=0:=by
   unfold Ew; rw [e2]; simp [PE]
  have e4:SE (El sM) 2=0:=by decide +kernel
  rw [e1,if_neg (by omega),P5,e3]; simp [OB,Y4 v (level:=2) (by omega),hc,e4]
 rw [(YA (e:=uW (lit v)) (by simp only [aj.bulk,aj.pz,hl,ah.bulk,ah.pz,List.map_nil,List.sum_nil,List.length_nil,List.length_cons]; omega)).1,hval]
theorem atS {v:ah} (hb:v.bulk≤1048576) (hc:mF v 1=0):mX (Dy (lit v))=some 0:=by
 unfold mX; rw [tN,l9,if_pos (by simp),show idx (Dy (lit v)).attrs 0=some (aK.mk [121] (uW (lit v))) from rfl,aF,show ru (aK.mk [121] (uW (lit v))).name=some true from by kernel_rfl,aF,if_neg (by first | decide | (intro h; cases h) | simp),agx hb hc,aF,if_neg (by first | decide | (intro h; cases h) | simp)]
 kernel_rfl
theorem aiK {v:ah} (hb:v.bulk≤1048576) (hc:mF v 1=0) (k:Nat):ow (k + 1) (Dy (lit v)) 2=some 0:=by
 rw [ow,wE,if_neg (by first | decide | (intro h; cases h) | simp),show ru (Dy (lit v)).kind=some true from by kernel_rfl,aF,if_neg (by simp),if_neg (by simp),atS hb hc,aF,if_neg (by first | decide | (intro h; cases h) | simp)]
 kernel_rfl
theorem atJ {v:ah} (hb:v.bulk≤1048576) (hc:mF v 1=0):mX (Gs v)=some 0:=by
 unfold mX; rw [tN,l9,if_pos (by simp),show idx (Gs v).attrs 0=some (aK.mk [120] (lit v)) from rfl,aF,show ru (aK.mk [120] (lit v)).name=some true from by kernel_rfl,aF,if_neg (by first | decide | (intro h; cases h) | simp),agy hb hc,aF,if_neg (by first | decide | (intro h; cases h) | simp)]
 kernel_rfl
theorem aiL {v:ah} (hb:v.bulk≤1048576) (hc:mF v 1=0):rz (cO.mk [Gs v])=some 0:=by
 unfold rz; rw [if_neg (by simp),tN,uN,if_pos (by simp),show idx (cO.mk [Gs v]).blocks 0=some (Gs v) from rfl,aF]
 rw [show C_ (Gs v) 1=some 0 from by
  unfold C_; rw [show BIG=18446744073709551614 + 1 + 1 from rfl,ow,wE,if_neg (by first | decide | (intro h; cases h) | simp),show ru (Gs v).kind=some true from by kernel_rfl,aF,if_neg (by simp),if_neg (by simp),atJ hb hc,aF,if_neg (by first | decide | (intro h; cases h) | simp),tN,uM,if_pos (by simp),show idx (Gs v).blocks 0=some (Dy (lit v)) from rfl,aF,show cZ (1 + 1)=2 from by decide,aiK hb hc,aF,if_neg (by first | decide | (intro h; cases h) | simp)]
  kernel_rfl,aF,if_neg (by first | decide | (intro h; cases h) | simp)]
 kernel_rfl
theorem Zb {v:ah} (hb:v.bulk≤1048576) (hc:mF v 1=0) {x:Str} (hx:x=sN∨x=sM):uD (cO.mk [Td x]) [Lu] [aA.mk x v]=some (cO.mk [Gs v],0):=by
 have hj:rz (cO.mk [Td x])=some 0:=by rcases hx with rfl | rfl <;> kernel_rfl
 unfold uD; rw [hj,aF,if_neg (by first | decide | (intro h; cases h) | simp),ab8 hb hc hx,aF,if_neg (by first | decide | (intro h; cases h) | simp),tN,lY,if_pos (by simp),show idx (cO.mk [Td x]).blocks 0=some (Td x) from rfl,aF,if_pos (by first | decide | rfl | simp),ahb hb hc hx,rO,if_neg (by first | decide | (intro h; cases h) | simp),JV (by simp [Ik]),aF,show TU=18446744073709551614 + 1 from rfl,lY,if_neg (by simp [Zw]),show cO.mk ((cO.mk []).blocks ++ [Gs v])=cO.mk [Gs v] from rfl,aiL hb hc,aF,if_neg (by first | decide | (intro h; cases h) | simp)]
theorem eqV {v:ah} (hb:v.bulk≤1048576) (hc:mF v 1=0):pQ v v=some true:=by
 rw [(acA (a:=v) (b:=v) (by omega) (by omega)).1,TW _ v (Nat.le_refl _)]; rfl
theorem aea {v:ah} (hb:v.bulk≤1048576) (hc:mF v 1=0) (k:Nat):om (k + 1) (lit v) (lit v)=some true:=by
 rw [om,vS,if_pos (by simp [lit]),show jU (lit v).keys (lit v).keys=some true from by kernel_rfl,aF,if_pos rfl,show (lit v).value=v from rfl,eqV hb hc,aF,if_pos rfl]; kernel_rfl
theorem ahC {v:ah} (hb:v.bulk≤1048576) (hc:mF v 1=0):mU (uW (lit v)) (uW (lit v))=some true:=by
 unfold mU; rw [tN,om,vS,if_pos (by simp),show jU (uW (lit v)).keys (uW (lit v)).keys=some true from by kernel_rfl,aF,if_pos rfl,show pQ (uW (lit v)).value (uW (lit v)).value=some true from by kernel_rfl,aF,if_pos rfl]; unfold fu; rw [if_neg (by simp),tN,dM,if_pos (by simp),show idx (uW (lit v)).args 0=some (lit v) from rfl,aF,aF,show TU=18446744073709551614 + 1 from rfl,aea hb hc,aF,if_neg (by first | decide | (intro h; cases h) | simp)]
 kernel_rfl
theorem eqX {v:ah} (hb:v.bulk≤1048576) (hc:mF v 1=0):mU (lit v) (lit v)=some true:=by
 unfold mU; rw [tN]; exact aea hb hc _
theorem LP (v1:ah) (GU:Bool) (h:ah.bulk v1 + 1≤1048576):tZ v1 GU=some true:=by
 unfold tZ; rw [aaM (v:=v1) (by omega),aF]; by_cases hc:mF v1 1=0
 ·
  have hb:v1.bulk≤1048576:=by omega
  have e1:oU (Za sN) [aA.mk sN v1]=some (cO.mk [Gs v1],0):=by
   unfold oU; rw [acd,rO,if_neg (by first | decide | (intro h; cases h) | simp),Zb hb hc (.inl rfl)]
  have e2:oU (Za sM) [aA.mk sM v1]=some (cO.mk [Gs v1],0):=by
   unfold oU; rw [ace,rO,if_neg (by first | decide | (intro h; cases h) | simp),Zb hb hc (.inr rfl)]
  rw [if_neg (by simpa using hc)]
  have fin:∀ (y:cO) (c:Int),y=cO.mk [Gs v1]→c=0→(av (if (c != 0) || ((y.blocks.length:Int) != 1) then some true else av (idx y.blocks 0) fun e2=>some ((e2.attrs.length:Int) != 1)) fun b1=>
    av (if b1 then some true else av (idx y.blocks 0) fun e3=>some ((e3.blocks.length:Int) != 1)) fun b2=>
    av (if b2 then some true else av (idx y.blocks 0) fun e4=>av (idx e4.blocks 0) fun e5=>some ((e5.attrs.length:Int) != 1)) fun b3=>
    if b3 then some false else av (nk v1) fun x9=>av (qX sM) fun Il=>av (idx y.blocks 0) fun e6=>av (idx e6.attrs 0) fun e7=>av (nk v1) fun Li=>av (mU e7.expr Li) fun SB=>
     av (if SB then av (idx y.blocks 0) fun e8=>av (idx e8.blocks 0) fun e9=>av (idx e9.attrs 0) fun e10=>mU e10.expr (aj.mk 9 ([]:Str) PZ [x9,Il] []) else some false) fun b4=>
     if b4 then AA else some false)=some true:=by
   rintro y c rfl rfl; have q1:nk v1=some (lit v1):=rfl; have q2:qX sM=some (El sM):=rfl; have i1:idx (cO.mk [Gs v1]).blocks 0=some (Gs v1):=rfl; have i2:idx (Gs v1).blocks 0=some (Dy (lit v1)):=rfl; have i3:idx (Gs v1).attrs 0=some (aK.mk [120] (lit v1)):=rfl; have i4:idx (Dy (lit v1)).attrs 0=some (aK.mk [121] (uW (lit v1))):=rfl; rw [i1,if_neg (by simp),aF,aF,if_neg (by simp),aF,aF,if_neg (by simp),aF,i2,aF,aF,if_neg (by simp),q1,q2,aF,aF,aF,i3,aF,aF,eqX hb hc,aF,if_pos rfl,aF,i2,aF,i4,aF,ahC hb hc,aF,if_pos rfl]; exact Zm
  have q3:FP ([97,110,121]:Str)=some (aj.mk 1 [] (ah.mk 3 false 0 [97,110,121] [] []) [] []):=rfl; have qn:qX sN=some (El sN):=rfl; have qm:qX sM=some (El sM):=rfl; cases GU with
  | true=>
   rw [q3,aF,qn,aF,qm,aF,aF,if_pos rfl,aF,e2,iU,←qm]; exact fin _ _ rfl rfl
  | false=>
   rw [q3,aF,qn,aF,qm,aF,aF,if_neg (by decide),aF,e1,iU,←qm]; exact fin _ _ rfl rfl
 ·
  rw [if_pos (by simpa using hc)]; exact Zm
end Go.Ft
