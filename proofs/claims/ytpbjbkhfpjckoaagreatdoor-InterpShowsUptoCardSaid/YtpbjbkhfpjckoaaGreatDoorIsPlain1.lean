/- Proved here: plain facts on the functional texts. -/
import Derived.Test.YtpbjbkhfpjckoaaGreatDoorIsPre1
import Derived.Test.YtpbjbkhfpjckoaaGreatDoorIsFt1
import Derived.Test.YtpbjbkhfpjckoaaGreatDoorIsPool1
set_option linter.unusedVariables false
set_option linter.unusedSimpArgs false
set_option linter.unusedSectionVars false
set_option maxHeartbeats 2000000
namespace Go.Ft
open Go
attribute [local congr] j3
theorem wM {α:Type} {f:α→Nat} {l:List α} {x:α} (h:x∈l):f x≤(l.map f).sum:=by
 induction l with
 | nil=>cases h
 | cons y l ih=>
  simp only [List.map_cons,List.sum_cons]; rcases List.mem_cons.1 h with rfl | h
  · omega
  · have:=ih h; omega
theorem yN {α:Type} {f:α→Nat} {l:List α} (h:∀ x,1≤f x):l.length≤(l.map f).sum:=by
 induction l with
 | nil=>simp
 | cons y l ih=>simp only [List.map_cons,List.sum_cons,List.length_cons]; have:=h y; omega
theorem aj.lS (v:aj):1≤v.bulk:=by rw [aj.gW]; omega
theorem ah.lS (v:ah):1≤v.bulk:=by rw [ah.gW]; omega
theorem ay.lS (v:ay):1≤v.bulk:=by rw [ay.gW]; omega
theorem D_ (v:aj):v.aW.length < v.bulk:=by rw [aj.gW,aj.j6]; have:=yN (l:=v.aW) aj.lS; omega
theorem lF {v x:aj} (h:x∈v.aW):x.bulk < v.bulk:=by rw [aj.gW v,aj.j6]; have:=wM (f:=aj.bulk) h; omega
theorem Kh (v:aj):v.keys.length < v.bulk:=by rw [aj.gW]; have:=yN (l:=v.keys) (f:=fun z:Str=>z.length + 1) (fun x=>by omega); omega
theorem Ea {v:aj} {x:Str} (h:x∈v.keys):x.length < v.bulk:=by rw [aj.gW v]; have:=wM (f:=fun z:Str=>z.length + 1) h; omega
theorem EG (e:ah):e.args.length < e.bulk:=by rw [ah.gW,ah.j6]; have:=yN (l:=e.args) ah.lS; omega
theorem jg {e x:ah} (h:x∈e.args):x.bulk < e.bulk:=by rw [ah.gW e,ah.j6]; have:=wM (f:=ah.bulk) h; omega
theorem Bw (v:ah):v.keys.length < v.bulk:=by rw [ah.gW]; have:=yN (l:=v.keys) (f:=fun z:Str=>z.length + 1) (fun x=>by omega); omega
theorem QT {v:ah} {x:Str} (h:x∈v.keys):x.length < v.bulk:=by rw [ah.gW v]; have:=wM (f:=fun z:Str=>z.length + 1) h; omega
theorem QS (v:ah):v.name.length < v.bulk:=by rw [ah.gW]; omega
theorem Fg (v:ah):v.value.bulk < v.bulk:=by rw [ah.gW]; omega
mutual
def ecnt :ah→Nat
 | ⟨_,_,_,args,_⟩=>1 + zy args
def zy :List ah→Nat
 | []=>0
 | x :: r=>ecnt x + zy r
end
theorem DT (e:ah):ecnt e=1 + zy e.args:=by cases e; rfl
theorem Np :∀ (l:List ah) (n:Nat),(∀ x∈l,ecnt x≤x.bulk)→zy l≤(l.map ah.bulk).sum
 | [],_,_=>by simp [zy]
 | x :: r,n,h=>by
  simp only [zy,List.map_cons,List.sum_cons]; have:=h x (by simp); have:=Np r n fun y hy=>h y (by simp [hy]); omega
theorem PK :∀ (n:Nat) (e:ah),e.bulk≤n→ecnt e≤e.bulk
 | 0,e,h=>by have:=e.lS; omega
 | n + 1,e,h=>by
  rw [DT,ah.gW,ah.j6]; have:=Np e.args n fun x hx=>PK n x (by have:=jg hx; omega); omega
theorem OI {go:ah→Option Int}:∀ (l:List ah) (i s:Nat),(∀ x∈l,go x=some (ecnt x:Int))→s + zy l < 4611686018427387904→
  gP (fun _ e2 (n1:Int) r=>ak (go e2) fun x2=>r (bQ (n1 + x2))) (fun n1=>some n1) i l (s:Int)=some ((s + zy l:Nat):Int)
 | [],i,s,_,_=>by simp [gP,zy]
 | x :: r,i,s,h,hs=>by
  simp only [zy] at hs ⊢; rw [gP,h x (by simp)]; simp only [av]; have:bQ ((s:Int) + (ecnt x:Int))=((s + ecnt x:Nat):Int):=by rw [KU (by omega)]; omega
  rw [this,OI r (i + 1) (s + ecnt x) (fun y hy=>h y (by simp [hy])) (by omega)]; simp only [Option.some.injEq,Int.natCast_inj]; omega
theorem LG :∀ (n:Nat) (e:ah),e.bulk≤n→e.bulk < 4611686018427387904→iN (n + 1) e=some (ecnt e:Int)∧kQ (n + 1) e=some (ecnt e:Int)
 | 0,e,h,_=>by have:=e.lS; omega
 | n + 1,e,h,hB=>by
  have hl:=EG e; have hle:=PK _ e (Nat.le_refl _); rw [DT] at hle; constructor
  ·
   unfold iN qI; have:=fA (F:=fun k s i=>mG (iN (n + 1)) e k s i) (l:=e.args) (body:=fun _ e2 (n1:Int) r=>ak (iN (n + 1) e2) fun x2=>r (bQ (n1 + x2))) (fin:=fun n1=>some n1) (by omega) (fun k s i=>rfl) 1; rw [this,show (1:Int)=((1:Nat):Int) from rfl,OI e.args 0 1 (fun x hx=>(LG n x (by have:=jg hx; omega) (by have:=jg hx; omega)).1) (by omega),DT]
  ·
   unfold kQ wG; have:=fA (F:=fun k s i=>qz (kQ (n + 1)) e k s i) (l:=e.args) (body:=fun _ e2 (n1:Int) r=>ak (kQ (n + 1) e2) fun x2=>r (bQ (n1 + x2))) (fin:=fun n1=>some n1) (by omega) (fun k s i=>rfl) 1; rw [this,show (1:Int)=((1:Nat):Int) from rfl,OI e.args 0 1 (fun x hx=>(LG n x (by have:=jg hx; omega) (by have:=jg hx; omega)).2) (by omega),DT]
theorem yh :∃ n,BIG=n + 1∧9223372036854775807≤n:=⟨BIG - 1,by decide,by decide⟩
theorem count_eq {e:ah} (h:e.bulk < 4611686018427387904):uy e=some (ecnt e:Int)∧xM e=some (ecnt e:Int):=by
 obtain ⟨n,hn,hn2⟩:=yh; unfold uy xM; rw [hn]; exact LG n e (by omega) h
def isName (s:Str):Bool:=decide (1≤s.length) && decide (s.length≤64) && (match s with | c :: _=>isLet c | []=>false) && s.all fun c=>isLet c || bR c
def Bt (s:Str):Bool:=isName s && !((s == ([116,114,117,101]:Str)) || (s == ([102,97,108,115,101]:Str)) || (s == ([110,117,108,108]:Str)))
theorem YG (s:Str) (hs:s.length < 4611686018427387904):lH s BIG 0=some (s.all fun c=>isLet c || bR c):=by
 have:=fA (F:=fun k (_:Unit) i=>lH s k i) (l:=s) (body:=fun (i:Nat) x3 _ r=>ak (if !(isLet x3) then ak (idx s (i:Int)) fun x5=>some (!(bR x5)) else some false) fun b2=>if b2 then some false else r ()) (fin:=fun _=>some true) hs (fun k s i=>rfl) (); rw [this]
 have key:∀ (t:Str) (i:Nat),t=s.drop i→gP (fun (i:Nat) x3 (_:Unit) r=>ak (if !(isLet x3) then ak (idx s (i:Int)) fun x5=>some (!(bR x5)) else some false) fun b2=>if b2 then some false else r ()) (fun _=>some true) i t ()=some (t.all fun c=>isLet c || bR c):=by
  intro t
  induction t with
  | nil=>intro i _; rfl
  | cons c t ih=>
   intro i ht
   have hi:i < s.length:=by
    rcases Nat.lt_or_ge i s.length with h | h
    · exact h
    · rw [List.drop_eq_nil_of_le h] at ht; cases ht
   have hc:=List.drop_eq_getElem_cons hi; rw [←ht] at hc; have e1:c=s[i]:=(List.cons.inj hc).1; have e2:=(List.cons.inj hc).2; rw [gP,sU hi,←e1]; simp only [av]; rw [ih (i + 1) e2]; cases h1:isLet c <;> cases h2:bR c <;> simp [h1,h2]
 exact key s 0 rfl
theorem Xg (s:Str) (hs:s.length < 4611686018427387904):p9 s=some (isName s):=by
 unfold p9 isName; rw [YG s hs]; by_cases h1:s.length < 1
 ·
  have:s=[]:=by cases s; rfl; simp at h1
  subst this; simp
 ·
  by_cases h2:64 < s.length
  ·
   have e1:decide ((64:Int) < (s.length:Int))=true:=by simp; omega
   have e2:decide (s.length≤64)=false:=by simp; omega
   simp [e1,e2]
  ·
   cases s with
   | nil=>simp at h1
   | cons c s=>
    have e1:decide ((((c :: s).length:Nat):Int) < 1)=false:=by simp; omega
    have e2:decide ((64:Int) < (((c :: s).length:Nat):Int))=false:=by simp at h2 ⊢; omega
    have e3:decide ((c :: s).length≤64)=true:=by simp at h2 ⊢; omega
    have e4:idx (c :: s) 0=some c:=rfl; rw [e1,e2,e3,e4]; cases h3:isLet c <;> simp [h3]
theorem Wh (s:Str) (hs:s.length < 4611686018427387904):z8 s=some (isName s):=by
 unfold z8
 have:=fA (F:=fun k (_:Unit) i=>sJ s k i) (l:=s) (body:=fun (i:Nat) x3 _ r=>ak (if !(isLet x3) then (if (i:Int) == 0 then some true else ak (idx s (i:Int)) fun x5=>some (!(bR x5))) else some false) fun b2=>if b2 then some false else r ())
  (fin:=fun _=>some ((decide (1≤(s.length:Int))) && (decide ((s.length:Int)≤64)))) hs (fun k s i=>rfl) ()
 rw [this]
 have key:∀ (t:Str) (i:Nat),t=s.drop i→gP (fun (i:Nat) x3 (_:Unit) r=>ak (if !(isLet x3) then (if (i:Int) == 0 then some true else ak (idx s (i:Int)) fun x5=>some (!(bR x5))) else some false) fun b2=>if b2 then some false else r ())
   (fun _=>some ((decide (1≤(s.length:Int))) && (decide ((s.length:Int)≤64)))) i t ()=some ((decide (1≤s.length) && decide (s.length≤64)) && ((if i=0 then (match t with | c :: _=>isLet c | []=>true) else true) && t.all fun c=>isLet c || bR c)):=by
  intro t
  induction t with
  | nil=>
   intro i _; rw [gP]; have e1:decide ((1:Int)≤(s.length:Int))=decide (1≤s.length):=by congr 1; simp; omega
   have e2:decide ((s.length:Int)≤64)=decide (s.length≤64):=by congr 1; simp; omega
   rw [e1,e2]; simp
  | cons c t ih=>
   intro i ht
   have hi:i < s.length:=by
    rcases Nat.lt_or_ge i s.length with h | h
    · exact h
    · rw [List.drop_eq_nil_of_le h] at ht; cases ht
   have hc:=List.drop_eq_getElem_cons hi; rw [←ht] at hc; have e1:c=s[i]:=(List.cons.inj hc).1; have e2:=(List.cons.inj hc).2; rw [gP,sU hi,←e1]; simp only [av]; rw [ih (i + 1) e2]; by_cases h0:i=0
   ·
    subst h0; cases h1:isLet c <;> simp [h1]
   ·
    have:((i:Int) == 0)=false:=by simp; omega
    rw [this]; cases h1:isLet c <;> cases h2:bR c <;> simp [h1,h2,h0]
 rw [key s 0 rfl]; unfold isName; cases s with
 | nil=>simp
 | cons c s=>simp [Bool.and_assoc]
theorem Si (s:Str) (hs:s.length < 4611686018427387904):lY s=some (Bt s)∧rR s=some (Bt s):=by
 unfold lY rR Bt pX; rw [Xg s hs,Wh s hs]; constructor
 · cases isName s <;> simp
 ·
  simp only [av,Option.some.injEq]; cases isName s <;> simp [Bool.not_or,Bool.and_assoc]
theorem wE (s:Str):nT s=eF s:=rfl
theorem Js (s:Str):∃ n,eF s=some n:=by
 have:(eF s).isSome=true:=by
  unfold eF; simp only [apply_ite Option.isSome,Option.isSome_some,ite_self]
 exact Option.isSome_iff_exists.1 this
end Go.Ft
namespace Go.Ft
open Go
attribute [local congr] j3
def sS (s:Str):Bool:=decide (1≤s.length) && decide (s.length≤64)
def M4 (a b:Str):Int:=(nI a b).getD 0
theorem UM {a b:Str} (ha:a.length < 4611686018427387904) (hb:b.length < 4611686018427387904):lg a b=some (M4 a b)∧nI a b=some (M4 a b):=by
 obtain ⟨c,h1,h2⟩:=OL ha hb; unfold M4; rw [h2]; exact ⟨h1,rfl⟩
def Jg :Option Str→List Str→Bool
 | _,[]=>true
 | p,k :: r=>sS k && (match p with | none=>true | some q=>decide (M4 q k < 0)) && Jg (some k) r
theorem Li (s:Str):((decide ((s.length:Int) < 1)) || (decide (64 < (s.length:Int))))=!sS s:=by
 unfold sS; rw [Bool.eq_iff_iff]; simp only [Bool.or_eq_true,Bool.not_eq_true',Bool.and_eq_false_iff,decide_eq_true_eq,decide_eq_false_iff_not]; omega
theorem key_eq (s:Str):Dq s=some (sS s):=by
 unfold Dq sS; simp only [Option.some.injEq]; rw [Bool.eq_iff_iff]; simp only [Bool.and_eq_true,decide_eq_true_eq]; omega
def Ac (l:List Str) (i:Nat):Option Str:=if i=0 then none else l[i - 1]?
theorem P7 {v:aj} (hv:v.bulk < 4611686018427387904):∀ (k i:Nat),v.keys.length < k + i→i≤v.keys.length→
  lG v k (i:Int)=some (Jg (Ac v.keys i) (v.keys.drop i))∧
  jV v k (i:Int)=some (Jg (Ac v.keys i) (v.keys.drop i) && ((v.keys.length:Int) == (v.aW.length:Int)))
 | 0,i,h,h'=>by omega
 | k + 1,i,h,h'=>by
  have hlen:=Kh v; rw [lG,jV]; by_cases hi:i < v.keys.length
  ·
   have hm:v.keys[i]∈v.keys:=List.getElem_mem hi; have hb:=Ea hm; rw [List.drop_eq_getElem_cons hi,if_pos (by simp; omega),if_pos (by simp; omega),sU hi]; simp only [av,Li,key_eq,Jg]; obtain ⟨ih1,ih2⟩:=P7 hv k (i + 1) (by omega) (by omega); have hp:Ac v.keys (i + 1)=some v.keys[i]:=by simp [Ac,hi]
   rw [hp] at ih1 ih2; rw [BP (by omega),ih1,ih2]; by_cases h0:i=0
   ·
    subst h0; have hp0:Ac v.keys 0=none:=rfl; rw [hp0]; cases sS v.keys[0] <;> simp
   ·
    have hi1:i - 1 < v.keys.length:=by omega
    have hm1:v.keys[i - 1]∈v.keys:=List.getElem_mem hi1; have hb1:=Ea hm1; have hp0:Ac v.keys i=some v.keys[i - 1]:=by simp [Ac,h0,hi1]
    have e1:bQ ((i:Int) - 1)=((i - 1:Nat):Int):=by rw [KU (by omega)]; omega
    obtain ⟨c1,c2⟩:=UM (a:=v.keys[i - 1]) (b:=v.keys[i]) (by omega) (by omega); have hpos:decide ((0:Int) < (i:Int))=true:=by simp; omega
    rw [hp0,e1,hpos,sU hi1]; simp only [av,c1,c2,if_true]
    have hn:decide (M4 v.keys[i - 1] v.keys[i] < 0)=!decide (0≤M4 v.keys[i - 1] v.keys[i]):=by
     by_cases h:0≤M4 v.keys[i - 1] v.keys[i] <;> simp [h] <;> omega
    rw [hn]; cases sS v.keys[i] <;> cases decide (0≤M4 v.keys[i - 1] v.keys[i]) <;> simp
  ·
   have:i=v.keys.length:=by omega
   subst this; simp [Jg]
theorem Nf {v:aj} (hv:v.bulk < 4611686018427387904):sH v=some (((v.keys.length:Int) == (v.aW.length:Int)) && Jg none v.keys)∧oN v=some (((v.keys.length:Int) == (v.aW.length:Int)) && Jg none v.keys):=by
 have hlen:=Kh v; obtain ⟨h1,h2⟩:=P7 hv BIG 0 (by have:=mo; omega) (by omega); have hp0:Ac v.keys 0=none:=rfl; rw [hp0,List.drop_zero] at h1 h2; unfold sH oN; rw [show (0:Int)=((0:Nat):Int) from rfl,h1,h2]; by_cases h:(v.keys.length:Int)=(v.aW.length:Int)
 · simp [h]
 ·
  have:((v.keys.length:Int) == (v.aW.length:Int))=false:=by simpa using h
  simp [this]; intro hh; exact absurd hh h
def uX (v:aj):Bool:=
 (((((v.kind == 1) || (!v.jd)) && ((v.kind == 2) || (v.iG == 0))) && ((v.kind == 3) || (v.jK == ([]:Str)))) && (((v.kind == 4) || (v.kind == 5)) || ((v.aW.length:Int) == 0))) && ((v.kind == 5) || ((v.keys.length:Int) == 0))
theorem Wi (v:aj):xO v=some (uX v):=by
 unfold xO uX
 have hl:decide (0 < (v.aW.length:Int))=!((v.aW.length:Int) == 0):=by
  cases h:v.aW <;> simp; omega
 rw [hl]; have hk:∀ n:Int,(v.kind != n)=!(v.kind == n):=fun n=>rfl; have hi:(v.iG != 0)=!(v.iG == 0):=rfl; rw [hk,hk,hk,hk,hk,hi]; generalize (v.kind == 1)=a1; generalize (v.kind == 2)=a2; generalize (v.kind == 3)=a3; generalize (v.kind == 4)=a4; generalize (v.kind == 5)=a5; generalize v.jd=b; generalize (v.iG == 0)=c; generalize (v.jK == ([]:Str))=d; generalize ((v.aW.length:Int) == 0)=e; generalize ((v.keys.length:Int) == 0)=f; revert a1 a2 a3 a4 a5 b c d e f; decide
def lD (v:aj) (level:Nat):Int:=
 if 16 < level then 13
 else if (decide (v.kind < 0)) || (decide (5 < v.kind)) || !uX v then 1
 else if (decide (v.iG < (-9007199254740992))) || (decide (9007199254740992 < v.iG)) then 2
 else if ((decide (4096 < (v.jK.length:Int))) || (decide (1024 < (v.aW.length:Int)))) || (decide (1024 < (v.keys.length:Int))) then 3
 else if v.kind == 5 && !(((v.keys.length:Int) == (v.aW.length:Int)) && Jg none v.keys) then 1
 else if (((v.kind == 4) || (v.kind == 5)) && ((v.aW.length:Int) == 0)) && level == 16 then 13
 else 0
theorem UL {v:aj} (hv:v.bulk < 4611686018427387904) (level:Nat):uY v (level:Int)=some (lD v level):=by
 unfold uY lD uh; have h16:decide ((16:Int) < (level:Int))=decide (16 < level):=by congr 1; simp; omega
 have Xr:((level:Int) == 16)=(level == 16):=by
  rw [Bool.eq_iff_iff]; simp only [beq_iff_eq]; omega
 rw [h16,Xr,(Nf hv).1]; change (if decide (16 < level)=true then some 13 else ak (if (decide (v.kind < 0) || decide (5 < v.kind))=true then some true else ak (some (uX v)) fun x1=>some (!x1)) _)=_
 by_cases h0:16 < level
 · simp [h0]
 ·
  simp only [h0,decide_false,Bool.false_eq_true,if_false,av]; cases h1:(decide (v.kind < 0) || decide (5 < v.kind)) with
  | true=>simp
  | false=>
   cases h2:uX v with
   | false=>simp
   | true=>
    simp only [Bool.false_eq_true,if_false,Bool.not_true,av,Bool.or_self]; split
    · rfl
    ·
     split
     · rfl
     · cases h3:(v.kind == 5) <;> cases h4:(((v.keys.length:Int) == (v.aW.length:Int)) && Jg none v.keys) <;> simp <;> (first | rfl | (split <;> rfl))
mutual
def rM :aj→Nat→Int
 | ⟨a,b,c,d,l,f⟩,level=>if lD ⟨a,b,c,d,l,f⟩ level != 0 then lD ⟨a,b,c,d,l,f⟩ level else wD l (level + 1)
def wD :List aj→Nat→Int
 | [],_=>0
 | x :: r,level=>if rM x level != 0 then rM x level else wD r level
end
theorem Gb (v:aj) (level:Nat):rM v level=if lD v level != 0 then lD v level else wD v.aW (level + 1):=by cases v; rw [rM]
theorem Y_ {go:aj→Int→Option Int} {level:Nat}:∀ (l:List aj) (i:Nat),(∀ x∈l,go x ((level + 1:Nat):Int)=some (rM x (level + 1)))→
  gP (fun _ e1 (_:Unit) r=>ak (go e1 ((level + 1:Nat):Int)) fun e2=>if e2 != 0 then some e2 else r ()) (fun _=>some 0) i l ()=some (wD l (level + 1))
 | [],i,_=>by simp [gP,wD]
 | x :: r,i,h=>by
  rw [gP,h x (by simp),wD]; simp only [av]; rw [Y_ r (i + 1) (fun y hy=>h y (by simp [hy]))]; split <;> rfl
theorem Nv :∀ (n:Nat) (v:aj) (level:Nat),v.bulk≤n→v.bulk < 4611686018427387904→level≤17→kR (n + 1) v (level:Int)=some (rM v level)
 | 0,v,_,h,_,_=>by have:=v.lS; omega
 | n + 1,v,level,h,hB,hlv=>by
  have hl:=D_ v; rw [Gb]; unfold kR wI; have h16:decide ((16:Int) < (level:Int))=decide (16 < level):=by congr 1; simp; omega
  have Xr:((level:Int) == 16)=(level == 16):=by
   rw [Bool.eq_iff_iff]; simp only [beq_iff_eq]; omega
  rw [h16,Xr,(Nf hB).2,Wi]; unfold lD; by_cases h0:16 < level
  · simp [h0]
  ·
   have hw:bQ ((level:Int) + 1)=((level + 1:Nat):Int):=BP (by omega); have:=fA (F:=fun k (_:Unit) i=>qA (kR (n + 1)) v (level:Int) k i) (l:=v.aW) (body:=fun _ e1 _ r=>ak (kR (n + 1) e1 ((level + 1:Nat):Int)) fun e2=>if e2 != 0 then some e2 else r ()) (fin:=fun _=>some 0) (by omega) (fun k s i=>by rw [←hw]; rfl) (); rw [this,Y_ v.aW 0 fun x hx=>Nv n x (level + 1) (by have:=lF hx; omega) (by have:=lF hx; omega) (by omega)]; simp only [h0,decide_false,Bool.false_eq_true,if_false,av]; cases h1:(decide (v.kind < 0) || decide (5 < v.kind)) with
   | true=>simp
   | false=>
    cases h2:uX v with
    | false=>simp
    | true=>
     simp only [Bool.false_eq_true,if_false,Bool.not_true,av,Bool.or_self]; split
     · simp
     ·
      split
      · simp
      ·
       have h4:decide ((4:Int)≤v.kind)=((v.kind == 4) || (v.kind == 5)):=by
        simp only [Bool.or_eq_false_iff,decide_eq_false_iff_not] at h1; rw [Bool.eq_iff_iff]; simp only [Bool.or_eq_true,decide_eq_true_eq,beq_iff_eq]; omega
       rw [h4]
       cases h3:(v.kind == 5) <;> cases h5:(((v.keys.length:Int) == (v.aW.length:Int)) && Jg none v.keys) <;> simp <;> (first | rfl | (split <;> simp <;> rename_i hq <;> (first
        | exact fun hh=>absurd hq.2 (hh hq.1.1 hq.1.2)
        | exact fun a b c=>absurd ⟨⟨a,b⟩,c⟩ hq)))
theorem RB {v:aj} (h:v.bulk < 4611686018427387904):uP v=some (rM v 1):=by
 obtain ⟨n,hn,hn2⟩:=yh; unfold uP Em; rw [hn]; exact Nv n v 1 (by omega) h (by omega)
def Gu (c:Int):Bool × Option Int:=if c != 0 then (false,some c) else (true,none)
theorem Yb {v:aj} (hv:v.bulk < 4611686018427387904) (level:Nat):jh none (level:Int) v=some (Gu (lD v level)):=by
 unfold jh Gu; simp only [UL hv,av]; by_cases h:lD v level=0 <;> simp [h]
theorem Vr {go:Option Int→aj→Int→Option (Bool × Option Int)} {level:Nat}:∀ (l:List aj) (i:Nat),(∀ x∈l,go none x ((level + 1:Nat):Int)=some (Gu (rM x (level + 1))))→
  gP (fun _ x1 (s1:Option Int) r=>iV (go s1 x1 ((level + 1:Nat):Int)) fun b1 s2=>if !b1 then some (false,s2) else r s2) (fun s1=>some (true,s1)) i l none=some (Gu (wD l (level + 1)))
 | [],i,_=>by simp [gP,wD,Gu]
 | x :: r,i,h=>by
  rw [gP,h x (by simp),wD]; by_cases hc:rM x (level + 1)=0
  ·
   simp only [hc,Gu,bne_self_eq_false,Bool.false_eq_true,if_false,C9,Bool.not_true]; rw [Vr r (i + 1) (fun y hy=>h y (by simp [hy]))]; rfl
  · simp [hc,Gu]
theorem Ru :∀ (n:Nat) (v:aj) (level:Nat),v.bulk≤n→v.bulk < 4611686018427387904→level≤17→kJ jh (n + 1) none v (level:Int)=some (Gu (rM v level))
 | 0,v,_,h,_,_=>by have:=v.lS; omega
 | n + 1,v,level,h,hB,hlv=>by
  have hl:=D_ v; rw [Gb]; unfold kJ ug; rw [Yb hB]; by_cases h0:lD v level=0
  ·
   have ZQ:level≤16:=by
    rcases Nat.lt_or_ge 16 level with h | h
    · unfold lD at h0; simp [h] at h0
    · exact h
   have hw:bQ ((level:Int) + 1)=((level + 1:Nat):Int):=BP (by omega); have:=fA (F:=fun k s i=>oJ (kJ jh (n + 1)) v (level:Int) k s i) (l:=v.aW) (body:=fun _ x1 (s1:Option Int) r=>iV (kJ jh (n + 1) s1 x1 ((level + 1:Nat):Int)) fun b1 s2=>if !b1 then some (false,s2) else r s2) (fin:=fun s1=>some (true,s1)) (by omega) (fun k s i=>by rw [←hw]; rfl) none; simp only [h0,Gu,bne_self_eq_false,Bool.false_eq_true,if_false,C9,Bool.not_true]; rw [this,Vr v.aW 0 fun x hx=>Ru n x (level + 1) (by have:=lF hx; omega) (by have:=lF hx; omega) (by omega)]; rfl
  · simp [h0,Gu]
theorem Ke {v:aj} (h:v.bulk < 4611686018427387904):jR v=some (rM v 1):=by
 obtain ⟨n,hn,hn2⟩:=yh; unfold jR Cw; rw [hn,show (1:Int)=((1:Nat):Int) from rfl,Ru n v 1 (by omega) h (by omega)]; unfold Gu; by_cases hc:rM v 1=0 <;> simp [hc]
end Go.Ft
namespace Go.Ft
open Go
attribute [local congr] j3
def GJ (v:aj):Bool:=(((((v.kind == 0) && (!v.jd)) && (v.iG == 0)) && (v.jK == ([]:Str))) && ((v.aW.length:Int) == 0)) && ((v.keys.length:Int) == 0)
theorem zero_eq (v:aj):wK v=some (GJ v):=rfl
theorem Qm (v:aj):Dr v (aj.mk 0 false 0 ([]:Str) [] [])=some (GJ v):=by
 obtain ⟨n,hn,hn2⟩:=yh; obtain ⟨m,hm⟩:∃ m,n=m + 1:=⟨n - 1,by omega⟩; have hB:BIG=(m + 1) + 1:=by omega
 unfold Dr; rw [hB,rT,yB]
 have hz:GJ v=!(((((v.kind != 0) || (!(v.jd == false))) || (v.iG != 0)) || (!(v.jK == ([]:Str)))) || ((v.aW.length:Int) != (([]:List aj).length:Int)) || ((v.keys.length:Int) != (([]:List Str).length:Int))):=by
  unfold GJ; have hk:(v.kind != 0)=!(v.kind == 0):=rfl; have hi:(v.iG != 0)=!(v.iG == 0):=rfl; have hl:((v.aW.length:Int) != (([]:List aj).length:Int))=!((v.aW.length:Int) == 0):=rfl; have hks:((v.keys.length:Int) != (([]:List Str).length:Int))=!((v.keys.length:Int) == 0):=rfl; rw [hk,hi,hl,hks]; generalize (v.kind == 0)=a; generalize v.jd=b; generalize (v.iG == 0)=c; generalize (v.jK == ([]:Str))=d; generalize ((v.aW.length:Int) == 0)=e; generalize ((v.keys.length:Int) == 0)=f; revert a b c d e f; decide
 cases h:(((((v.kind != 0) || (!(v.jd == false))) || (v.iG != 0)) || (!(v.jK == ([]:Str)))) || ((v.aW.length:Int) != (([]:List aj).length:Int)) || ((v.keys.length:Int) != (([]:List Str).length:Int))) with
 | true=>
  rw [hz,h]; rfl
 | false=>
  rw [hz,h]; simp only [Bool.or_eq_false_iff] at h; have hl:v.aW=[]:=by have:=h.1.2; simpa using this
  have hk:v.keys=[]:=by have:=h.2; simpa using this
  simp only [Bool.false_eq_true,if_false,Bool.not_false]; rw [hB,sM,hk]; simp only [List.length_nil,Int.lt_irrefl,decide_false,Bool.false_eq_true,if_false,Int.ofNat_zero,Int.natCast_zero]; rw [hB,sK,hl]; simp
def vL (e:ah):Bool:=
 if e.kind == 1 then (e.args.length:Int) == 0 else if e.kind == 2 then (e.args.length:Int) == 0 else if e.kind == 3 then (e.args.length:Int) == 1 else if e.kind == 6 then (e.args.length:Int) == 1
 else if e.kind == 4 then (e.args.length:Int) == 2 else if e.kind == 7 then (e.args.length:Int) == 2 else if e.kind == 8 then (e.args.length:Int) == 3 else ((e.kind == 5) || (e.kind == 9)) || (e.kind == 10)
theorem Vk (e:ah):xJ e=some (vL e):=by
 unfold xJ vL; simp only [apply_ite some]
def xg (e:ah):Bool:=!((decide (e.kind < 1)) || (decide (10 < e.kind)))
theorem XL (e:ah) (h:xg e=true):qH e=some (vL e):=by
 unfold qH vL; unfold xg at h; simp only [Bool.not_eq_true',Bool.or_eq_false_iff,decide_eq_false_iff_not] at h; simp only [apply_ite some]
 have hh:¬ e.kind=1→¬ e.kind=2→¬ e.kind=3→¬ e.kind=6→¬ e.kind=4→¬ e.kind=7→¬ e.kind=8→(((e.kind == 5) || (e.kind == 9)) || (e.kind == 10))=true:=by
  intro h1 h2 h3 h6 h4 h7 h8; simp only [Bool.or_eq_true,beq_iff_eq]; omega
 by_cases h1:e.kind=1
 · simp [h1]
 by_cases h2:e.kind=2
 · simp [h2]
 by_cases h3:e.kind=3
 · simp [h3]
 by_cases h6:e.kind=6
 · simp [h6]
 by_cases h4:e.kind=4
 · simp [h4]
 by_cases h7:e.kind=7
 · simp [h7]
 by_cases h8:e.kind=8
 · simp [h8]
 rw [hh h1 h2 h3 h6 h4 h7 h8]
 all_goals simp [h1,h2,h3,h4,h6,h7,h8]
def o9 (s:Str):Int:=(eF s).getD 0
theorem Bl (s:Str):eF s=some (o9 s):=by
 obtain ⟨n,h⟩:=Js s; unfold o9; rw [h]; rfl
def yV (e:ah):Bool:=
 if e.kind == 2 then Bt e.name else if e.kind == 3 then Bt e.name else if e.kind == 5 then Bt e.name else if e.kind == 6 then (e.name == ([33]:Str)) || (e.name == ([45]:Str))
 else if e.kind == 7 then decide (0 < o9 e.name) else e.name == ([]:Str)
theorem M6 (e:ah) (h:e.bulk < 4611686018427387904):qD e=some (yV e)∧xI e=some (yV e):=by
 have hn:=QS e; obtain ⟨p1,p2⟩:=Si e.name (by omega); unfold qD xI yV; rw [p1,p2,wE,Bl]; simp only [av,apply_ite some,and_self]
theorem aad (l:List Str) (hl:l.length < 4611686018427387904):dN l gZ=some (l.any fun k=>!sS k):=by
 unfold dN fE; have:=fA (F:=fun k (_:Unit) i=>dM l gZ k i) (l:=l) (body:=fun (i:Nat) e1 _ r=>ak (gZ e1) fun x1=>if x1 then some (i:Int) else r ()) (fin:=fun _=>some (-1)) hl (fun k s i=>rfl) (); rw [this]
 have key:∀ (t:List Str) (i:Nat),ak (gP (fun (i:Nat) e1 (_:Unit) r=>ak (gZ e1) fun x1=>if x1 then some (i:Int) else r ()) (fun _=>some (-1)) i t ()) (fun x1=>some (decide (0≤x1)))=some (t.any fun k=>!sS k):=by
  intro t
  induction t with
  | nil=>intro i; rfl
  | cons c t ih=>
   intro i; rw [gP]; have e1:gZ c=some (!sS c):=by unfold gZ; rw [Li]
   rw [e1]; simp only [av,List.any_cons]; cases h:sS c with
   | false=>simp
   | true=>
    simp only [Bool.not_true,Bool.false_eq_true,if_false,Bool.false_or]; exact ih (i + 1)
 exact key l 0
def EF (e:ah):Bool:=if e.kind != 10 then (e.keys.length:Int) == 0 else ((e.keys.length:Int) == (e.args.length:Int)) && !(e.keys.any fun k=>!sS k)
theorem Xk (e:ah) (h:e.bulk < 4611686018427387904):qE e=some (EF e):=by
 have hk:=Bw e; unfold qE EF; rw [aad e.keys (by omega)]; split
 · rfl
 · cases ((e.keys.length:Int) == (e.args.length:Int)) <;> simp
theorem U5 (e:ah) (h:e.bulk < 4611686018427387904):mO e BIG 0=some (!(e.keys.any fun k=>!sS k) && ((e.keys.length:Int) == (e.args.length:Int))):=by
 have hk:=Bw e
 have:=fA (F:=fun k (_:Unit) i=>mO e k i) (l:=e.keys) (body:=fun (i:Nat) e2 _ r=>ak (if decide ((e2.length:Int) < 1) then some true else ak (idx e.keys (i:Int)) fun e3=>some (decide (64 < (e3.length:Int)))) fun b4=>if b4 then some false else r ())
  (fin:=fun _=>some ((e.keys.length:Int) == (e.args.length:Int))) (by omega) (fun k s i=>rfl) ()
 rw [this]
 have key:∀ (t:List Str) (i:Nat),t=e.keys.drop i→gP (fun (i:Nat) e2 (_:Unit) r=>ak (if decide ((e2.length:Int) < 1) then some true else ak (idx e.keys (i:Int)) fun e3=>some (decide (64 < (e3.length:Int)))) fun b4=>if b4 then some false else r ())
   (fun _=>some ((e.keys.length:Int) == (e.args.length:Int))) i t ()=some (!(t.any fun k=>!sS k) && ((e.keys.length:Int) == (e.args.length:Int))):=by
  intro t
  induction t with
  | nil=>intro i _; rfl
  | cons c t ih=>
   intro i ht
   have hi:i < e.keys.length:=by
    rcases Nat.lt_or_ge i e.keys.length with h | h
    · exact h
    · rw [List.drop_eq_nil_of_le h] at ht; cases ht
   have hc:=List.drop_eq_getElem_cons hi; rw [←ht] at hc; have e1:c=e.keys[i]:=(List.cons.inj hc).1; have e2:=(List.cons.inj hc).2; rw [gP,sU hi,←e1]; simp only [av,List.any_cons]; rw [ih (i + 1) e2]; have e3:=Li c; cases h1:decide ((List.length c:Int) < 1) <;> rw [h1] at e3
   ·
    simp only [Bool.false_or] at e3; simp only [Bool.false_eq_true,if_false,av,e3]; cases sS c <;> simp
   ·
    simp only [Bool.true_or] at e3
    have:sS c=false:=by
     cases h:sS c with
     | false=>rfl
     | true=>rw [h] at e3; cases e3
    simp [this]
 exact key e.keys 0 rfl
def rz (e:ah):Bool:=xg e && ((e.kind == 1) || GJ e.value) && yV e && vL e && EF e
theorem OY (e:ah) (h:vL e=true):xg e=true:=by
 unfold vL at h; unfold xg; simp only [Bool.not_eq_true',Bool.or_eq_false_iff,decide_eq_false_iff_not]; by_cases h1:e.kind=1
 · omega
 by_cases h2:e.kind=2
 · omega
 by_cases h3:e.kind=3
 · omega
 by_cases h6:e.kind=6
 · omega
 by_cases h4:e.kind=4
 · omega
 by_cases h7:e.kind=7
 · omega
 by_cases h8:e.kind=8
 · omega
 simp [h1,h2,h3,h4,h6,h7,h8] at h; omega
theorem QN (e:ah) (h:e.bulk < 4611686018427387904):vk e=some (rz e):=by
 unfold vk rz; rw [Vk,(M6 e h).2,Qm,U5 e h]; have hk:=OY e; unfold EF; have hne:(e.kind != 1)=!(e.kind == 1):=rfl; rw [hne]; cases h1:vL e with
 | false=>cases (e.kind == 1) <;> simp
 | true=>
  rw [hk h1]; cases h2:yV e with
  | false=>cases (e.kind == 1) <;> simp
  | true=>
   cases h3:(e.kind == 1) <;> cases h4:GJ e.value <;> simp <;> (first | done | (split <;> simp [Bool.and_comm]))
theorem Kw (y:List (Str × Int)) (s t:Str) (n:Int):nX (oQ y s n) t=if t=s then n else nX y t:=by
 induction y with
 | nil=>by_cases h:t=s <;> simp [oQ,nX,h]
 | cons a y ih=>
  obtain ⟨k,v⟩:=a; unfold oQ; by_cases h:s=k
  ·
   subst h; simp only [beq_self_eq_true,if_true]; unfold nX; by_cases h2:t=s
   · simp [h2]
   ·
    have:(t == s)=false:=beq_eq_false_iff_ne.2 h2; simp [this,h2]
  ·
   have:(s == k)=false:=beq_eq_false_iff_ne.2 h; rw [this]; simp only [Bool.false_eq_true,if_false]; unfold nX; by_cases h2:t=k
   ·
    subst h2; have:¬ t=s:=fun hh=>h hh.symm; simp [this]
   ·
    have h3:(t == k)=false:=beq_eq_false_iff_ne.2 h2; rw [h3]; simp only [Bool.false_eq_true,if_false]; exact ih
def JJ :List Str→List Str→Bool
 | _,[]=>false
 | seen,s :: r=>seen.contains s || JJ (seen ++ [s]) r
theorem Wd (l:List Str) (hl:l.length < 4611686018427387904):mF l=some (JJ [] l):=by
 unfold mF; have:=fA (F:=fun k s i=>jZ l k i s) (l:=l) (body:=fun _ s1 (y1:List (Str × Int)) r=>if decide (1 < (nX (oQ y1 s1 (bQ ((nX y1 s1) + 1))) s1)) then some true else r (oQ y1 s1 (bQ ((nX y1 s1) + 1)))) (fin:=fun _=>some false) hl (fun k s i=>rfl) []; rw [this]
 have key:∀ (t:List Str) (i:Nat) (y:List (Str × Int)) (seen:List Str),(∀ s,nX y s=if s∈seen then 1 else 0)→
   gP (fun _ s1 (y1:List (Str × Int)) r=>if decide (1 < (nX (oQ y1 s1 (bQ ((nX y1 s1) + 1))) s1)) then some true else r (oQ y1 s1 (bQ ((nX y1 s1) + 1)))) (fun _=>some false) i t y=some (JJ seen t):=by
  intro t
  induction t with
  | nil=>intro i y seen _; rfl
  | cons c t ih=>
   intro i y seen hy; rw [gP,JJ,Kw,if_pos rfl,hy c]; by_cases hc:c∈seen
   ·
    have:bQ 2=2:=by decide
    simp [hc,this]
   ·
    have:bQ ((0:Int) + 1)=1:=by decide
    simp only [hc,if_false,this]; have e:seen.contains c=false:=by simpa using hc
    rw [e]; simp only [Int.lt_irrefl,decide_false,Bool.false_eq_true,if_false,Bool.false_or]; refine ih (i + 1) _ (seen ++ [c]) fun s=>?_; rw [Kw,hy s]; by_cases h1:s=c
    · subst h1; simp
    · simp [h1]
 exact key l 0 [] [] (fun s=>by simp [nX])
theorem MC (l:List Str) (i:Nat) (hi:i < l.length) (hl:l.length < 4611686018427387904) (go:Int→Option Bool):∀ (k j:Nat),i < k + j→j≤i→
  nS l (i:Int) go k (j:Int)=if ((l.take i).drop j).contains l[i] then some true else go ((i + 1:Nat):Int)
 | 0,j,h,h'=>by omega
 | k + 1,j,h,h'=>by
  rw [nS]; by_cases hj:j < i
  ·
   have hlt:j < (l.take i).length:=by simp; omega
   rw [if_pos (by simpa using hj),sU hi,sU (by omega),List.drop_eq_getElem_cons hlt]; simp only [av,List.contains_cons,List.getElem_take]; cases h1:(l[i] == l[j]) with
   | true=>simp
   | false=>
    simp only [Bool.false_eq_true,if_false,Bool.false_or]; rw [BP (by omega)]; exact MC l i hi hl go k (j + 1) (by omega) (by omega)
  ·
   have:j=i:=by omega
   subst this; rw [if_neg (by simp),BP (by omega)]; have:(List.take j l).drop j=[]:=List.drop_eq_nil_of_le (by simp; omega); rw [this]; simp
theorem Kk (l:List Str) (hl:l.length < 4611686018427387904):∀ (k i:Nat),l.length < k + i→i≤l.length→kN l k (i:Int)=some (JJ (l.take i) (l.drop i))
 | 0,i,h,h'=>by omega
 | k + 1,i,h,h'=>by
  rw [kN]; by_cases hi:i < l.length
  ·
   rw [if_pos (by simpa using hi),List.drop_eq_getElem_cons hi,JJ]; have:=MC l i hi hl (kN l k) BIG 0 (by have:=mo; omega) (by omega); rw [show (0:Int)=((0:Nat):Int) from rfl,this,List.drop_zero,Kk l hl k (i + 1) (by omega) (by omega)]; have e:List.take (i + 1) l=List.take i l ++ [l[i]]:=by rw [List.take_add_one,List.getElem?_eq_getElem hi]; rfl
   rw [e]; cases (l.take i).contains l[i] <;> simp
  ·
   have:i=l.length:=by omega
   subst this; simp [JJ]
theorem RH (l:List Str) (hl:l.length < 4611686018427387904):xH l=some (JJ [] l):=by
 have:=Kk l hl BIG 0 (by have:=mo; omega) (by omega); simpa [xH] using this
def wC (e:ah) (level:Nat):Int:=
 if 16 < level then 13 else if !rz e then 1 else if e.kind == 1 && (rM e.value 1 != 0) then rM e.value 1 else if decide (1024 < (e.args.length:Int)) then 3 else if JJ [] e.keys then 7 else 0
theorem Sg (e:ah) (h:e.bulk < 4611686018427387904) (level:Nat):sN e (level:Int)=some (wC e level):=by
 have hk:=Bw e; have hv:=Fg e; unfold sN wC; have h16:decide ((16:Int) < (level:Int))=decide (16 < level):=by congr 1; simp; omega
 rw [h16,zero_eq,(M6 e h).1,Xk e h,Ke (by omega),Wd e.keys (by omega)]; by_cases h0:16 < level
 · simp [h0]
 ·
  simp only [h0,decide_false,Bool.false_eq_true,if_false,av]; have hkd:((decide (e.kind < 1)) || (decide (10 < e.kind)))=!xg e:=by simp [xg]
  have hne:(e.kind != 1)=!(e.kind == 1):=rfl; rw [hkd,hne]; unfold rz; cases h1:xg e with
  | false=>simp
  | true=>
   rw [XL e h1]
   cases h3:(e.kind == 1) <;> cases h4:GJ e.value <;> cases h5:yV e <;> cases h6:vL e <;> cases h7:EF e <;> simp <;>
    (first | done | (split <;> (first | rfl | (split <;> (first | rfl | (split <;> rfl))))))
end Go.Ft
namespace Go.Ft
open Go
attribute [local congr] j3
mutual
def Db :ah→Nat→Int
 | ⟨a,b,c,l,f⟩,level=>if wC ⟨a,b,c,l,f⟩ level != 0 then wC ⟨a,b,c,l,f⟩ level else EX l (level + 1)
def EX :List ah→Nat→Int
 | [],_=>0
 | x :: r,level=>if Db x level != 0 then Db x level else EX r level
end
theorem KO (e:ah) (level:Nat):Db e level=if wC e level != 0 then wC e level else EX e.args (level + 1):=by cases e; rw [Db]
theorem Ct {go:ah→Int→Option Int} {level:Nat}:∀ (l:List ah) (i:Nat),(∀ x∈l,go x ((level + 1:Nat):Int)=some (Db x (level + 1)))→
  gP (fun _ e1 (_:Unit) r=>ak (go e1 ((level + 1:Nat):Int)) fun e2=>if e2 != 0 then some e2 else r ()) (fun _=>some 0) i l ()=some (EX l (level + 1))
 | [],i,_=>by simp [gP,EX]
 | x :: r,i,h=>by
  rw [gP,h x (by simp),EX]; simp only [av]; rw [Ct r (i + 1) (fun y hy=>h y (by simp [hy]))]; split <;> rfl
theorem Gs :∀ (n:Nat) (e:ah) (level:Nat),e.bulk≤n→e.bulk < 4611686018427387904→level≤17→iJ (n + 1) e (level:Int)=some (Db e level)∧kP (n + 1) e (level:Int)=some (Db e level)
 | 0,e,_,h,_,_=>by have:=e.lS; omega
 | n + 1,e,level,h,hB,hlv=>by
  have hl:=EG e; have hv:=Fg e; have hks:=Bw e; have hw:bQ ((level:Int) + 1)=((level + 1:Nat):Int):=BP (by omega); constructor
  ·
   rw [KO]; unfold iJ qC; have:=fA (F:=fun k (_:Unit) i=>mE (iJ (n + 1)) e (level:Int) k i) (l:=e.args) (body:=fun _ e1 _ r=>ak (iJ (n + 1) e1 ((level + 1:Nat):Int)) fun e2=>if e2 != 0 then some e2 else r ()) (fin:=fun _=>some 0) (by omega) (fun k s i=>by rw [←hw]; rfl) (); rw [Sg e hB,this]; simp only [av]; by_cases h0:wC e level=0
   ·
    have ZQ:level≤16:=by
     rcases Nat.lt_or_ge 16 level with h | h
     · unfold wC at h0; simp [h] at h0
     · exact h
    rw [Ct e.args 0 fun x hx=>(Gs n x (level + 1) (by have:=jg hx; omega) (by have:=jg hx; omega) (by omega)).1]; simp [h0]
   · simp [h0]
  ·
   rw [KO]; unfold kP wF; have:=fA (F:=fun k (_:Unit) i=>qy (kP (n + 1)) e (level:Int) k i) (l:=e.args) (body:=fun _ e1 _ r=>ak (kP (n + 1) e1 ((level + 1:Nat):Int)) fun e2=>if e2 != 0 then some e2 else r ()) (fin:=fun _=>some 0) (by omega) (fun k s i=>by rw [←hw]; rfl) (); have h16:decide ((16:Int) < (level:Int))=decide (16 < level):=by congr 1; simp; omega
   rw [QN e hB,RB (by omega),RH e.keys (by omega),this,h16]; by_cases h0:16 < level
   · simp [wC,h0]
   ·
    rw [Ct e.args 0 fun x hx=>(Gs n x (level + 1) (by have:=jg hx; omega) (by have:=jg hx; omega) (by omega)).2]; unfold wC; simp only [h0,decide_false,Bool.false_eq_true,if_false,av]; cases rz e with
    | false=>simp
    | true=>
     simp only [Bool.not_true,Bool.false_eq_true,if_false]; cases h1:(e.kind == 1 && (rM e.value 1 != 0)) with
     | true=>
      have:rM e.value 1≠0:=by simp at h1; exact h1.2
      simp [this]
     | false=>
      simp only [Bool.false_eq_true,if_false]; by_cases h2:(1024:Int) < (e.args.length:Int)
      · simp [h2]
      ·
       simp only [h2,decide_false,Bool.false_eq_true,if_false]; cases JJ [] e.keys <;> simp
def xval (e:ah):Int:=if 4096 < ecnt e then 15 else Db e 1
theorem Um {e:ah} (h:e.bulk < 4611686018427387904):ji e=some (xval e)∧xK e=some (xval e):=by
 obtain ⟨n,hn,hn2⟩:=yh; obtain ⟨c1,c2⟩:=count_eq h; obtain ⟨v1,v2⟩:=Gs n e 1 (by omega) h (by omega); unfold ji xK xval yD Ej; rw [c1,c2,hn]; have:decide ((4096:Int) < (ecnt e:Int))=decide (4096 < ecnt e):=by congr 1; simp; omega
 simp only [av,this]; rw [show (1:Int)=((1:Nat):Int) from rfl,v1,v2]; by_cases h4:4096 < ecnt e <;> simp [h4]
inductive Ty where
 | leaf (k:Int)
 | nest (k:Int) (t:Ty)
namespace Ty
def api :Ty→ay
 | leaf k=>⟨k,[]⟩
 | nest k t=>⟨k,[t.api]⟩
def wf :Ty→Prop
 | leaf k=>0≤k∧k≤7∧k≠5∧k≠6
 | nest k t=>(k=5∨k=6)∧t.wf
def dep :Ty→Nat
 | leaf _=>1
 | nest _ t=>1 + t.dep
def kind :Ty→Int
 | leaf k=>k
 | nest k _=>k
theorem Zf (t:Ty):t.api.kind=t.kind:=by cases t <;> rfl
theorem PN (t:Ty):1≤t.dep:=by cases t <;> simp [dep] <;> omega
end Ty
theorem Ht {k:Int} (h:0≤k∧k≤7):∃ s,pW k=some s∧(s == ([]:Str))=false:=by
 obtain ⟨n,rfl⟩:∃ n:Nat,k=n:=⟨k.toNat,by omega⟩; have hn:n < 8:=by omega
 match n,hn with
 | 0,_=>exact ⟨_,rfl,rfl⟩
 | 1,_=>exact ⟨_,rfl,rfl⟩
 | 2,_=>exact ⟨_,rfl,rfl⟩
 | 3,_=>exact ⟨_,rfl,rfl⟩
 | 4,_=>exact ⟨_,rfl,rfl⟩
 | 5,_=>exact ⟨_,rfl,rfl⟩
 | 6,_=>exact ⟨_,rfl,rfl⟩
 | 7,_=>exact ⟨_,rfl,rfl⟩
theorem SV {k:Int} (h:¬ (0≤k∧k≤7)):pW k=some []:=by
 unfold pW; rw [if_pos (by simp; omega)]
theorem RI :∀ (k level:Nat) (t:ay),18≤k + level→level≤17→∃ c,iw k (level:Int) t=some c∧wH k t (level:Int)=some c∧(c=0→∃ T:Ty,T.wf∧t=T.api∧T.dep + level≤17)
 | 0,level,t,h,h'=>by omega
 | k + 1,level,t,h,h'=>by
  rw [iw,wH,E_]; have h16:decide ((16:Int) < (level:Int))=decide (16 < level):=by congr 1; simp; omega
  rw [h16]; by_cases h0:16 < level
  · exact ⟨13,by simp [h0],by simp [h0],by simp⟩
  ·
   simp only [h0,decide_false,Bool.false_eq_true,if_false]; by_cases hk:0≤t.kind∧t.kind≤7
   ·
    obtain ⟨s,hs,hs2⟩:=Ht hk; have hb:(decide (t.kind < 0) || decide (7 < t.kind))=false:=by simp; omega
    rw [hs,hb]; simp only [av,hs2,iH,Kt,Bool.false_eq_true,if_false]; cases hn:((t.kind == 5) || (t.kind == 6)) with
    | false=>
     simp only [Bool.false_and,Bool.not_false,Bool.true_and,Bool.false_eq_true,if_false,av,if_true]; cases he:t.elem with
     | nil=>
      refine ⟨0,by simp,by simp,fun _=>⟨.leaf t.kind,?_,?_,?_⟩⟩
      · simp at hn; exact ⟨hk.1,hk.2,hn.1,hn.2⟩
      · cases t; simp at he; subst he; rfl
      · simp only [Ty.dep]; omega
     | cons x r=>exact ⟨1,by first | (simp; done) | (simp; omega),by first | (simp; done) | (simp; omega),by simp⟩
    | true=>
     simp only [Bool.true_and,Bool.not_true,Bool.false_and,av,Bool.false_eq_true,if_false]; have hnk:t.kind=5∨t.kind=6:=by simpa using hn
     match he:t.elem with
     | []=>exact ⟨1,by simp,by simp,by simp⟩
     | [x]=>
      obtain ⟨c,c1,c2,c3⟩:=RI k (level + 1) x (by omega) (by omega); have hw:bQ ((level:Int) + 1)=((level + 1:Nat):Int):=BP (by omega); refine ⟨c,?_,?_,fun hc=>?_⟩
      · rw [hw,←c1]; simp [idx]
      · rw [hw,←c2]; simp [idx]
      ·
       obtain ⟨T,w1,w2,w3⟩:=c3 hc; refine ⟨.nest t.kind T,⟨hnk,w1⟩,?_,?_⟩
       · cases t; simp at he; subst he; simp [Ty.api,w2]
       · simp only [Ty.dep]; omega
     | x :: y :: r=>
      have hl:(((x :: y :: r).length:Int) != 1)=true:=by simp only [List.length_cons,bne_iff_ne]; omega
      exact ⟨1,by simp only [hl,if_true,av],by simp only [hl,if_true],by simp⟩
   ·
    have hb:(decide (t.kind < 0) || decide (7 < t.kind))=true:=by simp; omega
    rw [SV hk,hb]; exact ⟨1,by simp,by simp,by simp⟩
theorem Vt :∀ (T:Ty) (k level:Nat),T.wf→T.dep + level≤17→18≤k + level→iw k (level:Int) T.api=some 0
 | .leaf a,0,level,_,h,h'=>by simp only [Ty.dep] at h; omega
 | .leaf a,k + 1,level,hw,h,h'=>by
  simp only [Ty.dep] at h; have h16:decide ((16:Int) < (level:Int))=false:=decide_eq_false (by omega); obtain ⟨s,hs,hs2⟩:=Ht (k:=a) ⟨hw.1,hw.2.1⟩; have hn:((a == 5) || (a == 6))=false:=by simp; exact ⟨hw.2.2.1,hw.2.2.2⟩
  simp [iw,h16,Ty.api,hs,beq_eq_false_iff_ne.1 hs2,iH,hn]
 | .nest a T,0,level,_,h,h'=>by simp only [Ty.dep] at h; have:=T.PN; omega
 | .nest a T,k + 1,level,hw,h,h'=>by
  simp only [Ty.dep] at h; have hd:=T.PN; have h16:decide ((16:Int) < (level:Int))=false:=decide_eq_false (by omega); have hn:((a == 5) || (a == 6))=true:=by simpa using hw.1
  obtain ⟨s,hs,hs2⟩:=Ht (k:=a) (by rcases hw.1 with h | h <;> omega); have hw64:bQ ((level:Int) + 1)=((level + 1:Nat):Int):=BP (by omega); have:=Vt T k (level + 1) hw.2 (by omega) (by omega); rw [←this,←hw64]; simp [iw,h16,Ty.api,hs,beq_eq_false_iff_ne.1 hs2,iH,hn,idx]
def Og (t:ay):Int:=(jP t).getD 0
theorem Uq (t:ay):jP t=some (Og t)∧El t=some (Og t)∧(Og t=0→∃ T:Ty,T.wf∧t=T.api∧T.dep≤16):=by
 obtain ⟨c,c1,c2,c3⟩:=RI BIG 1 t (by have:=mo; omega) (by omega); have e1:jP t=some c:=c1; have e2:El t=some c:=c2; have:Og t=c:=by unfold Og; rw [e1]; rfl
 rw [this]; exact ⟨e1,e2,fun h=>by obtain ⟨T,a,b,d⟩:=c3 h; exact ⟨T,a,b,by omega⟩⟩
theorem Uo {T:Ty} (h:T.wf) (hd:T.dep≤16):Og T.api=0:=by
 have:=Vt T BIG 1 h (by omega) (by have:=mo; omega); have e1:jP T.api=some 0:=this; unfold Og; rw [e1]; rfl
end Go.Ft
namespace Go.Ft
open Go
attribute [local congr] j3
def ZT :ay:=ay.mk 0 []
def sc (k:Int):Ty:=.leaf k
def Y6 (x:Option (ay × Bool)):Option (ay × Int):=
 iV x fun x6 ok1=>if !ok1 then some (ZT,9) else ak (El x6) fun x7=>if x7 != 0 then some (ZT,13) else some (x6,0)
def RES (x y:Option (ay × Int)):Prop:=∃ (T:Ty) (c:Int),T.wf∧T.dep≤16∧(c≠0→T=sc 0)∧x=some (T.api,c)∧y=some (T.api,c)
theorem RES.mk {x:Option (ay × Int)} {y:Option (ay × Bool)} (T:Ty) (b:Bool) (hx:x=some (if b then (T.api,0) else (ZT,9))) (hy:y=some (T.api,b)) (hw:b=true→T.wf∧T.dep≤16):RES x (Y6 y):=by
 subst hx hy; unfold Y6; cases b with
 | false=>exact ⟨sc 0,9,by simp [sc,Ty.wf],by simp [sc,Ty.dep],fun _=>rfl,rfl,rfl⟩
 | true=>
  obtain ⟨h1,h2⟩:=hw rfl; refine ⟨T,0,h1,h2,fun h=>absurd rfl h,rfl,?_⟩; simp only [C9,Bool.not_true,Bool.false_eq_true,if_false,(Uq _).2.1,Uo h1 h2]; rfl
end Go.Ft
namespace Go.Ft
open Go
attribute [local congr] j3
theorem Oc {v:aj} {level:Nat} (h:lD v level=0):level≤16∧0≤v.kind∧v.kind≤5∧(v.kind=4∨v.kind=5→v.aW=[]→level≠16):=by
 unfold lD at h; by_cases h0:16 < level
 · simp [h0] at h
 ·
  rw [if_neg h0] at h; cases h1:(decide (v.kind < 0) || decide (5 < v.kind) || !uX v) with
  | true=>rw [h1] at h; simp at h
  | false=>
   rw [h1] at h; simp only [Bool.or_eq_false_iff,decide_eq_false_iff_not] at h1; refine ⟨by omega,by omega,by omega,fun hk hl h16=>?_⟩
   have e1:((((v.kind == 4) || (v.kind == 5)) && ((v.aW.length:Int) == 0)) && (level == 16))=true:=by
    rw [hl,h16]; rcases hk with hk | hk <;> simp [hk]
   rw [e1] at h; simp only [Bool.false_eq_true,if_false,if_true] at h; split at h
   · omega
   ·
    split at h
    · omega
    · split at h <;> omega
theorem Ki :∀ {l:List aj} {level:Nat},wD l level=0→∀ x∈l,rM x level=0
 | [],_,_,x,hx=>by cases hx
 | y :: r,level,h,x,hx=>by
  rw [wD] at h; by_cases hy:rM y level=0
  ·
   rw [if_neg (by simpa using hy)] at h; rcases List.mem_cons.1 hx with rfl | hx
   · exact hy
   · exact Ki h x hx
  · rw [if_pos (by simpa using hy)] at h; exact absurd h hy
theorem Qe {v:aj} {level:Nat} (h:rM v level=0):lD v level=0∧∀ x∈v.aW,rM x (level + 1)=0:=by
 rw [Gb] at h; by_cases hn:lD v level=0
 ·
  rw [if_neg (by simpa using hn)] at h; exact ⟨hn,Ki h⟩
 · rw [if_pos (by simpa using hn)] at h; exact absurd h hn
end Go.Ft
namespace Go.Ft
open Go
attribute [local congr] j3
theorem Ka :∀ {l:List ah} {level:Nat},EX l level=0→∀ x∈l,Db x level=0
 | [],_,_,x,hx=>by cases hx
 | y :: r,level,h,x,hx=>by
  rw [EX] at h; by_cases hy:Db y level=0
  ·
   rw [if_neg (by simpa using hy)] at h; rcases List.mem_cons.1 hx with rfl | hx
   · exact hy
   · exact Ka h x hx
  · rw [if_pos (by simpa using hy)] at h; exact absurd h hy
theorem Gt {e:ah} {level:Nat} (h:wC e level=0):rz e=true∧(e.kind=1→rM e.value 1=0)∧e.args.length≤1024:=by
 unfold wC at h; split at h
 · omega
 ·
  cases h1:rz e with
  | false=>rw [h1] at h; simp at h
  | true=>
   rw [h1] at h; simp only [Bool.not_true,Bool.false_eq_true,if_false] at h; by_cases h2:(e.kind == 1 && (rM e.value 1 != 0))=true
   ·
    rw [if_pos h2] at h; simp [h] at h2
   ·
    rw [if_neg h2] at h; refine ⟨rfl,fun hk=>?_,?_⟩
    ·
     simp only [Bool.and_eq_true,beq_iff_eq,bne_iff_ne,not_and] at h2; have:=h2 hk; simpa using this
    ·
     split at h
     · omega
     · rename_i h3; simp only [decide_eq_true_eq] at h3; omega
theorem J_ {e:ah} {level:Nat} (h:Db e level=0):wC e level=0∧∀ x∈e.args,Db x (level + 1)=0:=by
 rw [KO] at h; by_cases hn:wC e level=0
 ·
  rw [if_neg (by simpa using hn)] at h; exact ⟨hn,Ka h⟩
 · rw [if_pos (by simpa using hn)] at h; exact absurd h hn
theorem DL {e:ah} (h:rz e=true):xg e=true∧yV e=true∧vL e=true:=by
 unfold rz at h; simp only [Bool.and_eq_true] at h; exact ⟨h.1.1.1.1,h.1.1.2,h.1.2⟩
theorem len1 {α:Type} {l:List α} (h:l.length=1):∃ a,l=[a]:=by
 match l,h with
 | [a],_=>exact ⟨a,rfl⟩
theorem len2 {α:Type} {l:List α} (h:l.length=2):∃ a b,l=[a,b]:=by
 match l,h with
 | [a,b],_=>exact ⟨a,b,rfl⟩
theorem ZA {α:Type} {l:List α} (h:l.length=3):∃ a b c,l=[a,b,c]:=by
 match l,h with
 | [a,b,c],_=>exact ⟨a,b,c,rfl⟩
end Go.Ft
namespace Go.Ft
open Go
attribute [local congr] j3
theorem P_ {e:ah} (h:xval e=0):Db e 1=0:=by
 unfold xval at h; split at h
 · cases h
 · exact h
end Go.Ft
namespace Go.Ft
open Go
attribute [local congr] j3
def ZV :aj:=aj.mk 0 false 0 ([]:Str) [] []
end Go.Ft
namespace Go.Ft
open Go
attribute [local congr] j3
mutual
def Pw :aj→Nat
 | ⟨k,_,_,_,l,_⟩=>if (k == 4) || (k == 5) then Lh l 2 else 1
def Lh :List aj→Nat→Nat
 | [],n=>n
 | x :: r,n=>Lh r (max n (1 + Pw x))
end
theorem Ow (v:aj):Pw v=if (v.kind == 4) || (v.kind == 5) then Lh v.aW 2 else 1:=by cases v; rw [Pw]
theorem Lg :∀ (l:List aj) (n m:Nat),Lh l n≤m↔n≤m∧∀ x∈l,1 + Pw x≤m
 | [],n,m=>by simp [Lh]
 | x :: r,n,m=>by
  rw [Lh,Lg r]; simp only [List.mem_cons,forall_eq_or_imp,Nat.max_le]; exact ⟨fun h=>⟨h.1.1,h.1.2,h.2⟩,fun h=>⟨⟨h.1,h.2.1⟩,h.2.2⟩⟩
theorem UU (l:List aj) (n:Nat):n≤Lh l n:=((Lg l n _).1 (Nat.le_refl _)).1
theorem Pv (v:aj):1≤Pw v:=by
 rw [Ow]; split
 · have:=UU v.aW 2; omega
 · omega
mutual
def RA :aj→Bool
 | ⟨a,b,c,d,l,f⟩=>(lD ⟨a,b,c,d,l,f⟩ 1 == 0) && Rz l
def Rz :List aj→Bool
 | []=>true
 | x :: r=>RA x && Rz r
end
theorem MB :∀ l:List aj,Rz l=true↔∀ x∈l,RA x=true
 | []=>by simp [Rz]
 | x :: r=>by simp [Rz,MB r]
theorem Cv (v:aj):RA v=true↔lD v 1=0∧∀ x∈v.aW,RA x=true:=by
 cases v; rw [RA,Bool.and_eq_true,MB]; simp
theorem Kg (v:aj) (level:Nat):lD v level=if 16 < level then 13 else if lD v 1≠0 then lD v 1 else if ((((v.kind == 4) || (v.kind == 5)) && ((v.aW.length:Int) == 0)) && level == 16)=true then 13 else 0:=by
 unfold lD; have e1:((1:Nat) == 16)=false:=rfl; rw [e1]; generalize ((decide (v.kind < 0)) || (decide (5 < v.kind)) || !uX v)=c1; generalize ((decide (v.iG < (-9007199254740992))) || (decide (9007199254740992 < v.iG)))=c2; generalize (((decide (4096 < (v.jK.length:Int))) || (decide (1024 < (v.aW.length:Int)))) || (decide (1024 < (v.keys.length:Int))))=c3; generalize (v.kind == 5 && !(((v.keys.length:Int) == (v.aW.length:Int)) && Jg none v.keys))=c4; generalize ((((v.kind == 4) || (v.kind == 5)) && ((v.aW.length:Int) == 0)) && level == 16)=c5; by_cases h:16 < level
 · rw [if_pos h,if_pos h]
 ·
  rw [if_neg h,if_neg h]; cases c1 <;> cases c2 <;> cases c3 <;> cases c4 <;> simp
theorem Qd {v:aj} (h:lD v 1=0):uX v=true:=by
 unfold lD at h; cases hp:uX v with
 | true=>rfl
 | false=>simp [hp] at h
theorem Ry {v:aj} (h:RA v=true) (hk:((v.kind == 4) || (v.kind == 5))=false):v.aW=[]:=by
 have hp:=Qd ((Cv v).1 h).1; unfold uX at hp; simp only [Bool.and_eq_true,hk,Bool.false_or,beq_iff_eq] at hp; exact List.eq_nil_of_length_eq_zero (by omega)
theorem Kj :∀ (l:List aj) (level:Nat),(∀ x∈l,rM x level=if level + Pw x≤17 then 0 else 13)→wD l level=if ∀ x∈l,level + Pw x≤17 then 0 else 13
 | [],level,_=>by simp [wD]
 | x :: r,level,h=>by
  rw [wD,h x (by simp),Kj r level fun y hy=>h y (by simp [hy])]; by_cases h1:level + Pw x≤17
  · simp [h1]
  · simp [h1]
theorem GK :∀ (n:Nat) (v:aj) (level:Nat),v.bulk≤n→RA v=true→1≤level→rM v level=if level + Pw v≤17 then 0 else 13
 | 0,v,_,h,_,_=>by have:=v.lS; omega
 | n + 1,v,level,h,hv,hl=>by
  obtain ⟨h1,h2⟩:=(Cv v).1 hv; have hp:=Pv v
  have hn:lD v level=if 16 < level then 13 else if ((((v.kind == 4) || (v.kind == 5)) && ((v.aW.length:Int) == 0)) && level == 16)=true then 13 else 0:=by
   rw [Kg,h1]; simp
  rw [Gb]; by_cases h16:16 < level
  ·
   rw [if_pos h16] at hn; rw [hn,if_pos (by simp),if_neg (by omega)]
  ·
   rw [if_neg h16] at hn; rw [Kj v.aW (level + 1) fun x hx=>GK n x (level + 1) (by have:=lF hx; omega) (h2 x hx) (by omega)]; cases hk:((v.kind == 4) || (v.kind == 5)) with
   | false=>
    have he:=Ry hv hk; rw [hk] at hn; have hl1:Pw v=1:=by rw [Ow,hk]; rfl
    simp only [Bool.false_and,Bool.false_eq_true,if_false] at hn; rw [hn,hl1,he,if_neg (by simp),if_pos (by simp),if_pos (by omega)]
   | true=>
    have hl1:Pw v=Lh v.aW 2:=by rw [Ow,hk]; rfl
    rw [hk] at hn; simp only [Bool.true_and] at hn
    have key:level + Lh v.aW 2≤17↔level≤15∧∀ x∈v.aW,level + 1 + Pw x≤17:=by
     have:=Lg v.aW 2 (17 - level); constructor
     ·
      intro h; obtain ⟨a,b⟩:=this.1 (by omega); exact ⟨by omega,fun x hx=>by have:=b x hx; omega⟩
     ·
      rintro ⟨a,b⟩; have:=this.2 ⟨by omega,fun x hx=>by have:=b x hx; omega⟩; omega
    rw [hl1]; by_cases he:v.aW=[]
    ·
     rw [if_pos (c:=∀ x∈v.aW,level + 1 + Pw x≤17) (by simp [he])]; by_cases nR:level=16
     ·
      rw [if_pos (by simp [he,nR])] at hn; rw [hn,if_pos (by simp),if_neg (fun h=>by have:=key.1 h; omega)]
     ·
      rw [if_neg (by simp [nR])] at hn; rw [hn,if_neg (by simp),if_pos (key.2 ⟨by omega,by simp [he]⟩)]
    ·
     have hpos:0 < v.aW.length:=List.length_pos_iff.2 he; rw [if_neg (by simp [he])] at hn; rw [hn,if_neg (by simp)]; obtain ⟨x,hx⟩:=List.exists_mem_of_ne_nil _ he; have hpx:=Pv x; refine j3 (propext (Iff.trans ?_ key.symm)); exact ⟨fun h=>⟨by have:=h x hx; omega,h⟩,fun h=>h.2⟩
theorem Rv :∀ (n:Nat) (v:aj) (level:Nat),v.bulk≤n→rM v level=0→RA v=true
 | 0,v,_,h,_=>by have:=v.lS; omega
 | n + 1,v,level,h,hc=>by
  obtain ⟨h1,h2⟩:=Qe hc; refine (Cv v).2 ⟨?_,fun x hx=>Rv n x (level + 1) (by have:=lF hx; omega) (h2 x hx)⟩; rw [Kg] at h1; split at h1
  · omega
  ·
   split at h1
   · exact h1
   · rename_i hq; exact Decidable.not_not.1 hq
def VV (v:aj):Prop:=RA v=true∧Pw v≤16
theorem XM (v:aj):rM v 1=0↔VV v:=by
 constructor
 ·
  intro h; have ho:=Rv _ v 1 (Nat.le_refl _) h; refine ⟨ho,?_⟩; rw [GK _ v 1 (Nat.le_refl _) ho (by omega)] at h; split at h
  · omega
  · cases h
 ·
  rintro ⟨h1,h2⟩; rw [GK _ v 1 (Nat.le_refl _) h1 (by omega),if_pos (by omega)]
theorem Un {v:aj} (h:RA v=true):v.jK.length≤4096∧v.aW.length≤1024∧v.keys.length≤1024∧-9007199254740992≤v.iG∧v.iG≤9007199254740992:=by
 have h1:=((Cv v).1 h).1; unfold lD at h1; rw [if_neg (by omega)] at h1; split at h1
 · cases h1
 ·
  split at h1
  · cases h1
  ·
   rename_i h2; split at h1
   · cases h1
   ·
    rename_i h3; simp only [Bool.or_eq_true,decide_eq_true_eq,not_or,Int.not_lt] at h2 h3; omega
end Go.Ft
namespace Go.Ft
open Go
attribute [local congr] j3
theorem SK {α:Type} {l m:List α} (h:l.length + m.length≤zl):app l m=some (l ++ m):=bq h
end Go.Ft
namespace Go.Ft
open Go
attribute [local congr] j3
def dg (u:Nat):UInt8:=UInt8.ofNat (48 + u)
theorem Xy {u:Nat} (h:u < 10):(dg u).toNat=48 + u:=by
 unfold dg; rw [UInt8.toNat_ofNat',Nat.mod_eq_of_lt (by omega)]
theorem KG :∀ (k m u:Nat),u < 10 ^ k→u < 10 ^ m→0 < k→0 < m→wu k u=wu m u
 | 0,_,_,_,_,h,_=>by omega
 | _,0,_,_,_,_,h=>by omega
 | k + 1,m + 1,u,h,h',_,_=>by
  rw [wu,wu]; by_cases hu:u < 10
  · rw [if_pos hu,if_pos hu]
  ·
   rw [if_neg hu,if_neg hu]
   have hk:0 < k:=by
    rcases Nat.eq_zero_or_pos k with h0 | h0
    · subst h0; omega
    · exact h0
   have hm:0 < m:=by
    rcases Nat.eq_zero_or_pos m with h0 | h0
    · subst h0; omega
    · exact h0
   rw [KG k m (u / 10) (by rw [Nat.pow_succ] at h; omega) (by rw [Nat.pow_succ] at h'; omega) hk hm]
theorem DU :∀ (k u:Nat),u < 10 ^ k→0 < k→(wu k u).length≤k
 | 0,_,_,h=>by omega
 | k + 1,u,h,_=>by
  rw [wu]; split
  · simp
  ·
   rename_i hu
   have hk:0 < k:=by
    rcases Nat.eq_zero_or_pos k with h0 | h0
    · subst h0; omega
    · exact h0
   have:=DU k (u / 10) (by rw [Nat.pow_succ] at h; omega) hk; simp only [List.length_append,List.length_singleton]; omega
theorem Ip {u:Nat} (h:u < 10):wu 20 u=[dg u]:=by rw [wu,if_pos h]; rfl
theorem Nr {u:Nat} (h:¬ u < 10) (hb:u < 100000000000000000000):wu 20 u=wu 20 (u / 10) ++ [dg (u % 10)]:=by
 have e:wu 20 u=wu 19 (u / 10) ++ [dg (u % 10)]:=by rw [wu,if_neg h]; rfl
 rw [e,KG 19 20 (u / 10) (by have:(10:Nat) ^ 19=10000000000000000000:=(by decide); omega) (by have:(10:Nat) ^ 20=100000000000000000000:=(by decide); omega) (by omega) (by omega)]
attribute [local irreducible] wu
end Go.Ft
namespace Go.Ft
open Go
attribute [local congr] j3
def toX {α:Type} (p:α × Int):iT aY α:=if p.2=0 then .ok p.1 else .bad ⟨p.2⟩
def okV (v:aj):aj × Int:=(v,0)
def Zp (c:Int):aj × Int:=(ZV,c)
@[simp] theorem Zv (v:aj):toX (okV v)=.ok v:=rfl
def GV (p:aj × Int) (N:Nat):Prop:=(p.2=0→VV p.1∧p.1.bulk≤N)∧(p.2≠0→p.1=ZV)
theorem GV.ok {v:aj} {N:Nat} (h:VV v) (hb:v.bulk≤N):GV (okV v) N:=⟨fun _=>⟨h,hb⟩,fun h=>absurd rfl h⟩
end Go.Ft
namespace Go.Ft
open Go
attribute [local congr] j3
theorem Td {n:Int} (h:-9007199254740992≤n∧n≤9007199254740992):(Cb n).length≤21:=by
 unfold Cb; split
 ·
  have:=DU 20 n.natAbs (by have:(10:Nat) ^ 20=100000000000000000000:=(by decide); omega) (by omega); simp only [List.length_cons]; omega
 ·
  have:=DU 20 n.toNat (by have:(10:Nat) ^ 20=100000000000000000000:=(by decide); omega) (by omega); omega
theorem Gn {u:Nat} (h:u < 10):Ft.byteOf ((48 + u:Nat):Int)=dg u:=by
 apply UInt8.toNat_inj.1; have:((byteOf ((48 + u:Nat):Int)).toNat:Int)=((48 + u:Nat):Int):=Q9 (by omega) (by omega); rw [Xy h]; omega
theorem Tz :∀ (k u:Nat),u < 10 ^ k→u < 100000000000000000000→0 < k→u≤9223372036854775807→fV k (u:Int)=some (wu 20 u)∧(0 < u→fV k (-(u:Int))=some (45 :: wu 20 u))
 | 0,_,_,_,h,_=>by omega
 | k + 1,u,h,h20,_,hm=>by
  have hL:zl=4294967296:=rfl; rw [fV,fV,mP,mP]; by_cases hu:u < 10
  ·
   constructor
   · rw [if_neg (by simp),if_pos (by simp; omega),KU (by omega),Ip hu,show (48:Int) + (u:Int)=((48 + u:Nat):Int) from by omega,Gn hu]
   ·
    intro hp; rw [if_pos (by simp; omega),if_pos (by simp; omega),KU (by omega),Ip hu,show (48:Int) - -(u:Int)=((48 + u:Nat):Int) from by omega,Gn hu,SK (by simp; omega)]; rfl
  ·
   have hk:0 < k:=by
    rcases Nat.eq_zero_or_pos k with h0 | h0
    · subst h0; omega
    · exact h0
   obtain ⟨i1,i2⟩:=Tz k (u / 10) (by rw [Nat.pow_succ] at h; omega) (by omega) hk (by omega); have hlen:=DU 20 (u / 10) (by have:(10:Nat) ^ 20=100000000000000000000:=(by decide); omega) (by omega); constructor
   ·
    rw [if_neg (by simp),if_neg (by simp; omega),show ((u:Int).tdiv 10)=((u / 10:Nat):Int) from rfl,show ((u:Int).tmod 10)=((u % 10:Nat):Int) from rfl,KU (by omega),i1,av,KU (by omega),
     show (48:Int) + ((u % 10:Nat):Int)=((48 + u % 10:Nat):Int) from by omega,Gn (by omega),SK (by simp; omega),Nr hu h20]
   ·
    intro hp
    rw [if_pos (by simp; omega),if_neg (by simp; omega),Int.neg_tdiv,Int.neg_tmod,show ((u:Int).tdiv 10)=((u / 10:Nat):Int) from rfl,show ((u:Int).tmod 10)=((u % 10:Nat):Int) from rfl,KU (n:=-((u / 10:Nat):Int)) (by omega),i2 (by omega),av,KU (by omega),
     show (48:Int) - -((u % 10:Nat):Int)=((48 + u % 10:Nat):Int) from by omega,Gn (by omega),SK (by simp; omega),Nr hu h20,List.cons_append]
theorem DV :∀ (k m:Nat) (n:Int) (r:Str),k≤m→fV k n=some r→fV m n=some r
 | 0,_,_,_,_,h=>by cases h
 | k + 1,0,_,_,h,_=>by omega
 | k + 1,m + 1,n,r,hk,h=>by
  rw [fV,mP] at h ⊢; split at h
  ·
   rename_i h1; rw [if_pos h1]; split at h
   ·
    rename_i h2; rw [if_pos h2]; exact h
   ·
    rename_i h2; rw [if_neg h2]; obtain ⟨x,hx,h⟩:=BK h; rw [DV k m _ _ (by omega) hx,av]; exact h
  ·
   rename_i h1; rw [if_neg h1]; split at h
   ·
    rename_i h2; rw [if_pos h2]; exact h
   ·
    rename_i h2; rw [if_neg h2]; obtain ⟨x,hx,h⟩:=BK h; rw [DV k m _ _ (by omega) hx,av]; exact h
theorem OH {n:Int} (h:-9007199254740992≤n∧n≤9007199254740992):wJ n=some (Cb n):=by
 have e20:(10:Nat) ^ 20=100000000000000000000:=by decide
 unfold wJ Cb; by_cases hn:n < 0
 ·
  rw [if_pos hn]; have:=(Tz 20 n.natAbs (by omega) (by omega) (by omega) (by omega)).2 (by omega); rw [show -((n.natAbs:Nat):Int)=n from by omega] at this; exact DV 20 BIG n _ (by have:=mo; omega) this
 ·
  rw [if_neg hn]; have:=(Tz 20 n.toNat (by omega) (by omega) (by omega) (by omega)).1; rw [show ((n.toNat:Nat):Int)=n from by omega] at this; exact DV 20 BIG n _ (by have:=mo; omega) this
theorem QH {n:Int} (h:-9007199254740992≤n∧n≤9007199254740992):strconv_Itoa n=some (Cb n):=by
 unfold strconv_Itoa; rw [if_pos (by omega)]
end Go.Ft
namespace Go.Ft
open Go
attribute [local congr] j3
theorem CR :∀ (l:List Str) (x t:Str),fB (l ++ [x]) t=if l=[] then x else fB l t ++ (t ++ x)
 | [],x,t=>by simp [fB]
 | [a],x,t=>by simp [fB]
 | a :: b :: r,x,t=>by
  have ih:=CR (b :: r) x t; rw [List.cons_append,List.cons_append,fB,←List.cons_append,ih,if_neg (by simp),if_neg (by simp),fB]; simp
end Go.Ft
namespace Go.Ft
open Go
attribute [local congr] j3
def Zc (b:aj × Int):aj × Int:=if b.2≠0 then Zp b.2 else if b.1.kind≠1 then Zp 9 else b
def pG (n:Str) (a b:aj × Int):aj × Int:=if a.2≠0 then Zp a.2 else if a.1.kind≠1 then Zp 9 else if a.1.jd=decide (n=[124,124]) then a else Zc b
theorem KF :∀ l:List ah,zy l=(l.map ecnt).sum
 | []=>rfl
 | x :: r=>by rw [zy,KF r,List.map_cons,List.sum_cons]
def SE (e:ah):Prop:=e.bulk≤1099511627776∧ecnt e≤4096
theorem SE.arg {e x:ah} (h:SE e) (hx:x∈e.args):SE x:=by
 obtain ⟨h1,h2⟩:=h; have h3:=jg hx; have h4:=DT e; have h5:=wM (f:=ecnt) hx; rw [KF] at h4; exact ⟨by omega,by omega⟩
end Go.Ft
namespace Go.Ft
open Go
attribute [local congr] j3
theorem Ih {s:Str} {i:Nat} (h:i < s.length):s.drop i=s.getD i 0 :: s.drop (i + 1):=by
 rw [List.drop_eq_getElem_cons h,List.getD_eq_getElem?_getD,List.getElem?_eq_getElem h,Option.getD_some]
theorem MG {s:Str} {i:Nat} (h:i < s.length):(s.take (i + 1)).drop i=[s.getD i 0]:=by
 rw [List.drop_take,Ih h]; rw [show i + 1 - i=1 from by omega]; rfl
def Mf :Str:=[48,49,50,51,52,53,54,55,56,57,97,98,99,100,101,102]
def Py (n:Nat):UInt8:=Mf.getD n 0
theorem Pz :∀ n,n < 16→sl Mf ((n:Nat):Int) ((n + 1:Nat):Int)=some [Py n]:=by decide
theorem DF :∀ n,n < 16→idx Mf ((n:Nat):Int)=some (Py n):=by decide
def zK (c:UInt8):Str:=
 if c.toNat=34 then [92,34] else if c.toNat=92 then [92,92] else if c.toNat=10 then [92,110] else if c.toNat=9 then [92,116]
 else if 32≤c.toNat∧c.toNat≤126 then [c] else [92,120,Py (c.toNat / 16),Py (c.toNat % 16)]
theorem DX (c:UInt8):(zK c).length≤4:=by
 unfold zK
 repeat' split
 all_goals simp
def K7 (s:Str):Str:=34 :: (s.flatMap zK ++ [34])
theorem QO (s:Str):(s.flatMap zK).length≤4 * s.length:=by
 induction s with
 | nil=>simp
 | cons c r ih=>have:=DX c; simp only [List.flatMap_cons,List.length_append,List.length_cons]; omega
theorem He (s:Str):(K7 s).length≤4 * s.length + 2:=by
 have:=QO s; simp only [K7,List.length_cons,List.length_append,List.length_nil]; omega
theorem BH (c:UInt8):(c / 16).toNat=c.toNat / 16:=by rw [UInt8.toNat_div]; rfl
theorem BG (c:UInt8):(c % 16).toNat=c.toNat % 16:=by rw [UInt8.toNat_mod]; rfl
theorem Jc {c:UInt8} (h:c.toNat < 255):(c + 1).toNat=c.toNat + 1:=by
 rw [UInt8.toNat_add]; have:(1:UInt8).toNat=1:=rfl; omega
theorem Qq (c:UInt8):oM c=some (zK c):=by
 have hc:=c.toNat_lt; unfold oM zK; by_cases h1:c.toNat=34
 · rw [if_pos (beq_iff_eq.2 (by omega)),if_pos h1]
 ·
  rw [if_neg (fun h=>h1 (by have:=beq_iff_eq.1 h; omega)),if_neg h1]; by_cases h2:c.toNat=92
  · rw [if_pos (beq_iff_eq.2 (by omega)),if_pos h2]
  ·
   rw [if_neg (fun h=>h2 (by have:=beq_iff_eq.1 h; omega)),if_neg h2]; by_cases h3:c.toNat=10
   · rw [if_pos (beq_iff_eq.2 (by omega)),if_pos h3]
   ·
    rw [if_neg (fun h=>h3 (by have:=beq_iff_eq.1 h; omega)),if_neg h3]; by_cases h4:c.toNat=9
    · rw [if_pos (beq_iff_eq.2 (by omega)),if_pos h4]
    ·
     rw [if_neg (fun h=>h4 (by have:=beq_iff_eq.1 h; omega)),if_neg h4]; by_cases h5:32≤c.toNat∧c.toNat≤126
     · rw [if_pos (by simp; omega),if_pos h5]
     ·
      rw [if_neg (by simp; omega),if_neg h5]; rw [BH,BG]; show ak (idx Mf _) _=_; rw [DF _ (by omega),av]; show ak (idx Mf _) _=_; rw [DF _ (by omega),av]
theorem CV {s:Str} {i:Nat} (h:i < s.length):(s.drop i).flatMap zK=zK (s.getD i 0) ++ (s.drop (i + 1)).flatMap zK:=by
 rw [Ih h,List.flatMap_cons]
theorem MP {s:Str} (hs:s.length≤268435456):∀ (k i:Nat) (b:Str),s.length < k + i→i≤s.length→b.length≤1 + 4 * i→
  nU s k b (i:Int)=some (b ++ (s.drop i).flatMap zK ++ [34])
 | 0,i,b,h,h',hb=>by omega
 | k + 1,i,b,h,h',hb=>by
  rw [nU]; by_cases hi:i < s.length
  ·
   have hx:idx s (i:Int)=some (s.getD i 0):=by
    rw [sU hi,List.getD_eq_getElem?_getD,List.getElem?_eq_getElem hi]; rfl
   have hcl:=DX (s.getD i 0); have w1:bQ ((i:Int) + 1)=((i + 1:Nat):Int):=by rw [Ob (by omega) (by omega)]; omega
   rw [if_pos (decide_eq_true (by omega)),hx,av,Qq,av,bq (by simp only [zl]; omega),av,w1]; rw [MP hs k (i + 1) _ (by omega) (by omega) (by simp only [List.length_append]; omega),CV hi]; simp only [List.append_assoc]
  ·
   rw [if_neg (by simp; omega),List.drop_eq_nil_of_le (by omega),bq (by simp [zl]; omega)]; simp
theorem GX {s:Str} (hs:s.length≤268435456):iD s=some (K7 s):=by
 unfold iD; have:=MP hs BIG 0 [34] (by simp only [BIG]; omega) (Nat.zero_le _) (by simp); rw [show (0:Int)=((0:Nat):Int) from rfl,this]; rfl
theorem Na {s:Str} (hs:s.length≤268435456):∀ (k i:Nat) (b:Str),s.length < k + i→i≤s.length→b.length≤1 + 4 * i→
  fK s k (i:Int) b=some (b ++ (s.drop i).flatMap zK ++ [34])
 | 0,i,b,h,h',hb=>by omega
 | k + 1,i,b,h,h',hb=>by
  rw [fK]; by_cases hi:i < s.length
  ·
   have hx:idx s (i:Int)=some (s.getD i 0):=by
    rw [sU hi,List.getD_eq_getElem?_getD,List.getElem?_eq_getElem hi]; rfl
   have hsl:sl s (i:Int) ((i + 1:Nat):Int)=some [s.getD i 0]:=by
    rw [MK (by omega) (by omega) (by omega)]; exact congrArg some (MG hi)
   have w1:bQ ((i:Int) + 1)=((i + 1:Nat):Int):=by rw [Ob (by omega) (by omega)]; omega
   have hcl:=DX (s.getD i 0)
   have step:∀ x:Str,x=zK (s.getD i 0)→ak (app b x) (fun b'=>fK s k (bQ ((i:Int) + 1)) b')=some (b ++ (s.drop i).flatMap zK ++ [34]):=by
    intro x hx; subst hx; rw [bq (by simp only [zl]; omega),av,w1,Na hs k (i + 1) _ (by omega) (by omega) (by simp only [List.length_append]; omega),CV hi]; simp only [List.append_assoc]
   rw [if_pos (decide_eq_true (by omega)),hx,av]; rw [w1,hsl,av,←w1]; generalize s.getD i 0=c at *; have hc:=c.toNat_lt; by_cases h1:c.toNat=34∨c.toNat=92
   ·
    rw [if_pos (by simp only [Bool.or_eq_true,beq_iff_eq]; omega),bq (by simp [zl]),av]; apply step; rcases h1 with h | h
    ·
     have:c=34:=UInt8.toNat_inj.1 (by rw [h]; rfl); subst this; rfl
    ·
     have:c=92:=UInt8.toNat_inj.1 (by rw [h]; rfl); subst this; rfl
   ·
    rw [if_neg (by simp only [Bool.or_eq_true,beq_iff_eq]; omega)]; unfold zK at step; rw [if_neg (by omega),if_neg (by omega)] at step; by_cases h3:c.toNat=10
    ·
     rw [if_pos (beq_iff_eq.2 (by omega))]; rw [if_pos h3] at step; exact step _ rfl
    ·
     rw [if_neg (fun h=>h3 (by have:=beq_iff_eq.1 h; omega))]; rw [if_neg h3] at step; by_cases h4:c.toNat=9
     ·
      rw [if_pos (beq_iff_eq.2 (by omega))]; rw [if_pos h4] at step; exact step _ rfl
     ·
      rw [if_neg (fun h=>h4 (by have:=beq_iff_eq.1 h; omega))]; rw [if_neg h4] at step; by_cases h5:32≤c.toNat∧c.toNat≤126
      ·
       rw [if_neg (by simp; omega)]; rw [if_pos h5] at step; exact step _ rfl
      ·
       rw [if_pos (by simp; omega)]; rw [if_neg h5] at step; rw [Jc (by rw [BH]; omega),Jc (by rw [BG]; omega),BH,BG]; show ak (sl Mf _ _) _=_; rw [Pz _ (by omega),av,bq (by simp [zl]),av]; show ak (sl Mf _ _) _=_; rw [Pz _ (by omega),av,bq (by simp [zl]),av]; exact step _ rfl
  ·
   rw [if_neg (by simp; omega),List.drop_eq_nil_of_le (by omega),bq (by simp [zl]; omega)]; simp
theorem S9 {s:Str} (hs:s.length≤268435456):nK s=some (K7 s):=by
 unfold nK; rw [bq (by simp [zl]),av]; have:=Na hs BIG 0 [34] (by simp only [BIG]; omega) (Nat.zero_le _) (by simp); rw [show (0:Int)=((0:Nat):Int) from rfl]; exact this
theorem Mx {s:Str} (hs:s.length≤268435456):∀ (k i:Nat) (b:Str),s.length < k + i→i≤s.length→b.length≤1 + 4 * i→
  fJ s k (i:Int) b=some (b ++ (s.drop i).flatMap zK ++ [34])
 | 0,i,b,h,h',hb=>by omega
 | k + 1,i,b,h,h',hb=>by
  rw [fJ]; by_cases hi:i < s.length
  ·
   have hx:idx s (i:Int)=some (s.getD i 0):=by
    rw [sU hi,List.getD_eq_getElem?_getD,List.getElem?_eq_getElem hi]; rfl
   have w1:bQ ((i:Int) + 1)=((i + 1:Nat):Int):=by rw [Ob (by omega) (by omega)]; omega
   have hcl:=DX (s.getD i 0)
   have step:∀ x:Str,x=zK (s.getD i 0)→fJ s k (bQ ((i:Int) + 1)) (b ++ x)=some (b ++ (s.drop i).flatMap zK ++ [34]):=by
    intro x hx; subst hx; rw [w1,Mx hs k (i + 1) _ (by omega) (by omega) (by simp only [List.length_append]; omega),CV hi]; simp only [List.append_assoc]
   rw [if_pos (decide_eq_true (by omega)),hx,av]; generalize s.getD i 0=c at *; have hc:=c.toNat_lt; by_cases h1:c.toNat=34∨c.toNat=92
   ·
    rw [if_pos (by simp only [Bool.or_eq_true,beq_iff_eq]; omega),bq (by simp only [zl,List.length_singleton]; omega),av,bq (by simp only [zl,List.length_singleton,List.length_append]; omega),av,List.append_assoc]; apply step; rcases h1 with h | h
    ·
     have:c=34:=UInt8.toNat_inj.1 (by rw [h]; rfl); subst this; rfl
    ·
     have:c=92:=UInt8.toNat_inj.1 (by rw [h]; rfl); subst this; rfl
   ·
    rw [if_neg (by simp only [Bool.or_eq_true,beq_iff_eq]; omega)]; unfold zK at step; rw [if_neg (by omega),if_neg (by omega)] at step; by_cases h3:c.toNat=10
    ·
     rw [if_pos (beq_iff_eq.2 (by omega)),bq (by simp only [zl,List.length_cons,List.length_nil]; omega),av]; rw [if_pos h3] at step; exact step _ rfl
    ·
     rw [if_neg (fun h=>h3 (by have:=beq_iff_eq.1 h; omega))]; rw [if_neg h3] at step; by_cases h4:c.toNat=9
     ·
      rw [if_pos (beq_iff_eq.2 (by omega)),bq (by simp only [zl,List.length_cons,List.length_nil]; omega),av]; rw [if_pos h4] at step; exact step _ rfl
     ·
      rw [if_neg (fun h=>h4 (by have:=beq_iff_eq.1 h; omega))]; rw [if_neg h4] at step; by_cases h5:32≤c.toNat∧c.toNat≤126
      ·
       rw [if_pos (by simp; omega),bq (by simp only [zl,List.length_singleton]; omega),av]; rw [if_pos h5] at step; exact step _ rfl
      ·
       rw [if_neg (by simp; omega)]; rw [if_neg h5] at step; rw [BH,BG,bq (by simp only [zl,List.length_cons,List.length_nil]; omega),av]; show ak (idx Mf _) _=_; rw [DF _ (by omega),av,bq (by simp only [zl,List.length_cons,List.length_nil,List.length_append]; omega),av]; show ak (idx Mf _) _=_; rw [DF _ (by omega),av,bq (by simp only [zl,List.length_cons,List.length_nil,List.length_append]; omega),av,List.append_assoc,List.append_assoc]; exact step _ rfl
  ·
   rw [if_neg (by simp; omega),List.drop_eq_nil_of_le (by omega),bq (by simp [zl]; omega)]; simp
theorem Mw {s:Str} (hs:s.length≤268435456):kK s=some (K7 s):=by
 unfold kK; rw [bq (by simp [zl]),av]; have:=Mx hs BIG 0 [34] (by simp only [BIG]; omega) (Nat.zero_le _) (by simp); rw [show (0:Int)=((0:Nat):Int) from rfl]; exact this
end Go.Ft
namespace Go.Ft
open Go
attribute [local congr] j3
def yx {α:Type} (c:Nat→α→Nat):Nat→List α→Nat
 | _,[]=>0
 | i,x :: r=>c i x + yx c (i + 1) r
theorem Et {α:Type} {pb:Nat→α→List Str→(List Str→Option Str)→Option Str} {rb:Nat→α→Str→(Str→Option Str)→Option Str} {fp:List Str→Option Str} {fr:Str→Option Str} {c:Nat→α→Nat}:∀ (t:List α) (i:Nat) (parts:List Str),
  (∀ j x,t[j]?=some x→∃ p:Str,p.length + 2≤c (i + j) x∧(∀ q r,q.length≤16777216→pb (i + j) x q r=r (q ++ [p]))∧(∀ s r,s.length + p.length + 2≤1073741824→rb (i + j) x s r=r (s ++ ((if 0 < i + j then [44,32] else []) ++ p))))→
  parts.length=i→i + t.length≤16777216→(fB parts [44,32]).length + yx c i t≤1073741824→
  ∃ ps,gP pb fp i t parts=fp (parts ++ ps)∧gP rb fr i t (fB parts [44,32])=fr (fB (parts ++ ps) [44,32])∧(fB (parts ++ ps) [44,32]).length≤(fB parts [44,32]).length + yx c i t∧(parts ++ ps).length=i + t.length
 | [],i,parts,_,hl,_,_=>⟨[],by simp [gP],by simp [gP],by simp [yx],by simpa using hl⟩
 | x :: t,i,parts,h,hl,hi,hs=>by
  obtain ⟨p,h1,h2,h3⟩:=h 0 x (by simp); rw [yx] at hs; simp only [List.length_cons] at hi; simp only [Nat.add_zero] at h1 h2 h3; have hj:=CR parts p [44,32]
  have hj2:fB (parts ++ [p]) [44,32]=fB parts [44,32] ++ ((if 0 < i then [44,32] else []) ++ p):=by
   rw [hj]; by_cases h0:parts=[]
   · subst h0; simp at hl; subst hl; simp [fB]
   ·
    have:0 < i:=by have:=List.length_pos_iff.2 h0; omega
    rw [if_neg h0,if_pos this]
  have hlen:(fB (parts ++ [p]) [44,32]).length≤(fB parts [44,32]).length + c i x:=by
   rw [hj2]; simp only [List.length_append]; split <;> simp <;> omega
  obtain ⟨ps,g1,g2,g3,g4⟩:=Et (pb:=pb) (rb:=rb) (fp:=fp) (fr:=fr) (c:=c) t (i + 1) (parts ++ [p]) (fun j y hy=>by
   have:=h (j + 1) y (by simpa using hy); rw [show i + (j + 1)=i + 1 + j from by omega] at this
   exact this) (by simp [hl]) (by omega) (by omega)
  refine ⟨p :: ps,?_,?_,?_,?_⟩
  · rw [gP,h2 _ _ (by omega),g1]; simp
  · rw [gP,h3 _ _ (by omega),←hj2,g2]; simp
  · rw [yx]; simp only [List.append_assoc,List.cons_append,List.nil_append] at g3; omega
  · simp only [List.length_append,List.length_cons] at g4 ⊢; simp at g4; omega
theorem Ee {α:Type} (f:α→Nat) (ks:List Str):∀ (t:List α) (i:Nat),t.length + i=ks.length→yx (fun i x=>f x + 4 * ((ks.getD i []).length + 1)) i t≤(t.map f).sum + 4 * ((ks.drop i).map fun z:Str=>z.length + 1).sum
 | [],i,h=>by simp [yx]
 | x :: t,i,h=>by
  simp only [List.length_cons] at h; have ih:=Ee f ks t (i + 1) (by omega); have hi:i < ks.length:=by omega
  rw [yx,List.map_cons,List.sum_cons,List.drop_eq_getElem_cons hi,List.map_cons,List.sum_cons,List.getD_eq_getElem?_getD,List.getElem?_eq_getElem hi,Option.getD_some]; omega
theorem yw {α:Type} (f:α→Nat):∀ (t:List α) (i:Nat),yx (fun _ x=>f x) i t=(t.map f).sum
 | [],i=>by simp [yx]
 | x :: t,i=>by rw [yx,List.map_cons,List.sum_cons,yw f t (i + 1)]
theorem RX (l:List aj):(l.map fun x=>16 * x.bulk).sum=16 * (l.map aj.bulk).sum:=by
 induction l with
 | nil=>rfl
 | cons x r ih=>simp only [List.map_cons,List.sum_cons,ih]; omega
theorem Od {v:aj} (h:lD v 1=0) (h5:v.kind=5):v.keys.length=v.aW.length:=by
 unfold lD at h; rw [if_neg (by omega)] at h; split at h
 · cases h
 ·
  split at h
  · cases h
  ·
   split at h
   · cases h
   ·
    split at h
    · cases h
    ·
     rename_i h1; simp [h5] at h1
     exact_mod_cast h1.1
theorem Ta :∀ (n:Nat) (v:aj),v.bulk≤n→v.bulk≤16777216→RA v=true→∃ s:Str,dF (n + 1) v=some s∧dh (n + 1) v=some s∧s.length + 20≤16 * v.bulk
 | 0,v,h,_,_=>by have:=v.lS; omega
 | n + 1,v,h,hB,hv=>by
  have hL:zl=4294967296:=rfl; have hk:=Oc ((Cv v).1 hv).1; have hel:=((Cv v).1 hv).2; have hlen:=Un hv; have hb:=v.gW; rw [aj.j6] at hb; have hll:=D_ v; unfold dF dh o7 sw; have e10:((1:Int) == 0)=false:=rfl; have k:v.kind=0∨v.kind=1∨v.kind=2∨v.kind=3∨v.kind=4∨v.kind=5:=by omega
  rcases k with k | k | k | k | k | k
  · refine ⟨[110,117,108,108],by simp [k],by simp [k],by simp; omega⟩
  ·
   cases hc:v.jd with
   | true=>exact ⟨[116,114,117,101],by simp [k,hc,strconv_FormatBool,jB],by simp [k,hc],by simp; omega⟩
   | false=>exact ⟨[102,97,108,115,101],by simp [k,hc,strconv_FormatBool,jB],by simp [k,hc],by simp; omega⟩
  ·
   refine ⟨Cb v.iG,by simp [k,QH ⟨hlen.2.2.2.1,hlen.2.2.2.2⟩],by simp [k,OH ⟨hlen.2.2.2.1,hlen.2.2.2.2⟩],?_⟩; have:=Td ⟨hlen.2.2.2.1,hlen.2.2.2.2⟩; omega
  ·
   refine ⟨K7 v.jK,by simp [k,Mw (s:=v.jK) (by omega)],by simp [k,GX (s:=v.jK) (by omega)],?_⟩; have:=He v.jK; omega
  ·
   have hgo:=fun x hx=>Ta n x (by have:=lF hx; omega) (by have:=lF (v:=v) hx; omega) (hel x hx)
   have s1:=fA (F:=fun k q i=>iC (dF (n + 1)) v k q i) (l:=v.aW) (body:=fun i e1 (q:List Str) r=>ak (dF (n + 1) e1) fun x8=>ak (app q ([x8]:List Str)) fun p3=>r p3)
    (fin:=fun q=>ak (strings_Join q ([44,32]:Str)) fun s3=>ak (app ([91]:Str) s3) fun Cu=>app Cu ([93]:Str)) (by omega) (fun k' q i=>by rw [iC]; simp [k]) []
   have s2:=fA (F:=fun k q i=>eH (dh (n + 1)) v k q i) (l:=v.aW) (body:=fun i e1 (q:Str) r=>if decide (0 < (i:Int)) then ak (app q ([44,32]:Str)) fun q2=>ak (dh (n + 1) e1) fun x8=>ak (app q2 x8) fun p3=>r p3 else ak (dh (n + 1) e1) fun x8=>ak (app q x8) fun p3=>r p3)
    (fin:=fun q=>ak (app ([91]:Str) q) fun Cu=>app Cu ([93]:Str)) (by omega) (fun k' q i=>by
     rw [eH]; by_cases hi:i < v.aW.length
     · simp [k,hi,sU hi]
     · simp [k,hi]) []
   obtain ⟨ps,g1,g2,g3,g4⟩:=Et (pb:=fun i e1 (q:List Str) r=>ak (dF (n + 1) e1) fun x8=>ak (app q ([x8]:List Str)) fun p3=>r p3)
    (rb:=fun i e1 (q:Str) r=>if decide (0 < (i:Int)) then ak (app q ([44,32]:Str)) fun q2=>ak (dh (n + 1) e1) fun x8=>ak (app q2 x8) fun p3=>r p3 else ak (dh (n + 1) e1) fun x8=>ak (app q x8) fun p3=>r p3)
    (fp:=fun q=>ak (strings_Join q ([44,32]:Str)) fun s3=>ak (app ([91]:Str) s3) fun Cu=>app Cu ([93]:Str)) (fr:=fun q=>ak (app ([91]:Str) q) fun Cu=>app Cu ([93]:Str)) (c:=fun _ x=>16 * x.bulk) v.aW 0 [] (fun j x hx=>by
     obtain ⟨p,q1,q2,q3⟩:=hgo x (List.mem_of_getElem? hx); refine ⟨p,by omega,fun q r hq=>?_,fun s r hs=>?_⟩
     · simp only [q1,av]; rw [bq (by simp; omega),av]
     ·
      simp only [q2,av]; by_cases h0:0 < 0 + j
      · rw [if_pos (by simpa using h0),if_pos h0,bq (by simp; omega),av,bq (by simp; omega),av]; simp
      ·
       rw [if_neg (by simpa using h0),if_neg h0,bq (by omega),av]; simp) rfl (by omega) (by
       rw [yw (fun x:aj=>16 * x.bulk) v.aW 0,RX]; simp [fB]; omega)
   rw [yw (fun x:aj=>16 * x.bulk) v.aW 0,RX] at g3; simp only [List.nil_append,fB,List.length_nil,Nat.zero_add] at g1 g2 g3 g4
   have e1:iC (dF (n + 1)) v BIG [] 0=some ([91] ++ fB ps [44,32] ++ [93]):=by
    rw [s1,g1,strings_Join,if_pos ⟨by omega,by omega⟩,av,bq (by simp; omega),av,bq (by simp; omega)]
   have e2:eH (dh (n + 1)) v BIG [] 0=some ([91] ++ fB ps [44,32] ++ [93]):=by
    rw [s2,g2,bq (by simp; omega),av,bq (by simp; omega)]
   exact ⟨_,by simp only [k,e1]; rfl,by simp only [k,e2]; rfl,by simp; omega⟩
  ·
   have hkl:=Od ((Cv v).1 hv).1 k; have hgo:=fun x hx=>Ta n x (by have:=lF hx; omega) (by have:=lF (v:=v) hx; omega) (hel x hx)
   have s1:=fA (F:=fun k q i=>jT (dF (n + 1)) v k q i) (l:=v.aW) (body:=fun i e1 (q:List Str) r=>ak (idx v.keys (i:Int)) fun e4=>ak (kK e4) fun N9=>ak (app N9 ([58,32]:Str)) fun Mq=>ak (dF (n + 1) e1) fun Rf=>ak (app Mq Rf) fun Kc=>ak (app q ([Kc]:List Str)) fun p5=>r p5)
    (fin:=fun q=>ak (strings_Join q ([44,32]:Str)) fun s5=>ak (app ([123]:Str) s5) fun Mg=>app Mg ([125]:Str)) (by omega) (fun k' q i=>rfl) []
   have s2:=fA (F:=fun k q i=>eH (dh (n + 1)) v k q i) (l:=v.aW) (body:=fun i e1 (q:Str) r=>if decide (0 < (i:Int)) then ak (app q ([44,32]:Str)) fun q2=>ak (idx v.keys (i:Int)) fun Xx=>ak (iD Xx) fun x3=>ak (app q2 x3) fun x4=>ak (app x4 ([58,32]:Str)) fun s3=>ak (dh (n + 1) e1) fun x8=>ak (app s3 x8) fun p3=>r p3 else ak (idx v.keys (i:Int)) fun Xx=>ak (iD Xx) fun x3=>ak (app q x3) fun x4=>ak (app x4 ([58,32]:Str)) fun s3=>ak (dh (n + 1) e1) fun x8=>ak (app s3 x8) fun p3=>r p3)
    (fin:=fun q=>ak (app ([123]:Str) q) fun Cu=>app Cu ([125]:Str)) (by omega) (fun k' q i=>by
     rw [eH]; by_cases hi:i < v.aW.length
     · simp [k,hi,sU hi]
     · simp [k,hi]) []
   have hsum:yx (fun i (x:aj)=>16 * x.bulk + 4 * ((v.keys.getD i []).length + 1)) 0 v.aW≤16 * (v.aW.map aj.bulk).sum + 4 * (v.keys.map fun z:Str=>z.length + 1).sum:=by
    have:=Ee (fun x:aj=>16 * x.bulk) v.keys v.aW 0 (by omega); rw [RX,List.drop_zero] at this; exact this
   obtain ⟨ps,g1,g2,g3,g4⟩:=Et (pb:=fun i e1 (q:List Str) r=>ak (idx v.keys (i:Int)) fun e4=>ak (kK e4) fun N9=>ak (app N9 ([58,32]:Str)) fun Mq=>ak (dF (n + 1) e1) fun Rf=>ak (app Mq Rf) fun Kc=>ak (app q ([Kc]:List Str)) fun p5=>r p5)
    (rb:=fun i e1 (q:Str) r=>if decide (0 < (i:Int)) then ak (app q ([44,32]:Str)) fun q2=>ak (idx v.keys (i:Int)) fun Xx=>ak (iD Xx) fun x3=>ak (app q2 x3) fun x4=>ak (app x4 ([58,32]:Str)) fun s3=>ak (dh (n + 1) e1) fun x8=>ak (app s3 x8) fun p3=>r p3 else ak (idx v.keys (i:Int)) fun Xx=>ak (iD Xx) fun x3=>ak (app q x3) fun x4=>ak (app x4 ([58,32]:Str)) fun s3=>ak (dh (n + 1) e1) fun x8=>ak (app s3 x8) fun p3=>r p3)
    (fp:=fun q=>ak (strings_Join q ([44,32]:Str)) fun s5=>ak (app ([123]:Str) s5) fun Mg=>app Mg ([125]:Str)) (fr:=fun q=>ak (app ([123]:Str) q) fun Cu=>app Cu ([125]:Str)) (c:=fun i x=>16 * x.bulk + 4 * ((v.keys.getD i []).length + 1)) v.aW 0 [] (fun j x hx=>by
     obtain ⟨p,q1,q2,q3⟩:=hgo x (List.mem_of_getElem? hx); have hj:j < v.keys.length:=by have:=(List.getElem?_eq_some_iff.1 hx).1; omega
     have hkb:v.keys[j].length≤16777216:=by have:=Ea (v:=v) (List.getElem_mem hj); omega
     have hq:=He v.keys[j]; have hxb:x.bulk≤16777216:=by have:=lF (List.mem_of_getElem? hx); omega
     refine ⟨K7 v.keys[j] ++ [58,32] ++ p,?_,fun q r hq=>?_,fun s r hs=>?_⟩
     ·
      rw [Nat.zero_add,List.getD_eq_getElem?_getD,List.getElem?_eq_getElem hj,Option.getD_some]; simp only [List.length_append,List.length_cons,List.length_nil]; omega
     ·
      rw [Nat.zero_add]; simp only [sU hj,av,Mw (show v.keys[j].length≤268435456 by omega)]; rw [bq (by simp; omega),av,q1,av,bq (by simp; omega),av,bq (by simp; omega),av]
     ·
      rw [Nat.zero_add]; simp only [List.length_append,List.length_cons,List.length_nil] at hs; simp only [sU hj,av,GX (show v.keys[j].length≤268435456 by omega)]; by_cases h0:0 < j
      · rw [if_pos (by simpa using h0),if_pos h0,bq (by simp; omega),av,bq (by simp; omega),av,bq (by simp; omega),av,q2,av,bq (by simp; omega),av]; simp
      · rw [if_neg (by simpa using h0),if_neg h0,bq (by omega),av,bq (by simp; omega),av,q2,av,bq (by simp; omega),av]; simp) rfl (by omega) (by rw [show (fB ([]:List Str) [44,32]).length=0 from rfl]; omega)
   simp only [List.nil_append,fB,List.length_nil,Nat.zero_add] at g1 g2 g3 g4
   have e1:jT (dF (n + 1)) v BIG [] 0=some ([123] ++ fB ps [44,32] ++ [125]):=by
    rw [s1,g1,strings_Join,if_pos ⟨by omega,by omega⟩,av,bq (by simp; omega),av,bq (by simp; omega)]
   have e2:eH (dh (n + 1)) v BIG [] 0=some ([123] ++ fB ps [44,32] ++ [125]):=by
    rw [s2,g2,bq (by simp; omega),av,bq (by simp; omega)]
   exact ⟨_,by simp only [k,e1]; rfl,by simp only [k,e2]; rfl,by simp; omega⟩
end Go.Ft
namespace Go.Ft
open Go
attribute [local congr] j3
def pJ {α:Type} (pf:Nat→α→Str):Nat→List α→List Str
 | _,[]=>[]
 | i,x :: r=>pf i x :: pJ pf (i + 1) r
theorem CQ {α:Type} {pb:Nat→α→List Str→(List Str→Option Str)→Option Str} {rb:Nat→α→Str→(Str→Option Str)→Option Str} {fp:List Str→Option Str} {fr:Str→Option Str} {c:Nat→α→Nat} {pf:Nat→α→Str}:∀ (t:List α) (i:Nat) (parts:List Str),
  (∀ j x,t[j]?=some x→(pf (i + j) x).length + 2≤c (i + j) x∧(∀ q r,q.length≤16777216→pb (i + j) x q r=r (q ++ [pf (i + j) x]))∧(∀ s r,s.length + (pf (i + j) x).length + 2≤1073741824→rb (i + j) x s r=r (s ++ ((if 0 < i + j then [44,32] else []) ++ pf (i + j) x))))→
  parts.length=i→i + t.length≤16777216→(fB parts [44,32]).length + yx c i t≤1073741824→
  gP pb fp i t parts=fp (parts ++ pJ pf i t)∧gP rb fr i t (fB parts [44,32])=fr (fB (parts ++ pJ pf i t) [44,32])∧(fB (parts ++ pJ pf i t) [44,32]).length≤(fB parts [44,32]).length + yx c i t∧(parts ++ pJ pf i t).length=i + t.length
 | [],i,parts,_,hl,_,_=>⟨by simp [gP,pJ],by simp [gP,pJ],by simp [yx,pJ],by simpa [pJ] using hl⟩
 | x :: t,i,parts,h,hl,hi,hs=>by
  obtain ⟨h1,h2,h3⟩:=h 0 x (by simp); rw [yx] at hs; simp only [List.length_cons] at hi; simp only [Nat.add_zero] at h1 h2 h3
  have hj2:fB (parts ++ [pf i x]) [44,32]=fB parts [44,32] ++ ((if 0 < i then [44,32] else []) ++ pf i x):=by
   rw [CR parts (pf i x) [44,32]]; by_cases h0:parts=[]
   · subst h0; simp at hl; subst hl; simp [fB]
   ·
    have:0 < i:=by have:=List.length_pos_iff.2 h0; omega
    rw [if_neg h0,if_pos this]
  have hlen:(fB (parts ++ [pf i x]) [44,32]).length≤(fB parts [44,32]).length + c i x:=by
   rw [hj2]; simp only [List.length_append]; split <;> simp <;> omega
  obtain ⟨g1,g2,g3,g4⟩:=CQ (pb:=pb) (rb:=rb) (fp:=fp) (fr:=fr) (c:=c) (pf:=pf) t (i + 1) (parts ++ [pf i x]) (fun j y hy=>by
   have:=h (j + 1) y (by simpa using hy); rw [show i + (j + 1)=i + 1 + j from by omega] at this
   exact this) (by simp [hl]) (by omega) (by omega)
  refine ⟨?_,?_,?_,?_⟩
  · rw [gP,h2 _ _ (by omega),g1]; simp [pJ]
  · rw [gP,h3 _ _ (by omega),←hj2,g2]; simp [pJ]
  · rw [yx,pJ]; simp only [List.append_assoc,List.cons_append,List.nil_append] at g3; omega
  · simp only [pJ,List.length_append,List.length_cons] at g4 ⊢; simp at g4; omega
def Tk (e:ah):Int:=
 if e.kind == 8 then 1 else if e.kind == 7 then o9 e.name else if e.kind == 6 then 7 else if ((e.kind == 1) && (e.value.kind == 2)) && (decide (e.value.iG < 0)) then 7 else 8
theorem force_eq (e:ah):qF e=some (Tk e)∧qx e=some (Tk e):=by
 unfold qF qx Tk; rw [wE,Bl]; simp only [apply_ite some,and_self]
theorem U3 {e:ah} (h:yV e=true):1≤Tk e:=by
 unfold Tk; unfold yV at h
 repeat' split
 all_goals first | omega | (simp_all; omega)
def Aj (x:ah) (r:Int) (s:Str):Str:=if Tk x < r then [40] ++ s ++ [41] else s
theorem qJ (x:ah) (r:Int) (s:Str):(Aj x r s).length≤s.length + 2:=by
 unfold Aj; split <;> simp
theorem OZ {x:ah} {s:Str} {M:Nat} (h:∀ m,M≤m→bC m x=some s∧bA m x=some s) (hl:s.length≤1073741824) {m:Nat} (hm:M + 1≤m) (r:Int):
  dV m x r=some (Aj x r s)∧kF m x r=some (Aj x r s):=by
 have hL:zl=4294967296:=rfl; obtain ⟨q,rfl⟩:∃ q,m=q + 1:=⟨m - 1,by omega⟩; obtain ⟨h1,h2⟩:=h q (by omega); rw [dV,uw,kF,Bp,(force_eq x).1,(force_eq x).2,av,av,h1,h2,av,bq (by simp; omega),av,bq (by simp; omega)]; unfold Aj; by_cases hc:Tk x < r
 · simp [hc]
 · simp [hc]
theorem Ai {x:ah} {s:Str} (h:1≤Tk x):Aj x 1 s=s:=by unfold Aj; rw [if_neg (by omega)]
theorem QK {α:Type} (a:α) (l:List α):idx (a :: l) 0=some a:=rfl
theorem U0 {α:Type} (a b:α) (l:List α):idx (a :: b :: l) 1=some b:=rfl
theorem ZF {α:Type} (a b c:α) (l:List α):idx (a :: b :: c :: l) 2=some c:=rfl
theorem RV (l:List ah):(l.map fun x=>16 * x.bulk).sum=16 * (l.map ah.bulk).sum:=by
 induction l with
 | nil=>rfl
 | cons x r ih=>simp only [List.map_cons,List.sum_cons,ih]; omega
theorem w45 :bQ (4 + 1)=5:=by decide
theorem UR {e:ah} {M:Nat} (S:ah→Str) (hB:e.bulk≤16777216) (hk:e.kind=10→e.keys.length=e.args.length)
  (hc:∀ x∈e.args,(∀ m,M≤m→bC m x=some (S x)∧bA m x=some (S x))∧(S x).length + 20≤16 * x.bulk∧1≤Tk x):
  ∃ L:Str,(∀ m,M + 2≤m→fZ m e=some L∧jL m e=some L)∧L.length≤16 * (e.args.map ah.bulk).sum + 4 * (e.keys.map fun z:Str=>z.length + 1).sum:=by
 have hL:zl=4294967296:=rfl; have hal:=EG e; have hbe:=e.gW; rw [ah.j6] at hbe; by_cases h10:e.kind=10
 ·
  have hkl:=hk h10
  have hsum:yx (fun i (x:ah)=>16 * x.bulk + 4 * ((e.keys.getD i []).length + 1)) 0 e.args≤16 * (e.args.map ah.bulk).sum + 4 * (e.keys.map fun z:Str=>z.length + 1).sum:=by
   have:=Ee (fun x:ah=>16 * x.bulk) e.keys e.args 0 (by omega); rw [RV,List.drop_zero] at this; exact this
  have key:=fun (q:Nat) (hq:M + 1≤q)=>CQ (pb:=fun i e2 (p:List Str) r=>ak (dV q e2 1) fun s1=>ak (idx e.keys (i:Int)) fun e3=>ak (nK e3) fun x1=>ak (app x1 ([58,32]:Str)) fun x2=>ak (app x2 s1) fun s2=>ak (app p ([s2]:List Str)) fun p2=>r p2)
   (rb:=fun i e2 (p:Str) r=>if decide (0 < (i:Int)) then ak (app p ([44,32]:Str)) fun s2=>ak (idx e.keys (i:Int)) fun e3=>ak (iD e3) fun x1=>ak (app s2 x1) fun x2=>ak (app x2 ([58,32]:Str)) fun s3=>ak (bA q e2) fun x3=>ak (app s3 x3) fun s4=>r s4
    else ak (idx e.keys (i:Int)) fun e3=>ak (iD e3) fun x1=>ak (app p x1) fun x2=>ak (app x2 ([58,32]:Str)) fun s3=>ak (bA q e2) fun x3=>ak (app s3 x3) fun s4=>r s4)
   (fp:=fun p=>strings_Join p ([44,32]:Str)) (fr:=fun s=>some s) (c:=fun i x=>16 * x.bulk + 4 * ((e.keys.getD i []).length + 1)) (pf:=fun i x=>K7 (e.keys.getD i []) ++ [58,32] ++ S x) e.args 0 [] (fun j x hx=>by
    obtain ⟨h1,h2,h3⟩:=hc x (List.mem_of_getElem? hx); have hj:j < e.keys.length:=by have:=(List.getElem?_eq_some_iff.1 hx).1; omega
    have hkb:e.keys[j].length≤16777216:=by have:=QT (v:=e) (List.getElem_mem hj); omega
    have hqq:=He e.keys[j]; have hxb:x.bulk≤16777216:=by have:=jg (List.mem_of_getElem? hx); omega
    have hgd:e.keys.getD j []=e.keys[j]:=by rw [List.getD_eq_getElem?_getD,List.getElem?_eq_getElem hj,Option.getD_some]
    have ha:=(OZ h1 (by omega) hq 1).1; rw [Ai h3] at ha; have hs2:=(h1 q (by omega)).2; rw [Nat.zero_add]; simp only [hgd]; refine ⟨?_,fun q r hq=>?_,fun s r hs=>?_⟩
    · simp only [List.length_append,List.length_cons,List.length_nil]; omega
    ·
     simp only [ha,sU hj,av,S9 (show e.keys[j].length≤268435456 by omega)]; rw [bq (by simp; omega),av,bq (by simp; omega),av,bq (by simp; omega),av]
    ·
     simp only [List.length_append,List.length_cons,List.length_nil] at hs; simp only [sU hj,av,GX (show e.keys[j].length≤268435456 by omega)]; by_cases h0:0 < j
     · rw [if_pos (by simpa using h0),if_pos h0,bq (by simp; omega),av,bq (by simp; omega),av,bq (by simp; omega),av,hs2,av,bq (by simp; omega),av]; simp
     · rw [if_neg (by simpa using h0),if_neg h0,bq (by omega),av,bq (by simp; omega),av,hs2,av,bq (by simp; omega),av]; simp) rfl (by omega) (by rw [show (fB ([]:List Str) [44,32]).length=0 from rfl]; omega)
  refine ⟨fB (pJ (fun i x=>K7 (e.keys.getD i []) ++ [58,32] ++ S x) 0 e.args) [44,32],fun m hm=>?_,?_⟩
  ·
   obtain ⟨q,rfl⟩:∃ q,m=q + 1:=⟨m - 1,by omega⟩; obtain ⟨g1,g2,g3,g4⟩:=key q (by omega)
   have s1:=fA (F:=fun k p i=>iM (dV q) e k p i) (l:=e.args) (body:=fun i e2 (p:List Str) r=>ak (dV q e2 1) fun s1=>ak (idx e.keys (i:Int)) fun e3=>ak (nK e3) fun x1=>ak (app x1 ([58,32]:Str)) fun x2=>ak (app x2 s1) fun s2=>ak (app p ([s2]:List Str)) fun p2=>r p2)
    (fin:=fun p=>strings_Join p ([44,32]:Str)) (by omega) (fun k' p i=>by rw [iM]; simp [h10]) []
   have s2:=fA (F:=fun k p i=>jr (bA q) e k p i) (l:=e.args) (body:=fun i e2 (p:Str) r=>if decide (0 < (i:Int)) then ak (app p ([44,32]:Str)) fun s2=>ak (idx e.keys (i:Int)) fun e3=>ak (iD e3) fun x1=>ak (app s2 x1) fun x2=>ak (app x2 ([58,32]:Str)) fun s3=>ak (bA q e2) fun x3=>ak (app s3 x3) fun s4=>r s4
    else ak (idx e.keys (i:Int)) fun e3=>ak (iD e3) fun x1=>ak (app p x1) fun x2=>ak (app x2 ([58,32]:Str)) fun s3=>ak (bA q e2) fun x3=>ak (app s3 x3) fun s4=>r s4)
    (fin:=fun s=>some s) (by omega) (fun k' p i=>by
     rw [jr]; by_cases hi:i < e.args.length
     · simp [h10,hi,sU hi]
     · simp [h10,hi]) []
   simp only [List.nil_append,fB,List.length_nil,Nat.zero_add] at g1 g2 g3 g4; rw [fZ,oO,jL,vo]; exact ⟨by rw [s1,g1,strings_Join,if_pos ⟨by omega,by omega⟩],by rw [s2,g2]⟩
  ·
   obtain ⟨g1,g2,g3,g4⟩:=key (M + 1) (by omega); simp only [List.nil_append,fB,List.length_nil,Nat.zero_add] at g3; omega
 ·
  have hsum:=yw (fun x:ah=>16 * x.bulk) e.args 0; rw [RV] at hsum
  have key:=fun (q:Nat) (hq:M + 1≤q)=>CQ (pb:=fun i e2 (p:List Str) r=>ak (dV q e2 1) fun s1=>ak (app p ([s1]:List Str)) fun p2=>r p2)
   (rb:=fun i e2 (p:Str) r=>if decide (0 < (i:Int)) then ak (app p ([44,32]:Str)) fun s2=>ak (bA q e2) fun x3=>ak (app s2 x3) fun s4=>r s4 else ak (bA q e2) fun x3=>ak (app p x3) fun s4=>r s4)
   (fp:=fun p=>strings_Join p ([44,32]:Str)) (fr:=fun s=>some s) (c:=fun _ x=>16 * x.bulk) (pf:=fun _ x=>S x) e.args 0 [] (fun j x hx=>by
    obtain ⟨h1,h2,h3⟩:=hc x (List.mem_of_getElem? hx); have hxb:x.bulk≤16777216:=by have:=jg (List.mem_of_getElem? hx); omega
    have ha:=(OZ h1 (by omega) hq 1).1; rw [Ai h3] at ha; have hs2:=(h1 q (by omega)).2; rw [Nat.zero_add]; refine ⟨by omega,fun q r hq=>?_,fun s r hs=>?_⟩
    · simp only [ha,av]; rw [bq (by simp; omega),av]
    ·
     simp only [hs2,av]; by_cases h0:0 < j
     · rw [if_pos (by simpa using h0),if_pos h0,bq (by simp; omega),av,bq (by simp; omega),av]; simp
     · rw [if_neg (by simpa using h0),if_neg h0,bq (by omega),av]; simp) rfl (by omega) (by rw [show (fB ([]:List Str) [44,32]).length=0 from rfl]; omega)
  refine ⟨fB (pJ (fun _ x=>S x) 0 e.args) [44,32],fun m hm=>?_,?_⟩
  ·
   obtain ⟨q,rfl⟩:∃ q,m=q + 1:=⟨m - 1,by omega⟩; obtain ⟨g1,g2,g3,g4⟩:=key q (by omega)
   have s1:=fA (F:=fun k p i=>iM (dV q) e k p i) (l:=e.args) (body:=fun i e2 (p:List Str) r=>ak (dV q e2 1) fun s1=>ak (app p ([s1]:List Str)) fun p2=>r p2)
    (fin:=fun p=>strings_Join p ([44,32]:Str)) (by omega) (fun k' p i=>by rw [iM]; simp [h10]) []
   have s2:=fA (F:=fun k p i=>jr (bA q) e k p i) (l:=e.args) (body:=fun i e2 (p:Str) r=>if decide (0 < (i:Int)) then ak (app p ([44,32]:Str)) fun s2=>ak (bA q e2) fun x3=>ak (app s2 x3) fun s4=>r s4 else ak (bA q e2) fun x3=>ak (app p x3) fun s4=>r s4)
    (fin:=fun s=>some s) (by omega) (fun k' p i=>by
     rw [jr]; by_cases hi:i < e.args.length
     · simp [h10,hi,sU hi]
     · simp [h10,hi]) []
   simp only [List.nil_append,fB,List.length_nil,Nat.zero_add] at g1 g2 g3 g4; rw [fZ,oO,jL,vo]; exact ⟨by rw [s1,g1,strings_Join,if_pos ⟨by omega,by omega⟩],by rw [s2,g2]⟩
  ·
   obtain ⟨g1,g2,g3,g4⟩:=key (M + 1) (by omega); simp only [List.nil_append,fB,List.length_nil,Nat.zero_add] at g3; omega
end Go.Ft
namespace Go.Ft
open Go
attribute [local congr] j3
theorem OG {e:ah} (h:rz e=true) (hk:e.kind=10):e.keys.length=e.args.length:=by
 unfold rz at h; simp only [Bool.and_eq_true] at h; have:=h.2; unfold EF at this; simp [hk] at this
 exact_mod_cast this.1
theorem Yg {v:aj} (hB:v.bulk≤16777216):∃ s:Str,uZ v=some s∧Aa v=some s∧s.length + 20≤16 * v.bulk:=by
 obtain ⟨n,hn,hn2⟩:=yh; unfold uZ Aa; rw [Ke (by omega),RB (by omega),av,av]; by_cases hc:rM v 1=0
 ·
  rw [if_neg (by simpa using hc),if_neg (by simpa using hc)]; obtain ⟨s,h1,h2,h3⟩:=Ta n v (by omega) hB ((XM v).1 hc).1; refine ⟨s,?_,?_,h3⟩
  · unfold r_; rw [hn]; exact h1
  · unfold z_; rw [hn]; exact h2
 ·
  rw [if_pos (by simpa using hc),if_pos (by simpa using hc)]; refine ⟨[],rfl,rfl,?_⟩; have:=v.gW; simp; omega
theorem Vy :∀ (n:Nat) (e:ah),e.bulk≤n→e.bulk≤16777216→(∃ level,Db e level=0)→∃ s:Str,(∀ m,3 * n + 1≤m→bC m e=some s∧bA m e=some s)∧s.length + 20≤16 * e.bulk
 | 0,e,h,_,_=>by have:=e.lS; omega
 | n + 1,e,h,hB,⟨level,hx⟩=>by
  have hL:zl=4294967296:=rfl; obtain ⟨hn0,hargs⟩:=J_ hx; obtain ⟨hf,hv1,ha3⟩:=Gt hn0; obtain ⟨hko,hna,har⟩:=DL hf; have hbe:=e.gW; rw [ah.j6] at hbe; have hvp:=e.value.gW
  have child:∀ x∈e.args,∃ s:Str,(∀ m,3 * n + 1≤m→bC m x=some s∧bA m x=some s)∧s.length + 20≤16 * x.bulk∧1≤Tk x:=fun x hx=>by
   obtain ⟨s,h1,h2⟩:=Vy n x (by have:=jg hx; omega) (by have:=jg hx; omega) ⟨level + 1,hargs x hx⟩; exact ⟨s,h1,h2,U3 (DL (Gt (J_ (hargs x hx)).1).1).2.1⟩
  obtain ⟨S,hS⟩:∃ S:ah→Str,∀ x∈e.args,(∀ m,3 * n + 1≤m→bC m x=some (S x)∧bA m x=some (S x))∧(S x).length + 20≤16 * x.bulk∧1≤Tk x:=by
   refine ⟨fun x=>(bC (3 * n + 1) x).getD [],fun x hx=>?_⟩; obtain ⟨s,h1,h2,h3⟩:=child x hx; simp only [(h1 (3 * n + 1) (Nat.le_refl _)).1,Option.getD_some]; exact ⟨h1,h2,h3⟩
  obtain ⟨L,hL1,hL2⟩:=UR (M:=3 * n + 1) S hB (OG hf) hS
  have hkr:1≤e.kind∧e.kind≤10:=by
   unfold xg at hko; simp only [Bool.not_eq_true',Bool.or_eq_false_iff,decide_eq_false_iff_not] at hko; omega
  have arg:∀ x∈e.args,∀ q,3 * n + 2≤q→∀ r,dV q x r=some (Aj x r (S x))∧kF q x r=some (Aj x r (S x)):=fun x hx q hq r=>by
   obtain ⟨h1,h2,h3⟩:=hS x hx; have hxb:=jg hx; exact OZ h1 (by omega) hq r
  unfold vL at har; have k:e.kind=1∨e.kind=2∨e.kind=3∨e.kind=4∨e.kind=5∨e.kind=6∨e.kind=7∨e.kind=8∨e.kind=9∨e.kind=10:=by omega
  rcases k with k | k | k | k | k | k | k | k | k | k
  ·
   obtain ⟨s,h1,h2,h3⟩:=Yg (v:=e.value) (by omega); refine ⟨s,fun m hm=>?_,by omega⟩; obtain ⟨q,rfl⟩:∃ q,m=q + 1:=⟨m - 1,by omega⟩; rw [bC,dU,bA,fF]; simp [k,h1,h2]
  ·
   refine ⟨e.name,fun m hm=>?_,by omega⟩; obtain ⟨q,rfl⟩:∃ q,m=q + 1:=⟨m - 1,by omega⟩; rw [bC,dU,bA,fF]; simp [k]
  ·
   obtain ⟨a,ha⟩:=len1 (l:=e.args) (by simp [k] at har; omega); have hm1:a∈e.args:=by rw [ha]; simp
   have hs1:=(hS a hm1).2.1; have hp1:=qJ a 8 (S a); rw [ha] at hbe; simp only [List.map_cons,List.map_nil,List.sum_cons,List.sum_nil] at hbe; refine ⟨Aj a 8 (S a) ++ [46] ++ e.name,fun m hm=>?_,by simp; omega⟩; obtain ⟨q,rfl⟩:∃ q,m=q + 1:=⟨m - 1,by omega⟩; obtain ⟨g1,g2⟩:=arg a hm1 q (by omega) 8; rw [bC,dU,bA,fF]; have e1:((3:Int) == 1)=false:=rfl; have e2:((3:Int) == 2)=false:=rfl; simp only [k,e1,e2,ha,QK,av,g1,g2,beq_self_eq_true,if_true,Bool.false_eq_true,if_false]; rw [bq (by simp; omega),av,bq (by simp; omega)]; exact ⟨rfl,rfl⟩
  ·
   obtain ⟨a,b,ha⟩:=len2 (l:=e.args) (by simp [k] at har; omega); have hm1:a∈e.args:=by rw [ha]; simp
   have hm2:b∈e.args:=by rw [ha]; simp
   have hs1:=(hS a hm1).2.1; have hs2:=(hS b hm2).2.1; have hp1:=qJ a 8 (S a); rw [ha] at hbe; simp only [List.map_cons,List.map_nil,List.sum_cons,List.sum_nil] at hbe; refine ⟨Aj a 8 (S a) ++ [91] ++ S b ++ [93],fun m hm=>?_,by simp; omega⟩; obtain ⟨q,rfl⟩:∃ q,m=q + 1:=⟨m - 1,by omega⟩; obtain ⟨g1,g2⟩:=arg a hm1 q (by omega) 8; have g3:=(arg b hm2 q (by omega) 1).1; rw [Ai (hS b hm2).2.2] at g3; have g4:=((hS b hm2).1 q (by omega)).2; rw [bC,dU,bA,fF]; have e1:((4:Int) == 1)=false:=rfl; have e2:((4:Int) == 2)=false:=rfl; have e3:((4:Int) == 3)=false:=rfl; simp only [k,e1,e2,e3,ha,QK,U0,av,g1,g2,g3,g4,beq_self_eq_true,if_true,Bool.false_eq_true,if_false]; rw [bq (by simp; omega),av,bq (by simp; omega),av,bq (by simp; omega)]; exact ⟨rfl,rfl⟩
  ·
   refine ⟨e.name ++ [40] ++ L ++ [41],fun m hm=>?_,by simp; omega⟩; obtain ⟨q,rfl⟩:∃ q,m=q + 1:=⟨m - 1,by omega⟩; obtain ⟨g1,g2⟩:=hL1 q (by omega); rw [bC,dU,bA,fF]; have e1:((5:Int) == 1)=false:=rfl; have e2:((5:Int) == 2)=false:=rfl; have e3:((5:Int) == 3)=false:=rfl; have e4:((5:Int) == 4)=false:=rfl; simp only [k,e1,e2,e3,e4,av,g1,g2,beq_self_eq_true,if_true,Bool.false_eq_true,if_false]; rw [bq (by simp; omega),av,bq (by simp; omega),av,bq (by simp; omega)]; exact ⟨rfl,rfl⟩
  ·
   obtain ⟨a,ha⟩:=len1 (l:=e.args) (by simp [k] at har; omega); have hm1:a∈e.args:=by rw [ha]; simp
   have hs1:=(hS a hm1).2.1; have hp1:=qJ a 7 (S a); rw [ha] at hbe; simp only [List.map_cons,List.map_nil,List.sum_cons,List.sum_nil] at hbe; refine ⟨e.name ++ Aj a 7 (S a),fun m hm=>?_,by simp; omega⟩; obtain ⟨q,rfl⟩:∃ q,m=q + 1:=⟨m - 1,by omega⟩; obtain ⟨g1,g2⟩:=arg a hm1 q (by omega) 7; rw [bC,dU,bA,fF]; have e1:((6:Int) == 1)=false:=rfl; have e2:((6:Int) == 2)=false:=rfl; have e3:((6:Int) == 3)=false:=rfl; have e4:((6:Int) == 4)=false:=rfl; have e5:((6:Int) == 5)=false:=rfl; simp only [k,e1,e2,e3,e4,e5,ha,QK,av,g1,g2,beq_self_eq_true,if_true,Bool.false_eq_true,if_false]; rw [bq (by omega)]; exact ⟨rfl,rfl⟩
  ·
   obtain ⟨a,b,ha⟩:=len2 (l:=e.args) (by simp [k] at har; omega); have hm1:a∈e.args:=by rw [ha]; simp
   have hm2:b∈e.args:=by rw [ha]; simp
   have hs1:=(hS a hm1).2.1; have hs2:=(hS b hm2).2.1; have hp2:=qJ b (bQ (o9 e.name + 1)) (S b); rw [ha] at hbe; simp only [List.map_cons,List.map_nil,List.sum_cons,List.sum_nil] at hbe; by_cases h4:o9 e.name=4
   ·
    have hp1:=qJ a 5 (S a); refine ⟨Aj a 5 (S a) ++ [32] ++ e.name ++ [32] ++ Aj b 5 (S b),fun m hm=>?_,by have:=qJ b 5 (S b); simp; omega⟩; obtain ⟨q,rfl⟩:∃ q,m=q + 1:=⟨m - 1,by omega⟩; obtain ⟨g1,g2⟩:=arg a hm1 q (by omega) 5; obtain ⟨g3,g4⟩:=arg b hm2 q (by omega) 5; rw [bC,dU,bA,fF,wE,Bl]; have e1:((7:Int) == 1)=false:=rfl; have e2:((7:Int) == 2)=false:=rfl; have e3:((7:Int) == 3)=false:=rfl; have e4:((7:Int) == 4)=false:=rfl; have e5:((7:Int) == 5)=false:=rfl; have e6:((7:Int) == 6)=false:=rfl; have hb2:=qJ b 5 (S b); simp only [k,e1,e2,e3,e4,e5,e6,ha,QK,U0,av,h4,w45,g1,g2,g3,g4,beq_self_eq_true,if_true,Bool.false_eq_true,if_false]; rw [bq (by simp; omega),av,bq (by simp; omega),av,bq (by simp; omega),av,bq (by simp; omega)]; exact ⟨rfl,rfl⟩
   ·
    have hp1:=qJ a (o9 e.name) (S a); have h4':(o9 e.name == 4)=false:=by simpa using h4
    refine ⟨Aj a (o9 e.name) (S a) ++ [32] ++ e.name ++ [32] ++ Aj b (bQ (o9 e.name + 1)) (S b),fun m hm=>?_,by simp; omega⟩; obtain ⟨q,rfl⟩:∃ q,m=q + 1:=⟨m - 1,by omega⟩; obtain ⟨g1,g2⟩:=arg a hm1 q (by omega) (o9 e.name); obtain ⟨g3,g4⟩:=arg b hm2 q (by omega) (bQ (o9 e.name + 1)); rw [bC,dU,bA,fF,wE,Bl]; have e1:((7:Int) == 1)=false:=rfl; have e2:((7:Int) == 2)=false:=rfl; have e3:((7:Int) == 3)=false:=rfl; have e4:((7:Int) == 4)=false:=rfl; have e5:((7:Int) == 5)=false:=rfl; have e6:((7:Int) == 6)=false:=rfl; simp only [k,e1,e2,e3,e4,e5,e6,ha,QK,U0,av,h4',g1,g2,g3,g4,beq_self_eq_true,if_true,Bool.false_eq_true,if_false]; rw [bq (by simp; omega),av,bq (by simp; omega),av,bq (by simp; omega),av,bq (by simp; omega)]; exact ⟨rfl,rfl⟩
  ·
   obtain ⟨a,b,c,ha⟩:=ZA (l:=e.args) (by simp [k] at har; omega); have hm1:a∈e.args:=by rw [ha]; simp
   have hm2:b∈e.args:=by rw [ha]; simp
   have Zn:c∈e.args:=by rw [ha]; simp
   have hs1:=(hS a hm1).2.1; have hs2:=(hS b hm2).2.1; have hs3:=(hS c Zn).2.1; have hp1:=qJ a 2 (S a); rw [ha] at hbe; simp only [List.map_cons,List.map_nil,List.sum_cons,List.sum_nil] at hbe; refine ⟨Aj a 2 (S a) ++ [32,63,32] ++ S b ++ [32,58,32] ++ S c,fun m hm=>?_,by simp; omega⟩; obtain ⟨q,rfl⟩:∃ q,m=q + 1:=⟨m - 1,by omega⟩; obtain ⟨g1,g2⟩:=arg a hm1 q (by omega) 2; have g3:=(arg b hm2 q (by omega) 1).1; rw [Ai (hS b hm2).2.2] at g3; have g4:=((hS b hm2).1 q (by omega)).2; have g5:=(arg c Zn q (by omega) 1).1; rw [Ai (hS c Zn).2.2] at g5; have g6:=((hS c Zn).1 q (by omega)).2; rw [bC,dU,bA,fF]; have e1:((8:Int) == 1)=false:=rfl; have e2:((8:Int) == 2)=false:=rfl; have e3:((8:Int) == 3)=false:=rfl; have e4:((8:Int) == 4)=false:=rfl; have e5:((8:Int) == 5)=false:=rfl; have e6:((8:Int) == 6)=false:=rfl; have e7:((8:Int) == 7)=false:=rfl; simp only [k,e1,e2,e3,e4,e5,e6,e7,ha,QK,U0,ZF,av,g1,g2,g3,g4,g5,g6,beq_self_eq_true,if_true,Bool.false_eq_true,if_false]; rw [bq (by simp; omega),av,bq (by simp; omega),av,bq (by simp; omega),av,bq (by simp; omega)]; exact ⟨rfl,rfl⟩
  ·
   refine ⟨[91] ++ L ++ [93],fun m hm=>?_,by simp; omega⟩; obtain ⟨q,rfl⟩:∃ q,m=q + 1:=⟨m - 1,by omega⟩; obtain ⟨g1,g2⟩:=hL1 q (by omega); rw [bC,dU,bA,fF]; simp [k,g1,g2]; rw [bq (by simp; omega),av,bq (by simp; omega)]; simp
  ·
   refine ⟨[123] ++ L ++ [125],fun m hm=>?_,by simp; omega⟩; obtain ⟨q,rfl⟩:∃ q,m=q + 1:=⟨m - 1,by omega⟩; obtain ⟨g1,g2⟩:=hL1 q (by omega); rw [bC,dU,bA,fF]; simp [k,g1,g2]; rw [bq (by simp; omega),av,bq (by simp; omega)]; simp
theorem Uz {e:ah} (hB:e.bulk≤16777216):∃ s:Str,kS e=some s∧xL e=some s∧s.length + 20≤16 * e.bulk:=by
 unfold kS xL; obtain ⟨v1,v2⟩:=Um (e:=e) (by omega); have hbe:=e.gW; have hvp:=e.value.gW; rw [v1,v2,av,av]; by_cases hc:xval e=0
 ·
  rw [if_neg (by simpa using hc),if_neg (by simpa using hc)]; obtain ⟨s,h1,h2⟩:=Vy e.bulk e (Nat.le_refl _) hB ⟨1,P_ hc⟩; have:=h1 BIG (by have:=mo; omega); exact ⟨s,this.1,this.2,h2⟩
 ·
  rw [if_pos (by simpa using hc),if_pos (by simpa using hc)]; exact ⟨[],rfl,rfl,by simp; omega⟩
end Go.Ft
namespace Go.Ft
open Go
attribute [local congr] j3
def Iq (s:Str):Str:=s.flatMap fun x=>if x == 36 then [36,36] else [x]
theorem Ns :∀ s:Str,(Iq s).length≤2 * s.length
 | []=>by simp [Iq]
 | c :: r=>by
  have:=Ns r; unfold Iq at this ⊢; rw [List.flatMap_cons,List.length_append,List.length_cons]; split <;> simp only [List.length_cons,List.length_nil] <;> omega
def MJ (e:ah):Str:=(kS e).getD []
theorem KY {e:ah} (hB:e.bulk≤16777216):kS e=some (MJ e)∧xL e=some (MJ e)∧(MJ e).length + 20≤16 * e.bulk:=by
 obtain ⟨s,h1,h2,h3⟩:=Uz hB; unfold MJ; rw [h1]; exact ⟨rfl,h2,h3⟩
def Pm (p:aB):Str:=if p.Oz then [36,123] ++ MJ p.expr ++ [125] else Iq p.text
theorem Pk {p:aB} (hB:p.expr.bulk≤16777216):(Pm p).length≤16 * aB.bulk p:=by
 unfold Pm aB.bulk; have:=(KY hB).2.2; have:=Ns p.text; split <;> simp <;> omega
def BZ (ps:List aB):Str:=ps.flatMap Pm
theorem Cz (p:aB):p.expr.bulk < aB.bulk p:=by unfold aB.bulk; omega
theorem VB (ps:List aB):∀ (t:List aB) (i:Nat) (b:Str),b.length + 16 * (t.map aB.bulk).sum≤1073741824→(∀ p∈t,aB.bulk p≤16777216)→
  gP (fun i e1 (b:Str) r=>if e1.Oz then ak (kS e1.expr) fun x2=>ak (app ([36,123]:Str) x2) fun x3=>ak (app x3 ([125]:Str)) fun x4=>ak (app b x4) fun b2=>r b2
   else ak (strings_ReplaceAll e1.text ([36]:Str) ([36,36]:Str)) fun x5=>ak (app b x5) fun b3=>r b3) (fun b=>some b) i t b=some (b ++ BZ t)
 | [],i,b,_,_=>by simp [gP,BZ]
 | p :: t,i,b,h,hp=>by
  have hL:zl=4294967296:=rfl; rw [List.map_cons,List.sum_cons] at h; have hpb:=hp p (by simp); have he:=Cz p; have hl:=Pk (p:=p) (by omega); have ih:=VB ps t (i + 1) (b ++ Pm p) (by simp; omega) (fun q hq=>hp q (by simp [hq])); rw [gP]; obtain ⟨s1,s2,s3⟩:=KY (e:=p.expr) (by omega); cases hi:p.Oz with
  | true=>
   have hs:Pm p=[36,123] ++ MJ p.expr ++ [125]:=by unfold Pm; rw [hi]; rfl
   rw [if_pos rfl,s1,av,bq (by simp; omega),av,bq (by simp; omega),av,bq (by rw [←hs]; omega),av,←hs]; refine ih.trans ?_; simp [BZ]
  | false=>
   have hs:Pm p=Iq p.text:=by unfold Pm; rw [hi]; rfl
   have ht:p.text.length < 4294967281:=by unfold aB.bulk at hpb; omega
   rw [if_neg (by simp),strings_ReplaceAll,if_pos ⟨ht,rfl,rfl⟩,av]; show ak (app b (Iq p.text)) _=_; rw [←hs,bq (by omega),av]; refine ih.trans ?_; simp [BZ]
theorem Qt {ps:List aB} (h:(ps.map aB.bulk).sum≤1048576):qd ps=some (BZ ps):=by
 have hm:∀ p∈ps,aB.bulk p≤16777216:=fun p hp=>by have:=wM (f:=aB.bulk) hp; omega
 have hl:ps.length≤1048576:=by have:=yN (l:=ps) (f:=aB.bulk) (fun p=>by unfold aB.bulk; omega); omega
 unfold qd
 have:=fA (F:=fun k b i=>lJ ps k i b) (l:=ps) (body:=fun i e1 (b:Str) r=>if e1.Oz then ak (kS e1.expr) fun x2=>ak (app ([36,123]:Str) x2) fun x3=>ak (app x3 ([125]:Str)) fun x4=>ak (app b x4) fun b2=>r b2
   else ak (strings_ReplaceAll e1.text ([36]:Str) ([36,36]:Str)) fun x5=>ak (app b x5) fun b3=>r b3) (fin:=fun b=>some b) (by omega) (fun k b i=>rfl) []
 rw [this,VB ps ps 0 [] (by simp; omega) hm]; rfl
theorem R6 {ps:List aB} {p:aB} {i:Int} (hi:idx ps i=some p) (go:Str→Int→Option Str) (ht:p.text.length≤16777216):∀ (k j:Nat) (s:Str),p.text.length < k + j→j≤p.text.length→s.length + 2 * (p.text.length - j)≤1073741824→
  nH ps i go k s (j:Int)=go (s ++ Iq (p.text.drop j)) (bQ (i + 1))
 | 0,j,s,h1,h2,_=>by omega
 | k + 1,j,s,h1,h2,h3=>by
  have hL:zl=4294967296:=rfl; rw [nH]; simp only [hi,av]; by_cases hj:j < p.text.length
  ·
   rw [if_pos (by simpa using hj)]; simp only [sU hj,av]; rw [List.drop_eq_getElem_cons hj]; have w1:bQ ((j:Int) + 1)=((j + 1:Nat):Int):=BP (by omega); generalize p.text[j]=c; by_cases hc:c=36
   ·
    subst hc; rw [if_pos (by decide),bq (by simp; omega),av,bq (by simp; omega),av,w1,R6 hi go ht k (j + 1) _ (by omega) (by omega) (by simp; omega)]; simp [Iq]
   ·
    have hc2:((c.toNat:Int) == 36)=false:=by
     rw [beq_eq_false_iff_ne]; intro h; exact hc (UInt8.toNat_inj.1 (show c.toNat=36 by omega))
    rw [if_neg (by rw [hc2]; simp),bq (by simp; omega),av,w1,R6 hi go ht k (j + 1) _ (by omega) (by omega) (by simp; omega)]; simp [Iq,hc]
  ·
   rw [if_neg (by simpa using hj),List.drop_of_length_le (by omega)]; simp [Iq]
theorem VA {ps:List aB} (hm:∀ p∈ps,aB.bulk p≤16777216) (hl:ps.length≤1048576):∀ (k i:Nat) (s:Str),ps.length < k + i→i≤ps.length→s.length + 16 * ((ps.drop i).map aB.bulk).sum≤1073741824→
  kM ps k s (i:Int)=some (s ++ BZ (ps.drop i))
 | 0,i,s,h1,h2,_=>by omega
 | k + 1,i,s,h1,h2,h3=>by
  have hL:zl=4294967296:=rfl; rw [kM]; by_cases hi:i < ps.length
  ·
   have hpb:=hm ps[i] (List.getElem_mem hi); have hx:=sU hi; have w1:bQ ((i:Int) + 1)=((i + 1:Nat):Int):=BP (by omega); rw [List.drop_eq_getElem_cons hi,List.map_cons,List.sum_cons] at h3; rw [if_pos (by simpa using hi)]; simp only [hx,av]; rw [List.drop_eq_getElem_cons hi]; generalize ps[i]=p at *; have he:=Cz p; have hsl:=Pk (p:=p) (by omega); obtain ⟨s1,s2,s3⟩:=KY (e:=p.expr) (by omega); have ih:=VA hm hl k (i + 1) (s ++ Pm p) (by omega) (by omega) (by rw [List.length_append]; omega); cases his:p.Oz with
   | true=>
    have hs:Pm p=[36,123] ++ MJ p.expr ++ [125]:=by unfold Pm; rw [his]; rfl
    have hs':(s ++ [36,123] ++ MJ p.expr) ++ [125]=s ++ Pm p:=by rw [hs]; simp
    rw [hs] at hsl; simp only [List.length_append,List.length_cons,List.length_nil] at hsl; rw [if_pos rfl,bq (by simp; omega),av,s2,av,bq (by simp; omega),av,bq (by simp; omega),av,w1,hs',ih]; simp [BZ]
   | false=>
    have hs:Pm p=Iq p.text:=by unfold Pm; rw [his]; rfl
    have ht:p.text.length≤16777216:=by unfold aB.bulk at hpb; omega
    have ht2:p.text.length≤aB.bulk p:=by unfold aB.bulk; omega
    rw [if_neg (by simp)]; have:=R6 hx (kM ps k) ht BIG 0 s (by have:=mo; omega) (by omega) (by omega); rw [show (0:Int)=((0:Nat):Int) from rfl,this,List.drop_zero,←hs,w1,ih]; simp [BZ]
  ·
   rw [if_neg (by simpa using hi),List.drop_of_length_le (by omega)]; simp [BZ]
theorem Sb {ps:List aB} (h:(ps.map aB.bulk).sum≤1048576):zZ ps=some (BZ ps):=by
 have hm:∀ p∈ps,aB.bulk p≤16777216:=fun p hp=>by have:=wM (f:=aB.bulk) hp; omega
 have hl:ps.length≤1048576:=by have:=yN (l:=ps) (f:=aB.bulk) (fun p=>by unfold aB.bulk; omega); omega
 have:=VA hm hl BIG 0 [] (by have:=mo; omega) (by omega) (by simp; omega); unfold zZ; rw [show (0:Int)=((0:Nat):Int) from rfl,this]; simp
end Go.Ft
namespace Go.Ft
open Go
theorem Mc :xU=some true:=by decide +kernel
theorem FT (ps1:List aB) (h:((List.map (fun z:aB=>(aB.bulk z)) ps1).sum + 1)≤1048576):tJ ps1=some true:=by
 have hs:(ps1.map aB.bulk).sum≤1048576:=Nat.le_of_succ_le h; have hl:ps1.length≤1048576:=by have:=yN (l:=ps1) (f:=aB.bulk) (fun p=>by unfold aB.bulk; omega); omega
 have key:∀ (k i:Nat) (n:Int),ps1.length < k + i→i≤ps1.length→jf ps1 k n (i:Int)=some true:=by
  intro k
  induction k with
  | zero=>
   intro i n h1 h2; omega
  | succ k ih=>
   intro i n h1 h2; rw [jf]; by_cases hi:i < ps1.length
   ·
    by_cases hn:n≤5000
    ·
     have hb:ps1[i].expr.bulk≤1048576:=by
      have:=wM (f:=aB.bulk) (List.getElem_mem hi); have:=Cz ps1[i]; omega
     rw [if_pos (by simp [hi,hn])]; simp only [sU hi,av,(count_eq (e:=ps1[i].expr) (by omega)).2]; rw [BP (by omega)]; exact ih (i + 1) _ (by omega) (by omega)
    · rw [if_neg (by simp [hn]),if_pos (by simp; omega),Mc]
   ·
    rw [if_neg (by simp [hi])]; split
    · exact Mc
    · rw [Qt hs,av,Sb hs,av,if_pos (by simp)]; exact Mc
 have:=key BIG 0 0 (by have:=mo; omega) (by omega); exact this
end Go.Ft
