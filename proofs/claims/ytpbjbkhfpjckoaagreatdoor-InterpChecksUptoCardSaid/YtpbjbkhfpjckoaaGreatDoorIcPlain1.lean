/- Proved here: plain facts on the functional texts. -/
import Derived.Test.YtpbjbkhfpjckoaaGreatDoorIcPre1
import Derived.Test.YtpbjbkhfpjckoaaGreatDoorIcFt1
set_option linter.unusedVariables false
set_option linter.unusedSimpArgs false
set_option linter.unusedSectionVars false
set_option maxHeartbeats 2000000
namespace Go.Ft
open Go
attribute [local congr] gK
theorem K3 {α:Type} {f:α→Nat} {l:List α} {x:α} (h:x∈l):f x≤(l.map f).sum:=by
 induction l with
 | nil=>cases h
 | cons y l ih=>
  simp only [List.map_cons,List.sum_cons]; rcases List.mem_cons.1 h with rfl | h
  · omega
  · have:=ih h; omega
theorem Ir {α:Type} {f:α→Nat} {l:List α} (h:∀ x,1≤f x):l.length≤(l.map f).sum:=by
 induction l with
 | nil=>simp
 | cons y l ih=>simp only [List.map_cons,List.sum_cons,List.length_cons]; have:=h y; omega
theorem av.mP (v:av):1≤v.bulk:=by rw [av.lZ]; omega
theorem ah.mP (v:ah):1≤v.bulk:=by rw [ah.lZ]; omega
theorem au.mP (v:au):1≤v.bulk:=by rw [au.lZ]; omega
theorem I9 (v:av):v.dh.length < v.bulk:=by rw [av.lZ,av.pE]; have:=Ir (l:=v.dh) av.mP; omega
theorem zy {v x:av} (h:x∈v.dh):x.bulk < v.bulk:=by rw [av.lZ v,av.pE]; have:=K3 (f:=av.bulk) h; omega
theorem OO (v:av):v.keys.length < v.bulk:=by rw [av.lZ]; have:=Ir (l:=v.keys) (f:=fun z:Str=>z.length + 1) (fun x=>by omega); omega
theorem OM {v:av} {x:Str} (h:x∈v.keys):x.length < v.bulk:=by rw [av.lZ v]; have:=K3 (f:=fun z:Str=>z.length + 1) h; omega
theorem CP (e:ah):e.args.length < e.bulk:=by rw [ah.lZ,ah.pE]; have:=Ir (l:=e.args) ah.mP; omega
theorem jq {e x:ah} (h:x∈e.args):x.bulk < e.bulk:=by rw [ah.lZ e,ah.pE]; have:=K3 (f:=ah.bulk) h; omega
theorem FH (v:ah):v.keys.length < v.bulk:=by rw [ah.lZ]; have:=Ir (l:=v.keys) (f:=fun z:Str=>z.length + 1) (fun x=>by omega); omega
theorem Pt (v:ah):v.name.length < v.bulk:=by rw [ah.lZ]; omega
theorem ER (v:ah):v.value.bulk < v.bulk:=by rw [ah.lZ]; omega
mutual
def ecnt :ah→Nat
 | ⟨_,_,_,args,_⟩=>1 + Bz args
def Bz :List ah→Nat
 | []=>0
 | x :: r=>ecnt x + Bz r
end
theorem DF (e:ah):ecnt e=1 + Bz e.args:=by cases e; rfl
theorem SI :∀ (l:List ah) (n:Nat),(∀ x∈l,ecnt x≤x.bulk)→Bz l≤(l.map ah.bulk).sum
 | [],_,_=>by simp [Bz]
 | x :: r,n,h=>by
  simp only [Bz,List.map_cons,List.sum_cons]; have:=h x (by simp); have:=SI r n fun y hy=>h y (by simp [hy]); omega
theorem VP :∀ (n:Nat) (e:ah),e.bulk≤n→ecnt e≤e.bulk
 | 0,e,h=>by have:=e.mP; omega
 | n + 1,e,h=>by
  rw [DF,ah.lZ,ah.pE]; have:=SI e.args n fun x hx=>VP n x (by have:=jq hx; omega); omega
theorem UA {go:ah→Option Int}:∀ (l:List ah) (i s:Nat),(∀ x∈l,go x=some (ecnt x:Int))→s + Bz l < 4611686018427387904→
  dR (fun _ e2 (n1:Int) r=>ay (go e2) fun x2=>r (bL (n1 + x2))) (fun n1=>some n1) i l (s:Int)=some ((s + Bz l:Nat):Int)
 | [],i,s,_,_=>by simp [dR,Bz]
 | x :: r,i,s,h,hs=>by
  simp only [Bz] at hs ⊢; rw [dR,h x (by simp)]; simp only [ak]; have:bL ((s:Int) + (ecnt x:Int))=((s + ecnt x:Nat):Int):=by rw [TK (by omega)]; omega
  rw [this,UA r (i + 1) (s + ecnt x) (fun y hy=>h y (by simp [hy])) (by omega)]; simp only [Option.some.injEq,Int.natCast_inj]; omega
theorem QM :∀ (n:Nat) (e:ah),e.bulk≤n→e.bulk < 4611686018427387904→mK (n + 1) e=some (ecnt e:Int)∧qW (n + 1) e=some (ecnt e:Int)
 | 0,e,h,_=>by have:=e.mP; omega
 | n + 1,e,h,hB=>by
  have hl:=CP e; have hle:=VP _ e (Nat.le_refl _); rw [DF] at hle; constructor
  ·
   unfold mK vI; have:=dU (F:=fun k s i=>qd (mK (n + 1)) e k s i) (l:=e.args) (body:=fun _ e2 (n1:Int) r=>ay (mK (n + 1) e2) fun x2=>r (bL (n1 + x2))) (fin:=fun n1=>some n1) (by omega) (fun k s i=>rfl) 1; rw [this,show (1:Int)=((1:Nat):Int) from rfl,UA e.args 0 1 (fun x hx=>(QM n x (by have:=jq hx; omega) (by have:=jq hx; omega)).1) (by omega),DF]
  ·
   unfold qW Bh; have:=dU (F:=fun k s i=>vo (qW (n + 1)) e k s i) (l:=e.args) (body:=fun _ e2 (n1:Int) r=>ay (qW (n + 1) e2) fun x2=>r (bL (n1 + x2))) (fin:=fun n1=>some n1) (by omega) (fun k s i=>rfl) 1; rw [this,show (1:Int)=((1:Nat):Int) from rfl,UA e.args 0 1 (fun x hx=>(QM n x (by have:=jq hx; omega) (by have:=jq hx; omega)).2) (by omega),DF]
theorem tV :∃ n,BIG=n + 1∧9223372036854775807≤n:=⟨BIG - 1,by decide,by decide⟩
theorem count_eq {e:ah} (h:e.bulk < 4611686018427387904):yY e=some (ecnt e:Int)∧Fu e=some (ecnt e:Int):=by
 obtain ⟨n,hn,hn2⟩:=tV; unfold yY Fu; rw [hn]; exact QM n e (by omega) h
def isName (s:Str):Bool:=decide (1≤s.length) && decide (s.length≤64) && (match s with | c :: _=>isLet c | []=>false) && s.all fun c=>isLet c || bY c
def jR (s:Str):Bool:=isName s && !((s == ([116,114,117,101]:Str)) || (s == ([102,97,108,115,101]:Str)) || (s == ([110,117,108,108]:Str)))
theorem ag3 (s:Str) (hs:s.length < 4611686018427387904):oO s BIG 0=some (s.all fun c=>isLet c || bY c):=by
 have:=dU (F:=fun k (_:Unit) i=>oO s k i) (l:=s) (body:=fun (i:Nat) x3 _ r=>ay (if !(isLet x3) then ay (idx s (i:Int)) fun x5=>some (!(bY x5)) else some false) fun b2=>if b2 then some false else r ()) (fin:=fun _=>some true) hs (fun k s i=>rfl) (); rw [this]
 have key:∀ (t:Str) (i:Nat),t=s.drop i→dR (fun (i:Nat) x3 (_:Unit) r=>ay (if !(isLet x3) then ay (idx s (i:Int)) fun x5=>some (!(bY x5)) else some false) fun b2=>if b2 then some false else r ()) (fun _=>some true) i t ()=some (t.all fun c=>isLet c || bY c):=by
  intro t
  induction t with
  | nil=>intro i _; rfl
  | cons c t ih=>
   intro i ht
   have hi:i < s.length:=by
    rcases Nat.lt_or_ge i s.length with h | h
    · exact h
    · rw [List.drop_eq_nil_of_le h] at ht; cases ht
   have hc:=List.drop_eq_getElem_cons hi; rw [←ht] at hc; have e1:c=s[i]:=(List.cons.inj hc).1; have e2:=(List.cons.inj hc).2; rw [dR,m_ hi,←e1]; simp only [ak]; rw [ih (i + 1) e2]; cases h1:isLet c <;> cases h2:bY c <;> simp [h1,h2]
 exact key s 0 rfl
theorem L9 (s:Str) (hs:s.length < 4611686018427387904):uP s=some (isName s):=by
 unfold uP isName; rw [ag3 s hs]; by_cases h1:s.length < 1
 ·
  have:s=[]:=by cases s; rfl; simp at h1
  subst this; simp
 ·
  by_cases h2:64 < s.length
  ·
   have e1:decide ((64:Int) < (s.length:Int))=true:=by simp; omega
   have e2:decide (s.length≤64)=false:=by simp; omega
   simp [e1,e2]
  ·
   cases s with
   | nil=>simp at h1
   | cons c s=>
    have e1:decide ((((c :: s).length:Nat):Int) < 1)=false:=by simp; omega
    have e2:decide ((64:Int) < (((c :: s).length:Nat):Int))=false:=by simp at h2 ⊢; omega
    have e3:decide ((c :: s).length≤64)=true:=by simp at h2 ⊢; omega
    have e4:idx (c :: s) 0=some c:=rfl; rw [e1,e2,e3,e4]; cases h3:isLet c <;> simp [h3]
theorem Y2 (s:Str) (hs:s.length < 4611686018427387904):Cr s=some (isName s):=by
 unfold Cr
 have:=dU (F:=fun k (_:Unit) i=>xH s k i) (l:=s) (body:=fun (i:Nat) x3 _ r=>ay (if !(isLet x3) then (if (i:Int) == 0 then some true else ay (idx s (i:Int)) fun x5=>some (!(bY x5))) else some false) fun b2=>if b2 then some false else r ())
  (fin:=fun _=>some ((decide (1≤(s.length:Int))) && (decide ((s.length:Int)≤64)))) hs (fun k s i=>rfl) ()
 rw [this]
 have key:∀ (t:Str) (i:Nat),t=s.drop i→dR (fun (i:Nat) x3 (_:Unit) r=>ay (if !(isLet x3) then (if (i:Int) == 0 then some true else ay (idx s (i:Int)) fun x5=>some (!(bY x5))) else some false) fun b2=>if b2 then some false else r ())
   (fun _=>some ((decide (1≤(s.length:Int))) && (decide ((s.length:Int)≤64)))) i t ()=some ((decide (1≤s.length) && decide (s.length≤64)) && ((if i=0 then (match t with | c :: _=>isLet c | []=>true) else true) && t.all fun c=>isLet c || bY c)):=by
  intro t
  induction t with
  | nil=>
   intro i _; rw [dR]; have e1:decide ((1:Int)≤(s.length:Int))=decide (1≤s.length):=by congr 1; simp; omega
   have e2:decide ((s.length:Int)≤64)=decide (s.length≤64):=by congr 1; simp; omega
   rw [e1,e2]; simp
  | cons c t ih=>
   intro i ht
   have hi:i < s.length:=by
    rcases Nat.lt_or_ge i s.length with h | h
    · exact h
    · rw [List.drop_eq_nil_of_le h] at ht; cases ht
   have hc:=List.drop_eq_getElem_cons hi; rw [←ht] at hc; have e1:c=s[i]:=(List.cons.inj hc).1; have e2:=(List.cons.inj hc).2; rw [dR,m_ hi,←e1]; simp only [ak]; rw [ih (i + 1) e2]; by_cases h0:i=0
   ·
    subst h0; cases h1:isLet c <;> simp [h1]
   ·
    have:((i:Int) == 0)=false:=by simp; omega
    rw [this]; cases h1:isLet c <;> cases h2:bY c <;> simp [h1,h2,h0]
 rw [key s 0 rfl]; unfold isName; cases s with
 | nil=>simp
 | cons c s=>simp [Bool.and_assoc]
theorem Ai (s:Str) (hs:s.length < 4611686018427387904):lQ s=some (jR s)∧oM s=some (jR s):=by
 unfold lQ oM jR nL; rw [L9 s hs,Y2 s hs]; constructor
 · cases isName s <;> simp
 ·
  simp only [ak,Option.some.injEq]; cases isName s <;> simp [Bool.not_or,Bool.and_assoc]
theorem J9 (s:Str):rV s=gF s:=rfl
theorem NT (s:Str):∃ n,gF s=some n:=by
 have:(gF s).isSome=true:=by
  unfold gF; simp only [apply_ite Option.isSome,Option.isSome_some,ite_self]
 exact Option.isSome_iff_exists.1 this
end Go.Ft
namespace Go.Ft
open Go
attribute [local congr] gK
def xS (s:Str):Bool:=decide (1≤s.length) && decide (s.length≤64)
def R9 (a b:Str):Int:=(nK a b).getD 0
theorem ab4 {a b:Str} (ha:a.length < 4611686018427387904) (hb:b.length < 4611686018427387904):ow a b=some (R9 a b)∧nK a b=some (R9 a b):=by
 obtain ⟨c,h1,h2⟩:=M8 ha hb; unfold R9; rw [h2]; exact ⟨h1,rfl⟩
def Og :Option Str→List Str→Bool
 | _,[]=>true
 | p,k :: r=>xS k && (match p with | none=>true | some q=>decide (R9 q k < 0)) && Og (some k) r
theorem Qr (s:Str):((decide ((s.length:Int) < 1)) || (decide (64 < (s.length:Int))))=!xS s:=by
 unfold xS; rw [Bool.eq_iff_iff]; simp only [Bool.or_eq_true,Bool.not_eq_true',Bool.and_eq_false_iff,decide_eq_true_eq,decide_eq_false_iff_not]; omega
theorem key_eq (s:Str):Ic s=some (xS s):=by
 unfold Ic xS; simp only [Option.some.injEq]; rw [Bool.eq_iff_iff]; simp only [Bool.and_eq_true,decide_eq_true_eq]; omega
def EB (l:List Str) (i:Nat):Option Str:=if i=0 then none else l[i - 1]?
theorem Wh {v:av} (hv:v.bulk < 4611686018427387904):∀ (k i:Nat),v.keys.length < k + i→i≤v.keys.length→
  oI v k (i:Int)=some (Og (EB v.keys i) (v.keys.drop i))∧
  mF v k (i:Int)=some (Og (EB v.keys i) (v.keys.drop i) && ((v.keys.length:Int) == (v.dh.length:Int)))
 | 0,i,h,h'=>by omega
 | k + 1,i,h,h'=>by
  have hlen:=OO v; rw [oI,mF]; by_cases hi:i < v.keys.length
  ·
   have hm:v.keys[i]∈v.keys:=List.getElem_mem hi; have hb:=OM hm; rw [List.drop_eq_getElem_cons hi,if_pos (by simp; omega),if_pos (by simp; omega),m_ hi]; simp only [ak,Qr,key_eq,Og]; obtain ⟨ih1,ih2⟩:=Wh hv k (i + 1) (by omega) (by omega); have hp:EB v.keys (i + 1)=some v.keys[i]:=by simp [EB,hi]
   rw [hp] at ih1 ih2; rw [mh (by omega),ih1,ih2]; by_cases h0:i=0
   ·
    subst h0; have hp0:EB v.keys 0=none:=rfl; rw [hp0]; cases xS v.keys[0] <;> simp
   ·
    have hi1:i - 1 < v.keys.length:=by omega
    have hm1:v.keys[i - 1]∈v.keys:=List.getElem_mem hi1; have hb1:=OM hm1; have hp0:EB v.keys i=some v.keys[i - 1]:=by simp [EB,h0,hi1]
    have e1:bL ((i:Int) - 1)=((i - 1:Nat):Int):=by rw [TK (by omega)]; omega
    obtain ⟨c1,c2⟩:=ab4 (a:=v.keys[i - 1]) (b:=v.keys[i]) (by omega) (by omega); have hpos:decide ((0:Int) < (i:Int))=true:=by simp; omega
    rw [hp0,e1,hpos,m_ hi1]; simp only [ak,c1,c2,if_true]
    have hn:decide (R9 v.keys[i - 1] v.keys[i] < 0)=!decide (0≤R9 v.keys[i - 1] v.keys[i]):=by
     by_cases h:0≤R9 v.keys[i - 1] v.keys[i] <;> simp [h] <;> omega
    rw [hn]; cases xS v.keys[i] <;> cases decide (0≤R9 v.keys[i - 1] v.keys[i]) <;> simp
  ·
   have:i=v.keys.length:=by omega
   subst this; simp [Og]
theorem Sj {v:av} (hv:v.bulk < 4611686018427387904):xu v=some (((v.keys.length:Int) == (v.dh.length:Int)) && Og none v.keys)∧tC v=some (((v.keys.length:Int) == (v.dh.length:Int)) && Og none v.keys):=by
 have hlen:=OO v; obtain ⟨h1,h2⟩:=Wh hv BIG 0 (by have:=jL; omega) (by omega); have hp0:EB v.keys 0=none:=rfl; rw [hp0,List.drop_zero] at h1 h2; unfold xu tC; rw [show (0:Int)=((0:Nat):Int) from rfl,h1,h2]; by_cases h:(v.keys.length:Int)=(v.dh.length:Int)
 · simp [h]
 ·
  have:((v.keys.length:Int) == (v.dh.length:Int))=false:=by simpa using h
  simp [this]; intro hh; exact absurd hh h
def Gm (v:av):Bool:=
 (((((v.kind == 1) || (!v.lJ)) && ((v.kind == 2) || (v.mZ == 0))) && ((v.kind == 3) || (v.pF == ([]:Str)))) && (((v.kind == 4) || (v.kind == 5)) || ((v.dh.length:Int) == 0))) && ((v.kind == 5) || ((v.keys.length:Int) == 0))
theorem aeF (v:av):Cu v=some (Gm v):=by
 unfold Cu Gm
 have hl:decide (0 < (v.dh.length:Int))=!((v.dh.length:Int) == 0):=by
  cases h:v.dh <;> simp; omega
 rw [hl]; have hk:∀ n:Int,(v.kind != n)=!(v.kind == n):=fun n=>rfl; have hi:(v.mZ != 0)=!(v.mZ == 0):=rfl; rw [hk,hk,hk,hk,hk,hi]; generalize (v.kind == 1)=a1; generalize (v.kind == 2)=a2; generalize (v.kind == 3)=a3; generalize (v.kind == 4)=a4; generalize (v.kind == 5)=a5; generalize v.lJ=b; generalize (v.mZ == 0)=c; generalize (v.pF == ([]:Str))=d; generalize ((v.dh.length:Int) == 0)=e; generalize ((v.keys.length:Int) == 0)=f; revert a1 a2 a3 a4 a5 b c d e f; decide
def yK (v:av) (level:Nat):Int:=
 if 16 < level then 13
 else if (decide (v.kind < 0)) || (decide (5 < v.kind)) || !Gm v then 1
 else if (decide (v.mZ < (-9007199254740992))) || (decide (9007199254740992 < v.mZ)) then 2
 else if ((decide (4096 < (v.pF.length:Int))) || (decide (1024 < (v.dh.length:Int)))) || (decide (1024 < (v.keys.length:Int))) then 3
 else if v.kind == 5 && !(((v.keys.length:Int) == (v.dh.length:Int)) && Og none v.keys) then 1
 else if (((v.kind == 4) || (v.kind == 5)) && ((v.dh.length:Int) == 0)) && level == 16 then 13
 else 0
theorem ab3 {v:av} (hv:v.bulk < 4611686018427387904) (level:Nat):zR v (level:Int)=some (yK v level):=by
 unfold zR yK yR; have h16:decide ((16:Int) < (level:Int))=decide (16 < level):=by congr 1; simp; omega
 have afi:((level:Int) == 16)=(level == 16):=by
  rw [Bool.eq_iff_iff]; simp only [beq_iff_eq]; omega
 rw [h16,afi,(Sj hv).1]; change (if decide (16 < level)=true then some 13 else ay (if (decide (v.kind < 0) || decide (5 < v.kind))=true then some true else ay (some (Gm v)) fun x1=>some (!x1)) _)=_
 by_cases h0:16 < level
 · simp [h0]
 ·
  simp only [h0,decide_false,Bool.false_eq_true,if_false,ak]; cases h1:(decide (v.kind < 0) || decide (5 < v.kind)) with
  | true=>simp
  | false=>
   cases h2:Gm v with
   | false=>simp
   | true=>
    simp only [Bool.false_eq_true,if_false,Bool.not_true,ak,Bool.or_self]; split
    · rfl
    ·
     split
     · rfl
     · cases h3:(v.kind == 5) <;> cases h4:(((v.keys.length:Int) == (v.dh.length:Int)) && Og none v.keys) <;> simp <;> (first | rfl | (split <;> rfl))
mutual
def yP :av→Nat→Int
 | ⟨a,b,c,d,l,f⟩,level=>if yK ⟨a,b,c,d,l,f⟩ level != 0 then yK ⟨a,b,c,d,l,f⟩ level else Ej l (level + 1)
def Ej :List av→Nat→Int
 | [],_=>0
 | x :: r,level=>if yP x level != 0 then yP x level else Ej r level
end
theorem PZ (v:av) (level:Nat):yP v level=if yK v level != 0 then yK v level else Ej v.dh (level + 1):=by cases v; rw [yP]
theorem ahB {go:av→Int→Option Int} {level:Nat}:∀ (l:List av) (i:Nat),(∀ x∈l,go x ((level + 1:Nat):Int)=some (yP x (level + 1)))→
  dR (fun _ e1 (_:Unit) r=>ay (go e1 ((level + 1:Nat):Int)) fun e2=>if e2 != 0 then some e2 else r ()) (fun _=>some 0) i l ()=some (Ej l (level + 1))
 | [],i,_=>by simp [dR,Ej]
 | x :: r,i,h=>by
  rw [dR,h x (by simp),Ej]; simp only [ak]; rw [ahB r (i + 1) (fun y hy=>h y (by simp [hy]))]; split <;> rfl
theorem S9 :∀ (n:Nat) (v:av) (level:Nat),v.bulk≤n→v.bulk < 4611686018427387904→level≤17→ru (n + 1) v (level:Int)=some (yP v level)
 | 0,v,_,h,_,_=>by have:=v.mP; omega
 | n + 1,v,level,h,hB,hlv=>by
  have hl:=I9 v; rw [PZ]; unfold ru Bl; have h16:decide ((16:Int) < (level:Int))=decide (16 < level):=by congr 1; simp; omega
  have afi:((level:Int) == 16)=(level == 16):=by
   rw [Bool.eq_iff_iff]; simp only [beq_iff_eq]; omega
  rw [h16,afi,(Sj hB).2,aeF]; unfold yK; by_cases h0:16 < level
  · simp [h0]
  ·
   have hw:bL ((level:Int) + 1)=((level + 1:Nat):Int):=mh (by omega); have:=dU (F:=fun k (_:Unit) i=>vB (ru (n + 1)) v (level:Int) k i) (l:=v.dh) (body:=fun _ e1 _ r=>ay (ru (n + 1) e1 ((level + 1:Nat):Int)) fun e2=>if e2 != 0 then some e2 else r ()) (fin:=fun _=>some 0) (by omega) (fun k s i=>by rw [←hw]; rfl) (); rw [this,ahB v.dh 0 fun x hx=>S9 n x (level + 1) (by have:=zy hx; omega) (by have:=zy hx; omega) (by omega)]; simp only [h0,decide_false,Bool.false_eq_true,if_false,ak]; cases h1:(decide (v.kind < 0) || decide (5 < v.kind)) with
   | true=>simp
   | false=>
    cases h2:Gm v with
    | false=>simp
    | true=>
     simp only [Bool.false_eq_true,if_false,Bool.not_true,ak,Bool.or_self]; split
     · simp
     ·
      split
      · simp
      ·
       have h4:decide ((4:Int)≤v.kind)=((v.kind == 4) || (v.kind == 5)):=by
        simp only [Bool.or_eq_false_iff,decide_eq_false_iff_not] at h1; rw [Bool.eq_iff_iff]; simp only [Bool.or_eq_true,decide_eq_true_eq,beq_iff_eq]; omega
       rw [h4]
       cases h3:(v.kind == 5) <;> cases h5:(((v.keys.length:Int) == (v.dh.length:Int)) && Og none v.keys) <;> simp <;> (first | rfl | (split <;> simp <;> rename_i hq <;> (first
        | exact fun hh=>absurd hq.2 (hh hq.1.1 hq.1.2)
        | exact fun a b c=>absurd ⟨⟨a,b⟩,c⟩ hq)))
theorem YD {v:av} (h:v.bulk < 4611686018427387904):zF v=some (yP v 1):=by
 obtain ⟨n,hn,hn2⟩:=tV; unfold zF Jk; rw [hn]; exact S9 n v 1 (by omega) h (by omega)
def Lc (c:Int):Bool × Option Int:=if c != 0 then (false,some c) else (true,none)
theorem agm {v:av} (hv:v.bulk < 4611686018427387904) (level:Nat):kU none (level:Int) v=some (Lc (yK v level)):=by
 unfold kU Lc; simp only [ab3 hv,ak]; by_cases h:yK v level=0 <;> simp [h]
theorem ac4 {go:Option Int→av→Int→Option (Bool × Option Int)} {level:Nat}:∀ (l:List av) (i:Nat),(∀ x∈l,go none x ((level + 1:Nat):Int)=some (Lc (yP x (level + 1))))→
  dR (fun _ x1 (s1:Option Int) r=>dX (go s1 x1 ((level + 1:Nat):Int)) fun b1 s2=>if !b1 then some (false,s2) else r s2) (fun s1=>some (true,s1)) i l none=some (Lc (Ej l (level + 1)))
 | [],i,_=>by simp [dR,Ej,Lc]
 | x :: r,i,h=>by
  rw [dR,h x (by simp),Ej]; by_cases hc:yP x (level + 1)=0
  ·
   simp only [hc,Lc,bne_self_eq_false,Bool.false_eq_true,if_false,aC,Bool.not_true]; rw [ac4 r (i + 1) (fun y hy=>h y (by simp [hy]))]; rfl
  · simp [hc,Lc]
theorem YA :∀ (n:Nat) (v:av) (level:Nat),v.bulk≤n→v.bulk < 4611686018427387904→level≤17→nD kU (n + 1) none v (level:Int)=some (Lc (yP v level))
 | 0,v,_,h,_,_=>by have:=v.mP; omega
 | n + 1,v,level,h,hB,hlv=>by
  have hl:=I9 v; rw [PZ]; unfold nD yQ; rw [agm hB]; by_cases h0:yK v level=0
  ·
   have aiT:level≤16:=by
    rcases Nat.lt_or_ge 16 level with h | h
    · unfold yK at h0; simp [h] at h0
    · exact h
   have hw:bL ((level:Int) + 1)=((level + 1:Nat):Int):=mh (by omega); have:=dU (F:=fun k s i=>tq (nD kU (n + 1)) v (level:Int) k s i) (l:=v.dh) (body:=fun _ x1 (s1:Option Int) r=>dX (nD kU (n + 1) s1 x1 ((level + 1:Nat):Int)) fun b1 s2=>if !b1 then some (false,s2) else r s2) (fin:=fun s1=>some (true,s1)) (by omega) (fun k s i=>by rw [←hw]; rfl) none; simp only [h0,Lc,bne_self_eq_false,Bool.false_eq_true,if_false,aC,Bool.not_true]; rw [this,ac4 v.dh 0 fun x hx=>YA n x (level + 1) (by have:=zy hx; omega) (by have:=zy hx; omega) (by omega)]; rfl
  · simp [h0,Lc]
theorem OL {v:av} (h:v.bulk < 4611686018427387904):nE v=some (yP v 1):=by
 obtain ⟨n,hn,hn2⟩:=tV; unfold nE Gp; rw [hn,show (1:Int)=((1:Nat):Int) from rfl,YA n v 1 (by omega) h (by omega)]; unfold Lc; by_cases hc:yP v 1=0 <;> simp [hc]
end Go.Ft
namespace Go.Ft
open Go
attribute [local congr] gK
def J6 (v:av):Bool:=(((((v.kind == 0) && (!v.lJ)) && (v.mZ == 0)) && (v.pF == ([]:Str))) && ((v.dh.length:Int) == 0)) && ((v.keys.length:Int) == 0)
theorem zero_eq (v:av):Bn v=some (J6 v):=rfl
theorem WJ (v:av):Ie v (av.mk 0 false 0 ([]:Str) [] [])=some (J6 v):=by
 obtain ⟨n,hn,hn2⟩:=tV; obtain ⟨m,hm⟩:∃ m,n=m + 1:=⟨n - 1,by omega⟩; have hB:BIG=(m + 1) + 1:=by omega
 unfold Ie; rw [hB,Dj,Dk]
 have hz:J6 v=!(((((v.kind != 0) || (!(v.lJ == false))) || (v.mZ != 0)) || (!(v.pF == ([]:Str)))) || ((v.dh.length:Int) != (([]:List av).length:Int)) || ((v.keys.length:Int) != (([]:List Str).length:Int))):=by
  unfold J6; have hk:(v.kind != 0)=!(v.kind == 0):=rfl; have hi:(v.mZ != 0)=!(v.mZ == 0):=rfl; have hl:((v.dh.length:Int) != (([]:List av).length:Int))=!((v.dh.length:Int) == 0):=rfl; have hks:((v.keys.length:Int) != (([]:List Str).length:Int))=!((v.keys.length:Int) == 0):=rfl; rw [hk,hi,hl,hks]; generalize (v.kind == 0)=a; generalize v.lJ=b; generalize (v.mZ == 0)=c; generalize (v.pF == ([]:Str))=d; generalize ((v.dh.length:Int) == 0)=e; generalize ((v.keys.length:Int) == 0)=f; revert a b c d e f; decide
 cases h:(((((v.kind != 0) || (!(v.lJ == false))) || (v.mZ != 0)) || (!(v.pF == ([]:Str)))) || ((v.dh.length:Int) != (([]:List av).length:Int)) || ((v.keys.length:Int) != (([]:List Str).length:Int))) with
 | true=>
  rw [hz,h]; rfl
 | false=>
  rw [hz,h]; simp only [Bool.or_eq_false_iff] at h; have hl:v.dh=[]:=by have:=h.1.2; simpa using this
  have hk:v.keys=[]:=by have:=h.2; simpa using this
  simp only [Bool.false_eq_true,if_false,Bool.not_false]; rw [hB,xK,hk]; simp only [List.length_nil,Int.lt_irrefl,decide_false,Bool.false_eq_true,if_false,Int.ofNat_zero,Int.natCast_zero]; rw [hB,xJ,hl]; simp
def qB (e:ah):Bool:=
 if e.kind == 1 then (e.args.length:Int) == 0 else if e.kind == 2 then (e.args.length:Int) == 0 else if e.kind == 3 then (e.args.length:Int) == 1 else if e.kind == 6 then (e.args.length:Int) == 1
 else if e.kind == 4 then (e.args.length:Int) == 2 else if e.kind == 7 then (e.args.length:Int) == 2 else if e.kind == 8 then (e.args.length:Int) == 3 else ((e.kind == 5) || (e.kind == 9)) || (e.kind == 10)
theorem acJ (e:ah):Cm e=some (qB e):=by
 unfold Cm qB; simp only [apply_ite some]
def Ap (e:ah):Bool:=!((decide (e.kind < 1)) || (decide (10 < e.kind)))
theorem afu (e:ah) (h:Ap e=true):vG e=some (qB e):=by
 unfold vG qB; unfold Ap at h; simp only [Bool.not_eq_true',Bool.or_eq_false_iff,decide_eq_false_iff_not] at h; simp only [apply_ite some]
 have hh:¬ e.kind=1→¬ e.kind=2→¬ e.kind=3→¬ e.kind=6→¬ e.kind=4→¬ e.kind=7→¬ e.kind=8→(((e.kind == 5) || (e.kind == 9)) || (e.kind == 10))=true:=by
  intro h1 h2 h3 h6 h4 h7 h8; simp only [Bool.or_eq_true,beq_iff_eq]; omega
 by_cases h1:e.kind=1
 · simp [h1]
 by_cases h2:e.kind=2
 · simp [h2]
 by_cases h3:e.kind=3
 · simp [h3]
 by_cases h6:e.kind=6
 · simp [h6]
 by_cases h4:e.kind=4
 · simp [h4]
 by_cases h7:e.kind=7
 · simp [h7]
 by_cases h8:e.kind=8
 · simp [h8]
 rw [hh h1 h2 h3 h6 h4 h7 h8]
 all_goals simp [h1,h2,h3,h4,h6,h7,h8]
def Df (s:Str):Int:=(gF s).getD 0
theorem Jb (s:Str):gF s=some (Df s):=by
 obtain ⟨n,h⟩:=NT s; unfold Df; rw [h]; rfl
def DC (e:ah):Bool:=
 if e.kind == 2 then jR e.name else if e.kind == 3 then jR e.name else if e.kind == 5 then jR e.name else if e.kind == 6 then (e.name == ([33]:Str)) || (e.name == ([45]:Str))
 else if e.kind == 7 then decide (0 < Df e.name) else e.name == ([]:Str)
theorem R_ (e:ah) (h:e.bulk < 4611686018427387904):vE e=some (DC e)∧Ck e=some (DC e):=by
 have hn:=Pt e; obtain ⟨p1,p2⟩:=Ai e.name (by omega); unfold vE Ck DC; rw [p1,p2,J9,Jb]; simp only [ak,apply_ite some,and_self]
theorem ajh (l:List Str) (hl:l.length < 4611686018427387904):eX l jv=some (l.any fun k=>!xS k):=by
 unfold eX iD; have:=dU (F:=fun k (_:Unit) i=>eU l jv k i) (l:=l) (body:=fun (i:Nat) e1 _ r=>ay (jv e1) fun x1=>if x1 then some (i:Int) else r ()) (fin:=fun _=>some (-1)) hl (fun k s i=>rfl) (); rw [this]
 have key:∀ (t:List Str) (i:Nat),ay (dR (fun (i:Nat) e1 (_:Unit) r=>ay (jv e1) fun x1=>if x1 then some (i:Int) else r ()) (fun _=>some (-1)) i t ()) (fun x1=>some (decide (0≤x1)))=some (t.any fun k=>!xS k):=by
  intro t
  induction t with
  | nil=>intro i; rfl
  | cons c t ih=>
   intro i; rw [dR]; have e1:jv c=some (!xS c):=by unfold jv; rw [Qr]
   rw [e1]; simp only [ak,List.any_cons]; cases h:xS c with
   | false=>simp
   | true=>
    simp only [Bool.not_true,Bool.false_eq_true,if_false,Bool.false_or]; exact ih (i + 1)
 exact key l 0
def JF (e:ah):Bool:=if e.kind != 10 then (e.keys.length:Int) == 0 else ((e.keys.length:Int) == (e.args.length:Int)) && !(e.keys.any fun k=>!xS k)
theorem ae8 (e:ah) (h:e.bulk < 4611686018427387904):vF e=some (JF e):=by
 have hk:=FH e; unfold vF JF; rw [ajh e.keys (by omega)]; split
 · rfl
 · cases ((e.keys.length:Int) == (e.args.length:Int)) <;> simp
theorem aci (e:ah) (h:e.bulk < 4611686018427387904):qo e BIG 0=some (!(e.keys.any fun k=>!xS k) && ((e.keys.length:Int) == (e.args.length:Int))):=by
 have hk:=FH e
 have:=dU (F:=fun k (_:Unit) i=>qo e k i) (l:=e.keys) (body:=fun (i:Nat) e2 _ r=>ay (if decide ((e2.length:Int) < 1) then some true else ay (idx e.keys (i:Int)) fun e3=>some (decide (64 < (e3.length:Int)))) fun b4=>if b4 then some false else r ())
  (fin:=fun _=>some ((e.keys.length:Int) == (e.args.length:Int))) (by omega) (fun k s i=>rfl) ()
 rw [this]
 have key:∀ (t:List Str) (i:Nat),t=e.keys.drop i→dR (fun (i:Nat) e2 (_:Unit) r=>ay (if decide ((e2.length:Int) < 1) then some true else ay (idx e.keys (i:Int)) fun e3=>some (decide (64 < (e3.length:Int)))) fun b4=>if b4 then some false else r ())
   (fun _=>some ((e.keys.length:Int) == (e.args.length:Int))) i t ()=some (!(t.any fun k=>!xS k) && ((e.keys.length:Int) == (e.args.length:Int))):=by
  intro t
  induction t with
  | nil=>intro i _; rfl
  | cons c t ih=>
   intro i ht
   have hi:i < e.keys.length:=by
    rcases Nat.lt_or_ge i e.keys.length with h | h
    · exact h
    · rw [List.drop_eq_nil_of_le h] at ht; cases ht
   have hc:=List.drop_eq_getElem_cons hi; rw [←ht] at hc; have e1:c=e.keys[i]:=(List.cons.inj hc).1; have e2:=(List.cons.inj hc).2; rw [dR,m_ hi,←e1]; simp only [ak,List.any_cons]; rw [ih (i + 1) e2]; have e3:=Qr c; cases h1:decide ((List.length c:Int) < 1) <;> rw [h1] at e3
   ·
    simp only [Bool.false_or] at e3; simp only [Bool.false_eq_true,if_false,ak,e3]; cases xS c <;> simp
   ·
    simp only [Bool.true_or] at e3
    have:xS c=false:=by
     cases h:xS c with
     | false=>rfl
     | true=>rw [h] at e3; cases e3
    simp [this]
 exact key e.keys 0 rfl
def vX (e:ah):Bool:=Ap e && ((e.kind == 1) || J6 e.value) && DC e && qB e && JF e
theorem UU (e:ah) (h:qB e=true):Ap e=true:=by
 unfold qB at h; unfold Ap; simp only [Bool.not_eq_true',Bool.or_eq_false_iff,decide_eq_false_iff_not]; by_cases h1:e.kind=1
 · omega
 by_cases h2:e.kind=2
 · omega
 by_cases h3:e.kind=3
 · omega
 by_cases h6:e.kind=6
 · omega
 by_cases h4:e.kind=4
 · omega
 by_cases h7:e.kind=7
 · omega
 by_cases h8:e.kind=8
 · omega
 simp [h1,h2,h3,h4,h6,h7,h8] at h; omega
theorem Xw (e:ah) (h:e.bulk < 4611686018427387904):Ad e=some (vX e):=by
 unfold Ad vX; rw [acJ,(R_ e h).2,WJ,aci e h]; have hk:=UU e; unfold JF; have hne:(e.kind != 1)=!(e.kind == 1):=rfl; rw [hne]; cases h1:qB e with
 | false=>cases (e.kind == 1) <;> simp
 | true=>
  rw [hk h1]; cases h2:DC e with
  | false=>cases (e.kind == 1) <;> simp
  | true=>
   cases h3:(e.kind == 1) <;> cases h4:J6 e.value <;> simp <;> (first | done | (split <;> simp [Bool.and_comm]))
theorem Fy (y:List (Str × Int)) (s t:Str) (n:Int):oD (qH y s n) t=if t=s then n else oD y t:=by
 induction y with
 | nil=>by_cases h:t=s <;> simp [qH,oD,h]
 | cons a y ih=>
  obtain ⟨k,v⟩:=a; unfold qH; by_cases h:s=k
  ·
   subst h; simp only [beq_self_eq_true,if_true]; unfold oD; by_cases h2:t=s
   · simp [h2]
   ·
    have:(t == s)=false:=beq_eq_false_iff_ne.2 h2; simp [this,h2]
  ·
   have:(s == k)=false:=beq_eq_false_iff_ne.2 h; rw [this]; simp only [Bool.false_eq_true,if_false]; unfold oD; by_cases h2:t=k
   ·
    subst h2; have:¬ t=s:=fun hh=>h hh.symm; simp [this]
   ·
    have h3:(t == k)=false:=beq_eq_false_iff_ne.2 h2; rw [h3]; simp only [Bool.false_eq_true,if_false]; exact ih
def MX :List Str→List Str→Bool
 | _,[]=>false
 | seen,s :: r=>seen.contains s || MX (seen ++ [s]) r
theorem aeE (l:List Str) (hl:l.length < 4611686018427387904):qc l=some (MX [] l):=by
 unfold qc; have:=dU (F:=fun k s i=>mJ l k i s) (l:=l) (body:=fun _ s1 (y1:List (Str × Int)) r=>if decide (1 < (oD (qH y1 s1 (bL ((oD y1 s1) + 1))) s1)) then some true else r (qH y1 s1 (bL ((oD y1 s1) + 1)))) (fin:=fun _=>some false) hl (fun k s i=>rfl) []; rw [this]
 have key:∀ (t:List Str) (i:Nat) (y:List (Str × Int)) (seen:List Str),(∀ s,oD y s=if s∈seen then 1 else 0)→
   dR (fun _ s1 (y1:List (Str × Int)) r=>if decide (1 < (oD (qH y1 s1 (bL ((oD y1 s1) + 1))) s1)) then some true else r (qH y1 s1 (bL ((oD y1 s1) + 1)))) (fun _=>some false) i t y=some (MX seen t):=by
  intro t
  induction t with
  | nil=>intro i y seen _; rfl
  | cons c t ih=>
   intro i y seen hy; rw [dR,MX,Fy,if_pos rfl,hy c]; by_cases hc:c∈seen
   ·
    have:bL 2=2:=by decide
    simp [hc,this]
   ·
    have:bL ((0:Int) + 1)=1:=by decide
    simp only [hc,if_false,this]; have e:seen.contains c=false:=by simpa using hc
    rw [e]; simp only [Int.lt_irrefl,decide_false,Bool.false_eq_true,if_false,Bool.false_or]; refine ih (i + 1) _ (seen ++ [c]) fun s=>?_; rw [Fy,hy s]; by_cases h1:s=c
    · subst h1; simp
    · simp [h1]
 exact key l 0 [] [] (fun s=>by simp [oD])
theorem Rv (l:List Str) (i:Nat) (hi:i < l.length) (hl:l.length < 4611686018427387904) (go:Int→Option Bool):∀ (k j:Nat),i < k + j→j≤i→
  rU l (i:Int) go k (j:Int)=if ((l.take i).drop j).contains l[i] then some true else go ((i + 1:Nat):Int)
 | 0,j,h,h'=>by omega
 | k + 1,j,h,h'=>by
  rw [rU]; by_cases hj:j < i
  ·
   have hlt:j < (l.take i).length:=by simp; omega
   rw [if_pos (by simpa using hj),m_ hi,m_ (by omega),List.drop_eq_getElem_cons hlt]; simp only [ak,List.contains_cons,List.getElem_take]; cases h1:(l[i] == l[j]) with
   | true=>simp
   | false=>
    simp only [Bool.false_eq_true,if_false,Bool.false_or]; rw [mh (by omega)]; exact Rv l i hi hl go k (j + 1) (by omega) (by omega)
  ·
   have:j=i:=by omega
   subst this; rw [if_neg (by simp),mh (by omega)]; have:(List.take j l).drop j=[]:=List.drop_eq_nil_of_le (by simp; omega); rw [this]; simp
theorem OT (l:List Str) (hl:l.length < 4611686018427387904):∀ (k i:Nat),l.length < k + i→i≤l.length→pK l k (i:Int)=some (MX (l.take i) (l.drop i))
 | 0,i,h,h'=>by omega
 | k + 1,i,h,h'=>by
  rw [pK]; by_cases hi:i < l.length
  ·
   rw [if_pos (by simpa using hi),List.drop_eq_getElem_cons hi,MX]; have:=Rv l i hi hl (pK l k) BIG 0 (by have:=jL; omega) (by omega); rw [show (0:Int)=((0:Nat):Int) from rfl,this,List.drop_zero,OT l hl k (i + 1) (by omega) (by omega)]; have e:List.take (i + 1) l=List.take i l ++ [l[i]]:=by rw [List.take_add_one,List.getElem?_eq_getElem hi]; rfl
   rw [e]; cases (l.take i).contains l[i] <;> simp
  ·
   have:i=l.length:=by omega
   subst this; simp [MX]
theorem YL (l:List Str) (hl:l.length < 4611686018427387904):Cj l=some (MX [] l):=by
 have:=OT l hl BIG 0 (by have:=jL; omega) (by omega); simpa [Cj] using this
def yI (e:ah) (level:Nat):Int:=
 if 16 < level then 13 else if !vX e then 1 else if e.kind == 1 && (yP e.value 1 != 0) then yP e.value 1 else if decide (1024 < (e.args.length:Int)) then 3 else if MX [] e.keys then 7 else 0
theorem Y8 (e:ah) (h:e.bulk < 4611686018427387904) (level:Nat):xL e (level:Int)=some (yI e level):=by
 have hk:=FH e; have hv:=ER e; unfold xL yI; have h16:decide ((16:Int) < (level:Int))=decide (16 < level):=by congr 1; simp; omega
 rw [h16,zero_eq,(R_ e h).1,ae8 e h,OL (by omega),aeE e.keys (by omega)]; by_cases h0:16 < level
 · simp [h0]
 ·
  simp only [h0,decide_false,Bool.false_eq_true,if_false,ak]; have hkd:((decide (e.kind < 1)) || (decide (10 < e.kind)))=!Ap e:=by simp [Ap]
  have hne:(e.kind != 1)=!(e.kind == 1):=rfl; rw [hkd,hne]; unfold vX; cases h1:Ap e with
  | false=>simp
  | true=>
   rw [afu e h1]
   cases h3:(e.kind == 1) <;> cases h4:J6 e.value <;> cases h5:DC e <;> cases h6:qB e <;> cases h7:JF e <;> simp <;>
    (first | done | (split <;> (first | rfl | (split <;> (first | rfl | (split <;> rfl))))))
end Go.Ft
namespace Go.Ft
open Go
attribute [local congr] gK
mutual
def Hg :ah→Nat→Int
 | ⟨a,b,c,l,f⟩,level=>if yI ⟨a,b,c,l,f⟩ level != 0 then yI ⟨a,b,c,l,f⟩ level else Hf l (level + 1)
def Hf :List ah→Nat→Int
 | [],_=>0
 | x :: r,level=>if Hg x level != 0 then Hg x level else Hf r level
end
theorem KP (e:ah) (level:Nat):Hg e level=if yI e level != 0 then yI e level else Hf e.args (level + 1):=by cases e; rw [Hg]
theorem Gj {go:ah→Int→Option Int} {level:Nat}:∀ (l:List ah) (i:Nat),(∀ x∈l,go x ((level + 1:Nat):Int)=some (Hg x (level + 1)))→
  dR (fun _ e1 (_:Unit) r=>ay (go e1 ((level + 1:Nat):Int)) fun e2=>if e2 != 0 then some e2 else r ()) (fun _=>some 0) i l ()=some (Hf l (level + 1))
 | [],i,_=>by simp [dR,Hf]
 | x :: r,i,h=>by
  rw [dR,h x (by simp),Hf]; simp only [ak]; rw [Gj r (i + 1) (fun y hy=>h y (by simp [hy]))]; split <;> rfl
theorem Lb :∀ (n:Nat) (e:ah) (level:Nat),e.bulk≤n→e.bulk < 4611686018427387904→level≤17→mI (n + 1) e (level:Int)=some (Hg e level)∧qV (n + 1) e (level:Int)=some (Hg e level)
 | 0,e,_,h,_,_=>by have:=e.mP; omega
 | n + 1,e,level,h,hB,hlv=>by
  have hl:=CP e; have hv:=ER e; have hks:=FH e; have hw:bL ((level:Int) + 1)=((level + 1:Nat):Int):=mh (by omega); constructor
  ·
   rw [KP]; unfold mI vD; have:=dU (F:=fun k (_:Unit) i=>qb (mI (n + 1)) e (level:Int) k i) (l:=e.args) (body:=fun _ e1 _ r=>ay (mI (n + 1) e1 ((level + 1:Nat):Int)) fun e2=>if e2 != 0 then some e2 else r ()) (fin:=fun _=>some 0) (by omega) (fun k s i=>by rw [←hw]; rfl) (); rw [Y8 e hB,this]; simp only [ak]; by_cases h0:yI e level=0
   ·
    have aiT:level≤16:=by
     rcases Nat.lt_or_ge 16 level with h | h
     · unfold yI at h0; simp [h] at h0
     · exact h
    rw [Gj e.args 0 fun x hx=>(Lb n x (level + 1) (by have:=jq hx; omega) (by have:=jq hx; omega) (by omega)).1]; simp [h0]
   · simp [h0]
  ·
   rw [KP]; unfold qV Bf; have:=dU (F:=fun k (_:Unit) i=>vk (qV (n + 1)) e (level:Int) k i) (l:=e.args) (body:=fun _ e1 _ r=>ay (qV (n + 1) e1 ((level + 1:Nat):Int)) fun e2=>if e2 != 0 then some e2 else r ()) (fin:=fun _=>some 0) (by omega) (fun k s i=>by rw [←hw]; rfl) (); have h16:decide ((16:Int) < (level:Int))=decide (16 < level):=by congr 1; simp; omega
   rw [Xw e hB,YD (by omega),YL e.keys (by omega),this,h16]; by_cases h0:16 < level
   · simp [yI,h0]
   ·
    rw [Gj e.args 0 fun x hx=>(Lb n x (level + 1) (by have:=jq hx; omega) (by have:=jq hx; omega) (by omega)).2]; unfold yI; simp only [h0,decide_false,Bool.false_eq_true,if_false,ak]; cases vX e with
    | false=>simp
    | true=>
     simp only [Bool.not_true,Bool.false_eq_true,if_false]; cases h1:(e.kind == 1 && (yP e.value 1 != 0)) with
     | true=>
      have:yP e.value 1≠0:=by simp at h1; exact h1.2
      simp [this]
     | false=>
      simp only [Bool.false_eq_true,if_false]; by_cases h2:(1024:Int) < (e.args.length:Int)
      · simp [h2]
      ·
       simp only [h2,decide_false,Bool.false_eq_true,if_false]; cases MX [] e.keys <;> simp
def xval (e:ah):Int:=if 4096 < ecnt e then 15 else Hg e 1
theorem PL {e:ah} (h:e.bulk < 4611686018427387904):jB e=some (xval e)∧zD e=some (xval e):=by
 obtain ⟨n,hn,hn2⟩:=tV; obtain ⟨c1,c2⟩:=count_eq h; obtain ⟨v1,v2⟩:=Lb n e 1 (by omega) h (by omega); unfold jB zD xval Dm Jj; rw [c1,c2,hn]; have:decide ((4096:Int) < (ecnt e:Int))=decide (4096 < ecnt e):=by congr 1; simp; omega
 simp only [ak,this]; rw [show (1:Int)=((1:Nat):Int) from rfl,v1,v2]; by_cases h4:4096 < ecnt e <;> simp [h4]
inductive Ty where
 | leaf (k:Int)
 | nest (k:Int) (t:Ty)
namespace Ty
def api :Ty→au
 | leaf k=>⟨k,[]⟩
 | nest k t=>⟨k,[t.api]⟩
def wf :Ty→Prop
 | leaf k=>0≤k∧k≤7∧k≠5∧k≠6
 | nest k t=>(k=5∨k=6)∧t.wf
def dep :Ty→Nat
 | leaf _=>1
 | nest _ t=>1 + t.dep
def kind :Ty→Int
 | leaf k=>k
 | nest k _=>k
theorem qm (t:Ty):t.api.kind=t.kind:=by cases t <;> rfl
theorem K8 (t:Ty):1≤t.dep:=by cases t <;> simp [dep] <;> omega
end Ty
theorem Mi {k:Int} (h:0≤k∧k≤7):∃ s,uI k=some s∧(s == ([]:Str))=false:=by
 obtain ⟨n,rfl⟩:∃ n:Nat,k=n:=⟨k.toNat,by omega⟩; have hn:n < 8:=by omega
 match n,hn with
 | 0,_=>exact ⟨_,rfl,rfl⟩
 | 1,_=>exact ⟨_,rfl,rfl⟩
 | 2,_=>exact ⟨_,rfl,rfl⟩
 | 3,_=>exact ⟨_,rfl,rfl⟩
 | 4,_=>exact ⟨_,rfl,rfl⟩
 | 5,_=>exact ⟨_,rfl,rfl⟩
 | 6,_=>exact ⟨_,rfl,rfl⟩
 | 7,_=>exact ⟨_,rfl,rfl⟩
theorem Zo {k:Int} (h:¬ (0≤k∧k≤7)):uI k=some []:=by
 unfold uI; rw [if_pos (by simp; omega)]
theorem YM :∀ (k level:Nat) (t:au),18≤k + level→level≤17→∃ c,jA k (level:Int) t=some c∧xI k t (level:Int)=some c∧(c=0→∃ T:Ty,T.wf∧t=T.api∧T.dep + level≤17)
 | 0,level,t,h,h'=>by omega
 | k + 1,level,t,h,h'=>by
  rw [jA,xI,Bj]; have h16:decide ((16:Int) < (level:Int))=decide (16 < level):=by congr 1; simp; omega
  rw [h16]; by_cases h0:16 < level
  · exact ⟨13,by simp [h0],by simp [h0],by simp⟩
  ·
   simp only [h0,decide_false,Bool.false_eq_true,if_false]; by_cases hk:0≤t.kind∧t.kind≤7
   ·
    obtain ⟨s,hs,hs2⟩:=Mi hk; have hb:(decide (t.kind < 0) || decide (7 < t.kind))=false:=by simp; omega
    rw [hs,hb]; simp only [ak,hs2,gN,wN,Bool.false_eq_true,if_false]; cases hn:((t.kind == 5) || (t.kind == 6)) with
    | false=>
     simp only [Bool.false_and,Bool.not_false,Bool.true_and,Bool.false_eq_true,if_false,ak,if_true]; cases he:t.elem with
     | nil=>
      refine ⟨0,by simp,by simp,fun _=>⟨.leaf t.kind,?_,?_,?_⟩⟩
      · simp at hn; exact ⟨hk.1,hk.2,hn.1,hn.2⟩
      · cases t; simp at he; subst he; rfl
      · simp only [Ty.dep]; omega
     | cons x r=>exact ⟨1,by first | (simp; done) | (simp; omega),by first | (simp; done) | (simp; omega),by simp⟩
    | true=>
     simp only [Bool.true_and,Bool.not_true,Bool.false_and,ak,Bool.false_eq_true,if_false]; have hnk:t.kind=5∨t.kind=6:=by simpa using hn
     match he:t.elem with
     | []=>exact ⟨1,by simp,by simp,by simp⟩
     | [x]=>
      obtain ⟨c,c1,c2,c3⟩:=YM k (level + 1) x (by omega) (by omega); have hw:bL ((level:Int) + 1)=((level + 1:Nat):Int):=mh (by omega); refine ⟨c,?_,?_,fun hc=>?_⟩
      · rw [hw,←c1]; simp [idx]
      · rw [hw,←c2]; simp [idx]
      ·
       obtain ⟨T,w1,w2,w3⟩:=c3 hc; refine ⟨.nest t.kind T,⟨hnk,w1⟩,?_,?_⟩
       · cases t; simp at he; subst he; simp [Ty.api,w2]
       · simp only [Ty.dep]; omega
     | x :: y :: r=>
      have hl:(((x :: y :: r).length:Int) != 1)=true:=by simp only [List.length_cons,bne_iff_ne]; omega
      exact ⟨1,by simp only [hl,if_true,ak],by simp only [hl,if_true],by simp⟩
   ·
    have hb:(decide (t.kind < 0) || decide (7 < t.kind))=true:=by simp; omega
    rw [Zo hk,hb]; exact ⟨1,by simp,by simp,by simp⟩
theorem ac6 :∀ (T:Ty) (k level:Nat),T.wf→T.dep + level≤17→18≤k + level→jA k (level:Int) T.api=some 0
 | .leaf a,0,level,_,h,h'=>by simp only [Ty.dep] at h; omega
 | .leaf a,k + 1,level,hw,h,h'=>by
  simp only [Ty.dep] at h; have h16:decide ((16:Int) < (level:Int))=false:=decide_eq_false (by omega); obtain ⟨s,hs,hs2⟩:=Mi (k:=a) ⟨hw.1,hw.2.1⟩; have hn:((a == 5) || (a == 6))=false:=by simp; exact ⟨hw.2.2.1,hw.2.2.2⟩
  simp [jA,h16,Ty.api,hs,beq_eq_false_iff_ne.1 hs2,gN,hn]
 | .nest a T,0,level,_,h,h'=>by simp only [Ty.dep] at h; have:=T.K8; omega
 | .nest a T,k + 1,level,hw,h,h'=>by
  simp only [Ty.dep] at h; have hd:=T.K8; have h16:decide ((16:Int) < (level:Int))=false:=decide_eq_false (by omega); have hn:((a == 5) || (a == 6))=true:=by simpa using hw.1
  obtain ⟨s,hs,hs2⟩:=Mi (k:=a) (by rcases hw.1 with h | h <;> omega); have hw64:bL ((level:Int) + 1)=((level + 1:Nat):Int):=mh (by omega); have:=ac6 T k (level + 1) hw.2 (by omega) (by omega); rw [←this,←hw64]; simp [jA,h16,Ty.api,hs,beq_eq_false_iff_ne.1 hs2,gN,hn,idx]
def I_ (t:au):Int:=(iT t).getD 0
theorem yT (t:au):iT t=some (I_ t)∧rW t=some (I_ t)∧(I_ t=0→∃ T:Ty,T.wf∧t=T.api∧T.dep≤16):=by
 obtain ⟨c,c1,c2,c3⟩:=YM BIG 1 t (by have:=jL; omega) (by omega); have e1:iT t=some c:=c1; have e2:rW t=some c:=c2; have:I_ t=c:=by unfold I_; rw [e1]; rfl
 rw [this]; exact ⟨e1,e2,fun h=>by obtain ⟨T,a,b,d⟩:=c3 h; exact ⟨T,a,b,by omega⟩⟩
theorem P6 {T:Ty} (h:T.wf) (hd:T.dep≤16):I_ T.api=0:=by
 have:=ac6 T BIG 1 h (by omega) (by have:=jL; omega); have e1:iT T.api=some 0:=this; unfold I_; rw [e1]; rfl
theorem VX :∀ (T:Ty) (n:Nat),T.wf→T.dep≤n→oJ n T.api=some T.api
 | .leaf a,0,_,h=>by simp [Ty.dep] at h
 | .leaf a,n + 1,hw,h=>by
  have hn:((a == 5) || (a == 6))=false:=by simp; exact ⟨hw.2.2.1,hw.2.2.2⟩
  simp [oJ,qN,gN,Ty.api,hn,dY]
 | .nest a T,0,_,h=>by simp only [Ty.dep] at h; omega
 | .nest a T,n + 1,hw,h=>by
  simp only [Ty.dep] at h; have hn:((a == 5) || (a == 6))=true:=by simpa using hw.1
  have:=VX T n hw.2 (by omega); simp [oJ,qN,gN,Ty.api,hn,mq,idx,this]
theorem xW {T:Ty} (h:T.wf) (hd:T.dep≤1000):yS T.api=some T.api:=VX T BIG h (by have:=jL; omega)
def kZ :Ty→Ty→Ty
 | .leaf a,.leaf b=>if a=7 then .leaf b else if b=7 then .leaf a else if a=b then .leaf a else .leaf 0
 | .leaf a,.nest b y=>if a=7 then .nest b y else .leaf 0
 | .nest a x,.leaf b=>if b=7 then .nest a x else .leaf 0
 | .nest a x,.nest b y=>if a=b then .nest a (kZ x y) else .leaf 0
theorem wP :∀ (a b:Ty),(kZ a b).dep≤max a.dep b.dep
 | .leaf a,.leaf b=>by
  rw [kZ]; repeat' split
  all_goals simp only [Ty.dep]; omega
 | .leaf a,.nest b y=>by
  rw [kZ]; split
  all_goals simp only [Ty.dep]; omega
 | .nest a x,.leaf b=>by
  rw [kZ]; split
  all_goals simp only [Ty.dep]; omega
 | .nest a x,.nest b y=>by
  have:=wP x y; rw [kZ]; split
  all_goals simp only [Ty.dep]; omega
theorem Aq :∀ (a b:Ty),a.wf→b.wf→(kZ a b).wf
 | .leaf a,.leaf b,ha,hb=>by
  rw [kZ]; repeat' split
  · exact hb
  · exact ha
  · exact ha
  · simp [Ty.wf]
 | .leaf a,.nest b y,ha,hb=>by
  rw [kZ]; split
  · exact hb
  · simp [Ty.wf]
 | .nest a x,.leaf b,ha,hb=>by
  rw [kZ]; split
  · exact ha
  · simp [Ty.wf]
 | .nest a x,.nest b y,ha,hb=>by
  have:=Aq x y ha.2 hb.2; rw [kZ]; split
  · exact ⟨ha.1,this⟩
  · simp [Ty.wf]
theorem Zy :∀ (n:Nat) (a b:Ty),a.wf→b.wf→a.dep≤n→a.dep≤1000→b.dep≤1000→l7 n a.api b.api=some (kZ a b).api∧qZ n a.api b.api=some (kZ a b).api
 | 0,a,b,_,_,h,_,_=>by have:=a.K8; omega
 | n + 1,.leaf x,.leaf y,ha,hb,h,h1,h2=>by
  rw [l7,nX,qZ,uy,kZ,xW ha h1,xW hb h2]; have hn:((x == 5) || (x == 6))=false:=by simp; exact ⟨ha.2.2.1,ha.2.2.2⟩
  by_cases k1:x=7
  · simp [k1,Ty.api]
  ·
   by_cases k2:y=7
   · simp [k1,k2,Ty.api]
   ·
    by_cases k3:x=y
    · subst k3; simp [k1,Ty.api,gN,wN,hn,dY]
    · simp [k1,k2,k3,Ty.api,dY,jm]
 | n + 1,.leaf x,.nest y t,ha,hb,h,h1,h2=>by
  rw [l7,nX,qZ,uy,kZ,xW ha h1,xW hb h2]; have k2:¬ y=7:=by rcases hb.1 with h | h <;> omega
  have k3:¬ x=y:=by
   rintro rfl; rcases hb.1 with h | h
   · exact ha.2.2.1 h
   · exact ha.2.2.2 h
  by_cases k1:x=7
  · simp [k1,Ty.api]
  · simp [k1,k2,k3,Ty.api,dY,jm]
 | n + 1,.nest x s,.leaf y,ha,hb,h,h1,h2=>by
  rw [l7,nX,qZ,uy,kZ,xW ha h1,xW hb h2]; have k1:¬ x=7:=by rcases ha.1 with h | h <;> omega
  have k3:¬ x=y:=by
   rintro rfl; rcases ha.1 with h | h
   · exact hb.2.2.1 h
   · exact hb.2.2.2 h
  by_cases k2:y=7
  · simp [k1,k2,Ty.api]
  · simp [k1,k2,k3,Ty.api,dY,jm]
 | n + 1,.nest x s,.nest y t,ha,hb,h,h1,h2=>by
  rw [l7,nX,qZ,uy,kZ,xW ha h1,xW hb h2]; have k1:¬ x=7:=by rcases ha.1 with h | h <;> omega
  have k2:¬ y=7:=by rcases hb.1 with h | h <;> omega
  have hn:((x == 5) || (x == 6))=true:=by simp; exact ha.1
  simp only [Ty.dep] at h h1 h2; obtain ⟨i1,i2⟩:=Zy n s t ha.2 hb.2 (by omega) (by omega) (by omega); by_cases k3:x=y
  · subst k3; simp [k1,Ty.api,gN,wN,hn,mq,iK,idx,i1,i2]
  · simp [k1,k2,k3,Ty.api,dY,jm]
theorem join_eq {a b:Ty} (ha:a.wf) (hb:b.wf) (h1:a.dep≤1000) (h2:b.dep≤1000):xA a.api b.api=some (kZ a b).api∧Ez a.api b.api=some (kZ a b).api:=
 Zy BIG a b ha hb (by have:=jL; omega) h1 h2
theorem I4 {a b:Ty} (ha:a.wf) (hb:b.wf) (h1:a.dep≤16) (h2:b.dep≤16):kC a.api b.api=some (kZ a b).api∧vw a.api b.api=some (kZ a b).api:=by
 unfold kC vw A9 Ib; rw [(yT _).1,(yT _).1,(yT _).2.1,(yT _).2.1,P6 ha h1,P6 hb h2]; obtain ⟨j1,j2⟩:=join_eq ha hb (by omega) (by omega); simp [j1,j2]
end Go.Ft
namespace Go.Ft
open Go
attribute [local congr] gK
def gZ :Ty→Ty→Bool
 | .leaf a,.leaf b=>((a == 0) || (a == 7)) || (b == 0) || (a == b)
 | .leaf a,.nest _ _=>(a == 0) || (a == 7)
 | .nest _ _,.leaf b=>b == 0
 | .nest a x,.nest b y=>(a == b) && gZ x y
theorem aae :∀ (n:Nat) (a b:Ty),a.wf→b.wf→a.dep≤n→iQ n a.api b.api=some (gZ a b)∧jN n a.api b.api=some (gZ a b)
 | 0,a,b,_,_,h=>by have:=a.K8; omega
 | n + 1,.leaf x,.leaf y,ha,hb,h=>by
  rw [iQ,jK,jN,kP,gZ]; simp only [dN,fE,Ty.api,ak]; by_cases k:(((x == 0) || (x == 7)) || (y == 0))=true
  · simp only [k,if_true,Bool.true_or,and_self]
  ·
   rw [Bool.not_eq_true] at k; simp only [k,Bool.false_eq_true,if_false,Bool.false_or]; by_cases hxy:x=y
   · subst hxy; simp
   · simp [hxy]
 | n + 1,.leaf x,.nest y t,ha,hb,h=>by
  rw [iQ,jK,jN,kP,gZ]; have k2:(y == 0)=false:=by simp; rcases hb.1 with h | h <;> omega
  have k3:(x != y)=true:=by
   simp only [bne_iff_ne]; rintro rfl; rcases hb.1 with h | h
   · exact ha.2.2.1 h
   · exact ha.2.2.2 h
  simp only [dN,fE,Ty.api,ak,k2,k3,Bool.or_false]; by_cases k:((x == 0) || (x == 7))=true
  · simp only [k,if_true,and_self]
  ·
   rw [Bool.not_eq_true] at k; simp only [k,Bool.false_eq_true,if_false,if_true,and_self]
 | n + 1,.nest x s,.leaf y,ha,hb,h=>by
  rw [iQ,jK,jN,kP,gZ]; have k1:((x == 0) || (x == 7))=false:=by simp; rcases ha.1 with h | h <;> omega
  have k3:(x != y)=true:=by
   simp only [bne_iff_ne]; rintro rfl; rcases ha.1 with h | h
   · exact hb.2.2.1 h
   · exact hb.2.2.2 h
  simp only [dN,fE,Ty.api,ak,k1,k3,Bool.false_or]; by_cases k:(y == 0)=true
  · simp only [k,if_true,and_self]
  ·
   rw [Bool.not_eq_true] at k; simp only [k,Bool.false_eq_true,if_false,if_true,and_self]
 | n + 1,.nest x s,.nest y t,ha,hb,h=>by
  rw [iQ,jK,jN,kP,gZ]; have k1:((x == 0) || (x == 7))=false:=by simp; rcases ha.1 with h | h <;> omega
  have k2:(y == 0)=false:=by simp; rcases hb.1 with h | h <;> omega
  simp only [Ty.dep] at h; obtain ⟨i1,i2⟩:=aae n s t ha.2 hb.2 (by omega); simp only [dN,fE,Ty.api,ak,k1,k2,Bool.false_or]; by_cases hxy:x=y
  · subst hxy; simp [idx,i1,i2]
  · simp [hxy]
theorem nR {a b:Ty} (ha:a.wf) (hb:b.wf) (h:a.dep≤1000):gL a.api b.api=some (gZ a b)∧fA a.api b.api=some (gZ a b):=
 aae BIG a b ha hb (by have:=jL; omega)
def fV (t:Ty):Bool:=(t.kind == 0) || (t.kind == 7)
theorem kK (t:Ty):dN t.api=some (fV t)∧fE t.api=some (fV t):=by
 unfold dN fE fV; rw [Ty.qm]; exact ⟨rfl,rfl⟩
def ZT :au:=au.mk 0 []
def sc (k:Int):Ty:=.leaf k
theorem Kc {k:Int} (h:0≤k∧k≤7∧k≠5∧k≠6):(sc k).wf:=h
theorem of_eq (k:Int):dF k=some (sc k).api∧eB k=some (sc k).api∧jm k=some (sc k).api:=⟨rfl,rfl,rfl⟩
theorem Xc (k:Int) (t:Ty):j5 k t.api=some (Ty.nest k t).api∧iK k t.api=some (Ty.nest k t).api:=⟨rfl,rfl⟩
theorem yL {a:Ty} (ha:a.wf) (h:a.dep≤1000) {k:Int} (hk:0≤k∧k≤7∧k≠5∧k≠6):gH a.api k=some (gZ a (sc k)):=by
 unfold gH; rw [(of_eq k).2.1]; exact (nR ha (Kc hk) h).2
theorem AA {k:Int} (h:k=0∨k=1∨k=2∨k=3∨k=4∨k=7):0≤k∧k≤7∧k≠5∧k≠6:=by omega
def Ec (x:Option (au × Bool)):Option (au × Int):=
 dX x fun x6 ok1=>if !ok1 then some (ZT,9) else ay (rW x6) fun x7=>if x7 != 0 then some (ZT,13) else some (x6,0)
def RES (x y:Option (au × Int)):Prop:=∃ (T:Ty) (c:Int),T.wf∧T.dep≤16∧(c≠0→T=sc 0)∧x=some (T.api,c)∧y=some (T.api,c)
theorem RES.mk {x:Option (au × Int)} {y:Option (au × Bool)} (T:Ty) (b:Bool) (hx:x=some (if b then (T.api,0) else (ZT,9))) (hy:y=some (T.api,b)) (hw:b=true→T.wf∧T.dep≤16):RES x (Ec y):=by
 subst hx hy; unfold Ec; cases b with
 | false=>exact ⟨sc 0,9,by simp [sc,Ty.wf],by simp [sc,Ty.dep],fun _=>rfl,rfl,rfl⟩
 | true=>
  obtain ⟨h1,h2⟩:=hw rfl; refine ⟨T,0,h1,h2,fun h=>absurd rfl h,rfl,?_⟩; simp only [aC,Bool.not_true,Bool.false_eq_true,if_false,(yT _).2.1,P6 h1 h2]; rfl
theorem Uf {t:Ty} (h:t.wf) (hd:t.dep≤16) {e:ah} (he:e.kind=3) (r:List au):RES (wh t.api) (Ec (jM e (t.api :: r))):=by
 have i0:idx (t.api :: r) 0=some t.api:=rfl; unfold wh jM; rw [(kK t).1]; simp only [he,i0,ak,(kK t).2,Ty.qm]; cases t with
 | leaf k=>
  have h6:(k == 6)=false:=by simp; exact h.2.2.2
  refine RES.mk (.leaf k) (fV (.leaf k)) ?_ ?_ (fun _=>⟨h,hd⟩)
  ·
   simp only [Ty.kind,h6,Bool.false_eq_true,if_false]; cases fV (.leaf k) <;> rfl
  · simp [Ty.kind,h6]
 | nest k s=>
  have hl:fV (.nest k s)=false:=by unfold fV; simp [Ty.kind]; rcases h.1 with h | h <;> omega
  simp only [Ty.dep] at hd; by_cases h6:k=6
  ·
   subst h6; refine RES.mk s true ?_ ?_ (fun _=>⟨h.2,by omega⟩)
   · simp [hl,Ty.kind,Ty.api,idx]
   · simp [Ty.kind,Ty.api,idx]
  ·
   refine RES.mk (.nest k s) false ?_ ?_ (fun hh=>by cases hh)
   · simp [hl,Ty.kind,h6,ZT]
   · simp [Ty.kind,h6,hl]
theorem Xm {t i:Ty} (h:t.wf) (hd:t.dep≤16) (hi:i.wf) (hid:i.dep≤16) {e:ah} (he:e.kind=4) (r:List au):RES (xY t.api i.api) (Ec (jM e (t.api :: i.api :: r))):=by
 have i0:idx (t.api :: i.api :: r) 0=some t.api:=rfl; have i1:idx (t.api :: i.api :: r) 1=some i.api:=rfl; unfold xY jM Fp; have c3:=nR hi (Kc (AA (k:=3) (by omega))) (by omega); have c4:=nR hi (Kc (AA (k:=4) (by omega))) (by omega); simp only [he,i0,i1,ak,(kK t).1,(kK t).2,Ty.qm,(of_eq _).1,c3.1,c4.1,yL hi (by omega) (AA (k:=3) (by omega)),yL hi (by omega) (AA (k:=4) (by omega))]; generalize gZ i (sc 3)=n3; generalize gZ i (sc 4)=n4; cases t with
 | leaf k=>
  have h5:(k == 5)=false:=by simp; exact h.2.2.1
  have h6:(k == 6)=false:=by simp; exact h.2.2.2
  refine RES.mk (.leaf k) (fV (.leaf k) && (n3 || n4)) ?_ ?_ (fun _=>⟨h,hd⟩)
  ·
   simp only [Ty.kind,h5,h6,Bool.false_and,Bool.false_eq_true,if_false]; cases fV (.leaf k) <;> cases n3 <;> cases n4 <;> rfl
  ·
   simp only [Ty.kind,h5,h6,Bool.false_eq_true,if_false]; cases fV (.leaf k) <;> cases n3 <;> cases n4 <;> simp
 | nest k s=>
  have hl:fV (.nest k s)=false:=by unfold fV; simp [Ty.kind]; rcases h.1 with h | h <;> omega
  simp only [Ty.dep] at hd; rcases h.1 with h5 | h6
  ·
   subst h5; refine RES.mk s n3 ?_ ?_ (fun _=>⟨h.2,by omega⟩)
   ·
    simp only [hl,Ty.kind,Ty.api]; cases n3 <;> simp [idx,ZT]
   · simp [Ty.kind,Ty.api,idx]
  ·
   subst h6; refine RES.mk s n4 ?_ ?_ (fun _=>⟨h.2,by omega⟩)
   ·
    simp only [hl,Ty.kind,Ty.api]; cases n4 <;> simp [idx,ZT]
   · simp [Ty.kind,Ty.api,idx]
theorem Wy {t:Ty} (h:t.wf) (hd:t.dep≤16) {e:ah} (he:e.kind=6) (r:List au):RES (xX e.name t.api) (Ec (jM e (t.api :: r))):=by
 have i0:idx (t.api :: r) 0=some t.api:=rfl; have c3:=nR h (Kc (AA (k:=3) (by omega))) (by omega); have c2:=nR h (Kc (AA (k:=2) (by omega))) (by omega); unfold xX jM; simp only [he,i0,ak,(of_eq _).1,(of_eq _).2.1,c3.1,c2.1,yL h (by omega) (AA (k:=3) (by omega)),yL h (by omega) (AA (k:=2) (by omega))]; cases hop:(e.name == ([33]:Str)) with
 | true=>
  refine RES.mk (sc 2) (gZ t (sc 2)) ?_ ?_ (fun _=>⟨by simp [sc,Ty.wf],by simp [sc,Ty.dep]⟩)
  · simp only [if_true]; cases gZ t (sc 2) <;> rfl
  · simp
 | false=>
  refine RES.mk (sc 3) (gZ t (sc 3)) ?_ ?_ (fun _=>⟨by simp [sc,Ty.wf],by simp [sc,Ty.dep]⟩)
  · simp only [Bool.false_eq_true,if_false]; cases gZ t (sc 3) <;> rfl
  · simp
theorem Z9 {a b c:Ty} (ha:a.wf) (had:a.dep≤16) (hb:b.wf) (hbd:b.dep≤16) (hc:c.wf) (hcd:c.dep≤16) {e:ah} (he:e.kind=8) (r:List au):
  RES (ay (dF 2) fun x14=>ay (gL a.api x14) fun Ws=>if !Ws then some ((au.mk 0 []),9) else ay (kC b.api c.api) fun PN=>some (PN,0)) (Ec (jM e (a.api :: b.api :: c.api :: r))):=by
 have i0:idx (a.api :: b.api :: c.api :: r) 0=some a.api:=rfl; have i1:idx (a.api :: b.api :: c.api :: r) 1=some b.api:=rfl; have i2:idx (a.api :: b.api :: c.api :: r) 2=some c.api:=rfl; have c2:=nR ha (Kc (AA (k:=2) (by omega))) (by omega); have j:=I4 hb hc hbd hcd; have hjd:=wP b c; refine RES.mk (kZ b c) (gZ a (sc 2)) ?_ ?_ (fun _=>⟨Aq b c hb hc,by omega⟩)
 ·
  simp only [(of_eq _).1,ak,c2.1,j.1]; cases gZ a (sc 2) <;> rfl
 ·
  unfold jM; simp [he,i0,i1,i2,j.2,yL ha (by omega) (AA (k:=2) (by omega))]
end Go.Ft
namespace Go.Ft
open Go
attribute [local congr] gK
def cmB (a b:Ty) (k:Int):Bool:=(((fV a || (a.kind == k)) && (fV b || (b.kind == k))) && ((a.kind == k) || (b.kind == k)))
def TG (a b:Ty):Int:=if fV a then b.kind else if fV b || (a.kind == b.kind) then a.kind else -1
theorem JI (a b:Ty) (k:Int):fO a.api b.api k=some (cmB a b k):=by
 unfold fO cmB; rw [(kK a).1,(kK b).1,Ty.qm,Ty.qm]; simp only [ak]; cases (fV a || (a.kind == k)) <;> simp
theorem LW (a b:Ty):om a.api b.api=some (TG a b):=by
 unfold om TG; rw [(kK a).2,(kK b).2,Ty.qm,Ty.qm]; simp only [ak]; cases fV a
 · simp only [Bool.false_eq_true,if_false]; split <;> rfl
 · rfl
theorem M_ {a b:Ty} (h:(fV a && fV b)=false) {k:Int} (hk:k≠0∧k≠7∧0≤k):cmB a b k=(TG a b == k):=by
 unfold cmB TG fV at *; generalize a.kind=x at *; generalize b.kind=y at *; rw [Bool.eq_iff_iff]; simp only [Bool.and_eq_false_iff,Bool.or_eq_false_iff,beq_eq_false_iff_ne] at h; by_cases h1:x=0∨x=7
 ·
  have e:((x == 0) || (x == 7))=true:=by simpa using h1
  simp only [e,if_true,Bool.true_or,Bool.true_and,Bool.and_eq_true,Bool.or_eq_true,beq_iff_eq]; omega
 ·
  have e:((x == 0) || (x == 7))=false:=by simpa using h1
  simp only [e,Bool.false_eq_true,if_false,Bool.false_or]; by_cases h2:y=0∨y=7
  ·
   have e2:((y == 0) || (y == 7))=true:=by simpa using h2
   simp only [e2,Bool.true_or,if_true,Bool.and_true,Bool.and_eq_true,Bool.or_eq_true,beq_iff_eq]; omega
  ·
   have e2:((y == 0) || (y == 7))=false:=by simpa using h2
   simp only [e2,Bool.false_or]; by_cases h3:x=y
   · simp only [h3,beq_self_eq_true,if_true,Bool.and_eq_true,Bool.or_eq_true,beq_iff_eq]; omega
   ·
    have e3:(x == y)=false:=by simpa using h3
    simp only [e3,Bool.false_eq_true,if_false,Bool.and_eq_true,Bool.or_eq_true,beq_iff_eq]; omega
def Yg :Ty→Ty
 | .leaf k=>.leaf k
 | .nest _ t=>t
theorem Mw {t:Ty} (h:t.wf) (hl:fV t=true):t=sc t.kind∧(t.kind=0∨t.kind=7):=by
 unfold fV at hl; simp only [Bool.or_eq_true,beq_iff_eq] at hl; cases t with
 | leaf k=>exact ⟨rfl,hl⟩
 | nest k s=>simp only [Ty.kind] at hl; rcases h.1 with h | h <;> omega
theorem adz {t:Ty} (h:fV t=true∨t.kind=5) (hw:t.wf) (hd:t.dep≤16):qx t.api=some (Yg t).api∧uL t.api=some (Yg t).api∧(Yg t).wf∧(Yg t).dep≤15:=by
 unfold qx uL; rw [(kK t).1,(kK t).2]; simp only [ak]; cases t with
 | leaf k=>
  have hl:fV (.leaf k)=true:=by
   rcases h with h | h
   · exact h
   · simp only [Ty.kind] at h; exact absurd h hw.2.2.1
  rw [hl]; exact ⟨rfl,rfl,hw,by simp [Yg,Ty.dep]⟩
 | nest k s=>
  have hl:fV (.nest k s)=false:=by unfold fV; simp [Ty.kind]; rcases hw.1 with h | h <;> omega
  rw [hl]; simp only [Ty.dep] at hd; exact ⟨by simp [Ty.api,idx,Yg],by simp [Ty.api,idx,Yg],hw.2,by simp only [Yg]; omega⟩
theorem abK {a b:Ty} (ha:a.wf) (had:a.dep≤16) (hb:b.wf) (hbd:b.dep≤16):RES (CS a.api b.api) (Ec (H8 a.api b.api)):=by
 unfold CS H8; rw [(kK a).1,(kK a).2,(kK b).1,(kK b).2,Ty.qm,Ty.qm]; simp only [ak]; have hone:(if fV a=true then some (fV b) else some false)=some (fV a && fV b):=by cases fV a <;> rfl
 rw [hone]; simp only [ak]; cases hl:(fV a && fV b) with
 | true=>
  simp only [Bool.and_eq_true] at hl; obtain ⟨a1,a2⟩:=Mw ha hl.1; obtain ⟨b1,b2⟩:=Mw hb hl.2; rcases a2 with a2 | a2
  ·
   rw [a2] at a1; subst a1; exact RES.mk (sc 0) true rfl rfl (fun _=>⟨ha,had⟩)
  ·
   rw [a2] at a1; subst a1; rcases b2 with b2 | b2
   ·
    rw [b2] at b1; subst b1; exact RES.mk (sc 0) true rfl rfl (fun _=>⟨hb,hbd⟩)
   ·
    rw [b2] at b1; subst b1; exact RES.mk (sc 7) true rfl rfl (fun _=>⟨hb,hbd⟩)
 | false=>
  simp only [Bool.false_eq_true,if_false,JI,LW,ak]; rw [M_ hl (k:=3) (by omega),M_ hl (k:=4) (by omega),M_ hl (k:=5) (by omega)]; by_cases k5:TG a b=5
  ·
   have ea:fV a=true∨a.kind=5:=by
    unfold TG at k5; cases h:fV a with
    | true=>exact .inl rfl
    | false=>
     rw [h] at k5; simp only [Bool.false_eq_true,if_false] at k5; split at k5
     · exact .inr k5
     · omega
   have eb:fV b=true∨b.kind=5:=by
    unfold TG at k5; cases h:fV b with
    | true=>exact .inl rfl
    | false=>
     rw [h] at k5; cases h2:fV a with
     | true=>rw [h2] at k5; exact .inr (by simpa using k5)
     | false=>
      rw [h2] at k5; simp only [Bool.false_eq_true,if_false,Bool.false_or] at k5; split at k5
      · rename_i h3; right; simp only [beq_iff_eq] at h3; omega
      · omega
   obtain ⟨x1,x2,x3,x4⟩:=adz ea ha had; obtain ⟨y1,y2,y3,y4⟩:=adz eb hb hbd; have j:=I4 x3 y3 (by omega) (by omega); have jd:=wP (Yg a) (Yg b); refine RES.mk (.nest 5 (kZ (Yg a) (Yg b))) true ?_ ?_ (fun _=>⟨⟨.inl rfl,Aq _ _ x3 y3⟩,by simp only [Ty.dep]; omega⟩)
   · simp [k5,x1,y1,j.1,j5,Ty.api]
   · simp [k5,x2,y2,j.2,iK,Ty.api]
  ·
   refine RES.mk (sc (TG a b)) ((TG a b == 3) || (TG a b == 4)) ?_ ?_ (fun hh=>⟨?_,by simp [sc,Ty.dep]⟩)
   ·
    by_cases k3:TG a b=3
    · simp [k3,dF,sc,Ty.api]
    ·
     by_cases k4:TG a b=4
     · simp [k4,dF,sc,Ty.api]
     · simp [k3,k4,k5,ZT]
   · simp [k5,eB,jm,sc,Ty.api]
   ·
    simp only [Bool.or_eq_true,beq_iff_eq] at hh; simp only [sc,Ty.wf]; omega
def opsL :List Str:=[[38,38],[124,124],[61,61],[33,61],[60],[60,61],[62],[62,61],[45],[42],[47],[37],[43]]
theorem TS {s:Str} (h:0 < Df s):s∈opsL:=by
 unfold Df gF at h; unfold opsL; by_cases h1:s=[124,124]
 · simp [h1]
 by_cases h2:s=[38,38]
 · simp [h2]
 by_cases h3:s=[61,61]
 · simp [h3]
 by_cases h4:s=[33,61]
 · simp [h4]
 by_cases h5:s=[60]
 · simp [h5]
 by_cases h6:s=[60,61]
 · simp [h6]
 by_cases h7:s=[62]
 · simp [h7]
 by_cases h8:s=[62,61]
 · simp [h8]
 by_cases h9:s=[43]
 · simp [h9]
 by_cases h10:s=[45]
 · simp [h10]
 by_cases h11:s=[42]
 · simp [h11]
 by_cases h12:s=[47]
 · simp [h12]
 by_cases Gc:s=[37]
 · simp [Gc]
 simp [h1,h2,h3,h4,h5,h6,h7,h8,h9,h10,h11,h12,Gc] at h
theorem V9 {a b:Ty} (ha:a.wf) (had:a.dep≤16) (hb:b.wf) (hbd:b.dep≤16) {k:Int} (hk:0≤k∧k≤7∧k≠5∧k≠6):g_ k a.api b.api=some (gZ a (sc k) && gZ b (sc k)):=by
 unfold g_; rw [(of_eq k).1]; simp only [ak,(nR ha (Kc hk) (by omega)).1,(nR hb (Kc hk) (by omega)).1]; cases gZ a (sc k) <;> rfl
theorem UO {a b:Ty} (ha:a.wf) (had:a.dep≤16) (hb:b.wf) (hbd:b.dep≤16) {op:Str} (hop:op∈opsL):RES (zn op a.api b.api) (Ec (Aa op a.api b.api)):=by
 have b2:=V9 ha had hb hbd (AA (k:=2) (by omega)); have b3:=V9 ha had hb hbd (AA (k:=3) (by omega)); have ia2:=yL ha (by omega) (AA (k:=2) (by omega)); have ib2:=yL hb (by omega) (AA (k:=2) (by omega)); have ia3:=yL ha (by omega) (AA (k:=3) (by omega)); have ib3:=yL hb (by omega) (AA (k:=3) (by omega)); have w2:(sc 2).wf∧(sc 2).dep≤16:=⟨by simp [sc,Ty.wf],by simp [sc,Ty.dep]⟩; have w3:(sc 3).wf∧(sc 3).dep≤16:=⟨by simp [sc,Ty.wf],by simp [sc,Ty.dep]⟩; have hone:∀ p q:Bool,(if p=true then some q else some false)=some (p && q):=by intro p q; cases p <;> rfl
 have rel:∀ (x:Option (au × Int)) (y:Option (au × Bool)),
   x=(ay (dN a.api) fun x7=>ay (if x7 then dN b.api else some false) fun b2=>ay (if b2 then some true else fO a.api b.api 3) fun b3=>ay (if b3 then some true else fO a.api b.api 4) fun b4=>
    if b4 then ay (dF 2) fun PO=>some (PO,0) else some ((au.mk 0 []),9))→
   y=(ay (om a.api b.api) fun yw=>ay (eB 2) fun x9=>ay (fE a.api) fun KQ=>ay (if KQ then fE b.api else some false) fun b4=>some (x9,((b4 || (yw == 3)) || (yw == 4))))→RES x (Ec y):=by
  intro x y hx hy; rw [hx,hy,(kK a).1,(kK a).2,(kK b).1,(kK b).2,JI,JI,LW,(of_eq 2).1,(of_eq 2).2.1]; simp only [ak,hone]; refine RES.mk (sc 2) (((fV a && fV b) || (TG a b == 3)) || (TG a b == 4)) ?_ rfl (fun _=>w2); cases hl:(fV a && fV b) with
  | true=>rfl
  | false=>
   rw [M_ hl (k:=3) (by omega),M_ hl (k:=4) (by omega)]; cases (TG a b == 3) <;> cases (TG a b == 4) <;> rfl
 have lg:∀ (x:Option (au × Int)) (y:Option (au × Bool)),
   x=(ay (g_ 2 a.api b.api) fun x1=>if x1 then ay (dF 2) fun x2=>some (x2,0) else some ((au.mk 0 []),9))→
   y=(ay (eB 2) fun x1=>ay (gH a.api 2) fun x2=>ay (if x2 then gH b.api 2 else some false) fun b2=>some (x1,b2))→RES x (Ec y):=by
  intro x y hx hy; rw [hx,hy,b2,ia2,ib2,(of_eq 2).1,(of_eq 2).2.1]; simp only [ak,hone]; refine RES.mk (sc 2) (gZ a (sc 2) && gZ b (sc 2)) ?_ rfl (fun _=>w2); cases (gZ a (sc 2) && gZ b (sc 2)) <;> rfl
 have ar:∀ (x:Option (au × Int)) (y:Option (au × Bool)),
   x=(ay (g_ 3 a.api b.api) fun x1=>if x1 then ay (dF 3) fun x2=>some (x2,0) else some ((au.mk 0 []),9))→
   y=(ay (eB 3) fun x1=>ay (gH a.api 3) fun x2=>ay (if x2 then gH b.api 3 else some false) fun b2=>some (x1,b2))→RES x (Ec y):=by
  intro x y hx hy; rw [hx,hy,b3,ia3,ib3,(of_eq 3).1,(of_eq 3).2.1]; simp only [ak,hone]; refine RES.mk (sc 3) (gZ a (sc 3) && gZ b (sc 3)) ?_ rfl (fun _=>w3); cases (gZ a (sc 3) && gZ b (sc 3)) <;> rfl
 have eqq:∀ (x:Option (au × Int)) (y:Option (au × Bool)),x=(ay (dF 2) fun x5=>some (x5,0))→y=(ay (eB 2) fun x7=>some (x7,true))→RES x (Ec y):=by
  intro x y hx hy; exact RES.mk (sc 2) true (by rw [hx]; rfl) (by rw [hy]; rfl) (fun _=>w2)
 simp only [opsL,List.mem_cons,List.not_mem_nil,or_false] at hop; rcases hop with rfl | rfl | rfl | rfl | rfl | rfl | rfl | rfl | rfl | rfl | rfl | rfl | rfl
 · exact lg _ _ rfl rfl
 · exact lg _ _ rfl rfl
 · exact eqq _ _ rfl rfl
 · exact eqq _ _ rfl rfl
 · exact rel _ _ rfl rfl
 · exact rel _ _ rfl rfl
 · exact rel _ _ rfl rfl
 · exact rel _ _ rfl rfl
 · exact ar _ _ rfl rfl
 · exact ar _ _ rfl rfl
 · exact ar _ _ rfl rfl
 · exact ar _ _ rfl rfl
 · exact abK ha had hb hbd
def II :Ty→List Ty→Ty
 | t,[]=>t
 | t,x :: r=>II (kZ t x) r
theorem Sz :∀ (l:List Ty) (t:Ty),t.wf→t.dep≤16→(∀ x∈l,x.wf∧x.dep≤16)→(II t l).wf∧(II t l).dep≤16
 | [],t,h,hd,_=>⟨h,hd⟩
 | x :: r,t,h,hd,hl=>by
  have hx:=hl x (by simp); have jd:=wP t x; exact Sz r (kZ t x) (Aq t x h hx.1) (by omega) fun y hy=>hl y (by simp [hy])
theorem Pm {K:au→Option (au × Int)}:∀ (l:List Ty) (t:Ty) (i:Nat),t.wf→t.dep≤16→(∀ x∈l,x.wf∧x.dep≤16)→
  dR (fun _ e1 (kE:au) r=>ay (kC kE e1) fun x3=>r x3) K i (l.map Ty.api) t.api=K (II t l).api
 | [],t,i,_,_,_=>rfl
 | x :: r,t,i,h,hd,hl=>by
  have hx:=hl x (by simp); have jd:=wP t x; rw [List.map_cons,dR,(I4 h hx.1 hd hx.2).1]; simp only [ak]; exact Pm r (kZ t x) (i + 1) (Aq t x h hx.1) (by omega) fun y hy=>hl y (by simp [hy])
theorem O8 {K:au→Option (au × Bool)}:∀ (l:List Ty) (t:Ty) (i:Nat),t.wf→t.dep≤16→(∀ x∈l,x.wf∧x.dep≤16)→
  dR (fun _ e1 (kE:au) r=>ay (vw kE e1) fun x3=>r x3) K i (l.map Ty.api) t.api=K (II t l).api
 | [],t,i,_,_,_=>rfl
 | x :: r,t,i,h,hd,hl=>by
  have hx:=hl x (by simp); have jd:=wP t x; rw [List.map_cons,dR,(I4 h hx.1 hd hx.2).2]; simp only [ak]; exact O8 r (kZ t x) (i + 1) (Aq t x h hx.1) (by omega) fun y hy=>hl y (by simp [hy])
theorem IE {l:List Ty} (hl:∀ x∈l,x.wf∧x.dep≤16) (hn:l.length < 4611686018427387904) {k:Int} (hk:k=5∨k=6) {y:Option (au × Bool)} (hy:y=some ((Ty.nest k (II (sc 7) l)).api,true)):
  RES (pz k (l.map Ty.api)) (Ec y):=by
 have w7:(sc 7).wf∧(sc 7).dep≤16:=⟨by simp [sc,Ty.wf],by simp [sc,Ty.dep]⟩; obtain ⟨f1,f2⟩:=Sz l (sc 7) w7.1 w7.2 hl; unfold pz; rw [(of_eq 7).1]; simp only [ak]
 have:=dU (F:=fun n s i=>nT k (l.map Ty.api) n i s) (l:=l.map Ty.api) (body:=fun _ e1 (kE:au) r=>ay (kC kE e1) fun x3=>r x3)
  (fin:=fun kE=>ay (j5 k kE) fun x4=>ay (iT x4) fun x5=>if x5 != 0 then some (ZT,13) else some (x4,0)) (by simpa using hn) (fun n s i=>rfl) (sc 7).api
 rw [this,Pm l (sc 7) 0 w7.1 w7.2 hl,hy]; unfold Ec; rw [(Xc k _).1]; simp only [ak,aC,Bool.not_true,Bool.false_eq_true,if_false]; obtain ⟨t1,t2,t3⟩:=yT (Ty.nest k (II (sc 7) l)).api; rw [t1,t2]; simp only [ak]; by_cases hc:I_ (Ty.nest k (II (sc 7) l)).api=0
 ·
  obtain ⟨T,q1,q2,q3⟩:=t3 hc; exact ⟨T,0,q1,q3,fun h=>absurd rfl h,by rw [hc,←q2]; rfl,by rw [hc,←q2]; rfl⟩
 · exact ⟨sc 0,13,by simp [sc,Ty.wf],by simp [sc,Ty.dep],fun _=>rfl,by rw [if_pos (by simpa using hc)]; rfl,by rw [if_pos (by simpa using hc)]; rfl⟩
theorem O9 {l:List Ty} (hl:∀ x∈l,x.wf∧x.dep≤16) (hn:l.length < 4611686018427387904) {e:ah} (he:e.kind=9∨e.kind=10):
  jM e (l.map Ty.api)=some ((Ty.nest (if e.kind=10 then 6 else 5) (II (sc 7) l)).api,true):=by
 have w7:(sc 7).wf∧(sc 7).dep≤16:=⟨by simp [sc,Ty.wf],by simp [sc,Ty.dep]⟩; unfold jM
 have:=dU (F:=fun n s i=>xE e (l.map Ty.api) n i s) (l:=l.map Ty.api) (body:=fun _ e1 (kE:au) r=>ay (vw kE e1) fun x3=>r x3)
  (fin:=fun t1=>if e.kind == 10 then (ay (iK 6 t1) fun PN=>some (PN,true)) else (ay (iK 5 t1) fun x17=>some (x17,true))) (by simpa using hn) (fun n s i=>rfl) (sc 7).api
 rw [(of_eq 7).2.1]; simp only [ak]; rw [this,O8 l (sc 7) 0 w7.1 w7.2 hl]; rcases he with he | he <;> simp [he,iK,Ty.api]
end Go.Ft
namespace Go.Ft
open Go
attribute [local congr] gK
theorem afS :∃ n,BIG=n + 4:=⟨BIG - 4,by decide⟩
theorem YC :bL (0 + 1)=1:=by decide
theorem aer :bL (1 + 1)=2:=by decide
theorem aez {a w:Ty} (ha:a.wf) (had:a.dep≤16) (hw:w.wf):nS [a.api] [w.api]=some (gZ a w):=by
 obtain ⟨n,hn⟩:=afS; unfold nS; rw [hn]; have i0:∀ x:Ty,idx [x.api] 0=some x.api:=fun _=>rfl; simp only [pq,i0,ak,(nR ha hw (by omega)).1,YC]; cases gZ a w <;> simp
theorem YT {a b w v:Ty} (ha:a.wf) (had:a.dep≤16) (hb:b.wf) (hbd:b.dep≤16) (hw:w.wf) (hv:v.wf):nS [a.api,b.api] [w.api,v.api]=some (gZ a w && gZ b v):=by
 obtain ⟨n,hn⟩:=afS; unfold nS; rw [hn]; have i0:∀ x y:Ty,idx [x.api,y.api] 0=some x.api:=fun _ _=>rfl; have i1:∀ x y:Ty,idx [x.api,y.api] 1=some y.api:=fun _ _=>rfl; simp only [pq,i0,i1,ak,(nR ha hw (by omega)).1,(nR hb hv (by omega)).1,YC,aer]; cases gZ a w <;> cases gZ b v <;> simp
theorem adE {e:ah} {alts:List (List au)} {x:au} {ts:List au} (hl:alts.length < 4611686018427387904) (hne:(e.name == ([100,101,102,97,117,108,116]:Str))=false) (bs:List Bool)
  (h:alts.map (nS ts)=bs.map some):kW e alts x ts BIG 0=some (if bs.any id then (x,0) else (ZT,9)):=by
 have:=dU (F:=fun k (_:Unit) i=>kW e alts x ts k i) (l:=alts) (body:=fun _ yJ _ r=>ay (nS ts yJ) fun x3=>if !x3 then r () else if !(e.name == ([100,101,102,97,117,108,116]:Str)) then some (x,0) else
   ay (idx ts 0) fun e3=>if e3.kind == 1 then ay (idx ts 1) fun e4=>some (e4,0) else ay (idx ts 0) fun e5=>some (e5,0)) (fin:=fun _=>some (ZT,9)) hl (fun k s i=>rfl) ()
 rw [this]; clear this hl; simp only [hne,Bool.not_false,if_true]; generalize 0=i
 induction alts generalizing bs i with
 | nil=>
  cases bs with
  | nil=>rfl
  | cons b bs=>simp at h
 | cons w alts ih=>
  cases bs with
  | nil=>simp at h
  | cons b bs=>
   simp only [List.map_cons,List.cons.injEq] at h; rw [dR,h.1]; simp only [ak,List.any_cons,id]; cases b with
   | true=>simp
   | false=>
    simp only [Bool.not_false,if_true,Bool.false_or]; exact ih bs h.2 (i + 1)
theorem SS (a:Ty):gZ a (sc 0)=true:=by
 cases a <;> simp [sc,gZ]
theorem any_ok {k:Int} (h:0≤k∧k≤7∧k≠5∧k≠6):(sc k).wf∧(sc k).dep≤16:=⟨h,by simp [sc,Ty.dep]⟩
theorem Bp {k j:Int} (hk:k=5∨k=6) (h:0≤j∧j≤7∧j≠5∧j≠6):(Ty.nest k (sc j)).wf∧(Ty.nest k (sc j)).dep≤16:=⟨⟨hk,h⟩,by simp [sc,Ty.dep]⟩
def rQ (name:Str) (n:Nat):Prop:=∃ (alts:List (List au)) (x:au) (w:List au) (r:List (List au)),h_ name=some (alts,x)∧alts=w :: r∧w.length=n∧qR name=some (n:Int)∧
 ∀ (e:ah) (Ts:List Ty),e.name=name→Ts.length=n→(∀ t∈Ts,t.wf∧t.dep≤16)→RES (kW e alts x (Ts.map Ty.api) BIG 0) (Ec (kX name (Ts.map Ty.api)))
theorem Px {name:Str} {alts:List Ty} {X:Ty} (hs:h_ name=some (alts.map fun w=>[w.api],X.api)) (hne:alts≠[]) (hA:qR name=some 1) (hw:∀ w∈alts,w.wf) (hX:X.wf∧X.dep≤16) (hd:(name == ([100,101,102,97,117,108,116]:Str))=false)
  (hl:alts.length < 100)
  (hr:∀ a:Ty,a.wf→a.dep≤16→kX name [a.api]=some (X.api,(alts.map (gZ a)).any id)):rQ name 1:=by
 obtain ⟨w0,r0,h0⟩:∃ w0 r0,alts=w0 :: r0:=by
  cases alts with
  | nil=>exact absurd rfl hne
  | cons a b=>exact ⟨a,b,rfl⟩
 refine ⟨_,_,[w0.api],r0.map fun w=>[w.api],hs,by rw [h0]; rfl,rfl,hA,?_⟩; intro e Ts hn hlen hT
 match Ts,hlen with
 | [a],_=>
  obtain ⟨a1,a2⟩:=hT a (by simp); simp only [List.map_cons,List.map_nil]; refine RES.mk X ((alts.map (gZ a)).any id) ?_ (hr a a1 a2) (fun _=>hX); rw [adE (by simp; omega) (by rw [hn]; exact hd) (alts.map (gZ a)) ?_]
  ·
   simp only [List.map_map,Function.comp_def]; refine List.map_congr_left fun w hwm=>?_; exact aez a1 a2 (hw w hwm)
theorem Tc {name:Str} {alts:List (Ty × Ty)} {X:Ty} (hs:h_ name=some (alts.map fun w=>[w.1.api,w.2.api],X.api)) (hne:alts≠[]) (hA:qR name=some 2) (hw:∀ w∈alts,w.1.wf∧w.2.wf) (hX:X.wf∧X.dep≤16) (hd:(name == ([100,101,102,97,117,108,116]:Str))=false)
  (hl:alts.length < 100)
  (hr:∀ a b:Ty,a.wf→a.dep≤16→b.wf→b.dep≤16→kX name [a.api,b.api]=some (X.api,(alts.map fun w=>gZ a w.1 && gZ b w.2).any id)):rQ name 2:=by
 obtain ⟨w0,r0,h0⟩:∃ w0 r0,alts=w0 :: r0:=by
  cases alts with
  | nil=>exact absurd rfl hne
  | cons a b=>exact ⟨a,b,rfl⟩
 refine ⟨_,_,[w0.1.api,w0.2.api],r0.map fun w=>[w.1.api,w.2.api],hs,by rw [h0]; rfl,rfl,hA,?_⟩; intro e Ts hn hlen hT
 match Ts,hlen with
 | [a,b],_=>
  obtain ⟨a1,a2⟩:=hT a (by simp); obtain ⟨b1,b2⟩:=hT b (by simp); simp only [List.map_cons,List.map_nil]; refine RES.mk X ((alts.map fun w=>gZ a w.1 && gZ b w.2).any id) ?_ (hr a b a1 a2 b1 b2) (fun _=>hX); rw [adE (by simp; omega) (by rw [hn]; exact hd) (alts.map fun w=>gZ a w.1 && gZ b w.2) ?_]
  ·
   simp only [List.map_map,Function.comp_def]; refine List.map_congr_left fun w hwm=>?_; exact YT a1 a2 b1 b2 (hw w hwm).1 (hw w hwm).2
theorem aiF (a b:Ty):idx [a.api,b.api] 0=some a.api:=rfl
theorem aiE (a b:Ty):idx [a.api,b.api] 1=some b.api:=rfl
theorem afe (p:Bool) (q:Bool):(if p=true then some true else some q)=some (p || q):=by cases p <;> rfl
theorem VG (p:Bool) (q:Bool):(if p=true then some q else some false)=some (p && q):=by cases p <;> rfl
theorem aaj :rQ [108,101,110] 1:=
 Px (alts:=[sc 4,.nest 5 (sc 0),.nest 6 (sc 0)]) (X:=sc 3) rfl (by simp) rfl (by simp [sc,Ty.wf]) (any_ok (by omega)) rfl (by simp) fun a h hd=>by
  have i4:=yL h (by omega) (AA (k:=4) (by omega)); have l5:=(nR h (Bp (k:=5) (j:=0) (by omega) (by omega)).1 (by omega)).2; have l6:=(nR h (Bp (k:=6) (j:=0) (by omega) (by omega)).1 (by omega)).2; rw [show kX [108,101,110] [a.api]=ay (gH a.api 4) fun x3=>ay (if x3 then some true else fA a.api (Ty.nest 5 (sc 0)).api) fun b1=>ay (if b1 then some true else fA a.api (Ty.nest 6 (sc 0)).api) fun b2=>some ((sc 3).api,b2) from rfl,i4,l5,l6]; simp only [ak,afe,List.map_cons,List.map_nil,List.any_cons,List.any_nil,id,Bool.or_false,Bool.or_assoc]
theorem GY {name:Str} {X:Ty} (hX:X.wf∧X.dep≤16) (hs:h_ name=some ([[(sc 4).api]],X.api)) (hA:qR name=some 1) (hd:(name == ([100,101,102,97,117,108,116]:Str))=false)
  (hr:∀ a:Ty,kX name [a.api]=ay (gH a.api 4) fun b=>some (X.api,b)):rQ name 1:=
 Px (alts:=[sc 4]) (X:=X) hs (by simp) hA (by simp [sc,Ty.wf]) hX hd (by simp) fun a h hd=>by
  rw [hr,yL h (by omega) (AA (k:=4) (by omega))]; simp
theorem UN :rQ [108,111,119,101,114] 1:=GY (X:=sc 4) (any_ok (by omega)) rfl rfl rfl fun a=>rfl
theorem UL :rQ [117,112,112,101,114] 1:=GY (X:=sc 4) (any_ok (by omega)) rfl rfl rfl fun a=>rfl
theorem aak :rQ [105,110,116] 1:=GY (X:=sc 3) (any_ok (by omega)) rfl rfl rfl fun a=>rfl
theorem S_ :rQ [115,116,114,105,110,103] 1:=
 Px (alts:=[sc 1,sc 2,sc 3,sc 4]) (X:=sc 4) rfl (by simp) rfl (by simp [sc,Ty.wf]) (any_ok (by omega)) rfl (by simp) fun a h hd=>by
  have e1:kX [115,116,114,105,110,103] [a.api]=some ((sc 4).api,(a.kind != 5) && (a.kind != 6)):=by
   rw [show kX [115,116,114,105,110,103] [a.api]=ay (if a.api.kind != 5 then some (a.api.kind != 6) else some false) fun b10=>some ((sc 4).api,b10) from rfl,Ty.qm]; cases (a.kind != 5) <;> rfl
  rw [e1]; congr 2; cases a with
  | leaf k=>
   have hk:k=0∨k=1∨k=2∨k=3∨k=4∨k=7:=by obtain ⟨h1,h2,h3,h4⟩:=h; omega
   rcases hk with rfl | rfl | rfl | rfl | rfl | rfl <;> rfl
  | nest k s=>rcases h.1 with rfl | rfl <;> simp [sc,gZ,Ty.kind]
theorem XM :rQ [107,101,121,115] 1:=
 Px (alts:=[.nest 6 (sc 0)]) (X:=.nest 5 (sc 4)) rfl (by simp) rfl (by simp [sc,Ty.wf]) (Bp (by omega) (by omega)) rfl (by simp) fun a h hd=>by
  have l6:=(nR h (Bp (k:=6) (j:=0) (by omega) (by omega)).1 (by omega)).2; rw [show kX [107,101,121,115] [a.api]=ay (fA a.api (Ty.nest 6 (sc 0)).api) fun x33=>some ((Ty.nest 5 (sc 4)).api,x33) from rfl,l6]; simp
theorem Oc :rQ [99,111,110,116,97,105,110,115] 2:=
 Tc (alts:=[(.nest 5 (sc 0),sc 0),(sc 4,sc 4),(.nest 6 (sc 0),sc 4)]) (X:=sc 2) rfl (by simp) rfl (by simp [sc,Ty.wf]) (any_ok (by omega)) rfl (by simp) fun a b h hd hb hbd=>by
  have ia:=yL h (by omega) (AA (k:=4) (by omega)); have ib:=yL hb (by omega) (AA (k:=4) (by omega)); have l5:=(nR h (Bp (k:=5) (j:=0) (by omega) (by omega)).1 (by omega)).2; have l6:=(nR h (Bp (k:=6) (j:=0) (by omega) (by omega)).1 (by omega)).2
  rw [show kX [99,111,110,116,97,105,110,115] [a.api,b.api]=ay (fA a.api (Ty.nest 5 (sc 0)).api) fun KQ=>ay (if KQ then some true else ay (gH b.api 4) fun PO=>if PO then
    (ay (gH a.api 4) fun Rl=>if Rl then some true else fA a.api (Ty.nest 6 (sc 0)).api) else some false) fun b3=>some ((sc 2).api,b3) from rfl,l5,l6,ia,ib]
  simp only [ak,List.map_cons,List.map_nil,List.any_cons,List.any_nil,id,SS]; cases gZ a (Ty.nest 5 (sc 0)) <;> cases gZ b (sc 4) <;> cases gZ a (sc 4) <;> cases gZ a (Ty.nest 6 (sc 0)) <;> rfl
theorem XO :rQ [106,111,105,110] 2:=
 Tc (alts:=[(.nest 5 (sc 4),sc 4)]) (X:=sc 4) rfl (by simp) rfl (by simp [sc,Ty.wf]) (any_ok (by omega)) rfl (by simp) fun a b h hd hb hbd=>by
  have ib:=yL hb (by omega) (AA (k:=4) (by omega)); have l5:=(nR h (Bp (k:=5) (j:=4) (by omega) (by omega)).1 (by omega)).2; rw [show kX [106,111,105,110] [a.api,b.api]=ay (fA a.api (Ty.nest 5 (sc 4)).api) fun PN=>ay (if PN then gH b.api 4 else some false) fun b6=>some ((sc 4).api,b6) from rfl,l5,ib]; simp [VG]
theorem GX {name:Str} {X:Ty} (hX:X.wf∧X.dep≤16) (hs:h_ name=some ([[(sc 4).api,(sc 4).api]],X.api)) (hA:qR name=some 2) (hd:(name == ([100,101,102,97,117,108,116]:Str))=false)
  (hr:∀ a b:Ty,kX name [a.api,b.api]=ay (gH a.api 4) fun x=>ay (if x then gH b.api 4 else some false) fun b=>some (X.api,b)):rQ name 2:=
 Tc (alts:=[(sc 4,sc 4)]) (X:=X) hs (by simp) hA (by simp [sc,Ty.wf]) hX hd (by simp) fun a b h hd hb hbd=>by
  rw [hr,yL h (by omega) (AA (k:=4) (by omega)),yL hb (by omega) (AA (k:=4) (by omega))]; simp [VG]
theorem UM :rQ [115,112,108,105,116] 2:=GX (X:=.nest 5 (sc 4)) (Bp (by omega) (by omega)) rfl rfl rfl fun a b=>rfl
theorem Ta :rQ [115,116,97,114,116,115,119,105,116,104] 2:=GX (X:=sc 2) (any_ok (by omega)) rfl rfl rfl fun a b=>rfl
theorem XP :rQ [101,110,100,115,119,105,116,104] 2:=GX (X:=sc 2) (any_ok (by omega)) rfl rfl rfl fun a b=>rfl
theorem QS :rQ [100,101,102,97,117,108,116] 2:=by
 refine ⟨[[(sc 0).api,(sc 0).api]],(sc 0).api,[(sc 0).api,(sc 0).api],[],rfl,rfl,rfl,rfl,?_⟩; intro e Ts hn hlen hT
 match Ts,hlen with
 | [a,b],_=>
  obtain ⟨a1,a2⟩:=hT a (by simp); obtain ⟨b1,b2⟩:=hT b (by simp); simp only [List.map_cons,List.map_nil]
  have e1:kW e [[(sc 0).api,(sc 0).api]] (sc 0).api [a.api,b.api] BIG 0=some (if a.kind == 1 then (b.api,0) else (a.api,0)):=by
   obtain ⟨n,hB⟩:=afS; rw [hB,kW]; have hsu:=YT a1 a2 b1 b2 (w:=sc 0) (v:=sc 0) (any_ok (by omega)).1 (any_ok (by omega)).1; have i0:idx [[(sc 0).api,(sc 0).api]] 0=some [(sc 0).api,(sc 0).api]:=rfl; rw [i0]; simp only [ak,hsu,SS,hn,aiF,aiE,Ty.qm]; simp; split <;> rfl
  have e2:kX [100,101,102,97,117,108,116] [a.api,b.api]=some (if a.kind == 1 then (b.api,true) else (a.api,true)):=by
   rw [show kX [100,101,102,97,117,108,116] [a.api,b.api]=(if a.api.kind == 1 then some (b.api,true) else some (a.api,true)) from rfl,Ty.qm]; split <;> rfl
  rw [e1,e2]; cases (a.kind == 1) with
  | true=>exact RES.mk b true rfl rfl (fun _=>⟨b1,b2⟩)
  | false=>exact RES.mk a true rfl rfl (fun _=>⟨a1,a2⟩)
theorem WI (name:Str):(h_ name=some ([],(sc 0).api)∧qR name=some (-1))∨∃ n,rQ name n:=by
 by_cases h1:name=[108,101,110]
 · subst h1; exact .inr ⟨_,aaj⟩
 by_cases h2:name=[108,111,119,101,114]
 · subst h2; exact .inr ⟨_,UN⟩
 by_cases h3:name=[117,112,112,101,114]
 · subst h3; exact .inr ⟨_,UL⟩
 by_cases h4:name=[115,116,114,105,110,103]
 · subst h4; exact .inr ⟨_,S_⟩
 by_cases h5:name=[105,110,116]
 · subst h5; exact .inr ⟨_,aak⟩
 by_cases h6:name=[107,101,121,115]
 · subst h6; exact .inr ⟨_,XM⟩
 by_cases h7:name=[99,111,110,116,97,105,110,115]
 · subst h7; exact .inr ⟨_,Oc⟩
 by_cases h8:name=[106,111,105,110]
 · subst h8; exact .inr ⟨_,XO⟩
 by_cases h9:name=[115,112,108,105,116]
 · subst h9; exact .inr ⟨_,UM⟩
 by_cases h10:name=[115,116,97,114,116,115,119,105,116,104]
 · subst h10; exact .inr ⟨_,Ta⟩
 by_cases h11:name=[101,110,100,115,119,105,116,104]
 · subst h11; exact .inr ⟨_,XP⟩
 by_cases h12:name=[100,101,102,97,117,108,116]
 · subst h12; exact .inr ⟨_,QS⟩
 left; constructor
 · simp [h_,dF,j5,h1,h2,h3,h4,h5,h6,h7,h8,h9,h10,h11,h12,sc,Ty.api]
 · simp [qR,h1,h2,h3,h4,h5,h6,h7,h8,h9,h10,h11,h12]
end Go.Ft
namespace Go.Ft
open Go
attribute [local congr] gK
mutual
def Rc :av→Ty
 | ⟨k,_,_,_,l,_⟩=>if k=0 then sc 1 else if k=1 then sc 2 else if k=2 then sc 3 else if k=3 then sc 4 else .nest (if k=4 then 5 else 6) (Uc l (sc 7))
def Uc :List av→Ty→Ty
 | [],t=>t
 | x :: r,t=>Uc r (kZ t (Rc x))
end
theorem ae2 (v:av):Rc v=if v.kind=0 then sc 1 else if v.kind=1 then sc 2 else if v.kind=2 then sc 3 else if v.kind=3 then sc 4 else .nest (if v.kind=4 then 5 else 6) (Uc v.dh (sc 7)):=by cases v; rw [Rc]
theorem Lm {v:av} {level:Nat} (h:yK v level=0):level≤16∧0≤v.kind∧v.kind≤5∧(v.kind=4∨v.kind=5→v.dh=[]→level≠16):=by
 unfold yK at h; by_cases h0:16 < level
 · simp [h0] at h
 ·
  rw [if_neg h0] at h; cases h1:(decide (v.kind < 0) || decide (5 < v.kind) || !Gm v) with
  | true=>rw [h1] at h; simp at h
  | false=>
   rw [h1] at h; simp only [Bool.or_eq_false_iff,decide_eq_false_iff_not] at h1; refine ⟨by omega,by omega,by omega,fun hk hl h16=>?_⟩
   have e1:((((v.kind == 4) || (v.kind == 5)) && ((v.dh.length:Int) == 0)) && (level == 16))=true:=by
    rw [hl,h16]; rcases hk with hk | hk <;> simp [hk]
   rw [e1] at h; simp only [Bool.false_eq_true,if_false,if_true] at h; split at h
   · omega
   ·
    split at h
    · omega
    · split at h <;> omega
theorem OQ :∀ {l:List av} {level:Nat},Ej l level=0→∀ x∈l,yP x level=0
 | [],_,_,x,hx=>by cases hx
 | y :: r,level,h,x,hx=>by
  rw [Ej] at h; by_cases hy:yP y level=0
  ·
   rw [if_neg (by simpa using hy)] at h; rcases List.mem_cons.1 hx with rfl | hx
   · exact hy
   · exact OQ h x hx
  · rw [if_pos (by simpa using hy)] at h; exact absurd h hy
theorem OP {v:av} {level:Nat} (h:yP v level=0):yK v level=0∧∀ x∈v.dh,yP x (level + 1)=0:=by
 rw [PZ] at h; by_cases hn:yK v level=0
 ·
  rw [if_neg (by simpa using hn)] at h; exact ⟨hn,OQ h⟩
 · rw [if_pos (by simpa using hn)] at h; exact absurd h hn
theorem ofL {go:av→Option au} {join:au→au→Option au} {K:au→Option au} {lv:Nat} (hlv:lv≤16) (hj:∀ a b:Ty,a.wf→b.wf→a.dep≤1000→b.dep≤1000→join a.api b.api=some (kZ a b).api):
  ∀ (l:List av) (t:Ty) (i:Nat),t.wf→t.dep + lv≤17→(∀ x∈l,go x=some (Rc x).api∧(Rc x).wf∧(Rc x).dep + lv≤17)→
  dR (fun _ e1 (kE:au) r=>ay (go e1) fun x7=>ay (join kE x7) fun x8=>r x8) K i l t.api=K (Uc l t).api∧(Uc l t).wf∧(Uc l t).dep + lv≤17
 | [],t,i,h,hd,_=>⟨rfl,h,hd⟩
 | x :: r,t,i,h,hd,hl=>by
  obtain ⟨x1,x2,x3⟩:=hl x (by simp); have jd:=wP t (Rc x); rw [dR,x1,Uc]; simp only [ak,hj t (Rc x) h x2 (by omega) (by omega)]; exact ofL hlv hj r (kZ t (Rc x)) (i + 1) (Aq _ _ h x2) (by omega) fun y hy=>hl y (by simp [hy])
theorem ag0 :∀ (n:Nat) (v:av) (level:Nat),v.bulk≤n→v.bulk < 4611686018427387904→yP v level=0→
  nY (n + 1) v=some (Rc v).api∧Ag (n + 1) v=some (Rc v).api∧(Rc v).wf∧(Rc v).dep + level≤17
 | 0,v,_,h,_,_=>by have:=v.mP; omega
 | n + 1,v,level,h,hB,hc=>by
  obtain ⟨h0,hm⟩:=OP hc; obtain ⟨z1,z2,z3,z4⟩:=Lm h0; have hl:=I9 v; rw [nY,wW,Ag,Ia,ae2]; by_cases k0:v.kind=0
  · simp only [k0]; exact ⟨rfl,rfl,(any_ok (by omega)).1,by simp [sc,Ty.dep]; omega⟩
  by_cases k1:v.kind=1
  · simp only [k1]; exact ⟨rfl,rfl,(any_ok (by omega)).1,by simp [sc,Ty.dep]; omega⟩
  by_cases k2:v.kind=2
  · simp only [k2]; exact ⟨rfl,rfl,(any_ok (by omega)).1,by simp [sc,Ty.dep]; omega⟩
  by_cases k3:v.kind=3
  · simp only [k3]; exact ⟨rfl,rfl,(any_ok (by omega)).1,by simp [sc,Ty.dep]; omega⟩
  have k45:v.kind=4∨v.kind=5:=by omega
  have hlv:level≤15:=by
   by_cases hnil:v.dh=[]
   · have:=z4 k45 hnil; omega
   ·
    obtain ⟨x,hx⟩:=List.exists_mem_of_ne_nil _ hnil; have:=(Lm (OP (hm x hx)).1).1; omega
  have e0:(v.kind == 0)=false:=by simpa using k0
  have e1:(v.kind == 1)=false:=by simpa using k1
  have e2:(v.kind == 2)=false:=by simpa using k2
  have e3:(v.kind == 3)=false:=by simpa using k3
  simp only [e0,e1,e2,e3,Bool.false_eq_true,if_false,k0,k1,k2,k3,ak]; have w7:(sc 7).wf∧(sc 7).dep + (level + 1)≤17:=⟨(any_ok (by omega)).1,by simp [sc,Ty.dep]; omega⟩; have ih:=fun x (hx:x∈v.dh)=>ag0 n x (level + 1) (by have:=zy hx; omega) (by have:=zy hx; omega) (hm x hx)
  have s1:=dU (F:=fun k s i=>qM (nY (n + 1)) v k i s) (l:=v.dh) (body:=fun _ e1 (kE:au) r=>ay (nY (n + 1) e1) fun x7=>ay (xA kE x7) fun x8=>r x8)
   (fin:=fun kE=>if v.kind == 4 then mq 5 kE else mq 6 kE) (by omega) (fun k s i=>rfl) (sc 7).api
  have s2:=dU (F:=fun k s i=>Ct (Ag (n + 1)) v k i s) (l:=v.dh) (body:=fun _ e1 (kE:au) r=>ay (Ag (n + 1) e1) fun x7=>ay (Ez kE x7) fun x8=>r x8)
   (fin:=fun t1=>if v.kind == 5 then iK 6 t1 else iK 5 t1) (by omega) (fun k s i=>rfl) (sc 7).api
  obtain ⟨a1,a2,a3⟩:=ofL (lv:=level + 1) (K:=fun kE=>if v.kind == 4 then mq 5 kE else mq 6 kE) (by omega) (fun a b x y z w=>(join_eq x y z w).1) v.dh (sc 7) 0 w7.1 w7.2 (fun x hx=>⟨(ih x hx).1,(ih x hx).2.2⟩); obtain ⟨b1,_,_⟩:=ofL (lv:=level + 1) (K:=fun t1=>if v.kind == 5 then iK 6 t1 else iK 5 t1) (by omega) (fun a b x y z w=>(join_eq x y z w).2) v.dh (sc 7) 0 w7.1 w7.2 (fun x hx=>⟨(ih x hx).2.1,(ih x hx).2.2⟩); have t7:dY 7=some (sc 7).api:=rfl; have p7:jm 7=some (sc 7).api:=rfl; rw [t7,p7]; simp only [ak]; rw [s1,a1,s2,b1]; refine ⟨?_,?_,⟨?_,a2⟩,by simp only [Ty.dep]; omega⟩
  · rcases k45 with k | k <;> simp [k,mq,Ty.api]
  · rcases k45 with k | k <;> simp [k,iK,Ty.api]
  ·
   split
   · exact .inl rfl
   · exact .inr rfl
theorem ahU {v:av} (h:v.bulk < 4611686018427387904) (hc:yP v 1=0):B_ v=some (Rc v).api∧LY v=some (Rc v).api∧(Rc v).wf∧(Rc v).dep≤16:=by
 obtain ⟨n,hn,hn2⟩:=tV; obtain ⟨a1,a2,a3,a4⟩:=ag0 n v 1 (by omega) h hc; unfold B_ LY Em TY; rw [OL h,YD h,hc,hn,a1,a2]; exact ⟨rfl,rfl,a3,by omega⟩
theorem abX {s:Str} (h:s.length < 4611686018427387000):jB (ah.mk 2 s (av.mk 0 false 0 ([]:Str) [] []) [] [])=some (if jR s then 0 else 1):=by
 have hb:(ah.mk 2 s (av.mk 0 false 0 ([]:Str) [] []) [] []).bulk < 4611686018427387904:=by
  simp only [ah.bulk,av.bulk,av.kT,ah.kT,List.map_nil,List.sum_nil,List.length_nil]; omega
 rw [(PL hb).1]; have e1:ecnt (ah.mk 2 s (av.mk 0 false 0 ([]:Str) [] []) [] [])=1:=by rw [DF]; rfl
 unfold xval; rw [e1,KP]
 have e2:vX (ah.mk 2 s (av.mk 0 false 0 ([]:Str) [] []) [] [])=jR s:=by
  have:J6 (av.mk 0 false 0 ([]:Str) [] [])=true:=rfl; simp [vX,Ap,this,DC,qB,JF]
 have e3:yI (ah.mk 2 s (av.mk 0 false 0 ([]:Str) [] []) [] []) 1=if jR s then 0 else 1:=by
  unfold yI; rw [e2]; cases jR s <;> simp [MX]
 rw [e3]; cases jR s <;> simp [Hf]
def QI :List Str→List aO→Int
 | _,[]=>0
 | seen,d :: r=>if !jR d.name then 1 else if I_ d.nG != 0 then I_ d.nG else if seen.contains d.name then 7 else QI (seen ++ [d.name]) r
def ac1 (env:List aO):Prop:=∀ d∈env,∃ T:Ty,T.wf∧T.dep≤16∧d.nG=T.api
theorem ZW :∀ (r:List aO) (seen:List Str),QI seen r=0→ac1 r
 | [],_,_,d,hd=>by cases hd
 | x :: r,seen,h,d,hd=>by
  rw [QI] at h; cases h1:jR x.name with
  | false=>rw [h1] at h; simp at h
  | true=>
   rw [h1] at h; simp only [Bool.not_true,Bool.false_eq_true,if_false] at h; by_cases h2:I_ x.nG=0
   ·
    rw [if_neg (by simpa using h2)] at h; obtain ⟨T,t1,t2,t3⟩:=(yT x.nG).2.2 h2; split at h
    · simp at h
    ·
     rcases List.mem_cons.1 hd with rfl | hd
     · exact ⟨T,t1,t3,t2⟩
     · exact ZW r _ h d hd
   · rw [if_pos (by simpa using h2)] at h; exact absurd h h2
theorem ahw :∀ (r:List aO) (i:Nat) (y:List (Str × Int)) (seen:List Str),(∀ d∈r,d.name.length < 4611686018427387000)→(∀ s,oD y s=if s∈seen then 1 else 0)→
  dR (fun _ e1 (y1:List (Str × Int)) r=>ay (jB (ah.mk 2 e1.name (av.mk 0 false 0 ([]:Str) [] []) [] [])) fun x2=>if x2 != 0 then some 1 else ay (iT e1.nG) fun e2=>if e2 != 0 then some e2 else
   if decide (1 < (oD (qH y1 e1.name (bL ((oD y1 e1.name) + 1))) e1.name)) then some 7 else r (qH y1 e1.name (bL ((oD y1 e1.name) + 1)))) (fun _=>some 0) i r y=some (QI seen r)
 | [],_,_,_,_,_=>rfl
 | d :: r,i,y,seen,hd,hy=>by
  rw [dR,QI,abX (hd d (by simp)),(yT d.nG).1,Fy,if_pos rfl,hy d.name]; cases h1:jR d.name with
  | false=>simp
  | true=>
   simp only [if_true,ak,Bool.not_true,Bool.false_eq_true,if_false,bne_self_eq_false]; by_cases h2:I_ d.nG=0
   ·
    simp only [h2,bne_self_eq_false,Bool.false_eq_true,if_false]; by_cases hc:d.name∈seen
    ·
     have:bL 2=2:=by decide
     simp [hc,this]
    ·
     have:bL ((0:Int) + 1)=1:=by decide
     simp only [hc,if_false,this]; have e:seen.contains d.name=false:=by simpa using hc
     rw [e]; simp only [Int.lt_irrefl,decide_false,Bool.false_eq_true,if_false]; refine ahw r (i + 1) _ (seen ++ [d.name]) (fun z hz=>hd z (by simp [hz])) fun s=>?_; rw [Fy,hy s]; by_cases h1:s=d.name
     · subst h1; simp
     · simp [h1]
   · simp [h2]
theorem ZQ (l:List aO) (i:Nat) (hi:i < l.length) (hl:l.length < 4611686018427387904) (go:Int→Option Int):∀ (k j:Nat),i < k + j→j≤i→
  wL l (i:Int) go k (j:Int)=if (((l.take i).drop j).map (·.name)).contains l[i].name then some 7 else go ((i + 1:Nat):Int)
 | 0,j,h,h'=>by omega
 | k + 1,j,h,h'=>by
  rw [wL]; by_cases hj:j < i
  ·
   have hlt:j < (l.take i).length:=by simp; omega
   rw [if_pos (by simpa using hj),m_ hi,m_ (by omega),List.drop_eq_getElem_cons hlt]; simp only [ak,List.map_cons,List.contains_cons,List.getElem_take]; by_cases h1:l[j].name=l[i].name
   · simp [h1]
   ·
    have e1:(l[j].name == l[i].name)=false:=by simpa using h1
    have e2:(l[i].name == l[j].name)=false:=by simpa using fun hh=>h1 hh.symm
    simp only [e1,e2,Bool.false_eq_true,if_false,Bool.false_or]; rw [mh (by omega)]; exact ZQ l i hi hl go k (j + 1) (by omega) (by omega)
  ·
   have:j=i:=by omega
   subst this; rw [if_neg (by simp),mh (by omega)]; have:(List.take j l).drop j=[]:=List.drop_eq_nil_of_le (by simp; omega); rw [this]; simp
theorem ahv (l:List aO) (hl:l.length < 4611686018427387904) (hd:∀ d∈l,d.name.length < 4611686018427387000):∀ (k i:Nat),l.length < k + i→i≤l.length→uw l k (i:Int)=some (QI ((l.take i).map (·.name)) (l.drop i))
 | 0,i,h,h'=>by omega
 | k + 1,i,h,h'=>by
  rw [uw]; by_cases hi:i < l.length
  ·
   have hn:=hd l[i] (List.getElem_mem hi); rw [if_pos (by simpa using hi),List.drop_eq_getElem_cons hi,QI,m_ hi]; have:=ZQ l i hi hl (uw l k) BIG 0 (by have:=jL; omega) (by omega); rw [show (0:Int)=((0:Nat):Int) from rfl,this,List.drop_zero,ahv l hl hd k (i + 1) (by omega) (by omega)]; simp only [ak,(Ai l[i].name (by omega)).2,(yT _).2.1]; have e:List.take (i + 1) l=List.take i l ++ [l[i]]:=by rw [List.take_add_one,List.getElem?_eq_getElem hi]; rfl
   rw [e,List.map_append]; cases jR l[i].name with
   | false=>simp
   | true=>
    simp only [Bool.not_true,Bool.false_eq_true,if_false]; by_cases h2:I_ l[i].nG=0
    ·
     simp only [h2,Int.natCast_zero,bne_self_eq_false,Bool.false_eq_true,if_false]; split <;> rfl
    · simp [h2]
  ·
   have:i=l.length:=by omega
   subst this; simp [QI]
def SG (env:List aO):Int:=if 1024 < env.length then 3 else QI [] env
theorem ZU {env:List aO} (hl:env.length < 4611686018427387904) (hd:∀ d∈env,d.name.length < 4611686018427387000):zM env=some (SG env)∧Fq env=some (SG env)∧(SG env=0→ac1 env):=by
 unfold zM Fq SG; have e:decide ((1024:Int) < (env.length:Int))=decide (1024 < env.length):=by congr 1; simp; omega
 rw [e]; by_cases h:1024 < env.length
 · simp [h]
 ·
  simp only [h,decide_false,Bool.false_eq_true,if_false]
  have s1:=dU (F:=fun k s i=>wo env k i s) (l:=env) (body:=fun _ e1 (y1:List (Str × Int)) r=>ay (jB (ah.mk 2 e1.name (av.mk 0 false 0 ([]:Str) [] []) [] [])) fun x2=>if x2 != 0 then some 1 else ay (iT e1.nG) fun e2=>if e2 != 0 then some e2 else
   if decide (1 < (oD (qH y1 e1.name (bL ((oD y1 e1.name) + 1))) e1.name)) then some 7 else r (qH y1 e1.name (bL ((oD y1 e1.name) + 1)))) (fin:=fun _=>some 0) hl (fun k s i=>rfl) []
  have s2:=ahv env hl hd BIG 0 (by have:=jL; omega) (by omega); refine ⟨?_,by simpa using s2,ZW env []⟩; rw [s1]; exact ahw env 0 [] [] hd (fun s=>by simp [oD])
end Go.Ft
namespace Go.Ft
open Go
attribute [local congr] gK
theorem OJ :∀ {l:List ah} {level:Nat},Hf l level=0→∀ x∈l,Hg x level=0
 | [],_,_,x,hx=>by cases hx
 | y :: r,level,h,x,hx=>by
  rw [Hf] at h; by_cases hy:Hg y level=0
  ·
   rw [if_neg (by simpa using hy)] at h; rcases List.mem_cons.1 hx with rfl | hx
   · exact hy
   · exact OJ h x hx
  · rw [if_pos (by simpa using hy)] at h; exact absurd h hy
theorem TI {e:ah} {level:Nat} (h:yI e level=0):vX e=true∧(e.kind=1→yP e.value 1=0)∧e.args.length≤1024:=by
 unfold yI at h; split at h
 · omega
 ·
  cases h1:vX e with
  | false=>rw [h1] at h; simp at h
  | true=>
   rw [h1] at h; simp only [Bool.not_true,Bool.false_eq_true,if_false] at h; by_cases h2:(e.kind == 1 && (yP e.value 1 != 0))=true
   ·
    rw [if_pos h2] at h; simp [h] at h2
   ·
    rw [if_neg h2] at h; refine ⟨rfl,fun hk=>?_,?_⟩
    ·
     simp only [Bool.and_eq_true,beq_iff_eq,bne_iff_ne,not_and] at h2; have:=h2 hk; simpa using this
    ·
     split at h
     · omega
     · rename_i h3; simp only [decide_eq_true_eq] at h3; omega
theorem Wq {e:ah} {level:Nat} (h:Hg e level=0):yI e level=0∧∀ x∈e.args,Hg x (level + 1)=0:=by
 rw [KP] at h; by_cases hn:yI e level=0
 ·
  rw [if_neg (by simpa using hn)] at h; exact ⟨hn,OJ h⟩
 · rw [if_pos (by simpa using hn)] at h; exact absurd h hn
def bodyC (go:ah→Option (au × Int)):Nat→ah→List au→(List au→Option (List au × Int))→Option (List au × Int):=
 fun _ e1 dx r=>dX (go e1) fun x2 f1=>if f1 != 0 then some ([],f1) else ay (app dx [x2]) fun wE=>r wE
def V8 (go:ah→Option (au × Int)):Nat→ah→List au→(List au→Option (au × Int))→Option (au × Int):=
 fun _ e1 dx r=>dX (go e1) fun x5 f1=>if f1 != 0 then some (ZT,f1) else ay (app dx [x5]) fun l2=>r l2
theorem adJ {goC goR:ah→Option (au × Int)} {K:List au→Option (au × Int)}:∀ (l:List ah) (out:List Ty) (i:Nat),(∀ x∈l,RES (goC x) (goR x))→out.length + l.length≤4000→
  (∃ c,c≠0∧dR (bodyC goC) (fun o=>some (o,0)) i l (out.map Ty.api)=some ([],c)∧dR (V8 goR) K i l (out.map Ty.api)=some (ZT,c))∨
  (∃ Ts:List Ty,Ts.length=l.length∧(∀ t∈Ts,t.wf∧t.dep≤16)∧dR (bodyC goC) (fun o=>some (o,0)) i l (out.map Ty.api)=some ((out ++ Ts).map Ty.api,0)∧dR (V8 goR) K i l (out.map Ty.api)=K ((out ++ Ts).map Ty.api))
 | [],out,i,_,_=>.inr ⟨[],rfl,fun t ht=>(by cases ht),by simp [dR],by simp [dR]⟩
 | x :: r,out,i,h,hn=>by
  simp only [List.length_cons] at hn; obtain ⟨T,c,w,d,z,e1,e2⟩:=h x (by simp); rw [dR,dR,bodyC,V8]; simp only [e1,e2,aC]; by_cases hc:c=0
  ·
   subst hc
   have ha:app (out.map Ty.api) [T.api]=some ((out ++ [T]).map Ty.api):=by
    rw [aR (by simp [uU]; omega)]; simp
   simp only [bne_self_eq_false,Bool.false_eq_true,if_false,ha,ak]; rcases adJ (K:=K) r (out ++ [T]) (i + 1) (fun y hy=>h y (by simp [hy])) (by simp; omega) with ⟨c,c1,c2,c3⟩ | ⟨Ts,c1,c2,c3,c4⟩
   · exact .inl ⟨c,c1,c2,c3⟩
   ·
    refine .inr ⟨T :: Ts,by simp [c1],?_,?_,?_⟩
    ·
     intro t ht; rcases List.mem_cons.1 ht with rfl | ht
     · exact ⟨w,d⟩
     · exact c2 t ht
    · have:=c3; rw [List.append_assoc] at this; exact this
    · have:=c4; rw [List.append_assoc] at this; exact this
  · exact .inl ⟨c,hc,by simp [hc],by simp [hc]⟩
theorem QL {env:List aO} (hW:ac1 env) (hl:env.length < 4611686018427387904) (e:ah) (he:e.kind=2):RES (rO env e.name) (Ci e env):=by
 unfold rO Ci; have h1:(e.kind == 1)=false:=by simp [he]
 rw [h1]; simp only [Bool.false_eq_true,if_false]; have s1:=dU (F:=fun k (_:Unit) i=>nU env e.name k i) (l:=env) (body:=fun _ e1 _ r=>if e1.name == e.name then some (e1.nG,0) else r ()) (fin:=fun _=>some (ZT,10)) hl (fun k s i=>rfl) (); have s2:=dU (F:=fun k (_:Unit) i=>xF e env k i) (l:=env) (body:=fun (i:Nat) e1 _ r=>if e1.name == e.name then ay (idx env (i:Int)) fun e3=>some (e3.nG,0) else r ()) (fin:=fun _=>some (ZT,10)) hl (fun k s i=>rfl) (); rw [s1,s2]
 have key:∀ (t:List aO) (i:Nat),t=env.drop i→RES (dR (fun _ e1 (_:Unit) r=>if e1.name == e.name then some (e1.nG,0) else r ()) (fun _=>some (ZT,10)) i t ())
   (dR (fun (i:Nat) e1 (_:Unit) r=>if e1.name == e.name then ay (idx env (i:Int)) fun e3=>some (e3.nG,0) else r ()) (fun _=>some (ZT,10)) i t ()):=by
  intro t
  induction t with
  | nil=>intro i _; exact ⟨sc 0,10,(any_ok (by omega)).1,(any_ok (by omega)).2,fun _=>rfl,rfl,rfl⟩
  | cons d t ih=>
   intro i ht
   have hi:i < env.length:=by
    rcases Nat.lt_or_ge i env.length with h | h
    · exact h
    · rw [List.drop_eq_nil_of_le h] at ht; cases ht
   have hc:=List.drop_eq_getElem_cons hi; rw [←ht] at hc; have e1:d=env[i]:=(List.cons.inj hc).1; have e2:=(List.cons.inj hc).2; rw [dR,dR,m_ hi,←e1]; simp only [ak]; cases (d.name == e.name) with
   | true=>
    simp only [if_true]; obtain ⟨T,t1,t2,t3⟩:=hW d (by rw [e1]; exact List.getElem_mem hi); exact ⟨T,0,t1,t2,fun h=>absurd rfl h,by rw [t3],by rw [t3]⟩
   | false=>
    simp only [Bool.false_eq_true,if_false]; exact ih (i + 1) e2
 exact key env 0 rfl
theorem QA {e:ah} (h:vX e=true):Ap e=true∧DC e=true∧qB e=true:=by
 unfold vX at h; simp only [Bool.and_eq_true] at h; exact ⟨h.1.1.1.1,h.1.1.2,h.1.2⟩
theorem len1 {α:Type} {l:List α} (h:l.length=1):∃ a,l=[a]:=by
 match l,h with
 | [a],_=>exact ⟨a,rfl⟩
theorem len2 {α:Type} {l:List α} (h:l.length=2):∃ a b,l=[a,b]:=by
 match l,h with
 | [a,b],_=>exact ⟨a,b,rfl⟩
theorem aiC {α:Type} {l:List α} (h:l.length=3):∃ a b c,l=[a,b,c]:=by
 match l,h with
 | [a,b,c],_=>exact ⟨a,b,c,rfl⟩
theorem SB {env:List aO} (hW:ac1 env) (hl:env.length < 4611686018427387904):∀ (b:Nat) (e:ah) (level k m:Nat),e.bulk≤b→e.bulk < 4611686018427387904→Hg e level=0→3 * b + 3≤k→b + 1≤m→
  RES (eT k e env) (oh m e env)
 | 0,e,_,_,_,h,_,_,_,_=>by have:=e.mP; omega
 | b + 1,e,level,k,m,h,hB,hx,hk,hm=>by
  obtain ⟨x1,x2⟩:=Wq hx; obtain ⟨f1,f2,f3⟩:=TI x1; obtain ⟨p1,p2,p3⟩:=QA f1; have hal:=CP e; obtain ⟨k1,rfl⟩:∃ k1,k=k1 + 3:=⟨k - 3,by omega⟩; obtain ⟨m1,rfl⟩:∃ m1,m=m1 + 1:=⟨m - 1,by omega⟩
  have args:∀ k2:Nat,3 * b + 3≤k2→(∃ c,c≠0∧lY (eT k2) e.args env BIG [] 0=some ([],c)∧qP (oh m1) e env BIG [] 0=some (ZT,c))∨
    (∃ Ts:List Ty,Ts.length=e.args.length∧(∀ t∈Ts,t.wf∧t.dep≤16)∧lY (eT k2) e.args env BIG [] 0=some (Ts.map Ty.api,0)∧qP (oh m1) e env BIG [] 0=Ec (jM e (Ts.map Ty.api))):=by
   intro k2 hk2; have s1:=dU (F:=fun k s i=>lY (eT k2) e.args env k s i) (l:=e.args) (body:=bodyC fun x=>eT k2 x env) (fin:=fun o=>some (o,0)) (by omega) (fun k s i=>rfl) []; have s2:=dU (F:=fun k s i=>qP (oh m1) e env k s i) (l:=e.args) (body:=V8 fun x=>oh m1 x env) (fin:=fun l1=>Ec (jM e l1)) (by omega) (fun k s i=>rfl) []; rw [s1,s2]; have:=adJ (K:=fun l1=>Ec (jM e l1)) (goC:=fun x=>eT k2 x env) (goR:=fun x=>oh m1 x env) e.args [] 0 (fun x hx=>SB hW hl b x (level + 1) k2 m1 (by have:=jq hx; omega) (by have:=jq hx; omega) (x2 x hx) hk2 (by omega)) (by simp; omega); simpa using this
  have err:∀ c:Int,RES (some (ZT,c)) (some (ZT,c)):=fun c=>⟨sc 0,c,(any_ok (by omega)).1,(any_ok (by omega)).2,fun _=>rfl,rfl,rfl⟩; rw [eT,zm,oh,Dh]; unfold Ap at p1; simp only [Bool.not_eq_true',Bool.or_eq_false_iff,decide_eq_false_iff_not] at p1; have hkind:e.kind=1∨e.kind=2∨e.kind=3∨e.kind=4∨e.kind=5∨e.kind=6∨e.kind=7∨e.kind=8∨e.kind=9∨e.kind=10:=by omega
  have QV:jl (k1 + 2) e.args env=lY (eT (k1 + 1)) e.args env BIG [] 0:=rfl; rcases hkind with hk' | hk' | hk' | hk' | hk' | hk' | hk' | hk' | hk' | hk'
  ·
   
   have hz:e.args=[]:=by unfold qB at p3; simp [hk'] at p3; exact p3
   have h1:jl (k1 + 2) e.args env=some ([],0):=by
    rw [QV,hz]; rfl
   obtain ⟨o1,o2,o3,o4⟩:=ahU (v:=e.value) (by have:=ER e; omega) (f2 hk'); rw [h1]; unfold Ci; simp only [hk',aC,o1,o2]; exact ⟨Rc e.value,0,o3,o4,fun h=>absurd rfl h,rfl,rfl⟩
  ·
   
   have hz:e.args=[]:=by unfold qB at p3; simp [hk'] at p3; exact p3
   have h1:jl (k1 + 2) e.args env=some ([],0):=by
    rw [QV,hz]; rfl
   have:=QL hW hl e hk'; rw [h1]; simpa [hk'] using this
  ·
   have hlen:e.args.length=1:=by unfold qB at p3; simp [hk'] at p3; omega
   rw [QV]; rcases args (k1 + 1) (by omega) with ⟨c,c1,c2,c3⟩ | ⟨Ts,c1,c2,c3,c4⟩
   · rw [c2]; simp only [hk']; simpa [c1,c3,ZT] using err c
   ·
    rw [c3]; obtain ⟨t,rfl⟩:=len1 (c1.trans hlen); obtain ⟨w,d⟩:=c2 t (by simp); have:=Uf w d hk' []; simp only [hk']; simpa [c4,idx] using this
  ·
   have hlen:e.args.length=2:=by unfold qB at p3; simp [hk'] at p3; omega
   rw [QV]; rcases args (k1 + 1) (by omega) with ⟨c,c1,c2,c3⟩ | ⟨Ts,c1,c2,c3,c4⟩
   · rw [c2]; simp only [hk']; simpa [c1,c3,ZT] using err c
   ·
    rw [c3]; obtain ⟨t,u,rfl⟩:=len2 (c1.trans hlen); obtain ⟨w,d⟩:=c2 t (by simp); obtain ⟨w',d'⟩:=c2 u (by simp); have:=Xm w d w' d' hk' []; simp only [hk']; simpa [c4,idx] using this
  ·
   
   have hc5:j6 (k1 + 2) e env=wm (eT (k1 + 1)) (j6 (k1 + 1)) (jl (k1 + 1)) e env:=rfl; have ahO:jl (k1 + 1) e.args env=lY (eT k1) e.args env BIG [] 0:=rfl; simp only [hk']; rw [hc5,wm]; rcases WI e.name with ⟨s1,s2⟩ | ⟨n,alts,x,w,r,s1,s2,s3,s4,s5⟩
   ·
    rw [s1,s2]; simpa [ZT] using err 10
   ·
    rw [s1,s4]; subst s2; have hi:idx (w :: r) 0=some w:=rfl; have hne:((((w :: r).length:Nat):Int) == 0)=false:=by simp; omega
    have hn0:decide (((n:Nat):Int) < 0)=false:=by simp
    simp only [aC,hne,Bool.false_eq_true,if_false,hi,ak,s3,hn0]; by_cases hlen:e.args.length=n
    ·
     have e1:((e.args.length:Int) != (n:Int))=false:=by simp [hlen]
     have e2:((n:Int) != (e.args.length:Int))=false:=by simp [hlen]
     rw [ahO]; rcases args k1 (by omega) with ⟨c,c1,c2,c3⟩ | ⟨Ts,c1,c2,c3,c4⟩
     · rw [c2]; simpa [e1,e2,c1,c3,ZT] using err c
     ·
      have:=s5 e Ts rfl (by omega) c2; have ZF:jM e (Ts.map Ty.api)=kX e.name (Ts.map Ty.api):=by unfold jM; simp [hk']
      rw [c3]; rw [ZF] at c4; simpa [e1,e2,c4] using this
    ·
     have e1:((e.args.length:Int) != (n:Int))=true:=by simp; omega
     have e2:((n:Int) != (e.args.length:Int))=true:=by simp; omega
     simpa [e1,e2,ZT] using err 1
  ·
   have hlen:e.args.length=1:=by unfold qB at p3; simp [hk'] at p3; omega
   rw [QV]; rcases args (k1 + 1) (by omega) with ⟨c,c1,c2,c3⟩ | ⟨Ts,c1,c2,c3,c4⟩
   · rw [c2]; simp only [hk']; simpa [c1,c3,ZT] using err c
   ·
    rw [c3]; obtain ⟨t,rfl⟩:=len1 (c1.trans hlen); obtain ⟨w,d⟩:=c2 t (by simp); have:=Wy w d hk' []; simp only [hk']; simpa [c4,idx] using this
  ·
   have hlen:e.args.length=2:=by unfold qB at p3; simp [hk'] at p3; omega
   have hop:e.name∈opsL:=by
    unfold DC at p2; simp [hk'] at p2; exact TS p2
   rw [QV]; rcases args (k1 + 1) (by omega) with ⟨c,c1,c2,c3⟩ | ⟨Ts,c1,c2,c3,c4⟩
   · rw [c2]; simp only [hk']; simpa [c1,c3,ZT] using err c
   ·
    rw [c3]; obtain ⟨t,u,rfl⟩:=len2 (c1.trans hlen); obtain ⟨w,d⟩:=c2 t (by simp); obtain ⟨w',d'⟩:=c2 u (by simp); have:=UO w d w' d' hop; have ZF:jM e [t.api,u.api]=Aa e.name t.api u.api:=by unfold jM; simp [hk',idx]
    simp only [List.map_cons,List.map_nil] at c4; rw [ZF] at c4; simp only [hk']; simpa [c4,idx] using this
  ·
   have hlen:e.args.length=3:=by unfold qB at p3; simp [hk'] at p3; omega
   rw [QV]; rcases args (k1 + 1) (by omega) with ⟨c,c1,c2,c3⟩ | ⟨Ts,c1,c2,c3,c4⟩
   · rw [c2]; simp only [hk']; simpa [c1,c3,ZT] using err c
   ·
    rw [c3]; obtain ⟨t,u,v,rfl⟩:=aiC (c1.trans hlen); obtain ⟨w,d⟩:=c2 t (by simp); obtain ⟨w',d'⟩:=c2 u (by simp); obtain ⟨w'',d''⟩:=c2 v (by simp); have:=Z9 w d w' d' w'' d'' hk' []; simp only [hk']; simpa [c4,idx] using this
  ·
   rw [QV]; rcases args (k1 + 1) (by omega) with ⟨c,c1,c2,c3⟩ | ⟨Ts,c1,c2,c3,c4⟩
   · rw [c2]; simp only [hk']; simpa [c1,c3,ZT] using err c
   ·
    rw [c3]; have hn:=O9 c2 (by omega) (e:=e) (.inl hk'); have:=IE c2 (by omega) (k:=5) (.inl rfl) (by simpa [hk'] using hn); simp only [hk']; simpa [c4] using this
  ·
   rw [QV]; rcases args (k1 + 1) (by omega) with ⟨c,c1,c2,c3⟩ | ⟨Ts,c1,c2,c3,c4⟩
   · rw [c2]; simp only [hk']; simpa [c1,c3,ZT] using err c
   ·
    rw [c3]; have hn:=O9 c2 (by omega) (e:=e) (.inr hk'); have:=IE c2 (by omega) (k:=6) (.inr rfl) (by simpa [hk'] using hn); simp only [hk']; simpa [c4] using this
end Go.Ft
namespace Go.Ft
open Go
attribute [local congr] gK
theorem Sl (T:Ty):kZ T (sc 7)=T:=by
 cases T with
 | leaf a=>
  unfold sc; rw [kZ]; by_cases h:a=7
  · simp [h]
  · simp [h]
 | nest a t=>unfold sc; rw [kZ]; simp
theorem U_ {T:Ty} (h:T.wf) (hd:T.dep≤16):kC T.api (sc 7).api=some T.api:=by
 rw [(I4 h (any_ok (by omega)).1 hd (any_ok (by omega)).2).1,Sl]
theorem Xy {env:List aO} {N:Nat} (h:(env.map aO.bulk).sum≤N):env.length≤N∧∀ d∈env,d.name.length≤N:=by
 constructor
 ·
  have:=Ir (l:=env) (f:=aO.bulk) (fun x=>by unfold aO.bulk; omega); omega
 ·
  intro d hd; have:=K3 (f:=aO.bulk) hd; have h2:d.name.length < d.bulk:=by unfold aO.bulk; omega
  omega
end Go.Ft
namespace Go.Ft
open Go
attribute [local congr] gK
theorem Wp {e:ah} (h:xval e=0):Hg e 1=0:=by
 unfold xval at h; split at h
 · cases h
 · exact h
theorem UG {e:ah} {env:List aO} (h:e.bulk≤1099511627776) (hl:env.length < 4611686018427387904) (hd:∀ d∈env,d.name.length < 4611686018427387000):
  (∃ c,c≠0∧wU e env=some (ZT,c)∧qQ e env=some (ZT,c))∨(∃ T:Ty,T.wf∧T.dep≤16∧wU e env=some (T.api,0)∧qQ e env=some (T.api,0)∧H9 e env=some (T.api,0)∧xval e=0∧SG env=0):=by
 obtain ⟨v1,v2,v3⟩:=ZU (env:=env) hl hd; obtain ⟨x1,x2⟩:=PL (e:=e) (by omega); unfold wU qQ; rw [v1,v2,x1,x2]; simp only [ak]; by_cases hv:SG env=0
 ·
  simp only [hv,bne_self_eq_false,Bool.false_eq_true,if_false]; by_cases hx:xval e=0
  ·
   simp only [hx,bne_self_eq_false,Bool.false_eq_true,if_false]; have hc:=Wp hx; obtain ⟨T,c,w,d,z,r1,r2⟩:=SB (v3 hv) hl e.bulk e 1 BIG BIG (Nat.le_refl _) (by omega) hc (by have:=jL; omega) (by have:=jL; omega); have r1':GR e env=some (T.api,c):=r1; have r2':H9 e env=some (T.api,c):=r2; rw [r1',r2']; simp only [aC]; by_cases h0:c=0
   ·
    subst h0; have t7:dF 7=some (sc 7).api:=rfl; rw [if_neg (by simp),t7]; simp only [ak,U_ w d]; exact .inr ⟨T,w,d,by simp⟩
   ·
    rw [if_pos (by simpa using h0),z h0]; exact .inl ⟨c,h0,rfl,rfl⟩
  ·
   have hx':(xval e != 0)=true:=by simpa using hx
   simp only [hx',if_true]; exact .inl ⟨_,hx,rfl,rfl⟩
 ·
  have hv':(SG env != 0)=true:=by simpa using hv
  simp only [hv',if_true]; exact .inl ⟨_,hv,rfl,rfl⟩
end Go.Ft
namespace Go.Ft
open Go
attribute [local congr] gK
mutual
def I5 :ah→List Str
 | ⟨k,s,_,args,_⟩=>(if k == 2 then [s] else []) ++ Jp args
def Jp :List ah→List Str
 | []=>[]
 | x :: r=>I5 x ++ Jp r
end
theorem Mf (e:ah):I5 e=(if e.kind == 2 then [e.name] else []) ++ Jp e.args:=by cases e; rfl
theorem Vy :∀ (l:List ah),(∀ x∈l,(I5 x).length≤ecnt x)→(Jp l).length≤Bz l
 | [],_=>by simp [Jp]
 | x :: r,h=>by
  simp only [Jp,Bz,List.length_append]; have:=h x (by simp); have:=Vy r fun y hy=>h y (by simp [hy]); omega
theorem Fx :∀ (n:Nat) (e:ah),e.bulk≤n→(I5 e).length≤ecnt e
 | 0,e,h=>by have:=e.mP; omega
 | n + 1,e,h=>by
  rw [Mf,DF,List.length_append]; have:=Vy e.args fun x hx=>Fx n x (by have:=jq hx; omega); split <;> simp <;> omega
theorem Vx :∀ (l:List ah) (s:Str),s∈Jp l↔∃ x∈l,s∈I5 x
 | [],s=>by simp [Jp]
 | x :: r,s=>by simp [Jp,Vx r s]
theorem Fw :∀ (n:Nat) (e:ah),e.bulk≤n→∀ s∈I5 e,s.length < e.bulk
 | 0,e,h,s,hs=>by have:=e.mP; omega
 | n + 1,e,h,s,hs=>by
  rw [Mf,List.mem_append,Vx] at hs; rcases hs with hs | ⟨x,hx,hs⟩
  ·
   split at hs
   ·
    simp only [List.mem_singleton] at hs; subst hs; exact Pt e
   · simp at hs
  ·
   have h1:=Fw n x (by have:=jq hx; omega) s hs; have:=jq hx; omega
theorem aeu {go:ah→List Str→Option (List Str)}:∀ (l:List ah) (i:Nat) (out:List Str),(∀ x∈l,∀ o:List Str,o.length + (I5 x).length≤uU→go x o=some (o ++ I5 x))→out.length + (Jp l).length≤uU→
  dR (fun _ a1 (o:List Str) r=>ay (go a1 o) fun o2=>r o2) (fun o=>some o) i l out=some (out ++ Jp l)
 | [],i,out,_,_=>by simp [dR,Jp]
 | x :: r,i,out,h,hl=>by
  simp only [Jp,List.length_append] at hl ⊢; rw [dR,h x (by simp) out (by omega)]; simp only [ak]; rw [aeu r (i + 1) (out ++ I5 x) (fun y hy=>h y (by simp [hy])) (by simp only [List.length_append]; omega),List.append_assoc]
theorem ac5 :∀ (n:Nat) (e:ah) (out:List Str),e.bulk≤n→e.bulk < 4611686018427387904→out.length + (I5 e).length≤uU→jH (n + 1) e out=some (out ++ I5 e)
 | 0,e,out,h,_,_=>by have:=e.mP; omega
 | n + 1,e,out,h,hB,hl=>by
  have hal:=CP e; unfold jH ug; have sb:=dU (F:=fun k s i=>kS (jH (n + 1)) e k s i) (l:=e.args) (body:=fun _ a1 (o:List Str) r=>ay (jH (n + 1) a1 o) fun o2=>r o2) (fin:=fun o=>some o) (by omega) (fun k s i=>rfl); rw [Mf,List.length_append] at hl; have hgo:∀ x∈e.args,∀ o:List Str,o.length + (I5 x).length≤uU→jH (n + 1) x o=some (o ++ I5 x):=fun x hx o ho=>ac5 n x o (by have:=jq hx; omega) (by have:=jq hx; omega) ho; rw [Mf]; by_cases hk:(e.kind == 2)=true
  ·
   simp only [hk,if_true] at hl ⊢; rw [aR (by simp at hl ⊢; omega),ak,sb,aeu e.args 0 _ hgo (by simp at hl ⊢; omega),List.append_assoc]
  ·
   simp only [Bool.not_eq_true] at hk; simp only [hk,Bool.false_eq_true,if_false,List.nil_append] at hl ⊢; rw [sb,aeu e.args 0 _ hgo (by simpa using hl)]
theorem aeD {go:ah→Option (List Str)}:∀ (l:List ah) (i:Nat) (out:List Str),(∀ x∈l,go x=some (I5 x))→out.length + (Jp l).length≤uU→
  dR (fun _ e2 (o:List Str) r=>ay (go e2) fun x1=>ay (app o x1) fun l3=>r l3) (fun o=>some o) i l out=some (out ++ Jp l)
 | [],i,out,_,_=>by simp [dR,Jp]
 | x :: r,i,out,h,hl=>by
  simp only [Jp,List.length_append] at hl ⊢; rw [dR,h x (by simp)]; simp only [ak]; rw [aR (by omega),ak,aeD r (i + 1) (out ++ I5 x) (fun y hy=>h y (by simp [hy])) (by simp only [List.length_append]; omega),List.append_assoc]
theorem ae4 {l:List Str} (h:∀ s∈l,s.length < 4611686018427387904) (hl:l.length≤uU):vR l=some (uD l):=by
 unfold vR; rw [if_pos]; simp only [Bool.and_eq_true,List.all_eq_true,decide_eq_true_eq]; exact ⟨h,hl⟩
theorem Wd {l:List Str} {a:Nat} {x:Str} (hl:UR l) (ha:a≤l.length) (h1:∀ i,(hi:i < l.length)→i < a→fU l[i] x < 0) (h2:∀ i,(hi:i < l.length)→a≤i→fU x l[i] < 0):UR (l.take a ++ [x] ++ l.drop a):=by
 unfold UR at *; rw [List.append_assoc,List.pairwise_append]; refine ⟨hl.sublist (List.take_sublist _ _),?_,?_⟩
 ·
  rw [List.singleton_append,List.pairwise_cons]; refine ⟨fun y hy=>?_,hl.sublist (List.drop_sublist _ _)⟩; obtain ⟨i,hi,rfl⟩:=List.mem_iff_getElem.1 hy; rw [List.getElem_drop]; exact h2 _ _ (by omega)
 ·
  intro y hy z hz; obtain ⟨i,hi,rfl⟩:=List.mem_iff_getElem.1 hy; have hi':i < a:=by simp at hi; omega
  rw [List.getElem_take]; have hyx:=h1 i (by omega) hi'; rw [List.singleton_append,List.mem_cons] at hz; rcases hz with rfl | hz
  · exact hyx
  ·
   obtain ⟨j,hj,rfl⟩:=List.mem_iff_getElem.1 hz; rw [List.getElem_drop]; exact vL hyx (h2 _ _ (by omega))
theorem acI {l:List Str} (hl:UR l) {i j:Nat} (hij:i < j) (hj:j < l.length):fU l[i] l[j] < 0:=List.pairwise_iff_getElem.1 hl i j (by omega) hj hij
theorem Sn {names out:List Str} {i:Nat} (hi:i < names.length) (hn:∀ s∈names,s.length < 4611686018427387904) (ho:∀ s∈out,s.length < 4611686018427387904) (hlen:out.length + 1≤uU) (hout:UR out)
  (go:List Str→Int→Option (List Str)) (hin:names.length < 4611686018427387904):∀ (a k:Nat),a < k→a≤out.length→(∀ j,(hj:j < out.length)→a≤j→fU names[i] out[j] < 0)→
  ∃ out',UR out'∧(∀ x,x∈out'↔x∈out∨x=names[i])∧out'.length≤out.length + 1∧oo names out (i:Int) go k (a:Int)=go out' (((i + 1:Nat)):Int)
 | a,0,h,_,_=>by omega
 | 0,k + 1,_,_,hge=>by
  refine ⟨[names[i]] ++ out,?_,?_,?_,?_⟩
  ·
   have:=Wd (a:=0) (x:=names[i]) hout (by omega) (fun j hj hja=>by omega) (fun j hj hja=>hge j hj hja); simpa using this
  · intro x; simp [or_comm]
  · simp
  ·
   unfold uU at hlen; have hsl:sl out ((0:Nat):Int) (out.length:Int)=some out:=by rw [bD (by omega) (by omega) (by omega)]; simp
   have hsl0:sl out 0 ((0:Nat):Int)=some []:=by rw [bD (by omega) (by omega) (by omega)]; simp
   rw [oo]; rw [if_neg (by simp)]; simp only [ak,Bool.false_eq_true,if_false]; rw [if_neg (by simp)]; simp only [ak,Bool.false_eq_true,if_false]; rw [hsl0,ak,aR (by simp),ak,m_ hi,ak,aR (by simp [uU]),ak,hsl,ak,aR (by simp [uU]; omega),ak,mh (by omega)]; simp
 | a + 1,k + 1,hk,ha,hge=>by
  unfold uU at hlen; have hw:bL (((a + 1:Nat):Int) - 1)=(a:Int):=by rw [TK (by omega)]; omega
  have hx:=hn _ (List.getElem_mem hi); have hy:=ho _ (List.getElem_mem (show a < out.length by omega)); rw [oo]; rw [if_pos (by simp),m_ hi,ak,hw,m_ (show a < out.length by omega),ak,Ud hx hy]; simp only [ak]; by_cases hlt:fU names[i] out[a] < 0
  ·
   simp only [hlt,decide_true,if_true]
   exact Sn hi hn ho (by unfold uU; omega) hout go hin a k (by omega) (by omega) (fun j hj hja=>by
    rcases Nat.lt_or_ge a j with h | h
    · exact hge j hj (by omega)
    ·
     have:j=a:=by omega
     subst this
     exact hlt)
  ·
   simp only [hlt,decide_false,Bool.false_eq_true,if_false]; rw [if_pos (by simp)]; simp only [ak]; by_cases heq:out[a]=names[i]
   ·
    refine ⟨out,hout,?_,by omega,?_⟩
    ·
     intro x; constructor
     · exact .inl
     ·
      rintro (h | rfl)
      · exact h
      · rw [←heq]; exact List.getElem_mem _
    ·
     simp only [heq,beq_self_eq_true,if_true]; rw [mh (by omega)]
   ·
    have hgt:fU out[a] names[i] < 0:=by
     have h1:=pR names[i] out[a]; rcases Int.lt_trichotomy (fU out[a] names[i]) 0 with h | h | h
     · exact h
     · exact absurd (uR h) heq
     · omega
    have hb:(out[a] == names[i])=false:=by simpa using heq
    simp only [hb,Bool.false_eq_true,if_false]; have hsl:sl out ((a + 1:Nat):Int) (out.length:Int)=some (out.drop (a + 1)):=by rw [bD (by omega) (by omega) (by omega)]; simp
    have hsl0:sl out 0 ((a + 1:Nat):Int)=some (out.take (a + 1)):=by rw [bD (by omega) (by omega) (by omega)]; simp
    refine ⟨out.take (a + 1) ++ [names[i]] ++ out.drop (a + 1),Wd hout ha (fun j hj hja=>?_) (fun j hj hja=>hge j hj hja),?_,?_,?_⟩
    ·
     rcases Nat.lt_or_ge j a with h | h
     · exact vL (acI hout h (by omega)) hgt
     ·
      have:j=a:=by omega
      subst this; exact hgt
    ·
     intro x; have:x∈out↔x∈out.take (a + 1)∨x∈out.drop (a + 1):=by rw [←List.mem_append,List.take_append_drop]
     rw [this]; simp only [List.mem_append,List.mem_singleton]; constructor
     ·
      rintro ((h | h) | h)
      · exact .inl (.inl h)
      · exact .inr h
      · exact .inl (.inr h)
     ·
      rintro ((h | h) | h)
      · exact .inl (.inl h)
      · exact .inr h
      · exact .inl (.inr h)
    · simp; omega
    ·
     rw [hsl0,ak,aR (by simp [uU]; omega),ak,aR (by simp [uU]; omega),ak,hsl,ak,aR (by simp [uU]; omega),ak,mh (by omega)]; simp
theorem Hz {names:List Str} (hn:∀ s∈names,s.length < 4611686018427387904) (hin:names.length < uU):∀ (k i:Nat) (out:List Str),names.length < k + i→i≤names.length→UR out→(∀ x,x∈out↔x∈names.take i)→out.length≤i→
  ∃ r,mg names k out (i:Int)=some r∧UR r∧∀ x,x∈r↔x∈names
 | 0,i,out,h,h',_,_,_=>by omega
 | k + 1,i,out,h,h',ha,hm,hl=>by
  unfold uU at hin; rw [mg]; by_cases hi:i < names.length
  ·
   rw [if_pos (by simp; omega)]; have ho:∀ s∈out,s.length < 4611686018427387904:=fun s hs=>hn s (List.mem_of_mem_take ((hm s).1 hs)); obtain ⟨out',a1,a2,a3,a4⟩:=Sn hi hn ho (by unfold uU; omega) ha (mg names k) (by omega) out.length BIG (by have:=jL; omega) (Nat.le_refl _) (fun j hj hja=>by omega); rw [a4]; refine Hz hn (by unfold uU; omega) k (i + 1) out' (by omega) (by omega) a1 (fun x=>?_) (by omega); rw [a2,hm,List.take_succ_eq_append_getElem hi,List.mem_append,List.mem_singleton]
  ·
   rw [if_neg (by simp; omega)]; refine ⟨out,rfl,ha,fun x=>?_⟩; rw [hm,List.take_of_length_le (by omega)]
theorem LK {l:List Str} (hn:∀ s∈l,s.length < 4611686018427387904) (hl:l.length < uU):pQ l=some (uD l):=by
 obtain ⟨r,h1,h2,h3⟩:=Hz hn hl BIG 0 [] (by have:=jL; unfold uU at hl; omega) (by omega) List.Pairwise.nil (fun x=>by simp) (by simp); unfold pQ; rw [show (0:Int)=((0:Nat):Int) from rfl,h1]; congr 1; exact G5 h2 (G6 l) (fun x=>by rw [h3,Al])
theorem GA (l:List Str):(uD l).length≤l.length:=by
 have h:∀ l:List Str,(dd l).length≤l.length:=by
  intro l
  fun_induction dd l <;> simp_all <;> omega
 have:=h (KY l); rw [(Im l).length_eq] at this; exact this
end Go.Ft
namespace Go.Ft
open Go
attribute [local congr] gK
def ZV :av:=av.mk 0 false 0 ([]:Str) [] []
end Go.Ft
namespace Go.Ft
open Go
attribute [local congr] gK
theorem acr {α:Type} {l t:List α} {d:α} {i:Nat} (h:d :: t=l.drop i):∃ hi:i < l.length,d=l[i]∧t=l.drop (i + 1):=by
 have hi:i < l.length:=by
  rcases Nat.lt_or_ge i l.length with h' | h'
  · exact h'
  · rw [List.drop_eq_nil_of_le h'] at h; cases h
 have hc:=List.drop_eq_getElem_cons hi; rw [←h] at hc; exact ⟨hi,(List.cons.inj hc).1,(List.cons.inj hc).2⟩
end Go.Ft
namespace Go.Ft
open Go
attribute [local congr] gK
mutual
def lev :av→Nat
 | ⟨k,_,_,_,l,_⟩=>if (k == 4) || (k == 5) then ag7 l 2 else 1
def ag7 :List av→Nat→Nat
 | [],n=>n
 | x :: r,n=>ag7 r (max n (1 + lev x))
end
mutual
def vok :av→Bool
 | ⟨a,b,c,d,l,f⟩=>(yK ⟨a,b,c,d,l,f⟩ 1 == 0) && agn l
def agn :List av→Bool
 | []=>true
 | x :: r=>vok x && agn r
end
def VV (v:av):Prop:=vok v=true∧lev v≤16
end Go.Ft
namespace Go.Ft
open Go
attribute [local congr] gK
def dg (u:Nat):UInt8:=UInt8.ofNat (48 + u)
theorem M4 {u:Nat} (h:u < 10):(dg u).toNat=48 + u:=by
 unfold dg; rw [UInt8.toNat_ofNat',Nat.mod_eq_of_lt (by omega)]
theorem Z4 {u:Nat} (h:u < 10):bY (dg u)=true:=by
 unfold bY; rw [M4 h]; simp; omega
theorem JH :∀ (k m u:Nat),u < 10 ^ k→u < 10 ^ m→0 < k→0 < m→sQ k u=sQ m u
 | 0,_,_,_,_,h,_=>by omega
 | _,0,_,_,_,_,h=>by omega
 | k + 1,m + 1,u,h,h',_,_=>by
  rw [sQ,sQ]; by_cases hu:u < 10
  · rw [if_pos hu,if_pos hu]
  ·
   rw [if_neg hu,if_neg hu]
   have hk:0 < k:=by
    rcases Nat.eq_zero_or_pos k with h0 | h0
    · subst h0; omega
    · exact h0
   have hm:0 < m:=by
    rcases Nat.eq_zero_or_pos m with h0 | h0
    · subst h0; omega
    · exact h0
   rw [JH k m (u / 10) (by rw [Nat.pow_succ] at h; omega) (by rw [Nat.pow_succ] at h'; omega) hk hm]
theorem SL :∀ (k u:Nat),u < 10 ^ k→0 < k→(sQ k u).length≤k
 | 0,_,_,h=>by omega
 | k + 1,u,h,_=>by
  rw [sQ]; split
  · simp
  ·
   rename_i hu
   have hk:0 < k:=by
    rcases Nat.eq_zero_or_pos k with h0 | h0
    · subst h0; omega
    · exact h0
   have:=SL k (u / 10) (by rw [Nat.pow_succ] at h; omega) hk; simp only [List.length_append,List.length_singleton]; omega
theorem M0 {u:Nat} (h:u < 10):sQ 20 u=[dg u]:=by rw [sQ,if_pos h]; rfl
theorem SN {u:Nat} (h:¬ u < 10) (hb:u < 100000000000000000000):sQ 20 u=sQ 20 (u / 10) ++ [dg (u % 10)]:=by
 have e:sQ 20 u=sQ 19 (u / 10) ++ [dg (u % 10)]:=by rw [sQ,if_neg h]; rfl
 rw [e,JH 19 20 (u / 10) (by have:(10:Nat) ^ 19=10000000000000000000:=(by decide); omega) (by have:(10:Nat) ^ 20=100000000000000000000:=(by decide); omega) (by omega) (by omega)]
attribute [local irreducible] sQ
def Rp :Str→Nat→Nat
 | [],acc=>acc
 | c :: r,acc=>Rp r (acc * 10 + (c.toNat - 48))
def uj (acc:Nat) (s:Str):Nat:=Rp s acc
theorem xw (acc:Nat):uj acc []=acc:=rfl
theorem mo (acc:Nat) (c:UInt8) (s:Str):uj acc (c :: s)=uj (acc * 10 + (c.toNat - 48)) s:=by simp only [uj,Rp]
theorem J7 :∀ (s t:Str) (acc:Nat),Rp (s ++ t) acc=Rp t (Rp s acc)
 | [],t,acc=>rfl
 | c :: s,t,acc=>by rw [List.cons_append,Rp,Rp,J7 s t]
theorem J8 (s t:Str) (acc:Nat):uj acc (s ++ t)=uj (uj acc s) t:=J7 s t acc
theorem Vi :∀ (s:Str) (acc:Nat),acc≤uj acc s
 | [],acc=>Nat.le_refl _
 | c :: s,acc=>by rw [mo]; have:=Vi s (acc * 10 + (c.toNat - 48)); omega
def XL (s:Str):Prop:=s≠[]∧(∀ c∈s,bY c=true)∧(1 < s.length→(s.head?.map UInt8.toNat)≠some 48)
theorem xV :∀ (n u:Nat),u≤n→u < 100000000000000000000→XL (sQ 20 u)∧uj 0 (sQ 20 u)=u∧(0 < u→((sQ 20 u).head?.map UInt8.toNat)≠some 48)
 | n,u,h,hb=>by
  by_cases hu:u < 10
  ·
   rw [M0 hu]; refine ⟨⟨by simp,fun c hc=>?_,fun h=>by simp at h⟩,?_,fun hp=>?_⟩
   · rw [List.mem_singleton.1 hc]; exact Z4 hu
   · simp [mo,xw,M4 hu]
   · simp [M4 hu]; omega
  ·
   match n,h with
   | 0,h=>omega
   | n + 1,h=>
    obtain ⟨⟨h1,h2,h3⟩,h4,h5⟩:=xV n (u / 10) (by omega) (by omega); rw [SN hu hb]
    have hh:((sQ 20 (u / 10) ++ [dg (u % 10)]).head?.map UInt8.toNat)=((sQ 20 (u / 10)).head?.map UInt8.toNat):=by
     cases hd:sQ 20 (u / 10) with
     | nil=>exact absurd hd h1
     | cons a l=>rfl
    refine ⟨⟨by simp,fun c hc=>?_,fun _=>?_⟩,?_,fun _=>?_⟩
    ·
     rcases List.mem_append.1 hc with hc | hc
     · exact h2 c hc
     · rw [List.mem_singleton.1 hc]; exact Z4 (by omega)
    · rw [hh]; exact h5 (by omega)
    ·
     rw [J8,h4]; simp only [mo,xw,M4 (show u % 10 < 10 from by omega)]; omega
    · rw [hh]; exact h5 (by omega)
theorem qw {c:UInt8} (h:bY c=true):48≤c.toNat∧c.toNat≤57:=by
 unfold bY at h; simp only [Bool.and_eq_true,decide_eq_true_eq] at h; omega
theorem adC {c:UInt8} (h:bY c=true):c=dg (c.toNat - 48):=by
 have:=qw h; apply UInt8.toNat_inj.1; rw [M4 (by omega)]; omega
theorem Vh :∀ (s:Str) (acc:Nat),(∀ c∈s,bY c=true)→uj acc s < (acc + 1) * 10 ^ s.length
 | [],acc,_=>by simp [mo,xw]
 | c :: s,acc,h=>by
  have hc:=qw (h c (by simp)); have:=Vh s (acc * 10 + (c.toNat - 48)) fun x hx=>h x (by simp [hx]); rw [mo,List.length_cons,Nat.pow_succ]
  have e:(acc * 10 + (c.toNat - 48) + 1) * 10 ^ s.length≤(acc + 1) * (10 ^ s.length * 10):=by
   rw [Nat.mul_comm (10 ^ s.length) 10,←Nat.mul_assoc]; exact Nat.mul_le_mul_right _ (by omega)
  omega
theorem Ng :∀ (n:Nat) (s:Str),s.length≤n→XL s→s.length≤19→sQ 20 (uj 0 s)=s∧(1 < s.length→10≤uj 0 s)∧(s.length=1→uj 0 s < 10)
 | 0,s,h,hc,_=>by
  have:=List.length_pos_iff.2 hc.1; omega
 | n + 1,s,h,⟨h1,h2,h3⟩,h19=>by
  by_cases hl:s.length=1
  ·
   obtain ⟨c,rfl⟩:=len1 hl; have hd:=h2 c (by simp); have hn:=qw hd; have e:uj 0 [c]=c.toNat - 48:=by simp [mo,xw]
   rw [e,M0 (by omega),←adC hd]; exact ⟨rfl,fun h=>by simp at h,fun _=>by omega⟩
  ·
   have hpos:=List.length_pos_iff.2 h1; have hs:s=s.dropLast ++ [s.getLast h1]:=(List.dropLast_concat_getLast h1).symm; have hdl:s.dropLast.length=s.length - 1:=List.length_dropLast; have hd:=h2 (s.getLast h1) (List.getLast_mem h1); have hn:=qw hd; have hne:s.dropLast≠[]:=fun h=>by rw [h] at hdl; simp at hdl; omega
   have hhd:s.dropLast.head?=s.head?:=by
    cases s with
    | nil=>exact absurd rfl h1
    | cons a l=>cases l with
     | nil=>simp at hl
     | cons b r=>rfl
   have hz:=h3 (by omega); have hcd:XL s.dropLast:=⟨hne,fun c hc=>h2 c ((List.dropLast_sublist s).subset hc),fun _=>by rw [hhd]; exact hz⟩; obtain ⟨i1,i2,i3⟩:=Ng n s.dropLast (by omega) hcd (by omega)
   have hv:uj 0 s=uj 0 s.dropLast * 10 + ((s.getLast h1).toNat - 48):=by
    conv=>lhs; rw [hs]
    rw [J8]; rfl
   have hp:1≤uj 0 s.dropLast:=by
    by_cases h10:s.dropLast.length=1
    ·
     obtain ⟨a,ha⟩:=len1 h10; have ha1:bY a=true:=h2 a ((List.dropLast_sublist s).subset (by rw [ha]; simp)); have ha2:=qw ha1; rw [←hhd,ha] at hz; simp only [List.head?_cons,Option.map_some,ne_eq,Option.some.injEq] at hz; rw [ha]; simp only [mo,xw]; omega
    · have:=i2 (by omega); omega
   have hlt:=Vh s 0 h2
   have h20:uj 0 s < 100000000000000000000:=by
    have:(10:Nat) ^ s.length≤10 ^ 19:=Nat.pow_le_pow_right (by omega) h19; have e19:(10:Nat) ^ 19=10000000000000000000:=by decide
    omega
   refine ⟨?_,fun _=>by omega,fun h=>absurd h hl⟩; rw [SN (by omega) h20]; have e1:uj 0 s / 10=uj 0 s.dropLast:=by omega
   have e2:uj 0 s % 10=(s.getLast h1).toNat - 48:=by omega
   rw [e1,e2,i1,←adC hd]; exact hs.symm
theorem VA :∀ (s:Str) (acc:Nat),(∀ c∈s,bY c=true)→uj acc s < 18446744073709551616→GH acc s=(0,uj acc s)
 | [],acc,_,_=>rfl
 | c :: s,acc,h,hb=>by
  have hc:=qw (h c (by simp)); have hg:=Vi s (acc * 10 + (c.toNat - 48)); rw [mo] at hb ⊢; rw [GH,if_pos hc,if_neg (by omega),if_neg (by omega)]; exact VA s _ (fun x hx=>h x (by simp [hx])) hb
theorem Ti {u:Nat} (h:u < 9223372036854775808):CV (sQ 20 u)=(0,(u:Int)):=by
 obtain ⟨⟨h1,h2,h3⟩,h4,h5⟩:=xV u u (Nat.le_refl _) (by omega); cases hd:sQ 20 u with
 | nil=>exact absurd hd h1
 | cons c r=>
  rw [hd] at h2 h4; have hc:=qw (h2 c (by simp)); unfold CV; have e1:¬ (c.toNat=43∨c.toNat=45):=by omega
  have hm:=VA (c :: r) 0 h2 (by omega); rw [h4] at hm; have e45:¬ c.toNat=45:=by omega
  have e43:¬ c.toNat=43:=by omega
  simp only [e43,e45,or_self,if_false,hm,reduceCtorEq]; simp; omega
theorem WQ {s:Str} (hs:s.length≤16):∀ (t:Str) (i acc:Nat),t=s.drop i→acc < 10 ^ i→
  ∃ n ok,dR (fun (i:Nat) c (n1:Int) r=>ay (nk c) fun x3=>if !x3 then some ((0:Int),false) else ay (idx s (i:Int)) fun x4=>r (bL ((bL ((bL (10 * n1)) + (x4.toNat:Int))) - 48))) (fun n1=>some (n1,(decide (n1≤9007199254740992)))) i t (acc:Int)=some (n,ok)∧
   (ok=true↔(∀ c∈t,bY c=true)∧uj acc t≤9007199254740992)∧(ok=true→n=uj acc t):=by
 intro t
 induction t with
 | nil=>
  intro i acc ht ha; refine ⟨_,_,rfl,?_,fun _=>rfl⟩; simp [mo,xw]; omega
 | cons c t ih=>
  intro i acc ht ha; obtain ⟨hi,e1,e2⟩:=acr ht; rw [dR,abU,ak,m_ hi,←e1]; simp only [ak]; cases hd:bY c with
  | false=>
   refine ⟨0,false,rfl,?_,fun h=>by cases h⟩; simp [hd]
  | true=>
   have hc:=qw hd; have h16:(10:Nat) ^ i≤10 ^ 15:=Nat.pow_le_pow_right (by omega) (by omega); have e15:(10:Nat) ^ 15=1000000000000000:=by decide
   simp only [Bool.not_true,Bool.false_eq_true,if_false]
   have ew:bL ((bL ((bL (10 * (acc:Int))) + (c.toNat:Int))) - 48)=((acc * 10 + (c.toNat - 48):Nat):Int):=by
    rw [TK (n:=10 * (acc:Int)) (by omega),TK (n:=10 * (acc:Int) + (c.toNat:Int)) (by omega),TK (by omega)]; omega
   rw [ew]; obtain ⟨n,ok,q1,q2,q3⟩:=ih (i + 1) (acc * 10 + (c.toNat - 48)) e2 (by rw [Nat.pow_succ]; omega); refine ⟨n,ok,q1,?_,q3⟩; rw [q2,mo]; simp [hd]
theorem abW (s:Str):∃ n ok,wY s=some (n,ok)∧(ok=true→∃ u:Nat,n=u∧s=sQ 20 u∧u≤9007199254740992)∧∀ u:Nat,s=sQ 20 u→u≤9007199254740992→ok=true∧n=u:=by
 unfold wY; by_cases h0:s=[]∨16 < s.length
 ·
  have e:((s == ([]:Str)) || (decide (16 < (s.length:Int))))=true:=by
   rcases h0 with h | h
   · simp [h]
   · simp; right; omega
  rw [if_pos e]; simp only [ak,if_true]; refine ⟨0,false,rfl,(fun h=>by cases h),fun u h1 h2=>?_⟩; obtain ⟨⟨q1,_,_⟩,_,_⟩:=xV u u (Nat.le_refl _) (by omega); have hl:=SL 16 u (by have:(10:Nat) ^ 16=10000000000000000:=(by decide); omega) (by omega); rw [JH 16 20 u (by have:(10:Nat) ^ 16=10000000000000000:=(by decide); omega) (by have:(10:Nat) ^ 20=100000000000000000000:=(by decide); omega) (by omega) (by omega),←h1] at hl; rcases h0 with h | h
  · rw [h1] at h; exact absurd h q1
  · omega
 ·
  have hne:s≠[]:=fun h=>h0 (.inl h); have hlen:s.length≤16:=by omega
  have hpos:=List.length_pos_iff.2 hne; have e:((s == ([]:Str)) || (decide (16 < (s.length:Int))))=false:=by simp [hne]; omega
  rw [if_neg (by rw [e]; simp)]; obtain ⟨n,ok,q1,q2,q3⟩:=WQ hlen s 0 0 rfl (by simp)
  have hF:qY s BIG 0 0=some (n,ok):=by
   rw [dU (F:=fun k n1 i=>qY s k n1 i) (l:=s) (body:=fun (i:Nat) c (n1:Int) r=>ay (nk c) fun x3=>if !x3 then some ((0:Int),false) else ay (idx s (i:Int)) fun x4=>r (bL ((bL ((bL (10 * n1)) + (x4.toNat:Int))) - 48))) (fin:=fun n1=>some (n1,(decide (n1≤9007199254740992)))) (by omega) (fun k s i=>rfl) 0]; exact q1
  have zero:∀ (c:UInt8) (r:Str),s=c :: r→idx s 0=some c:=fun c r h=>by rw [h]; rfl
  obtain ⟨c,r,hcr⟩:∃ c r,s=c :: r:=by
   cases s with
   | nil=>exact absurd rfl hne
   | cons c r=>exact ⟨c,r,rfl⟩
  have hb1:(if decide (1 < (s.length:Int))=true then ay (idx s 0) fun x1=>some ((x1.toNat:Int) == 48) else some false)=some ((decide (1 < s.length)) && ((c.toNat:Int) == 48)):=by
   rw [zero c r hcr]; by_cases h1:1 < s.length
   · rw [if_pos (by simp; omega),ak]; simp [h1]
   · rw [if_neg (by simp; omega)]; simp [h1]
  rw [hb1,ak]; by_cases hz:1 < s.length∧c.toNat=48
  ·
   rw [if_pos (by simp [hz.1]; omega)]; refine ⟨0,false,rfl,(fun h=>by cases h),fun u h1 h2=>?_⟩; obtain ⟨⟨_,_,q⟩,_,_⟩:=xV u u (Nat.le_refl _) (by omega); rw [←h1] at q; have:=q hz.1; rw [hcr] at this; simp [hz.2] at this
  ·
   rw [if_neg (by simp; intro h; omega),hF]; refine ⟨n,ok,rfl,fun h=>?_,fun u h1 h2=>?_⟩
   ·
    obtain ⟨d1,d2⟩:=q2.1 h; have hcan:XL s:=⟨hne,d1,fun h1=>by rw [hcr]; simp; omega⟩; exact ⟨uj 0 s,q3 h,(Ng _ s (Nat.le_refl _) hcan (by omega)).1.symm,d2⟩
   ·
    obtain ⟨⟨_,q5,_⟩,q4,_⟩:=xV u u (Nat.le_refl _) (by omega); rw [←h1] at q5 q4; have hok:ok=true:=q2.2 ⟨q5,by omega⟩; exact ⟨hok,by rw [q3 hok,q4]⟩
end Go.Ft
namespace Go.Ft
open Go
attribute [local congr] gK
def toX {α:Type} (p:α × Int):gT bq α:=if p.2=0 then .ok p.1 else .bad ⟨p.2⟩
def okV (v:av):av × Int:=(v,0)
def erV (c:Int):av × Int:=(ZV,c)
@[simp] theorem aio (v:av):toX (okV v)=.ok v:=rfl
def GV (p:av × Int) (N:Nat):Prop:=(p.2=0→VV p.1∧p.1.bulk≤N)∧(p.2≠0→p.1=ZV)
theorem GV.ok {v:av} {N:Nat} (h:VV v) (hb:v.bulk≤N):GV (okV v) N:=⟨fun _=>⟨h,hb⟩,fun h=>absurd rfl h⟩
end Go.Ft
namespace Go.Ft
open Go
attribute [local congr] gK
def ahK (b:av × Int):av × Int:=if b.2≠0 then erV b.2 else if b.1.kind≠1 then erV 9 else b
def uo (n:Str) (a b:av × Int):av × Int:=if a.2≠0 then erV a.2 else if a.1.kind≠1 then erV 9 else if a.1.lJ=decide (n=[124,124]) then a else ahK b
end Go.Ft
namespace Go.Ft
open Go
attribute [local congr] gK
theorem ahc {α:Type} (a:α) (l:List α):idx (a :: l) 0=some a:=rfl
end Go.Ft
namespace Go.Ft
open Go
theorem V_ :Cz=some true:=by decide +kernel
end Go.Ft
namespace Go.Ft
open Go
attribute [local congr] gK
theorem SQ :∀ (t:Str) (i:Nat) (s:Str),dR (fun (i:Nat) c (_:Unit) r=>ay (lS c) fun x3=>if !x3 then some false else r ()) (fun _=>dX (strconv_Atoi s) fun n1 SF=>some ((SF.isNone) && (decide (n1≤9007199254740992)))) i t ()=
  if t.all bY then dX (strconv_Atoi s) fun n1 SF=>some ((SF.isNone) && (decide (n1≤9007199254740992))) else some false
 | [],i,s=>by simp [dR]
 | c :: t,i,s=>by
  have ih:=SQ t (i + 1) s; rw [dR]; by_cases hd:bY c=true
  ·
   have e:lS c=some true:=by rw [Vs,hd]
   rw [e,ak,if_neg (by simp)]; refine ih.trans ?_; simp [hd]
  ·
   have hd':bY c=false:=by simpa using hd
   have e:lS c=some false:=by rw [Vs,hd']
   rw [e,ak,if_pos (by simp)]; simp [hd']
theorem Rq :∀ (s:Str) (acc:Nat),acc * 10 ^ s.length≤uj acc s
 | [],acc=>by simp [xw]
 | c :: s,acc=>by
  have ih:=Rq s (acc * 10 + (c.toNat - 48)); rw [mo,List.length_cons,Nat.pow_succ]; have:acc * (10 ^ s.length * 10)=acc * 10 * 10 ^ s.length:=by rw [Nat.mul_comm (10 ^ s.length) 10,←Nat.mul_assoc]
  rw [this]; exact Nat.le_trans (Nat.mul_le_mul_right _ (Nat.le_add_right _ _)) ih
theorem Sc :∀ (s:Str) (acc v:Nat),GH acc s=(0,v)→v=uj acc s
 | [],acc,v,h=>by simp [GH] at h; rw [xw,h]
 | c :: s,acc,v,h=>by
  rw [GH] at h; rw [mo]; split at h
  ·
   split at h
   · cases h
   ·
    split at h
    · cases h
    · exact Sc s _ v h
  · cases h
theorem aaq {s:Str} (h:XL s) (h0:(CV s).1=0):(CV s).2=(uj 0 s:Int)∧uj 0 s < 9223372036854775808:=by
 obtain ⟨h1,h2,_⟩:=h; obtain ⟨c,r,rfl⟩:∃ c r,s=c :: r:=by cases s with | nil=>exact absurd rfl h1 | cons c r=>exact ⟨c,r,rfl⟩
 have hc:=qw (h2 c (by simp)); have e1:¬ c.toNat=43:=by omega
 have e2:¬ c.toNat=45:=by omega
 unfold CV at h0 ⊢; simp only [e1,e2,or_self,if_false,ne_eq,not_false_eq_true,true_and,false_and,reduceCtorEq] at h0 ⊢; cases hm:GH 0 (c :: r) with
 | mk a v=>
  rw [hm] at h0; simp only at h0 ⊢; by_cases a1:a=1
  · simp [a1] at h0
  ·
   by_cases a2:a=2
   · simp [a2] at h0
   ·
    rw [if_neg a1,if_neg a2] at h0 ⊢; by_cases hv:9223372036854775808≤v
    · rw [if_pos hv] at h0; cases h0
    ·
     rw [if_neg hv]
     have ha:a=0:=by
      have:∀ (s:Str) (acc:Nat),(GH acc s).1=0∨(GH acc s).1=1∨(GH acc s).1=2:=by
       intro s
       induction s with
       | nil=>intro acc; simp [GH]
       | cons c s ih=>
        intro acc; rw [GH]; split
        ·
         split
         · simp
         ·
          split
          · simp
          · exact ih _
        · simp
      have:=this (c :: r) 0; rw [hm] at this; simp only at this; omega
     subst ha; have:=Sc _ _ _ hm; exact ⟨by rw [this],by omega⟩
theorem Z6 {s:Str} (hs:s.length≤281474976710656):∃ b,rz s=some b∧(b=true→∃ u:Nat,s=sQ 20 u∧u≤9007199254740992)∧∀ u:Nat,s=sQ 20 u→u≤9007199254740992→b=true:=by
 unfold rz; by_cases h0:s=[]
 ·
  subst h0; refine ⟨false,rfl,(fun h=>by cases h),fun u h1 h2=>?_⟩; have:=(xV u u (Nat.le_refl _) (by omega)).1.1; exact absurd h1.symm this
 obtain ⟨c,r,rfl⟩:∃ c r,s=c :: r:=by cases s with | nil=>exact absurd rfl h0 | cons c r=>exact ⟨c,r,rfl⟩
 have e0:((c :: r) == ([]:Str))=false:=rfl; simp only [e0,Bool.false_eq_true,if_false]; by_cases h1:1 < (c :: r).length∧c.toNat=48
 ·
  have e1:decide ((1:Int) < ((c :: r).length:Int))=true:=decide_eq_true (by omega); refine ⟨false,?_,(fun h=>by cases h),fun u h2 h3=>?_⟩
  ·
   rw [if_pos e1]; simp [ahc,h1.2]
  ·
   have:=(xV u u (Nat.le_refl _) (by omega)).1.2.2; rw [←h2] at this; exact absurd (by simp [h1.2]) (this h1.1)
 ·
  have e1:(ay (if decide ((1:Int) < ((c :: r).length:Int)) then ay (idx (c :: r) 0) fun x1=>some ((x1.toNat:Int) == 48) else some false) fun b1=>if b1 then some false else jV (c :: r) BIG 0)=jV (c :: r) BIG 0:=by
   by_cases h2:1 < (c :: r).length
   ·
    rw [if_pos (decide_eq_true (by omega))]; have:((c.toNat:Int) == 48)=false:=by rw [beq_eq_false_iff_ne]; intro h; exact h1 ⟨h2,by omega⟩
    simp [ahc,this]
   ·
    rw [if_neg (by simp only [decide_eq_true_eq]; omega)]; rfl
  rw [e1]; have sc:=dU (F:=fun k (_:Unit) i=>jV (c :: r) k i) (l:=c :: r) (body:=fun (i:Nat) c (_:Unit) r=>ay (lS c) fun x3=>if !x3 then some false else r ()) (fin:=fun _=>dX (strconv_Atoi (c :: r)) fun n1 SF=>some ((SF.isNone) && (decide (n1≤9007199254740992)))) (by omega) (fun k s i=>rfl) (); rw [sc,SQ]; by_cases hd:∀ x∈c :: r,bY x=true
  ·
   have hcan:XL (c :: r):=⟨by simp,hd,fun h2=>by simp; intro h; exact h1 ⟨h2,h⟩⟩; rw [if_pos (by rw [List.all_eq_true]; exact hd),strconv_Atoi,if_pos hs,aC]; refine ⟨_,rfl,fun hb=>?_,fun u h2 h3=>?_⟩
   ·
    simp only [Bool.and_eq_true,decide_eq_true_eq] at hb
    have h0:(CV (c :: r)).1=0:=by
     by_cases hz:(CV (c :: r)).1=0
     · exact hz
     · rw [if_neg hz] at hb; simp at hb
    obtain ⟨a1,a2⟩:=aaq hcan h0
    have hlen:(c :: r).length≤19:=by
     rcases Nat.lt_or_ge 19 (c :: r).length with h | h
     ·
      exfalso; have hc:=qw (hd c (by simp)); have hlow:=Rq r (0 * 10 + (c.toNat - 48)); have hne:c.toNat≠48:=fun h2=>h1 ⟨by omega,h2⟩; rw [mo] at a2; simp only [List.length_cons] at h; have hp:10 ^ 19≤10 ^ r.length:=Nat.pow_le_pow_right (by omega) (by omega); have h19:(10:Nat) ^ 19=10000000000000000000:=by decide
      have:1 * 10 ^ r.length≤(0 * 10 + (c.toNat - 48)) * 10 ^ r.length:=Nat.mul_le_mul_right _ (by omega); omega
     · exact h
    refine ⟨uj 0 (c :: r),(Ng _ _ (Nat.le_refl _) hcan hlen).1.symm,?_⟩; rw [a1] at hb; omega
   ·
    rw [h2,Ti (by omega)]; simp; omega
  ·
   rw [if_neg (by rw [List.all_eq_true]; exact hd)]; refine ⟨false,rfl,(fun h=>by cases h),fun u h2 h3=>?_⟩; have:=(xV u u (Nat.le_refl _) (by omega)).1.2.1; rw [←h2] at this; exact absurd this hd
end Go.Ft
namespace Go.Ft
open Go
attribute [local congr] gK
def Ed (t:aA):Bool:=(iL t).getD false
theorem abS {t:aA} (h:t.text.length≤281474976710656):iL t=some (Ed t):=by
 have:(iL t).isSome=true:=by
  unfold iL; rw [L9 _ (by omega)]; obtain ⟨b,hb,_⟩:=Z6 h; rw [hb]
  repeat' split
  all_goals rfl
 unfold Ed; cases hp:iL t with
 | none=>rw [hp] at this; cases this
 | some b=>rfl
theorem Ub {t:aA} (h:t.kind=4):Ed t=true:=by simp [Ed,iL,h]
theorem Zj {t:aA} (h:Ed t=true):t.kind=1∨t.kind=2∨t.kind=3∨t.kind=4:=by
 unfold Ed iL at h; by_cases h1:t.kind=1
 · exact .inl h1
 by_cases h2:t.kind=2
 · exact .inr (.inl h2)
 by_cases h3:t.kind=3
 · exact .inr (.inr (.inl h3))
 by_cases h4:t.kind=4
 · exact .inr (.inr (.inr h4))
 simp [h1,h2,h3,h4] at h
def zu (ts:List aA):Prop:=ts.length≤65536∧∀ t∈ts,t.text.length≤1048576
def xB (ts:List aA) (i:Nat):aA:=match ts[i]? with
 | some t=>if Ed t then t else aA.mk 0 [] 0
 | none=>aA.mk 0 [] 0
def qJ (ts:List aA) (i:Nat) (op:Str):Bool:=((xB ts i).kind == 4) && ((xB ts i).text == op)
def miss (ts:List aA) (i:Nat):Int:=if ts.length≤i then 4 else 5
theorem Qm {ts:List aA} (h:zu ts) (i:Nat):iM (aj.mk ts (i:Int))=some (xB ts i,aj.mk ts (i:Int)):=by
 unfold iM xB; by_cases hi:i < ts.length
 ·
  have ht:=h.2 ts[i] (List.getElem_mem hi); have e:decide (((i:Nat):Int) < (ts.length:Int))=true:=decide_eq_true (by omega); simp only [e,if_true,m_ hi,ak,abS (t:=ts[i]) (by omega),List.getElem?_eq_getElem hi]; cases Ed ts[i] <;> simp
 ·
  have e:decide (((i:Nat):Int) < (ts.length:Int))=false:=decide_eq_false (by omega); simp only [e,Bool.false_eq_true,if_false,ak,List.getElem?_eq_none (Nat.le_of_not_lt hi)]
theorem lH {ts:List aA} (h:zu ts) {i:Nat} (hi:i≤ts.length) (op:Str):bU (aj.mk ts (i:Int)) op=some (qJ ts i op,aj.mk ts ((if qJ ts i op then i + 1 else i:Nat):Int)):=by
 have:=h.1; unfold bU r9; rw [Qm h,aC,aC]; show (if (!(qJ ts i op))=true then _ else _)=_; cases qJ ts i op with
 | true=>rw [if_neg (by simp),mh (by omega)]; rfl
 | false=>rw [if_pos (by simp)]; rfl
theorem mW {ts:List aA} {i:Nat} {op:Str} (h:qJ ts i op=true):∃ hi:i < ts.length,ts[i].kind=4∧ts[i].text=op∧Ed ts[i]=true:=by
 unfold qJ xB at h; cases hx:ts[i]? with
 | none=>rw [hx] at h; simp at h
 | some t=>
  rw [hx] at h; obtain ⟨hi,ht⟩:=List.getElem?_eq_some_iff.1 hx; cases ho:Ed t with
  | false=>simp [ho] at h
  | true=>
   simp [ho] at h; exact ⟨hi,by rw [ht]; exact h.1,by rw [ht]; exact h.2,by rw [ht]; exact ho⟩
theorem yD {ts:List aA} (h:zu ts) (i:Nat) (op:Str):oL ts (i:Int) op=some (qJ ts i op):=by
 unfold oL; by_cases hi:i < ts.length
 ·
  have e:decide (((i:Nat):Int) < (ts.length:Int))=true:=decide_eq_true (by omega); simp only [e,if_true,m_ hi,ak]; unfold qJ xB; rw [List.getElem?_eq_getElem hi]; simp only; by_cases h4:ts[i].kind=4
  · rw [if_pos (by simpa using h4),Ub h4,if_pos rfl]; simp [h4]
  ·
   rw [if_neg (by simpa using h4)]; cases Ed ts[i] <;> simp [h4]
 ·
  have e:decide (((i:Nat):Int) < (ts.length:Int))=false:=decide_eq_false (by omega); simp only [e,Bool.false_eq_true,if_false,ak]; cases hc:qJ ts i op with
  | false=>rfl
  | true=>obtain ⟨h1,_⟩:=mW hc; omega
theorem xD (ts:List aA) (i:Nat):kD ts (i:Int)=some (miss ts i):=by
 unfold kD miss; by_cases hi:ts.length≤i
 · rw [if_pos (decide_eq_true (by omega)),if_pos hi]
 · rw [if_neg (by simp; omega),if_neg hi]
theorem Il {ts:List aA} (h:zu ts) (i:Nat):iN (aj.mk ts (i:Int))=some (if (xB ts i).kind=0 then (.bad (aB.mk (i:Int) (miss ts i)),aj.mk ts (i:Int)) else (.ok (xB ts i),aj.mk ts (i:Int))):=by
 unfold iN fB; by_cases hi:ts.length≤i
 ·
  have ht:(xB ts i).kind=0:=by unfold xB; rw [List.getElem?_eq_none hi]
  rw [if_pos (decide_eq_true (show (ts.length:Int)≤(i:Int) by omega)),if_pos ht]; simp [dZ,miss,hi]
 ·
  rw [if_neg (by simp; omega),Qm h,aC]; by_cases hk:(xB ts i).kind=0
  ·
   rw [if_pos (by simpa using hk),if_pos hk]; simp [dZ,miss,hi]
  · rw [if_neg (by simpa using hk),if_neg hk]
theorem zK {ts:List aA} (h:zu ts) {i:Nat} (hi:i≤ts.length) (op:Str):dO (aj.mk ts (i:Int)) op=some (if qJ ts i op then (.ok (),aj.mk ts ((i + 1:Nat):Int)) else (.bad (aB.mk (i:Int) (miss ts i)),aj.mk ts (i:Int))):=by
 unfold dO; rw [Il h]; by_cases hk:(xB ts i).kind=0
 ·
  have ho:qJ ts i op=false:=by unfold qJ; rw [hk]; rfl
  rw [if_pos hk,ho,if_neg (by simp)]; rfl
 ·
  rw [if_neg hk]; show dX _ _=_; rw [lH h hi,aC]; cases ho:qJ ts i op with
  | true=>rfl
  | false=>
   have hlt:¬ ts.length≤i:=fun hl=>hk (by unfold xB; rw [List.getElem?_eq_none hl]); simp [dZ,fB,miss,hlt]
end Go.Ft
namespace Go.Ft
open Go
attribute [local congr] gK
def RE (ts:List aA) (i0:Nat) (P:Option (gT aB ah × aj)) (R:Option (ah × Int × Int)):Prop:=
 (∃ (e:ah) (j:Nat),i0 < j∧j≤ts.length∧e.bulk≤2097152 * (j - i0)∧P=some (.ok e,aj.mk ts (j:Int))∧R=some (e,(j:Int),0))∨
 (∃ (j:Nat) (c:Int) (x:ah),i0≤j∧j≤ts.length∧c≠0∧P=some (.bad (aB.mk (j:Int) c),aj.mk ts (j:Int))∧R=some (x,(j:Int),c))
theorem FV :((0:Int) != 0)=false:=rfl
theorem za (ts:List aA) (i:Nat):miss ts i≠0:=by unfold miss; split <;> decide
theorem Mg {c:Int} (h:c≠0):(c != 0)=true:=by simpa using h
theorem ahI (k:Int) (n:Str) (a b c:ah):(ah.mk k n (av.mk 0 false 0 ([]:Str) [] []) [a,b,c] []).bulk=12 + n.length + a.bulk + b.bulk + c.bulk:=by
 simp [ah.bulk,ah.kT,av.bulk,av.kT]; omega
theorem adG (k:Int) (n:Str) (a b:ah):(ah.mk k n (av.mk 0 false 0 ([]:Str) [] []) [a,b] []).bulk=12 + n.length + a.bulk + b.bulk:=by
 simp [ah.bulk,ah.kT,av.bulk,av.kT]; omega
theorem adH (k:Int) (n:Str) (a:ah):(ah.mk k n (av.mk 0 false 0 ([]:Str) [] []) [a] []).bulk=12 + n.length + a.bulk:=by
 simp [ah.bulk,ah.kT,av.bulk,av.kT]; omega
theorem XD {ts:List aA} (h:zu ts) {k k' i:Nat} (ho:RE ts i (bf k (aj.mk ts (i:Int)) 2) (dn k' ts (i:Int) 2))
  (hc:∀ j,i < j→j≤ts.length→RE ts j (aV k (aj.mk ts (j:Int))) (bX k' ts (j:Int))):
  RE ts i (aV (k + 1) (aj.mk ts (i:Int))) (bX (k' + 1) ts (i:Int)):=by
 have hN:=h.1; rw [aV,kI,bX,tY]; rcases ho with ⟨e,j,h1,h2,hb,hP,hR⟩ | ⟨j,c,x,h1,h2,hc0,hP,hR⟩
 ·
  rw [hP,hR,fH,aD,lH h h2,aC]; simp only [FV,Bool.false_eq_true,if_false,yD h,ak]; cases hq:qJ ts j [63] with
  | false=>
   simp only [Bool.not_false,if_true,Bool.false_eq_true,if_false]; exact .inl ⟨e,j,h1,h2,hb,rfl,rfl⟩
  | true=>
   obtain ⟨hj,_⟩:=mW hq; simp only [Bool.not_true,if_true,Bool.false_eq_true,if_false]; rw [mh (by omega)]; rcases hc (j + 1) (by omega) (by omega) with ⟨e2,j2,g1,g2,gb,gP,gR⟩ | ⟨j2,c2,x2,g1,g2,gc,gP,gR⟩
   ·
    rw [gP,gR,fH,aD,zK h g2]; simp only [FV,Bool.false_eq_true,if_false,yD h,ak]; cases hq2:qJ ts j2 [58] with
    | false=>
     simp only [Bool.not_false,if_true,Bool.false_eq_true,if_false,dV,xD,ak]; exact .inr ⟨j2,_,_,by omega,g2,za ts j2,rfl,rfl⟩
    | true=>
     obtain ⟨hj2,_⟩:=mW hq2; simp only [Bool.not_true,if_true,Bool.false_eq_true,if_false,fH]; rw [mh (by omega)]; rcases hc (j2 + 1) (by omega) (by omega) with ⟨e3,j3,f1,f2,fb,fP,fR⟩ | ⟨j3,c3,x3,f1,f2,fc,fP,fR⟩
     ·
      rw [fP,fR,fH,aD]; exact .inl ⟨_,j3,by omega,f2,by rw [ahI]; simp only [List.length_nil]; omega,rfl,rfl⟩
     ·
      rw [fP,fR,dV,aD]; exact .inr ⟨j3,c3,_,by omega,f2,fc,rfl,rfl⟩
   ·
    rw [gP,gR,dV,aD,if_pos (Mg gc)]; exact .inr ⟨j2,c2,_,by omega,g2,gc,rfl,rfl⟩
 ·
  rw [hP,hR,dV,aD]; simp only [Mg hc0,if_true,ak]; exact .inr ⟨j,c,x,h1,h2,hc0,rfl,rfl⟩
def opAt (ts:List aA) (i:Nat) (n:Int):Bool:=((xB ts i).kind == 4) && (Df (xB ts i).text == n)
theorem Vu {ts:List aA} {i:Nat} {n:Int} (h:opAt ts i n=true):∃ hi:i < ts.length,xB ts i=ts[i]∧ts[i].kind=4∧Df ts[i].text=n:=by
 unfold opAt xB at h; unfold xB; cases hx:ts[i]? with
 | none=>rw [hx] at h; simp at h
 | some t=>
  rw [hx] at h; obtain ⟨hi,ht⟩:=List.getElem?_eq_some_iff.1 hx; cases ho:Ed t with
  | false=>simp [ho] at h
  | true=>
   simp [ho] at h; exact ⟨hi,by simp [ho,ht],by rw [ht]; exact h.1,by rw [ht]; exact h.2⟩
theorem RY {ts:List aA} (i:Nat) (n:Int):(ay (if decide ((i:Int) < (ts.length:Int)) then ay (idx ts (i:Int)) fun e3=>some (e3.kind == 4) else some false) fun b1=>
  if b1 then ay (idx ts (i:Int)) fun e4=>ay (rV e4.text) fun x5=>some (x5 == n) else some false)=some (opAt ts i n):=by
 by_cases hi:i < ts.length
 ·
  rw [if_pos (decide_eq_true (by omega))]; simp only [m_ hi,ak,J9,Jb]; unfold opAt xB; rw [List.getElem?_eq_getElem hi]; simp only; by_cases h4:ts[i].kind=4
  · rw [if_pos (by simpa using h4),Ub h4,if_pos rfl]; simp [h4]
  ·
   rw [if_neg (by simpa using h4)]; cases Ed ts[i] <;> simp [h4]
 ·
  rw [if_neg (by simp; omega)]; cases hc:opAt ts i n with
  | false=>rfl
  | true=>obtain ⟨h1,_⟩:=Vu hc; omega
theorem WU {ts:List aA} (i:Nat) (n:Int):(if (xB ts i).kind != 4 then some true else ay (gF (xB ts i).text) fun x4=>some (x4 != n))=some (!opAt ts i n):=by
 unfold opAt; rw [Jb]; by_cases h4:(xB ts i).kind=4
 · rw [if_neg (by simp [h4])]; simp [h4,bne]
 · rw [if_pos (by simpa using h4)]; simp [h4]
theorem JO {α β γ:Type} (x:Option α) (f:α→Option β) (g:β→Option γ):ay x (fun a=>ay (f a) g)=ay (ay x f) g:=by cases x <;> rfl
theorem H6 {ts:List aA} {go:List aA→Int→Int→Option (ah × Int × Int)} {n:Int} {m j:Nat} {c c1:Int} {e:ah} (hs:c1≠0∨opAt ts j n=false∨(n=4∧c≠0)):iU go ts n (m + 1) (j:Int) c1 c e=some (e,(j:Int),c1):=by
 rw [iU]; by_cases h0:c1=0
 ·
  subst h0; have e0:((0:Int) == 0)=true:=rfl; simp only [e0,Bool.true_and]; rw [JO,RY,ak]; rcases hs with hs | hs | ⟨hs,hc⟩
  · exact absurd rfl hs
  · rw [hs]; rfl
  ·
   subst hs; have:(c == 0)=false:=by simpa using hc
   rw [if_neg (by rw [this]; simp)]
 ·
  have e0:(c1 == 0)=false:=by simpa using h0
  simp only [e0,Bool.false_and,Bool.false_eq_true,if_false,ak]
theorem Vt {ts:List aA} (h:zu ts) {k k' i0:Nat} {n:Int} (hn:2≤n∧n≤6) (hop:∀ j,i0 < j→j≤ts.length→RE ts j (bf k (aj.mk ts (j:Int)) (bL (n + 1))) (dn k' ts (j:Int) (bL (n + 1)))):
  ∀ (m m' i:Nat) (c:Int) (e:ah),ts.length < m + i→ts.length < m' + i→i0 < i→i≤ts.length→e.bulk≤2097152 * (i - i0)→(n=4→c=0)→
  RE ts i0 (gJ (bf k) n m e (aj.mk ts (i:Int))) (iU (dn k') ts n m' (i:Int) 0 c e)
 | 0,m',i,c,e,h1,_,_,h2,_,_=>by omega
 | m + 1,0,i,c,e,_,h1,_,h2,_,_=>by omega
 | m + 1,m' + 1,i,c,e,hm,hm',h1,h2,hb,hc4=>by
  have hN:=h.1; rw [gJ,iU,Qm h,aC,WU,ak]; cases hq:opAt ts i n with
  | false=>
   simp only [Bool.not_false,if_true]; have:=H6 (go:=dn k') (m:=m') (c:=c) (c1:=0) (e:=e) (.inr (.inl hq)); rw [iU] at this; rw [this]; exact .inl ⟨e,i,h1,h2,hb,rfl,rfl⟩
  | true=>
   obtain ⟨hi,htk,hk4,hs⟩:=Vu hq; have htx:=h.2 ts[i] (List.getElem_mem hi); have e0:((0:Int) == 0)=true:=rfl; simp only [e0,Bool.true_and]; rw [JO,RY,ak,hq]
   have hcond:(true && ((c == 0) || (n != 4)))=true:=by
    by_cases h4:n=4
    · simp [hc4 h4]
    · simp [h4]
   rw [if_neg (by simp),if_pos hcond,htk]; show RE ts i0 (dZ (bf k (aj.mk ts (bL ((i:Int) + 1))) (bL (n + 1))) _ _) _; rw [mh (by omega)]; rcases hop (i + 1) (by omega) (by omega) with ⟨e2,j,g1,g2,gb,gP,gR⟩ | ⟨j,c2,x2,g1,g2,gc,gP,gR⟩
   ·
    rw [gP,gR,fH,aD,m_ hi,ak]; have hb2:(ah.mk 7 ts[i].text (av.mk 0 false 0 ([]:Str) [] []) [e,e2] []).bulk≤2097152 * (j - i0):=by rw [adG]; omega
    by_cases h4:n=4
    ·
     subst h4; rw [if_pos (by rfl),hc4 rfl]; obtain ⟨m2,rfl⟩:∃ m2,m'=m2 + 1:=⟨m' - 1,by omega⟩; rw [H6 (.inr (.inr ⟨rfl,by decide⟩))]; exact .inl ⟨_,j,by omega,g2,hb2,rfl,rfl⟩
    ·
     rw [if_neg (by simpa using h4)]; exact Vt h hn hop m m' j _ _ (by omega) (by omega) (by omega) g2 hb2 (fun h=>absurd h h4)
   ·
    rw [gP,gR,dV,aD,m_ hi,ak]; obtain ⟨m2,rfl⟩:∃ m2,m'=m2 + 1:=⟨m' - 1,by omega⟩; rw [H6 (.inl gc)]; exact .inr ⟨j,c2,_,by omega,g2,gc,rfl,rfl⟩
theorem ab1 {ts:List aA} (h:zu ts) {k k' i:Nat} {n:Int} (hn:2≤n∧n≤6) (h1:RE ts i (bf k (aj.mk ts (i:Int)) (bL (n + 1))) (dn k' ts (i:Int) (bL (n + 1))))
  (hop:∀ j,i < j→j≤ts.length→RE ts j (bf k (aj.mk ts (j:Int)) (bL (n + 1))) (dn k' ts (j:Int) (bL (n + 1)))):
  RE ts i (bf (k + 1) (aj.mk ts (i:Int)) n) (dn (k' + 1) ts (i:Int) n):=by
 have hN:=h.1; have h7:(n == 7)=false:=by rw [beq_eq_false_iff_ne]; omega
 have hB:=jL; rw [bf,iZ,dn,p9,if_neg (by rw [h7]; simp),if_neg (by rw [h7]; simp)]; rcases h1 with ⟨e,j,g1,g2,gb,gP,gR⟩ | ⟨j,c,x,g1,g2,gc,gP,gR⟩
 ·
  rw [gP,gR,fH,aD]; exact Vt h hn hop BIG BIG j 0 e (by omega) (by omega) g1 g2 gb (fun _=>rfl)
 ·
  rw [gP,gR,dV,aD]; obtain ⟨b,hb,_⟩:=tV; rw [hb,H6 (.inl gc)]; exact .inr ⟨j,c,x,g1,g2,gc,rfl,rfl⟩
theorem Zi {ts:List aA} {k k' i:Nat} (h1:RE ts i (bZ k (aj.mk ts (i:Int))) (iw k' ts (i:Int))):
  RE ts i (bf (k + 1) (aj.mk ts (i:Int)) 7) (dn (k' + 1) ts (i:Int) 7):=by
 rw [bf,iZ,dn,p9,if_pos (by decide),if_pos (by decide)]; rcases h1 with ⟨e,j,g1,g2,gb,gP,gR⟩ | ⟨j,c,x,g1,g2,gc,gP,gR⟩
 · rw [gP,gR]; exact .inl ⟨e,j,g1,g2,gb,rfl,rfl⟩
 · rw [gP,gR]; exact .inr ⟨j,c,x,g1,g2,gc,rfl,rfl⟩
theorem ajj :∃ b,BIG=b + 3:=⟨BIG - 3,by decide⟩
theorem TL {ts:List aA} (h:zu ts) {k k' i:Nat} (hi:i≤ts.length) (hch:RE ts i (dw k (aj.mk ts (i:Int))) (jg k' ts (i:Int)))
  (hu:∀ j,i < j→j≤ts.length→RE ts j (bZ k (aj.mk ts (j:Int))) (iw k' ts (j:Int))):
  RE ts i (bZ (k + 1) (aj.mk ts (i:Int))) (iw (k' + 1) ts (i:Int)):=by
 have hN:=h.1; obtain ⟨b,hb⟩:=ajj; have w01:bL (0 + 1)=1:=by decide
 have w11:bL (1 + 1)=2:=by decide
 have i0:idx ([([33]:Str),([45]:Str)]:List Str) 0=some [33]:=rfl; have i1:idx ([([33]:Str),([45]:Str)]:List Str) 1=some [45]:=rfl; rw [bZ,mU,iw,Bc,hb,gU]; rw [if_pos (by decide),i0,ak,lH h hi,aC]; simp only [yD h,ak]
 have un:∀ op:Str,qJ ts i op=true→RE ts i (dZ (bZ k (aj.mk ts ((i + 1:Nat):Int))) (fun e1 y4=>some (.bad e1,y4)) fun x3 y3=>some (.ok (ah.mk 6 op (av.mk 0 false 0 ([]:Str) [] []) [x3] []),y3))
   (j_ (iw k' ts (bL ((i:Int) + 1))) fun x6 iR e1=>ay (idx ts (i:Int)) fun e2=>some ((ah.mk 6 e2.text (av.mk 0 false 0 ([]:Str) [] []) [x6] []),iR,e1)):=fun op ho=>by
  obtain ⟨hlt,hk,ht,_⟩:=mW ho; have htx:=h.2 ts[i] (List.getElem_mem hlt); rw [ht] at htx; rw [mh (by omega)]; rcases hu (i + 1) (by omega) (by omega) with ⟨e,j,g1,g2,gb,gP,gR⟩ | ⟨j,c,x,g1,g2,gc,gP,gR⟩
  ·
   rw [gP,gR,fH,aD,m_ hlt,ak,ht]; exact .inl ⟨_,j,by omega,g2,by rw [adH]; omega,rfl,rfl⟩
  ·
   rw [gP,gR,dV,aD,m_ hlt,ak]; exact .inr ⟨j,c,_,by omega,g2,gc,rfl,rfl⟩
 cases h1:qJ ts i [33] with
 | true=>
  simp only [if_true,Bool.not_true,Bool.false_eq_true,if_false,ak]; exact un _ h1
 | false=>
  simp only [if_true,Bool.not_false,Bool.false_eq_true,if_false,ak]; rw [w01,gU,if_pos (by decide),i1,ak,lH h hi,aC]; cases h2:qJ ts i [45] with
  | true=>
   simp only [if_true,Bool.not_true,Bool.false_eq_true,if_false]; exact un _ h2
  | false=>
   simp only [if_true,Bool.not_false,Bool.false_eq_true,if_false]; rw [w11,gU,if_neg (by decide)]; rcases hch with ⟨e,j,g1,g2,gb,gP,gR⟩ | ⟨j,c,x,g1,g2,gc,gP,gR⟩
   · rw [gP,gR]; exact .inl ⟨e,j,g1,g2,gb,rfl,rfl⟩
   · rw [gP,gR]; exact .inr ⟨j,c,x,g1,g2,gc,rfl,rfl⟩
end Go.Ft
namespace Go.Ft
open Go
attribute [local congr] gK
def nameAt (ts:List aA) (i:Nat):Bool:=((xB ts i).kind == 1) && jR (xB ts i).text
theorem Xf {ts:List aA} {i:Nat} (h:nameAt ts i=true):∃ hi:i < ts.length,xB ts i=ts[i]:=by
 unfold nameAt xB at h; unfold xB; cases hx:ts[i]? with
 | none=>rw [hx] at h; simp at h
 | some t=>
  rw [hx] at h; obtain ⟨hi,ht⟩:=List.getElem?_eq_some_iff.1 hx; cases ho:Ed t with
  | false=>simp [ho] at h
  | true=>exact ⟨hi,by simp [ho,ht]⟩
theorem Gl {s:Str} (hs:s.length≤1048576) (hn:isName s=true):nL s=some (!jR s):=by
 obtain ⟨p1,_⟩:=Ai s (by omega); unfold lQ at p1; rw [L9 s (by omega),ak,if_pos hn] at p1; cases hw:nL s with
 | none=>rw [hw] at p1; cases p1
 | some b=>rw [hw] at p1; simp at p1; rw [←p1]
theorem ED {t:aA} (hk:t.kind=1) (hs:t.text.length≤1048576):Ed t=isName t.text:=by
 unfold Ed iL; rw [if_pos (by simpa using hk),L9 _ (by omega)]; rfl
theorem L6 {s:Str} (hs:s.length≤1048576) (h:jR s=true):isName s=true:=by
 obtain ⟨p1,_⟩:=Ai s (by omega); unfold lQ at p1; rw [L9 s (by omega),ak,h] at p1; cases hn:isName s with
 | true=>rfl
 | false=>rw [hn] at p1; simp at p1
theorem Y1 {ts:List aA} (h:zu ts) (i:Nat):(ay (if decide ((ts.length:Int)≤(i:Int)) then some true else ay (idx ts (i:Int)) fun e2=>some (e2.kind != 1)) fun b3=>
  if b3 then some true else ay (idx ts (i:Int)) fun e3=>ay (oM e3.text) fun x6=>some (!x6))=some (!nameAt ts i):=by
 unfold nameAt xB; by_cases hi:i < ts.length
 ·
  have ht:=h.2 ts[i] (List.getElem_mem hi); rw [if_neg (by simp; omega)]; simp only [m_ hi,ak,(Ai ts[i].text (by omega)).2,List.getElem?_eq_getElem hi]; by_cases h1:ts[i].kind=1
  ·
   rw [if_neg (by simp [h1]),ED h1 ht]; cases hn:isName ts[i].text with
   | true=>simp [h1]
   | false=>
    cases hp:jR ts[i].text with
    | true=>rw [L6 ht hp] at hn; cases hn
    | false=>simp
  ·
   rw [if_pos (by simpa using h1)]; cases Ed ts[i] <;> simp [h1]
 ·
  rw [if_pos (by simp; omega),List.getElem?_eq_none (Nat.le_of_not_lt hi)]; rfl
theorem GU {ts:List aA} (h:zu ts) {k k' i0:Nat} (hc:∀ j,i0 < j→j≤ts.length→RE ts j (aV k (aj.mk ts (j:Int))) (bX k' ts (j:Int))):
  ∀ (m m' i:Nat) (e:ah),ts.length < m + i→ts.length < m' + i→i0 < i→i≤ts.length→e.bulk≤2097152 * (i - i0)→
  RE ts i0 (eO (aV k) m e (aj.mk ts (i:Int))) (lN (bX k') ts 0 m' (i:Int) e)
 | 0,m',i,e,h1,_,_,h2,_=>by omega
 | m + 1,0,i,e,_,h1,_,h2,_=>by omega
 | m + 1,m' + 1,i,e,hm,hm',h1,h2,hb=>by
  have hN:=h.1; rw [eO,lN,lH h h2,aC]; have e0:((0:Int) == 0)=true:=rfl; simp only [e0,if_true,yD h,ak]; cases hd:qJ ts i [46] with
  | true=>
   obtain ⟨hi,_⟩:=mW hd; simp only [if_true,ak]; rw [mh (by omega),Il h]; have hr:=Y1 h (i + 1); rw [JO,hr,ak]; cases hn:nameAt ts (i + 1) with
   | true=>
    obtain ⟨hlt,htk⟩:=Xf hn; unfold nameAt at hn; simp only [Bool.and_eq_true,beq_iff_eq] at hn; have htx:=h.2 ts[i + 1] (List.getElem_mem hlt); rw [htk] at hn ⊢; rw [if_neg (by omega)]; simp only [Bool.not_true,Bool.false_eq_true,if_false,fH]; rw [if_neg (by simp [hn.1]),Gl htx (L6 htx hn.2),hn.2,ak,if_neg (by simp),m_ hlt,ak]; show RE ts i0 (eO (aV k) m _ (aj.mk ts (bL (((i + 1:Nat):Int) + 1)))) _; rw [mh (by omega)]; exact GU h hc m m' (i + 1 + 1) _ (by omega) (by omega) (by omega) (by omega) (by rw [adH]; omega)
   | false=>
    simp only [Bool.not_false,if_true,xD,ak]; by_cases hk0:(xB ts (i + 1)).kind=0
    ·
     rw [if_pos hk0,dV]; exact .inr ⟨i + 1,_,_,by omega,by omega,za ts (i + 1),rfl,rfl⟩
    ·
     rw [if_neg hk0,fH]
     have hlt:i + 1 < ts.length:=by
      rcases Nat.lt_or_ge (i + 1) ts.length with hh | hh
      · exact hh
      · exfalso; apply hk0; unfold xB; rw [List.getElem?_eq_none hh]
     have hms:miss ts (i + 1)=5:=by unfold miss; rw [if_neg (by omega)]
     have htk:xB ts (i + 1)=ts[i + 1]∧Ed ts[i + 1]=true:=by
      unfold xB at hk0 ⊢; rw [List.getElem?_eq_getElem hlt] at hk0 ⊢; simp only at hk0 ⊢; cases ho:Ed ts[i + 1] with
      | true=>exact ⟨rfl,rfl⟩
      | false=>rw [ho] at hk0; simp at hk0
     have htx:=h.2 ts[i + 1] (List.getElem_mem hlt)
     have hb1:(if ((xB ts (i + 1)).kind != 1)=true then some true else nL (xB ts (i + 1)).text)=some true:=by
      by_cases h1k:(xB ts (i + 1)).kind=1
      ·
       rw [if_neg (by simp [h1k])]; unfold nameAt at hn; rw [h1k] at hn; have hp:jR (xB ts (i + 1)).text=false:=by simpa using hn
       rw [htk.1] at h1k hp ⊢; have:=ED h1k htx; rw [htk.2] at this; rw [Gl htx this.symm,hp]; rfl
      · rw [if_pos (by simpa using h1k)]
     rw [hb1,ak,if_pos rfl]; show RE ts i0 (dZ (some (.bad (aB.mk ((i + 1:Nat):Int) 5),aj.mk ts ((i + 1:Nat):Int))) _ _) _; rw [dV,hms]; exact .inr ⟨i + 1,5,_,by omega,by omega,by decide,rfl,rfl⟩
  | false=>
   simp only [if_true,Bool.false_eq_true,if_false,ak]; rw [lH h h2,aC]; cases hbk:qJ ts i [91] with
   | true=>
    obtain ⟨hi,_⟩:=mW hbk; simp only [if_true,ak,Bool.false_eq_true,if_false]; rw [mh (by omega)]; rcases hc (i + 1) (by omega) (by omega) with ⟨e2,j,g1,g2,gb,gP,gR⟩ | ⟨j,c2,x2,g1,g2,gc,gP,gR⟩
    ·
     rw [gP,gR,fH,aD,zK h g2]; simp only [FV,Bool.false_eq_true,if_false,yD h,ak]; cases hq:qJ ts j [93] with
     | false=>
      simp only [Bool.not_false,if_true,Bool.false_eq_true,if_false,dV,xD,ak]; exact .inr ⟨j,_,_,by omega,g2,za ts j,rfl,rfl⟩
     | true=>
      obtain ⟨hj,_⟩:=mW hq; simp only [Bool.not_true,if_true,Bool.false_eq_true,if_false,fH]; rw [mh (by omega)]; exact GU h hc m m' (j + 1) _ (by omega) (by omega) (by omega) (by omega) (by rw [adG]; simp only [List.length_nil]; omega)
    ·
     rw [gP,gR,dV,aD,if_pos (Mg gc)]; exact .inr ⟨j,c2,_,by omega,g2,gc,rfl,rfl⟩
   | false=>
    simp only [Bool.false_eq_true,if_false,ak]; exact .inl ⟨e,i,h1,h2,hb,rfl,rfl⟩
end Go.Ft
namespace Go.Ft
open Go
attribute [local congr] gK
theorem UJ {ts:List aA} {go:List aA→Int→Option (ah × Int × Int)} {c:Int} (hc:c≠0) {m:Nat} {j:Int} {e:ah}:lN go ts c (m + 1) j e=some (e,j,c):=by
 rw [lN]; have e0:(c == 0)=false:=by simpa using hc
 simp only [e0,Bool.false_eq_true,if_false,ak]
theorem UK {ts:List aA} (h:zu ts) {k k' i:Nat} (ha:RE ts i (dA k (aj.mk ts (i:Int))) (jT k' ts (i:Int)))
  (hc:∀ j,i < j→j≤ts.length→RE ts j (aV k (aj.mk ts (j:Int))) (bX k' ts (j:Int))):
  RE ts i (dw (k + 1) (aj.mk ts (i:Int))) (jg (k' + 1) ts (i:Int)):=by
 have hN:=h.1; have hB:=jL; rw [dw,mV,jg,Bg]; rcases ha with ⟨e,j,g1,g2,gb,gP,gR⟩ | ⟨j,c,x,g1,g2,gc,gP,gR⟩
 ·
  rw [gP,gR,fH,aD]; exact GU h hc BIG BIG j e (by omega) (by omega) g1 g2 gb
 ·
  rw [gP,gR,dV,aD]; obtain ⟨b,hb,_⟩:=tV; rw [hb,UJ gc]; exact .inr ⟨j,c,x,g1,g2,gc,rfl,rfl⟩
theorem Sm {ts:List aA} {i:Nat} {a b:Str} (hab:a≠b) (ha:qJ ts i a=true):qJ ts i b=false:=by
 cases hb:qJ ts i b with
 | false=>rfl
 | true=>
  obtain ⟨_,_,h1,_⟩:=mW ha; obtain ⟨_,_,h2,_⟩:=mW hb; exact absurd (h1.symm.trans h2) hab
def RL (ts:List aA) (i0:Nat) (P:Option (gT aB (List ah) × aj)) (R:Option (List ah × List Str × Int × Int)):Prop:=
 (∃ (l:List ah) (j:Nat),i0 < j∧j≤ts.length∧(l.map ah.bulk).sum≤2097152 * (j - i0)∧P=some (.ok l,aj.mk ts (j:Int))∧R=some (l,[],(j:Int),0))∨
 (∃ (j:Nat) (c:Int) (x:List ah) (y:List Str),i0≤j∧j≤ts.length∧c≠0∧P=some (.bad (aB.mk (j:Int) c),aj.mk ts (j:Int))∧R=some (x,y,(j:Int),c))
theorem PE {ts:List aA} (h:zu ts) {k k' i0:Nat} {cl:Str} (hcl:cl≠[44]) (hc:∀ j,i0≤j→j≤ts.length→RE ts j (aV k (aj.mk ts (j:Int))) (bX k' ts (j:Int))):
  ∀ (m m' i:Nat) (out:List ah),ts.length < m + i→ts.length < m' + i→i0≤i→i≤ts.length→out.length + i0≤i→(out.map ah.bulk).sum≤2097152 * (i - i0)→
  RL ts i0 (jo (aV k) cl m out (aj.mk ts (i:Int))) (nI (bX k') ts cl false m' (i:Int) out [])
 | 0,m',i,out,h1,_,_,h2,_,_=>by omega
 | m + 1,0,i,out,_,h1,_,h2,_,_=>by omega
 | m + 1,m' + 1,i,out,hm,hm',h1,h2,hl,hb=>by
  have hN:=h.1; have hL:uU=4294967296:=rfl; rw [jo,nI,if_neg (by simp)]; rcases hc i h1 h2 with ⟨e,j,g1,g2,gb,gP,gR⟩ | ⟨j,c,x,g1,g2,gc,gP,gR⟩
  ·
   rw [gP,gR,fH,aD,aR (by simp; omega),ak,lH h g2,aC]; simp only [FV,Bool.false_eq_true,if_false,yD h,ak]
   have hs:((out ++ [e]).map ah.bulk).sum≤2097152 * (j - i0):=by
    rw [List.map_append,List.sum_append]; simp; omega
   cases hq:qJ ts j [44] with
   | true=>
    obtain ⟨hj,_⟩:=mW hq; have hq2:=Sm (Ne.symm hcl) hq; simp only [hq2,Bool.false_eq_true,if_false,Bool.not_true,if_true,ak]; rw [mh (by omega)]; exact PE h hcl hc m m' (j + 1) (out ++ [e]) (by omega) (by omega) (by omega) (by omega) (by simp; omega) (by omega)
   | false=>
    simp only [Bool.not_false,if_true,Bool.false_eq_true,if_false]; rw [zK h g2]; cases hq2:qJ ts j cl with
    | true=>
     obtain ⟨hj,_⟩:=mW hq2; simp only [if_true,fH,ak]; rw [mh (by omega)]; exact .inl ⟨_,j + 1,by omega,by omega,by omega,rfl,rfl⟩
    | false=>
     simp only [Bool.false_eq_true,if_false,dV,xD,ak]; exact .inr ⟨j,_,_,_,by omega,g2,za ts j,rfl,rfl⟩
  ·
   rw [gP,gR,dV,aD,if_pos (Mg gc)]; exact .inr ⟨j,c,_,_,by omega,g2,gc,rfl,rfl⟩
theorem XY {ts:List aA} (h:zu ts) {k k' i:Nat} (hi:i≤ts.length) {cl:Str} (hcl:cl≠[44]) (hc:∀ j,i≤j→j≤ts.length→RE ts j (aV k (aj.mk ts (j:Int))) (bX k' ts (j:Int))):
  RL ts i (cO (k + 1) (aj.mk ts (i:Int)) cl) (gI (k' + 1) ts (i:Int) cl false):=by
 have hN:=h.1; have hB:=jL; rw [cO,nO,gI,Ac,lH h hi,aC]; simp only [yD h,ak]; cases hq:qJ ts i cl with
 | true=>
  obtain ⟨hj,_⟩:=mW hq; simp only [if_true]; rw [mh (by omega)]; exact .inl ⟨[],i + 1,by omega,by omega,by simp,rfl,rfl⟩
 | false=>
  simp only [Bool.false_eq_true,if_false]; exact PE h hcl hc BIG BIG i [] (by omega) (by omega) (Nat.le_refl _) hi (by simp) (by simp)
end Go.Ft
namespace Go.Ft
open Go
attribute [local congr] gK
def Kt (ts:List aA) (i:Nat):Bool:=((xB ts i).kind == 1) || ((xB ts i).kind == 3)
theorem YN {ts:List aA} {i:Nat} (h:(xB ts i).kind≠0):∃ hi:i < ts.length,xB ts i=ts[i]∧Ed ts[i]=true:=by
 unfold xB at h ⊢; cases hx:ts[i]? with
 | none=>rw [hx] at h; exact absurd rfl h
 | some t=>
  rw [hx] at h; obtain ⟨hi,ht⟩:=List.getElem?_eq_some_iff.1 hx; cases ho:Ed t with
  | false=>simp [ho] at h
  | true=>exact ⟨hi,by simp [ho,ht],by rw [ht]; exact ho⟩
theorem Zx {ts:List aA} {i:Nat} (h:Kt ts i=true):∃ hi:i < ts.length,xB ts i=ts[i]∧Ed ts[i]=true:=by
 refine YN fun h0=>?_; unfold Kt at h; rw [h0] at h; cases h
theorem abR {ts:List aA} (h:zu ts) (i:Nat):(if decide ((ts.length:Int)≤(i:Int)) then some true else ay (idx ts (i:Int)) fun e1=>ay (H_ e1) fun x2=>some (!x2))=some (!Kt ts i):=by
 unfold Kt xB; by_cases hi:i < ts.length
 ·
  have ht:=h.2 ts[i] (List.getElem_mem hi); rw [if_neg (by simp; omega)]; simp only [m_ hi,ak,List.getElem?_eq_getElem hi,H_]; by_cases h1:ts[i].kind=1
  ·
   rw [if_pos (by simpa using h1),Y2 _ (by omega),ak,ak,ED h1 ht]; cases isName ts[i].text <;> simp [h1]
  ·
   rw [if_neg (by simpa using h1),ak,ak]; by_cases h3:ts[i].kind=3
   ·
    have:Ed ts[i]=decide ((ts[i].text.length:Int)≤4096):=by unfold Ed iL; simp [h3]
    rw [this]; cases decide ((ts[i].text.length:Int)≤4096) <;> simp [h3]
   ·
    have b1:(ts[i].kind == 1)=false:=by simpa using h1
    have b3:(ts[i].kind == 3)=false:=by simpa using h3
    cases Ed ts[i] <;> simp [b1,b3]
 ·
  rw [if_pos (by simp; omega),List.getElem?_eq_none (Nat.le_of_not_lt hi)]; rfl
def RX (ts:List aA) (i0:Nat) (P:Option (gT aB ah × aj)) (R:Option (List ah × List Str × Int × Int)):Prop:=
 (∃ (l:List ah) (ks:List Str) (j:Nat),i0 < j∧j≤ts.length∧(l.map ah.bulk).sum + (ks.map fun z:Str=>z.length + 1).sum≤2097152 * (j - i0)∧P=some (.ok (ah.mk 10 ([]:Str) (av.mk 0 false 0 ([]:Str) [] []) l ks),aj.mk ts (j:Int))∧R=some (l,ks,(j:Int),0))∨
 (∃ (j:Nat) (c:Int) (x:List ah) (y:List Str),i0≤j∧j≤ts.length∧c≠0∧P=some (.bad (aB.mk (j:Int) c),aj.mk ts (j:Int))∧R=some (x,y,(j:Int),c))
theorem Pq {ts:List aA} (h:zu ts) {k k' i0:Nat} (hc:∀ j,i0≤j→j≤ts.length→RE ts j (aV k (aj.mk ts (j:Int))) (bX k' ts (j:Int))):
  ∀ (m m' i:Nat) (l:List ah) (ks:List Str),ts.length < m + i→ts.length < m' + i→i0≤i→i≤ts.length→l.length + i0≤i→ks.length + i0≤i→(l.map ah.bulk).sum + (ks.map fun z:Str=>z.length + 1).sum≤2097152 * (i - i0)→
  RX ts i0 (fT (aV k) m (ah.mk 10 ([]:Str) (av.mk 0 false 0 ([]:Str) [] []) l ks) (aj.mk ts (i:Int))) (nI (bX k') ts [125] true m' (i:Int) l ks)
 | 0,m',i,l,ks,h1,_,_,h2,_,_,_=>by omega
 | m + 1,0,i,l,ks,_,h1,_,h2,_,_,_=>by omega
 | m + 1,m' + 1,i,l,ks,hm,hm',h1,h2,hl,hk,hb=>by
  have hN:=h.1; have hL:uU=4294967296:=rfl; rw [fT,nI,if_pos rfl,abR h,ak,Il h]; cases hq:Kt ts i with
  | false=>
   simp only [Bool.not_false,if_true,xD,ak]; by_cases h0:(xB ts i).kind=0
   ·
    rw [if_pos h0,dV]; exact .inr ⟨i,_,_,_,h1,h2,za ts i,rfl,rfl⟩
   ·
    obtain ⟨hi,htk,_⟩:=YN h0; have hms:miss ts i=5:=by unfold miss; rw [if_neg (by omega)]
    rw [if_neg h0,fH]
    have hcnd:(((xB ts i).kind != 1) && ((xB ts i).kind != 3))=true:=by
     unfold Kt at hq; simp only [Bool.or_eq_false_iff] at hq; simp [bne,hq.1,hq.2]
    rw [if_pos hcnd]; show RX ts i0 (dZ (some (.bad (aB.mk ((i:Nat):Int) 5),aj.mk ts (i:Int))) _ _) _; rw [dV,hms]; exact .inr ⟨i,5,_,_,h1,h2,by decide,rfl,rfl⟩
  | true=>
   obtain ⟨hi,htk,_⟩:=Zx hq; have htx:=h.2 ts[i] (List.getElem_mem hi); have h0:(xB ts i).kind≠0:=fun h0=>by unfold Kt at hq; rw [h0] at hq; cases hq
   have hcnd:(((xB ts i).kind != 1) && ((xB ts i).kind != 3))=false:=by
    unfold Kt at hq; simp only [Bool.or_eq_true] at hq; rcases hq with hq | hq <;> simp [bne,hq]
   rw [if_neg h0,fH,if_neg (by rw [hcnd]; simp),htk]; simp only [Bool.not_true,Bool.false_eq_true,if_false,m_ hi,ak]; rw [aR (by simp; omega),ak,mh (by omega),zK h (by omega)]; simp only [yD h,ak]; cases hq1:qJ ts (i + 1) [58] with
   | false=>
    simp only [Bool.not_false,if_true,Bool.false_eq_true,if_false,dV,xD,ak]; exact .inr ⟨i + 1,_,_,_,by omega,by omega,za ts (i + 1),rfl,rfl⟩
   | true=>
    obtain ⟨hi1,_⟩:=mW hq1; simp only [Bool.not_true,if_true,Bool.false_eq_true,if_false,fH]; rw [mh (by omega)]; rcases hc (i + 1 + 1) (by omega) (by omega) with ⟨e,j,g1,g2,gb,gP,gR⟩ | ⟨j,c,x,g1,g2,gc,gP,gR⟩
    ·
     rw [gP,gR,fH,aD,aR (by simp; omega),ak,lH h g2,aC]; simp only [FV,Bool.false_eq_true,if_false,yD h,ak]
     have hs:((l ++ [e]).map ah.bulk).sum + ((ks ++ [ts[i].text]).map fun z:Str=>z.length + 1).sum≤2097152 * (j - i0):=by
      simp only [List.map_append,List.sum_append,List.map_cons,List.map_nil,List.sum_cons,List.sum_nil]; omega
     cases hq2:qJ ts j [44] with
     | true=>
      obtain ⟨hj,_⟩:=mW hq2; have hq3:qJ ts j [125]=false:=Sm (by decide) hq2; simp only [hq3,Bool.false_eq_true,if_false,Bool.not_true,if_true,ak]; rw [mh (by omega)]; exact Pq h hc m m' (j + 1) (l ++ [e]) (ks ++ [ts[i].text]) (by omega) (by omega) (by omega) (by omega) (by simp; omega) (by simp; omega) (by omega)
     | false=>
      simp only [Bool.not_false,if_true,Bool.false_eq_true,if_false]; rw [zK h g2]; cases hq3:qJ ts j [125] with
      | true=>
       obtain ⟨hj,_⟩:=mW hq3; simp only [if_true,fH,ak]; rw [mh (by omega)]; exact .inl ⟨_,_,j + 1,by omega,by omega,by omega,rfl,rfl⟩
      | false=>
       simp only [Bool.false_eq_true,if_false,dV,xD,ak]; exact .inr ⟨j,_,_,_,by omega,g2,za ts j,rfl,rfl⟩
    ·
     rw [gP,gR,dV,aD,if_pos (Mg gc)]; exact .inr ⟨j,c,_,_,by omega,g2,gc,rfl,rfl⟩
theorem Xz {ts:List aA} (h:zu ts) {k k' i:Nat} (hi:i≤ts.length) (hc:∀ j,i≤j→j≤ts.length→RE ts j (aV k (aj.mk ts (j:Int))) (bX k' ts (j:Int))):
  RX ts i (cB (k + 1) (aj.mk ts (i:Int))) (gI (k' + 1) ts (i:Int) [125] true):=by
 have hN:=h.1; have hB:=jL; rw [cB,lC,gI,Ac,lH h hi,aC]; simp only [yD h,ak]; cases hq:qJ ts i [125] with
 | true=>
  obtain ⟨hj,_⟩:=mW hq; simp only [if_true]; rw [mh (by omega)]; exact .inl ⟨[],[],i + 1,by omega,by omega,by simp,rfl,rfl⟩
 | false=>
  simp only [Bool.false_eq_true,if_false]; exact Pq h hc BIG BIG i [] [] (by omega) (by omega) (Nat.le_refl _) hi (by simp) (by simp) (by simp)
end Go.Ft
namespace Go.Ft
open Go
attribute [local congr] gK
theorem QT (k:Int) (n:Str) (l:List ah) (ks:List Str):(ah.mk k n (av.mk 0 false 0 ([]:Str) [] []) l ks).bulk=12 + n.length + (l.map ah.bulk).sum + (ks.map fun z:Str=>z.length + 1).sum:=by
 rw [ah.lZ,ah.pE]; simp [av.bulk,av.kT]; omega
theorem EL (v:av):(ah.mk 1 ([]:Str) v [] []).bulk=5 + v.bulk:=by
 simp [ah.bulk,ah.kT]; omega
theorem Vw {t:aA} (h:t.kind=2) (hs:t.text.length≤1048576):(Ed t=true∧∃ u:Nat,u≤9007199254740992∧strconv_Atoi t.text=some ((u:Int),none)∧wY t.text=some ((u:Int),true))∨(Ed t=false∧∃ n,wY t.text=some (n,false)):=by
 obtain ⟨b,d1,d2,d3⟩:=Z6 (s:=t.text) (by omega); obtain ⟨n,ok,r1,r2,r3⟩:=abW t.text; have ho:Ed t=b:=by unfold Ed iL; rw [h]; simp [d1]
 cases hb:b with
 | true=>
  left; obtain ⟨u,hu,hl⟩:=d2 hb; obtain ⟨e1,e2⟩:=r3 u hu hl; refine ⟨by rw [ho,hb],u,hl,?_,by rw [r1,e1,e2]⟩; rw [strconv_Atoi,if_pos (by omega),hu,Ti (by omega)]; rfl
 | false=>
  right; refine ⟨by rw [ho,hb],n,?_⟩; cases hok:ok with
  | false=>rw [r1,hok]
  | true=>
   obtain ⟨u,_,hs2,hl⟩:=r2 hok; rw [d3 u hs2 hl] at hb; cases hb
theorem Xe :isName [110,117,108,108]=true:=by decide
theorem Xd :isName [116,114,117,101]=true:=by decide
theorem Ue :isName [102,97,108,115,101]=true:=by decide
theorem Wv {ts:List aA} (h:zu ts) {k k' i:Nat} (hi:i < ts.length) (hk1:ts[i].kind=1) (hok:Ed ts[i]=true)
  (hargs:∀ j,i < j→j≤ts.length→RL ts j (cO k (aj.mk ts (j:Int)) [41]) (gI k' ts (j:Int) [41] false)):
  RE ts i (dJ (k + 1) (aj.mk ts ((i + 1:Nat):Int)) ts[i].text) (kQ (k' + 1) ts (i:Int)):=by
 have hN:=h.1; have htx:=h.2 ts[i] (List.getElem_mem hi); have hnm:=ED hk1 htx; rw [hok] at hnm; rw [dJ,nM,kQ,Ab,m_ hi,ak]; have w1:bL ((i:Int) + 1)=((i + 1:Nat):Int):=mh (by omega); by_cases h1:ts[i].text=[110,117,108,108]
 ·
  rw [if_pos (by simpa using h1),if_pos (by simpa using h1)]; exact .inl ⟨_,i + 1,by omega,by omega,by rw [EL]; simp [av.bulk,av.kT],rfl,by rw [w1]; rfl⟩
 ·
  rw [if_neg (by simpa using h1),if_neg (by simpa using h1)]; by_cases h2:ts[i].text=[116,114,117,101]
  ·
   rw [if_pos (by simpa using h2),h2]; exact .inl ⟨_,i + 1,by omega,by omega,by rw [EL]; simp [av.bulk,av.kT],rfl,by rw [w1]; rfl⟩
  ·
   rw [if_neg (by simpa using h2)]; by_cases h3:ts[i].text=[102,97,108,115,101]
   ·
    rw [if_pos (by simpa using h3),h3]; exact .inl ⟨_,i + 1,by omega,by omega,by rw [EL]; simp [av.bulk,av.kT],rfl,by rw [w1]; rfl⟩
   ·
    rw [if_neg (by simpa using h3)]; have hp:jR ts[i].text=true:=by unfold jR; rw [←hnm]; simp [h1,h2,h3]
    rw [(Ai ts[i].text (by omega)).2,hp,ak,Gl htx hnm.symm,hp,ak,if_neg (by simp),if_neg (by simp),lH h (by omega),aC,w1,yD h,ak]; cases hq:qJ ts (i + 1) [40] with
    | false=>
     simp only [Bool.not_false,if_true,Bool.false_eq_true,if_false]; exact .inl ⟨_,i + 1,by omega,by omega,by rw [QT]; simp; omega,rfl,rfl⟩
    | true=>
     obtain ⟨hlt,_⟩:=mW hq; simp only [Bool.not_true,if_true,Bool.false_eq_true,if_false]; have w2:bL ((i:Int) + 2)=((i + 1 + 1:Nat):Int):=by rw [aT (by omega) (by omega)]; omega
     rw [w2]; rcases hargs (i + 1 + 1) (by omega) (by omega) with ⟨l,j,g1,g2,gb,gP,gR⟩ | ⟨j,c,x,y,g1,g2,gc,gP,gR⟩
     ·
      rw [gP,gR,fH,aF]; exact .inl ⟨_,j,by omega,g2,by rw [QT]; simp; omega,rfl,rfl⟩
     ·
      rw [gP,gR,dV,aF]; exact .inr ⟨j,c,_,by omega,g2,gc,rfl,rfl⟩
theorem XV {ts:List aA} (h:zu ts) {k k' i:Nat} (hi0:i≤ts.length)
  (hc:∀ j,i < j→j≤ts.length→RE ts j (aV (k + 1) (aj.mk ts (j:Int))) (bX k' ts (j:Int)))
  (hargs:∀ j,i < j→j≤ts.length→RL ts j (cO k (aj.mk ts (j:Int)) [41]) (gI k' ts (j:Int) [41] false))
  (hlist:∀ j,i < j→j≤ts.length→RL ts j (cO (k + 1) (aj.mk ts (j:Int)) [93]) (gI k' ts (j:Int) [93] false))
  (ahj:∀ j,i < j→j≤ts.length→RX ts j (cB (k + 1) (aj.mk ts (j:Int))) (gI k' ts (j:Int) [125] true)):
  RE ts i (dA (k + 1 + 1) (aj.mk ts (i:Int))) (jT (k' + 1 + 1) ts (i:Int)):=by
 have hN:=h.1; rw [dA,nN,jT,Di,Il h]; by_cases hi:ts.length≤i
 ·
  have ht:(xB ts i).kind=0:=by unfold xB; rw [List.getElem?_eq_none hi]
  rw [if_pos (decide_eq_true (by omega)),if_pos ht,dV]; have:miss ts i=4:=by unfold miss; rw [if_pos hi]
  rw [this]; exact .inr ⟨i,4,_,Nat.le_refl _,hi0,by decide,rfl,rfl⟩
 have hlt:i < ts.length:=by omega
 have hms:miss ts i=5:=by unfold miss; rw [if_neg hi]
 have htx:=h.2 ts[i] (List.getElem_mem hlt); have w1:bL ((i:Int) + 1)=((i + 1:Nat):Int):=mh (by omega); rw [if_neg (show ¬ decide ((ts.length:Int)≤(i:Int))=true by simp; omega),m_ hlt,ak,hms]; have htk:xB ts i=if Ed ts[i] then ts[i] else aA.mk 0 [] 0:=by unfold xB; rw [List.getElem?_eq_getElem hlt]
 cases hok:Ed ts[i] with
 | false=>
  rw [hok] at htk; rw [htk]; show RE ts i (dZ (some (.bad (aB.mk ((i:Nat):Int) 5),aj.mk ts (i:Int))) _ _) _; rw [dV]; have bad:∀ x:ah,RE ts i (some (.bad (aB.mk ((i:Nat):Int) 5),aj.mk ts (i:Int))) (some (x,(i:Int),5)):=fun x=>.inr ⟨i,5,x,Nat.le_refl _,hi0,by decide,rfl,rfl⟩; by_cases h2:ts[i].kind=2
  ·
   rw [if_pos (by simpa using h2)]; rcases Vw h2 htx with ⟨h3,_⟩ | ⟨_,n,hn⟩
   · rw [hok] at h3; cases h3
   · rw [hn,aC,if_neg (by simp)]; exact bad _
  ·
   rw [if_neg (by simpa using h2)]; by_cases h3:ts[i].kind=3
   ·
    have:Ed ts[i]=decide ((ts[i].text.length:Int)≤4096):=by unfold Ed iL; simp [h3]
    rw [hok] at this; rw [if_pos (by simpa using h3),if_neg (by rw [←this]; simp)]; exact bad _
   ·
    rw [if_neg (by simpa using h3)]; by_cases h1:ts[i].kind=1
    ·
     have hnm:=ED h1 htx; rw [hok] at hnm; have n1:ts[i].text≠[110,117,108,108]:=fun e=>by rw [e,Xe] at hnm; cases hnm
     have n2:ts[i].text≠[116,114,117,101]:=fun e=>by rw [e,Xd] at hnm; cases hnm
     have n3:ts[i].text≠[102,97,108,115,101]:=fun e=>by rw [e,Ue] at hnm; cases hnm
     have hp:jR ts[i].text=false:=by unfold jR; rw [←hnm]; rfl
     rw [if_pos (by simpa using h1),kQ,Ab,m_ hlt,ak,if_neg (by simpa using n1),if_neg (by simpa using n2),if_neg (by simpa using n3),(Ai ts[i].text (by omega)).2,hp,ak,if_pos (by simp)]; exact bad _
    ·
     rw [if_neg (by simpa using h1)]; have h4:ts[i].kind≠4:=fun e=>by rw [Ub e] at hok; cases hok
     rw [if_neg (by simpa using h4)]; exact bad _
 | true=>
  rw [hok,if_pos rfl] at htk; have hk:=Zj hok; rw [htk,if_neg (by omega),fH]; rcases hk with h1 | h2 | h3 | h4
  ·
   rw [if_neg (by simp [h1]),if_neg (by simp [h1]),if_pos (by simpa using h1),if_neg (by simp [h1]),if_neg (by simp [h1]),if_pos (by simpa using h1)]; show RE ts i (dZ (dJ (k + 1) (aj.mk ts (bL ((i:Int) + 1))) ts[i].text) _ _) _; rw [w1]; rcases Wv h hlt h1 hok hargs with ⟨e,j,g1,g2,gb,gP,gR⟩ | ⟨j,c,x,g1,g2,gc,gP,gR⟩
   · rw [gP,gR]; exact .inl ⟨e,j,g1,g2,gb,rfl,rfl⟩
   · rw [gP,gR]; exact .inr ⟨j,c,x,g1,g2,gc,rfl,rfl⟩
  ·
   rw [if_pos (by simpa using h2),if_pos (by simpa using h2)]; rcases Vw h2 htx with ⟨_,u,hu,ha,hr⟩ | ⟨h3,_⟩
   ·
    rw [ha,hr,aC,aC,if_pos rfl]; have hbk:(ah.mk 1 ([]:Str) (av.mk 2 false (u:Int) ([]:Str) [] []) [] []).bulk≤2097152 * (i + 1 - i):=by rw [EL]; simp [av.bulk,av.kT]
    exact .inl ⟨ah.mk 1 ([]:Str) (av.mk 2 false (u:Int) ([]:Str) [] []) [] [],i + 1,by omega,by omega,hbk,by rw [←w1]; rfl,by rw [←w1]; rfl⟩
   · rw [hok] at h3; cases h3
  ·
   have:Ed ts[i]=decide ((ts[i].text.length:Int)≤4096):=by unfold Ed iL; simp [h3]
   rw [hok] at this; rw [if_neg (by simp [h3]),if_pos (by simpa using h3),if_neg (by simp [h3]),if_pos (by simpa using h3),if_pos this.symm]; have hbk:(ah.mk 1 ([]:Str) (av.mk 3 false 0 ts[i].text [] []) [] []).bulk≤2097152 * (i + 1 - i):=by rw [EL]; simp [av.bulk,av.kT]; omega
   exact .inl ⟨ah.mk 1 ([]:Str) (av.mk 3 false 0 ts[i].text [] []) [] [],i + 1,by omega,by omega,hbk,by rw [←w1]; rfl,by rw [←w1]; rfl⟩
  ·
   have hop:∀ op,qJ ts i op=(ts[i].text == op):=fun op=>by unfold qJ; rw [htk,h4]; rfl
   rw [if_neg (by simp [h4]),if_neg (by simp [h4]),if_neg (by simp [h4]),if_neg (by simp [h4]),if_neg (by simp [h4]),if_neg (by simp [h4]),if_pos (by simpa using h4),iJ,vg,m_ hlt,ak,lH h hi0,aC,hop]; by_cases h40:ts[i].text=[40]
   ·
    have e40:(ts[i].text == ([40]:Str))=true:=by simpa using h40
    simp only [e40,if_true]; rw [w1]; rcases hc (i + 1) (by omega) (by omega) with ⟨e,j,g1,g2,gb,gP,gR⟩ | ⟨j,c,x,g1,g2,gc,gP,gR⟩
    ·
     rw [gP,gR,fH,aD,zK h g2]; have e0:((0:Int) == 0)=true:=rfl; simp only [e0,if_true,yD h,ak,FV,Bool.false_eq_true,if_false]; cases hq:qJ ts j [41] with
     | true=>
      obtain ⟨hj,_⟩:=mW hq; simp only [Bool.not_true,if_true,Bool.false_eq_true,if_false,fH]; rw [mh (by omega)]; exact .inl ⟨e,j + 1,by omega,by omega,by omega,rfl,rfl⟩
     | false=>
      simp only [Bool.not_false,if_true,Bool.false_eq_true,if_false,dV,xD,ak,Mg (za ts j)]; exact .inr ⟨j,_,_,by omega,g2,za ts j,rfl,rfl⟩
    ·
     have e0:(c == 0)=false:=by simpa using gc
     rw [gP,gR,dV,aD]; simp only [e0,Bool.false_eq_true,if_false,ak,Mg gc,if_true]; exact .inr ⟨j,c,_,by omega,g2,gc,rfl,rfl⟩
   ·
    have e40:(ts[i].text == ([40]:Str))=false:=by simpa using h40
    simp only [e40,Bool.false_eq_true,if_false]; rw [lH h hi0,aC,hop]; by_cases h91:ts[i].text=[91]
    ·
     have e91:(ts[i].text == ([91]:Str))=true:=by simpa using h91
     simp only [e91,if_true]; rw [w1]; rcases hlist (i + 1) (by omega) (by omega) with ⟨l,j,g1,g2,gb,gP,gR⟩ | ⟨j,c,x,y,g1,g2,gc,gP,gR⟩
     ·
      rw [gP,gR,fH,aF]; exact .inl ⟨_,j,by omega,g2,by rw [QT]; simp; omega,rfl,rfl⟩
     ·
      rw [gP,gR,dV,aF]; exact .inr ⟨j,c,_,by omega,g2,gc,rfl,rfl⟩
    ·
     have e91:(ts[i].text == ([91]:Str))=false:=by simpa using h91
     simp only [e91,Bool.false_eq_true,if_false]; rw [lH h hi0,aC,hop]; by_cases ahq:ts[i].text=[123]
     ·
      have afn:(ts[i].text == ([123]:Str))=true:=by simpa using ahq
      simp only [afn,if_true]; rw [w1]; rcases ahj (i + 1) (by omega) (by omega) with ⟨l,ks,j,g1,g2,gb,gP,gR⟩ | ⟨j,c,x,y,g1,g2,gc,gP,gR⟩
      ·
       rw [gP,gR,fH,aF]; exact .inl ⟨_,j,by omega,g2,by rw [QT]; simp only [List.length_nil]; omega,rfl,rfl⟩
      ·
       rw [gP,gR,dV,aF]; exact .inr ⟨j,c,_,by omega,g2,gc,rfl,rfl⟩
     ·
      have afn:(ts[i].text == ([123]:Str))=false:=by simpa using ahq
      simp only [afn,Bool.false_eq_true,if_false]; exact .inr ⟨i,5,_,Nat.le_refl _,hi0,by decide,rfl,rfl⟩
end Go.Ft
namespace Go.Ft
open Go
attribute [local congr] gK
theorem w7 (n:Int) (h:2≤n∧n≤6):bL (n + 1)=n + 1:=aT (by omega) (by omega)
theorem WY {ts:List aA} (h:zu ts):∀ (k:Nat),
  (∀ k' i,i≤ts.length→30 * (ts.length - i) + 20≤k→30 * (ts.length - i) + 20≤k'→RE ts i (aV k (aj.mk ts (i:Int))) (bX k' ts (i:Int)))∧
  (∀ (k' i:Nat) (n:Int),2≤n→n≤7→i≤ts.length→((30 * (ts.length - i) + 19:Nat):Int) - n≤(k:Int)→((30 * (ts.length - i) + 19:Nat):Int) - n≤(k':Int)→RE ts i (bf k (aj.mk ts (i:Int)) n) (dn k' ts (i:Int) n))∧
  (∀ k' i,i≤ts.length→30 * (ts.length - i) + 10≤k→30 * (ts.length - i) + 10≤k'→RE ts i (bZ k (aj.mk ts (i:Int))) (iw k' ts (i:Int)))∧
  (∀ k' i,i≤ts.length→30 * (ts.length - i) + 9≤k→30 * (ts.length - i) + 9≤k'→RE ts i (dw k (aj.mk ts (i:Int))) (jg k' ts (i:Int)))∧
  (∀ k' i,i≤ts.length→30 * (ts.length - i) + 8≤k→30 * (ts.length - i) + 8≤k'→RE ts i (dA k (aj.mk ts (i:Int))) (jT k' ts (i:Int)))∧
  (∀ k' i cl,cl≠[44]→i≤ts.length→30 * (ts.length - i) + 21≤k→30 * (ts.length - i) + 21≤k'→RL ts i (cO k (aj.mk ts (i:Int)) cl) (gI k' ts (i:Int) cl false))∧
  (∀ k' i,i≤ts.length→30 * (ts.length - i) + 21≤k→30 * (ts.length - i) + 21≤k'→RX ts i (cB k (aj.mk ts (i:Int))) (gI k' ts (i:Int) [125] true)):=by
 intro k
 induction k using Nat.strongRecOn with
 | _ k ih=>
  have hN:=h.1; refine ⟨?_,?_,?_,?_,?_,?_,?_⟩
  ·
   intro k' i hi h1 h2; obtain ⟨q,rfl⟩:∃ q,k=q + 1:=⟨k - 1,by omega⟩; obtain ⟨q',rfl⟩:∃ q',k'=q' + 1:=⟨k' - 1,by omega⟩; obtain ⟨c1,c2,_⟩:=ih q (by omega); exact XD h (c2 q' i 2 (by omega) (by omega) hi (by omega) (by omega)) fun j hj hj2=>c1 q' j hj2 (by omega) (by omega)
  ·
   intro k' i n n2 n7 hi h1 h2; obtain ⟨q,rfl⟩:∃ q,k=q + 1:=⟨k - 1,by omega⟩; obtain ⟨q',rfl⟩:∃ q',k'=q' + 1:=⟨k' - 1,by omega⟩; obtain ⟨_,c2,c3,_⟩:=ih q (by omega); by_cases e7:n=7
   ·
    subst e7; exact Zi (c3 q' i hi (by omega) (by omega))
   ·
    have hn:2≤n∧n≤6:=⟨n2,by omega⟩; refine ab1 h hn ?_ ?_
    · rw [w7 n hn]; exact c2 q' i (n + 1) (by omega) (by omega) hi (by omega) (by omega)
    ·
     intro j hj hj2; rw [w7 n hn]; exact c2 q' j (n + 1) (by omega) (by omega) hj2 (by omega) (by omega)
  ·
   intro k' i hi h1 h2; obtain ⟨q,rfl⟩:∃ q,k=q + 1:=⟨k - 1,by omega⟩; obtain ⟨q',rfl⟩:∃ q',k'=q' + 1:=⟨k' - 1,by omega⟩; obtain ⟨_,_,c3,c4,_⟩:=ih q (by omega); exact TL h hi (c4 q' i hi (by omega) (by omega)) fun j hj hj2=>c3 q' j hj2 (by omega) (by omega)
  ·
   intro k' i hi h1 h2; obtain ⟨q,rfl⟩:∃ q,k=q + 1:=⟨k - 1,by omega⟩; obtain ⟨q',rfl⟩:∃ q',k'=q' + 1:=⟨k' - 1,by omega⟩; obtain ⟨c1,_,_,_,c5,_⟩:=ih q (by omega); exact UK h (c5 q' i hi (by omega) (by omega)) fun j hj hj2=>c1 q' j hj2 (by omega) (by omega)
  ·
   intro k' i hi h1 h2; obtain ⟨q,rfl⟩:∃ q,k=q + 1 + 1:=⟨k - 2,by omega⟩; obtain ⟨q',rfl⟩:∃ q',k'=q' + 1 + 1:=⟨k' - 2,by omega⟩; obtain ⟨c1,_,_,_,_,c6,c7⟩:=ih (q + 1) (by omega); obtain ⟨_,_,_,_,_,d6,_⟩:=ih q (by omega); exact XV h hi (fun j hj hj2=>c1 q' j hj2 (by omega) (by omega)) (fun j hj hj2=>d6 q' j _ (by decide) hj2 (by omega) (by omega)) (fun j hj hj2=>c6 q' j _ (by decide) hj2 (by omega) (by omega)) (fun j hj hj2=>c7 q' j hj2 (by omega) (by omega))
  ·
   intro k' i cl hcl hi h1 h2; obtain ⟨q,rfl⟩:∃ q,k=q + 1:=⟨k - 1,by omega⟩; obtain ⟨q',rfl⟩:∃ q',k'=q' + 1:=⟨k' - 1,by omega⟩; obtain ⟨c1,_⟩:=ih q (by omega); exact XY h hi hcl fun j hj hj2=>c1 q' j hj2 (by omega) (by omega)
  ·
   intro k' i hi h1 h2; obtain ⟨q,rfl⟩:∃ q,k=q + 1:=⟨k - 1,by omega⟩; obtain ⟨q',rfl⟩:∃ q',k'=q' + 1:=⟨k' - 1,by omega⟩; obtain ⟨c1,_⟩:=ih q (by omega); exact Xz h hi fun j hj hj2=>c1 q' j hj2 (by omega) (by omega)
theorem Z_ {ts:List aA} (h:zu ts):RE ts 0 (oN (aj.mk ts 0)) (BL ts 0):=by
 have hN:=h.1; have hB:=jL; exact (WY h BIG).1 BIG 0 (Nat.zero_le _) (by omega) (by omega)
end Go.Ft
namespace Go.Ft
open Go
attribute [local congr] gK
theorem I8 {n:Int} (h:-9223372036854775808≤n∧n < 9223372036854775808):bL n=n:=PS (by omega) (by omega)
theorem YB {i j:Nat} (h:i + j < 9223372036854775808):bL ((i:Int) + (j:Int))=((i + j:Nat):Int):=by rw [I8 (by omega)]; omega
theorem Jv {α:Type} {l:List α} {i:Nat} (h:i < l.length):idx l (i:Int)=some (l[i]):=by rw [VH,List.getElem?_eq_getElem h]
def mM (c:UInt8):Bool:=(((decide (97≤(c.toNat:Int))) && (decide ((c.toNat:Int)≤122))) || ((decide (65≤(c.toNat:Int))) && (decide ((c.toNat:Int)≤90)))) || ((c.toNat:Int) == 95)
def isDigit (c:UInt8):Bool:=(decide (48≤(c.toNat:Int))) && (decide ((c.toNat:Int)≤57))
def isWord (c:UInt8):Bool:=mM c || isDigit c
theorem nP {c:UInt8}:isDigit c=true↔48≤c.toNat∧c.toNat≤57:=by simp [isDigit]; omega
theorem ze {c:UInt8}:mM c=true↔(97≤c.toNat∧c.toNat≤122)∨(65≤c.toNat∧c.toNat≤90)∨c.toNat=95:=by simp [mM]; omega
@[simp] theorem letter_eq (c:UInt8):pU c=some (mM c):=rfl
@[simp] theorem digit_eq (c:UInt8):pG c=some (isDigit c):=rfl
@[simp] theorem LM (c:UInt8):wM c=some (mM c):=rfl
@[simp] theorem Ce (c:UInt8):nk c=some (isDigit c):=rfl
@[simp] theorem Zp (c:UInt8):r_ c=some (isWord c):=by
 unfold r_ isWord; simp; cases mM c <;> simp
def span (p:UInt8→Bool) (l:Str):Nat:=(l.takeWhile p).length
@[simp] theorem agv (p:UInt8→Bool):span p []=0:=rfl
theorem kg (p:UInt8→Bool) (c:UInt8) (l:Str):span p (c :: l)=if p c then span p l + 1 else 0:=by
 unfold span; rw [List.takeWhile_cons]; split <;> simp
theorem yU (p:UInt8→Bool) (l:Str):span p l≤l.length:=by
 induction l with
 | nil=>simp
 | cons c l ih=>rw [kg]; split <;> simp <;> omega
theorem Rn {p:UInt8→Bool} {cls:UInt8→Option Bool} (hc:∀ c,cls c=some (p c)) (s:Str) (hs:s.length < 4611686018427387904):
  ∀ (k i:Nat),s.length < k + i→i≤s.length→oQ s cls k (i:Int)=some ((i + span p (s.drop i):Nat):Int)
 | 0,i,h,h'=>by omega
 | k + 1,i,h,h'=>by
  rw [oQ]; by_cases hi:i < s.length
  ·
   rw [List.drop_eq_getElem_cons hi,kg]; have h1:((i:Int) < (s.length:Int)):=by omega
   simp only [h1,decide_true,if_true,Jv hi,ak,hc]; cases e:p s[i] with
   | false=>simp
   | true=>
    simp only [if_true]; rw [show (i:Int) + 1=((i:Int) + (1:Nat)) from rfl,YB (by omega),Rn hc s hs k (i + 1) (by omega) (by omega)]; simp only [Option.some.injEq,Int.natCast_inj]; omega
  ·
   have:i=s.length:=by omega
   subst this; simp
theorem Li {p:UInt8→Bool} {cls:UInt8→Option Bool} (hc:∀ c,cls c=some (p c)) {s:Str} (hs:s.length < 4611686018427387904) {i:Nat} (h:i≤s.length):
  rC s (i:Int) cls=some ((i + span p (s.drop i):Nat):Int):=Rn hc s hs BIG i (by unfold BIG; omega) h
theorem Pv (s:Str) (hs:s.length < 4611686018427387904) (a:Nat):∀ (k n:Nat),s.length < k + (a + n)→a + n≤s.length→
  qp s (a:Int) k (n:Int)=some ((n + span isDigit (s.drop (a + n)):Nat):Int)
 | 0,n,h,h'=>by omega
 | k + 1,n,h,h'=>by
  rw [qp,YB (by omega)]; by_cases hi:a + n < s.length
  ·
   rw [List.drop_eq_getElem_cons hi,kg]; have h1:(((a + n:Nat):Int) < (s.length:Int)):=by omega
   simp only [h1,decide_true,if_true,Jv hi,ak,Ce]; cases e:isDigit s[a + n] with
   | false=>simp
   | true=>
    simp only [if_true]; rw [show (n:Int) + 1=((n:Int) + (1:Nat)) from rfl,YB (by omega),Pv s hs a k (n + 1) (by omega) (by omega)]; simp only [Option.some.injEq,Int.natCast_inj]; rw [show a + (n + 1)=a + n + 1 from rfl]; omega
  ·
   have e:a + n=s.length:=by omega
   rw [e]; simp
theorem Vd (s:Str) (hs:s.length < 4611686018427387904) (a:Nat):∀ (k n:Nat),s.length < k + (a + n)→a + n≤s.length→
  uM s (a:Int) k (n:Int)=some ((n + span isWord (s.drop (a + n)):Nat):Int)
 | 0,n,h,h'=>by omega
 | k + 1,n,h,h'=>by
  rw [uM,YB (by omega)]; by_cases hi:a + n < s.length
  ·
   rw [List.drop_eq_getElem_cons hi,kg]; have h1:(((a + n:Nat):Int) < (s.length:Int)):=by omega
   simp only [h1,decide_true,if_true,Jv hi,ak,Ce,LM]
   have e:(if mM s[a + n]=true then some true else some (isDigit s[a + n]))=some (isWord s[a + n]):=by
    unfold isWord; cases mM s[a + n] <;> simp
   rw [e]; simp only [ak]; cases e:isWord s[a + n] with
   | false=>simp
   | true=>
    simp only [if_true]; rw [show (n:Int) + 1=((n:Int) + (1:Nat)) from rfl,YB (by omega),Vd s hs a k (n + 1) (by omega) (by omega)]; simp only [Option.some.injEq,Int.natCast_inj]; rw [show a + (n + 1)=a + n + 1 from rfl]; omega
  ·
   have e:a + n=s.length:=by omega
   rw [e]; simp
theorem XC {s:Str} (hs:s.length < 4611686018427387904) {a:Nat} (h:a≤s.length):Af s (a:Int)=some ((span isDigit (s.drop a):Nat):Int):=by
 have:=Pv s hs a BIG 0 (by unfold BIG; omega) (by omega); simpa [Af] using this
theorem Vb {s:Str} (hs:s.length < 4611686018427387904) {a:Nat} (h:a≤s.length):Co s (a:Int)=some ((span isWord (s.drop a):Nat):Int):=by
 have:=Vd s hs a BIG 0 (by unfold BIG; omega) (by omega); simpa [Co] using this
def EO (c:UInt8):Option Nat:=if isDigit c then some (c.toNat - 48) else if 97≤c.toNat∧c.toNat≤102 then some (c.toNat - 87) else if 65≤c.toNat∧c.toNat≤70 then some (c.toNat - 55) else none
def Sr (c:UInt8):Int:=match EO c with | some n=>n | none=>-1
theorem K4 {c:UInt8} {n:Nat} (h:EO c=some n):n < 16:=by
 unfold EO at h; split at h
 · rename_i hd; rw [nP] at hd; cases h; omega
 ·
  split at h
  · cases h; omega
  ·
   split at h
   · cases h; omega
   · cases h
theorem KS {c d:UInt8} (h:d.toNat≤c.toNat):(c - d).toNat=c.toNat - d.toNat:=UInt8.toNat_sub_of_le c d (UInt8.le_iff_toNat_le.2 h)
theorem Uv (c:UInt8):sj c=some (Sr c):=by
 have hlt:=c.toNat_lt; unfold sj Sr EO; simp only [digit_eq,ak]; by_cases hd:isDigit c=true
 ·
  simp only [hd,if_true]; rw [nP] at hd; rw [KS (by simpa using hd.1)]; rfl
 ·
  simp only [Bool.not_eq_true] at hd; simp only [hd,Bool.false_eq_true,if_false]; by_cases h1:97≤c.toNat∧c.toNat≤102
  ·
   rw [if_pos (by simp; omega),if_pos h1,KS (by simpa using h1.1)]; have:(97:UInt8).toNat=97:=rfl; rw [this,I8 (by omega)]; simp only [Option.some.injEq]; omega
  ·
   rw [if_neg (by simp; omega),if_neg h1]; by_cases h2:65≤c.toNat∧c.toNat≤70
   ·
    rw [if_pos (by simp; omega),if_pos h2,KS (by simpa using h2.1)]; have:(65:UInt8).toNat=65:=rfl; rw [this,I8 (by omega)]; simp only [Option.some.injEq]; omega
   · rw [if_neg (by simp; omega),if_neg h2]
theorem Qd (c:UInt8):Fv c=some (Sr c):=by
 have hlt:=c.toNat_lt; unfold Fv Sr EO; simp only [Ce,ak]; by_cases hd:isDigit c=true
 ·
  simp only [hd,if_true]; rw [nP] at hd; rw [I8 (by omega)]; simp only [Option.some.injEq]; omega
 ·
  simp only [Bool.not_eq_true] at hd; simp only [hd,Bool.false_eq_true,if_false]; by_cases h1:97≤c.toNat∧c.toNat≤102
  ·
   rw [if_pos (by simp; omega),if_pos h1,I8 (by omega)]; simp only [Option.some.injEq]; omega
  ·
   rw [if_neg (by simp; omega),if_neg h1]; by_cases h2:65≤c.toNat∧c.toNat≤70
   ·
    rw [if_pos (by simp; omega),if_pos h2,I8 (by omega)]; simp only [Option.some.injEq]; omega
   · rw [if_neg (by simp; omega),if_neg h2]
theorem zJ {c:UInt8} {n:Nat} (h:EO c=some n):Sr c=n:=by unfold Sr; rw [h]
theorem CJ {c:UInt8} (h:EO c=none):Sr c=-1:=by unfold Sr; rw [h]
def chr :Str→UInt8 × Nat × Int
 | []=>(0,0,5)
 | c :: r=>if c.toNat < 32 then (0,0,5) else if c.toNat≠92 then (c,1,0) else
  match r with
  | []=>(0,0,4)
  | d :: r=>if d.toNat=34∨d.toNat=92 then (d,2,0) else if d.toNat=110 then (10,2,0) else if d.toNat=116 then (9,2,0) else if d.toNat=120 then
    match r with
    | []=>(0,0,4)
    | a :: r=>match EO a with
     | none=>(0,0,5)
     | some x=>match r with
      | []=>(0,0,4)
      | b :: _=>match EO b with
       | none=>(0,0,5)
       | some y=>(UInt8.ofNat (16 * x + y),4,0)
   else (0,0,5)
end Go.Ft
