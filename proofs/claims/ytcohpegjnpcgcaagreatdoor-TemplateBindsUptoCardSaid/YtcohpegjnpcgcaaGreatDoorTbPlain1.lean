/- Proved here: plain facts on the functional texts. -/
import Derived.Test.YtcohpegjnpcgcaaGreatDoorTbPre1
import Derived.Test.YtcohpegjnpcgcaaGreatDoorTbFt1
import Derived.Test.YtcohpegjnpcgcaaGreatDoorTbPool1
import Derived.KernelRfl
set_option linter.unusedVariables false
set_option linter.unusedSimpArgs false
set_option linter.unusedSectionVars false
set_option maxHeartbeats 2000000
namespace Go.Ft
open Go
attribute [local congr] FV
theorem OP {α:Type} {f:α→Nat} {l:List α} {x:α} (h:x∈l):f x≤(l.map f).sum:=by
 induction l with
 | nil=>cases h
 | cons y l ih=>
  simp only [List.map_cons,List.sum_cons]; rcases List.mem_cons.1 h with rfl | h
  · omega
  · have:=ih h; omega
theorem OO {α:Type} {f:α→Nat} {l:List α} (h:∀ x,1≤f x):l.length≤(l.map f).sum:=by
 induction l with
 | nil=>simp
 | cons y l ih=>simp only [List.map_cons,List.sum_cons,List.length_cons]; have:=h y; omega
theorem ah.AL (v:ah):1≤v.bulk:=by rw [ah.tN]; omega
theorem aj.AL (v:aj):1≤v.bulk:=by rw [aj.tN]; omega
theorem aD.AL (v:aD):1≤v.bulk:=by rw [aD.tN]; omega
theorem EG (v:ah):v.bH.length < v.bulk:=by rw [ah.tN,ah.uZ]; have:=OO (l:=v.bH) ah.AL; omega
theorem sJ {v x:ah} (h:x∈v.bH):x.bulk < v.bulk:=by rw [ah.tN v,ah.uZ]; have:=OP (f:=ah.bulk) h; omega
theorem Jq (v:ah):v.keys.length < v.bulk:=by rw [ah.tN]; have:=OO (l:=v.keys) (f:=fun z:Str=>z.length + 1) (fun x=>by omega); omega
theorem R_ {v:ah} {x:Str} (h:x∈v.keys):x.length < v.bulk:=by rw [ah.tN v]; have:=OP (f:=fun z:Str=>z.length + 1) h; omega
theorem Jo :∃ n,BIG=n + 1∧9223372036854775807≤n:=⟨BIG - 1,by decide,by decide⟩
end Go.Ft
namespace Go.Ft
open Go
attribute [local congr] FV
def P9 (s:Str):Bool:=decide (1≤s.length) && decide (s.length≤64)
def Vb (a b:Str):Int:=(uw a b).getD 0
theorem abT {a b:Str} (ha:a.length < 4611686018427387904) (hb:b.length < 4611686018427387904):lM a b=some (Vb a b)∧uw a b=some (Vb a b):=by
 obtain ⟨c,h1,h2⟩:=Xb ha hb; unfold Vb; rw [h2]; exact ⟨h1,rfl⟩
def R9 :Option Str→List Str→Bool
 | _,[]=>true
 | p,k :: r=>P9 k && (match p with | none=>true | some q=>decide (Vb q k < 0)) && R9 (some k) r
theorem abV (s:Str):((decide ((s.length:Int) < 1)) || (decide (64 < (s.length:Int))))=!P9 s:=by
 unfold P9; rw [Bool.eq_iff_iff]; simp only [Bool.or_eq_true,Bool.not_eq_true',Bool.and_eq_false_iff,decide_eq_true_eq,decide_eq_false_iff_not]; omega
theorem key_eq (s:Str):Lv s=some (P9 s):=by
 unfold Lv P9; simp only [Option.some.injEq]; rw [Bool.eq_iff_iff]; simp only [Bool.and_eq_true,decide_eq_true_eq]; omega
def Ib (l:List Str) (i:Nat):Option Str:=if i=0 then none else l[i - 1]?
theorem Yf {v:ah} (hv:v.bulk < 4611686018427387904):∀ (k i:Nat),v.keys.length < k + i→i≤v.keys.length→
  qI v k (i:Int)=some (R9 (Ib v.keys i) (v.keys.drop i))∧
  oF v k (i:Int)=some (R9 (Ib v.keys i) (v.keys.drop i) && ((v.keys.length:Int) == (v.bH.length:Int)))
 | 0,i,h,h'=>by omega
 | k + 1,i,h,h'=>by
  have hlen:=Jq v; rw [qI,oF]; by_cases hi:i < v.keys.length
  ·
   have hm:v.keys[i]∈v.keys:=List.getElem_mem hi; have hb:=R_ hm; rw [List.drop_eq_getElem_cons hi,if_pos (by simp; omega),if_pos (by simp; omega),FW hi]; simp only [bA,abV,key_eq,R9]; obtain ⟨ih1,ih2⟩:=Yf hv k (i + 1) (by omega) (by omega); have hp:Ib v.keys (i + 1)=some v.keys[i]:=by simp [Ib,hi]
   rw [hp] at ih1 ih2; rw [GV (by omega),ih1,ih2]; by_cases h0:i=0
   ·
    subst h0; have hp0:Ib v.keys 0=none:=rfl; rw [hp0]; cases P9 v.keys[0] <;> simp
   ·
    have hi1:i - 1 < v.keys.length:=by omega
    have hm1:v.keys[i - 1]∈v.keys:=List.getElem_mem hi1; have hb1:=R_ hm1; have hp0:Ib v.keys i=some v.keys[i - 1]:=by simp [Ib,h0,hi1]
    have e1:dA ((i:Int) - 1)=((i - 1:Nat):Int):=by rw [acU (by omega)]; omega
    obtain ⟨c1,c2⟩:=abT (a:=v.keys[i - 1]) (b:=v.keys[i]) (by omega) (by omega); have hpos:decide ((0:Int) < (i:Int))=true:=by simp; omega
    rw [hp0,e1,hpos,FW hi1]; simp only [bA,c1,c2,if_true]
    have hn:decide (Vb v.keys[i - 1] v.keys[i] < 0)=!decide (0≤Vb v.keys[i - 1] v.keys[i]):=by
     by_cases h:0≤Vb v.keys[i - 1] v.keys[i] <;> simp [h] <;> omega
    rw [hn]; cases P9 v.keys[i] <;> cases decide (0≤Vb v.keys[i - 1] v.keys[i]) <;> simp
  ·
   have:i=v.keys.length:=by omega
   subst this; simp [R9]
theorem Vj {v:ah} (hv:v.bulk < 4611686018427387904):Ad v=some (((v.keys.length:Int) == (v.bH.length:Int)) && R9 none v.keys)∧wB v=some (((v.keys.length:Int) == (v.bH.length:Int)) && R9 none v.keys):=by
 have hlen:=Jq v; obtain ⟨h1,h2⟩:=Yf hv BIG 0 (by have:=qB; omega) (by omega); have hp0:Ib v.keys 0=none:=rfl; rw [hp0,List.drop_zero] at h1 h2; unfold Ad wB; rw [show (0:Int)=((0:Nat):Int) from rfl,h1,h2]; by_cases h:(v.keys.length:Int)=(v.bH.length:Int)
 · simp [h]
 ·
  have:((v.keys.length:Int) == (v.bH.length:Int))=false:=by simpa using h
  simp [this]; intro hh; exact absurd hh h
def Ku (v:ah):Bool:=
 (((((v.kind == 1) || (!v.iD)) && ((v.kind == 2) || (v.iC == 0))) && ((v.kind == 3) || (v.gW == ([]:Str)))) && (((v.kind == 4) || (v.kind == 5)) || ((v.bH.length:Int) == 0))) && ((v.kind == 5) || ((v.keys.length:Int) == 0))
theorem ac5 (v:ah):EL v=some (Ku v):=by
 unfold EL Ku
 have hl:decide (0 < (v.bH.length:Int))=!((v.bH.length:Int) == 0):=by
  cases h:v.bH <;> simp; omega
 rw [hl]; have hk:∀ n:Int,(v.kind != n)=!(v.kind == n):=fun n=>rfl; have hi:(v.iC != 0)=!(v.iC == 0):=rfl; rw [hk,hk,hk,hk,hk,hi]; generalize (v.kind == 1)=a1; generalize (v.kind == 2)=a2; generalize (v.kind == 3)=a3; generalize (v.kind == 4)=a4; generalize (v.kind == 5)=a5; generalize v.iD=b; generalize (v.iC == 0)=c; generalize (v.gW == ([]:Str))=d; generalize ((v.bH.length:Int) == 0)=e; generalize ((v.keys.length:Int) == 0)=f; revert a1 a2 a3 a4 a5 b c d e f; decide
def Cq (v:ah) (level:Nat):Int:=
 if 16 < level then 13
 else if (decide (v.kind < 0)) || (decide (5 < v.kind)) || !Ku v then 1
 else if (decide (v.iC < (-9007199254740992))) || (decide (9007199254740992 < v.iC)) then 2
 else if ((decide (4096 < (v.gW.length:Int))) || (decide (1024 < (v.bH.length:Int)))) || (decide (1024 < (v.keys.length:Int))) then 3
 else if v.kind == 5 && !(((v.keys.length:Int) == (v.bH.length:Int)) && R9 none v.keys) then 1
 else if (((v.kind == 4) || (v.kind == 5)) && ((v.bH.length:Int) == 0)) && level == 16 then 13
 else 0
theorem abR {v:ah} (hv:v.bulk < 4611686018427387904) (level:Nat):Cr v (level:Int)=some (Cq v level):=by
 unfold Cr Cq BF; have h16:decide ((16:Int) < (level:Int))=decide (16 < level):=by congr 1; simp; omega
 have aec:((level:Int) == 16)=(level == 16):=by
  rw [Bool.eq_iff_iff]; simp only [beq_iff_eq]; omega
 rw [h16,aec,(Vj hv).1]; change (if decide (16 < level)=true then some 13 else ay (if (decide (v.kind < 0) || decide (5 < v.kind))=true then some true else ay (some (Ku v)) fun x1=>some (!x1)) _)=_
 by_cases h0:16 < level
 · simp [h0]
 ·
  simp only [h0,decide_false,Bool.false_eq_true,if_false,bA]; cases h1:(decide (v.kind < 0) || decide (5 < v.kind)) with
  | true=>simp
  | false=>
   cases h2:Ku v with
   | false=>simp
   | true=>
    simp only [Bool.false_eq_true,if_false,Bool.not_true,bA,Bool.or_self]; split
    · rfl
    ·
     split
     · rfl
     · cases h3:(v.kind == 5) <;> cases h4:(((v.keys.length:Int) == (v.bH.length:Int)) && R9 none v.keys) <;> simp <;> (first | rfl | (split <;> rfl))
mutual
def GX :ah→Nat→Int
 | ⟨a,b,c,d,l,f⟩,level=>if Cq ⟨a,b,c,d,l,f⟩ level != 0 then Cq ⟨a,b,c,d,l,f⟩ level else Ht l (level + 1)
def Ht :List ah→Nat→Int
 | [],_=>0
 | x :: r,level=>if GX x level != 0 then GX x level else Ht r level
end
theorem Ti (v:ah) (level:Nat):GX v level=if Cq v level != 0 then Cq v level else Ht v.bH (level + 1):=by cases v; rw [GX]
theorem agb {go:ah→Int→Option Int} {level:Nat}:∀ (l:List ah) (i:Nat),(∀ x∈l,go x ((level + 1:Nat):Int)=some (GX x (level + 1)))→
  zu (fun _ e1 (_:Unit) r=>ay (go e1 ((level + 1:Nat):Int)) fun e2=>if e2 != 0 then some e2 else r ()) (fun _=>some 0) i l ()=some (Ht l (level + 1))
 | [],i,_=>by simp [zu,Ht]
 | x :: r,i,h=>by
  rw [zu,h x (by simp),Ht]; simp only [bA]; rw [agb r (i + 1) (fun y hy=>h y (by simp [hy]))]; split <;> rfl
theorem VD :∀ (n:Nat) (v:ah) (level:Nat),v.bulk≤n→v.bulk < 4611686018427387904→level≤17→qc (n + 1) v (level:Int)=some (GX v level)
 | 0,v,_,h,_,_=>by have:=v.AL; omega
 | n + 1,v,level,h,hB,hlv=>by
  have hl:=EG v; rw [Ti]; unfold qc DK; have h16:decide ((16:Int) < (level:Int))=decide (16 < level):=by congr 1; simp; omega
  have aec:((level:Int) == 16)=(level == 16):=by
   rw [Bool.eq_iff_iff]; simp only [beq_iff_eq]; omega
  rw [h16,aec,(Vj hB).2,ac5]; unfold Cq; by_cases h0:16 < level
  · simp [h0]
  ·
   have hw:dA ((level:Int) + 1)=((level + 1:Nat):Int):=GV (by omega); have:=zB (F:=fun k (_:Unit) i=>yx (qc (n + 1)) v (level:Int) k i) (l:=v.bH) (body:=fun _ e1 _ r=>ay (qc (n + 1) e1 ((level + 1:Nat):Int)) fun e2=>if e2 != 0 then some e2 else r ()) (fin:=fun _=>some 0) (by omega) (fun k s i=>by rw [←hw]; rfl) (); rw [this,agb v.bH 0 fun x hx=>VD n x (level + 1) (by have:=sJ hx; omega) (by have:=sJ hx; omega) (by omega)]; simp only [h0,decide_false,Bool.false_eq_true,if_false,bA]; cases h1:(decide (v.kind < 0) || decide (5 < v.kind)) with
   | true=>simp
   | false=>
    cases h2:Ku v with
    | false=>simp
    | true=>
     simp only [Bool.false_eq_true,if_false,Bool.not_true,bA,Bool.or_self]; split
     · simp
     ·
      split
      · simp
      ·
       have h4:decide ((4:Int)≤v.kind)=((v.kind == 4) || (v.kind == 5)):=by
        simp only [Bool.or_eq_false_iff,decide_eq_false_iff_not] at h1; rw [Bool.eq_iff_iff]; simp only [Bool.or_eq_true,decide_eq_true_eq,beq_iff_eq]; omega
       rw [h4]
       cases h3:(v.kind == 5) <;> cases h5:(((v.keys.length:Int) == (v.bH.length:Int)) && R9 none v.keys) <;> simp <;> (first | rfl | (split <;> simp <;> rename_i hq <;> (first
        | exact fun hh=>absurd hq.2 (hh hq.1.1 hq.1.2)
        | exact fun a b c=>absurd ⟨⟨a,b⟩,c⟩ hq)))
theorem acW {v:ah} (h:v.bulk < 4611686018427387904):EM v=some (GX v 1):=by
 obtain ⟨n,hn,hn2⟩:=Jo; unfold EM MN; rw [hn]; exact VD n v 1 (by omega) h (by omega)
def OZ (c:Int):Bool × Option Int:=if c != 0 then (false,some c) else (true,none)
theorem aeU {v:ah} (hv:v.bulk < 4611686018427387904) (level:Nat):mO none (level:Int) v=some (OZ (Cq v level)):=by
 unfold mO OZ; simp only [abR hv,bA]; by_cases h:Cq v level=0 <;> simp [h]
theorem acf {go:Option Int→ah→Int→Option (Bool × Option Int)} {level:Nat}:∀ (l:List ah) (i:Nat),(∀ x∈l,go none x ((level + 1:Nat):Int)=some (OZ (GX x (level + 1))))→
  zu (fun _ x1 (s1:Option Int) r=>fJ (go s1 x1 ((level + 1:Nat):Int)) fun b1 s2=>if !b1 then some (false,s2) else r s2) (fun s1=>some (true,s1)) i l none=some (OZ (Ht l (level + 1)))
 | [],i,_=>by simp [zu,Ht,OZ]
 | x :: r,i,h=>by
  rw [zu,h x (by simp),Ht]; by_cases hc:GX x (level + 1)=0
  ·
   simp only [hc,OZ,bne_self_eq_false,Bool.false_eq_true,if_false,u6,Bool.not_true]; rw [acf r (i + 1) (fun y hy=>h y (by simp [hy]))]; rfl
  · simp [hc,OZ]
theorem Zo :∀ (n:Nat) (v:ah) (level:Nat),v.bulk≤n→v.bulk < 4611686018427387904→level≤17→pX mO (n + 1) none v (level:Int)=some (OZ (GX v level))
 | 0,v,_,h,_,_=>by have:=v.AL; omega
 | n + 1,v,level,h,hB,hlv=>by
  have hl:=EG v; rw [Ti]; unfold pX BA; rw [aeU hB]; by_cases h0:Cq v level=0
  ·
   have ahD:level≤16:=by
    rcases Nat.lt_or_ge 16 level with h | h
    · unfold Cq at h0; simp [h] at h0
    · exact h
   have hw:dA ((level:Int) + 1)=((level + 1:Nat):Int):=GV (by omega); have:=zB (F:=fun k s i=>vZ (pX mO (n + 1)) v (level:Int) k s i) (l:=v.bH) (body:=fun _ x1 (s1:Option Int) r=>fJ (pX mO (n + 1) s1 x1 ((level + 1:Nat):Int)) fun b1 s2=>if !b1 then some (false,s2) else r s2) (fin:=fun s1=>some (true,s1)) (by omega) (fun k s i=>by rw [←hw]; rfl) none; simp only [h0,OZ,bne_self_eq_false,Bool.false_eq_true,if_false,u6,Bool.not_true]; rw [this,acf v.bH 0 fun x hx=>Zo n x (level + 1) (by have:=sJ hx; omega) (by have:=sJ hx; omega) (by omega)]; rfl
  · simp [h0,OZ]
theorem Yl {v:ah} (h:v.bulk < 4611686018427387904):l5 v=some (GX v 1):=by
 obtain ⟨n,hn,hn2⟩:=Jo; unfold l5 Fj; rw [hn,show (1:Int)=((1:Nat):Int) from rfl,Zo n v 1 (by omega) h (by omega)]; unfold OZ; by_cases hc:GX v 1=0 <;> simp [hc]
end Go.Ft
namespace Go.Ft
open Go
attribute [local congr] FV
inductive Ty where
 | leaf (k:Int)
 | nest (k:Int) (t:Ty)
namespace Ty
def api :Ty→aD
 | leaf k=>⟨k,[]⟩
 | nest k t=>⟨k,[t.api]⟩
def wf :Ty→Prop
 | leaf k=>0≤k∧k≤7∧k≠5∧k≠6
 | nest k t=>(k=5∨k=6)∧t.wf
def dep :Ty→Nat
 | leaf _=>1
 | nest _ t=>1 + t.dep
def kind :Ty→Int
 | leaf k=>k
 | nest k _=>k
theorem agh (t:Ty):t.api.kind=t.kind:=by cases t <;> rfl
theorem OQ (t:Ty):1≤t.dep:=by cases t <;> simp [dep] <;> omega
end Ty
theorem PK {k:Int} (h:0≤k∧k≤7):∃ s,rC k=some s∧(s == ([]:Str))=false:=by
 obtain ⟨n,rfl⟩:∃ n:Nat,k=n:=⟨k.toNat,by omega⟩; have hn:n < 8:=by omega
 match n,hn with
 | 0,_=>exact ⟨_,rfl,rfl⟩
 | 1,_=>exact ⟨_,rfl,rfl⟩
 | 2,_=>exact ⟨_,rfl,rfl⟩
 | 3,_=>exact ⟨_,rfl,rfl⟩
 | 4,_=>exact ⟨_,rfl,rfl⟩
 | 5,_=>exact ⟨_,rfl,rfl⟩
 | 6,_=>exact ⟨_,rfl,rfl⟩
 | 7,_=>exact ⟨_,rfl,rfl⟩
theorem aav {k:Int} (h:¬ (0≤k∧k≤7)):rC k=some []:=by
 unfold rC; rw [if_pos (by simp; omega)]
theorem ZE :∀ (k level:Nat) (t:aD),18≤k + level→level≤17→∃ c,kT k (level:Int) t=some c∧uo k t (level:Int)=some c∧(c=0→∃ T:Ty,T.wf∧t=T.api∧T.dep + level≤17)
 | 0,level,t,h,h'=>by omega
 | k + 1,level,t,h,h'=>by
  rw [kT,uo,DJ]; have h16:decide ((16:Int) < (level:Int))=decide (16 < level):=by congr 1; simp; omega
  rw [h16]; by_cases h0:16 < level
  · exact ⟨13,by simp [h0],by simp [h0],by simp⟩
  ·
   simp only [h0,decide_false,Bool.false_eq_true,if_false]; by_cases hk:0≤t.kind∧t.kind≤7
   ·
    obtain ⟨s,hs,hs2⟩:=PK hk; have hb:(decide (t.kind < 0) || decide (7 < t.kind))=false:=by simp; omega
    rw [hs,hb]; simp only [bA,hs2,gN,sM,Bool.false_eq_true,if_false]; cases hn:((t.kind == 5) || (t.kind == 6)) with
    | false=>
     simp only [Bool.false_and,Bool.not_false,Bool.true_and,Bool.false_eq_true,if_false,bA,if_true]; cases he:t.elem with
     | nil=>
      refine ⟨0,by simp,by simp,fun _=>⟨.leaf t.kind,?_,?_,?_⟩⟩
      · simp at hn; exact ⟨hk.1,hk.2,hn.1,hn.2⟩
      · cases t; simp at he; subst he; rfl
      · simp only [Ty.dep]; omega
     | cons x r=>exact ⟨1,by first | (simp; done) | (simp; omega),by first | (simp; done) | (simp; omega),by simp⟩
    | true=>
     simp only [Bool.true_and,Bool.not_true,Bool.false_and,bA,Bool.false_eq_true,if_false]; have hnk:t.kind=5∨t.kind=6:=by simpa using hn
     match he:t.elem with
     | []=>exact ⟨1,by simp,by simp,by simp⟩
     | [x]=>
      obtain ⟨c,c1,c2,c3⟩:=ZE k (level + 1) x (by omega) (by omega); have hw:dA ((level:Int) + 1)=((level + 1:Nat):Int):=GV (by omega); refine ⟨c,?_,?_,fun hc=>?_⟩
      · rw [hw,←c1]; simp [idx]
      · rw [hw,←c2]; simp [idx]
      ·
       obtain ⟨T,w1,w2,w3⟩:=c3 hc; refine ⟨.nest t.kind T,⟨hnk,w1⟩,?_,?_⟩
       · cases t; simp at he; subst he; simp [Ty.api,w2]
       · simp only [Ty.dep]; omega
     | x :: y :: r=>
      have hl:(((x :: y :: r).length:Int) != 1)=true:=by simp only [List.length_cons,bne_iff_ne]; omega
      exact ⟨1,by simp only [hl,if_true,bA],by simp only [hl,if_true],by simp⟩
   ·
    have hb:(decide (t.kind < 0) || decide (7 < t.kind))=true:=by simp; omega
    rw [aav hk,hb]; exact ⟨1,by simp,by simp,by simp⟩
theorem ach :∀ (T:Ty) (k level:Nat),T.wf→T.dep + level≤17→18≤k + level→kT k (level:Int) T.api=some 0
 | .leaf a,0,level,_,h,h'=>by simp only [Ty.dep] at h; omega
 | .leaf a,k + 1,level,hw,h,h'=>by
  simp only [Ty.dep] at h; have h16:decide ((16:Int) < (level:Int))=false:=decide_eq_false (by omega); obtain ⟨s,hs,hs2⟩:=PK (k:=a) ⟨hw.1,hw.2.1⟩; have hn:((a == 5) || (a == 6))=false:=by simp; exact ⟨hw.2.2.1,hw.2.2.2⟩
  simp [kT,h16,Ty.api,hs,beq_eq_false_iff_ne.1 hs2,gN,hn]
 | .nest a T,0,level,_,h,h'=>by simp only [Ty.dep] at h; have:=T.OQ; omega
 | .nest a T,k + 1,level,hw,h,h'=>by
  simp only [Ty.dep] at h; have hd:=T.OQ; have h16:decide ((16:Int) < (level:Int))=false:=decide_eq_false (by omega); have hn:((a == 5) || (a == 6))=true:=by simpa using hw.1
  obtain ⟨s,hs,hs2⟩:=PK (k:=a) (by rcases hw.1 with h | h <;> omega); have hw64:dA ((level:Int) + 1)=((level + 1:Nat):Int):=GV (by omega); have:=ach T k (level + 1) hw.2 (by omega) (by omega); rw [←this,←hw64]; simp [kT,h16,Ty.api,hs,beq_eq_false_iff_ne.1 hs2,gN,hn,idx]
def UL (t:aD):Int:=(pY t).getD 0
theorem Lb (t:aD):pY t=some (UL t)∧Cg t=some (UL t)∧(UL t=0→∃ T:Ty,T.wf∧t=T.api∧T.dep≤16):=by
 obtain ⟨c,c1,c2,c3⟩:=ZE BIG 1 t (by have:=qB; omega) (by omega); have e1:pY t=some c:=c1; have e2:Cg t=some c:=c2; have:UL t=c:=by unfold UL; rw [e1]; rfl
 rw [this]; exact ⟨e1,e2,fun h=>by obtain ⟨T,a,b,d⟩:=c3 h; exact ⟨T,a,b,by omega⟩⟩
theorem XB {T:Ty} (h:T.wf) (hd:T.dep≤16):UL T.api=0:=by
 have:=ach T BIG 1 h (by omega) (by have:=qB; omega); have e1:pY T.api=some 0:=this; unfold UL; rw [e1]; rfl
theorem X_ :∀ (T:Ty) (n:Nat),T.wf→T.dep≤n→mV n T.api=some T.api
 | .leaf a,0,_,h=>by simp [Ty.dep] at h
 | .leaf a,n + 1,hw,h=>by
  have hn:((a == 5) || (a == 6))=false:=by simp; exact ⟨hw.2.2.1,hw.2.2.2⟩
  simp [mV,uj,gN,Ty.api,hn,gM]
 | .nest a T,0,_,h=>by simp only [Ty.dep] at h; omega
 | .nest a T,n + 1,hw,h=>by
  simp only [Ty.dep] at h; have hn:((a == 5) || (a == 6))=true:=by simpa using hw.1
  have:=X_ T n hw.2 (by omega); simp [mV,uj,gN,Ty.api,hn,m_,idx,this]
theorem Au {T:Ty} (h:T.wf) (hd:T.dep≤1000):BI T.api=some T.api:=X_ T BIG h (by have:=qB; omega)
def vN :Ty→Ty→Ty
 | .leaf a,.leaf b=>if a=7 then .leaf b else if b=7 then .leaf a else if a=b then .leaf a else .leaf 0
 | .leaf a,.nest b y=>if a=7 then .nest b y else .leaf 0
 | .nest a x,.leaf b=>if b=7 then .nest a x else .leaf 0
 | .nest a x,.nest b y=>if a=b then .nest a (vN x y) else .leaf 0
theorem Sz :∀ (a b:Ty),(vN a b).dep≤max a.dep b.dep
 | .leaf a,.leaf b=>by
  rw [vN]; repeat' split
  all_goals simp only [Ty.dep]; omega
 | .leaf a,.nest b y=>by
  rw [vN]; split
  all_goals simp only [Ty.dep]; omega
 | .nest a x,.leaf b=>by
  rw [vN]; split
  all_goals simp only [Ty.dep]; omega
 | .nest a x,.nest b y=>by
  have:=Sz x y; rw [vN]; split
  all_goals simp only [Ty.dep]; omega
theorem Vl :∀ (a b:Ty),a.wf→b.wf→(vN a b).wf
 | .leaf a,.leaf b,ha,hb=>by
  rw [vN]; repeat' split
  · exact hb
  · exact ha
  · exact ha
  · simp [Ty.wf]
 | .leaf a,.nest b y,ha,hb=>by
  rw [vN]; split
  · exact hb
  · simp [Ty.wf]
 | .nest a x,.leaf b,ha,hb=>by
  rw [vN]; split
  · exact ha
  · simp [Ty.wf]
 | .nest a x,.nest b y,ha,hb=>by
  have:=Vl x y ha.2 hb.2; rw [vN]; split
  · exact ⟨ha.1,this⟩
  · simp [Ty.wf]
theorem aaz :∀ (n:Nat) (a b:Ty),a.wf→b.wf→a.dep≤n→a.dep≤1000→b.dep≤1000→lJ n a.api b.api=some (vN a b).api∧qA n a.api b.api=some (vN a b).api
 | 0,a,b,_,_,h,_,_=>by have:=a.OQ; omega
 | n + 1,.leaf x,.leaf y,ha,hb,h,h1,h2=>by
  rw [lJ,qz,qA,xu,vN,Au ha h1,Au hb h2]; have hn:((x == 5) || (x == 6))=false:=by simp; exact ⟨ha.2.2.1,ha.2.2.2⟩
  by_cases k1:x=7
  · simp [k1,Ty.api]
  ·
   by_cases k2:y=7
   · simp [k1,k2,Ty.api]
   ·
    by_cases k3:x=y
    · subst k3; simp [k1,Ty.api,gN,sM,hn,gM]
    · simp [k1,k2,k3,Ty.api,gM,oD]
 | n + 1,.leaf x,.nest y t,ha,hb,h,h1,h2=>by
  rw [lJ,qz,qA,xu,vN,Au ha h1,Au hb h2]; have k2:¬ y=7:=by rcases hb.1 with h | h <;> omega
  have k3:¬ x=y:=by
   rintro rfl; rcases hb.1 with h | h
   · exact ha.2.2.1 h
   · exact ha.2.2.2 h
  by_cases k1:x=7
  · simp [k1,Ty.api]
  · simp [k1,k2,k3,Ty.api,gM,oD]
 | n + 1,.nest x s,.leaf y,ha,hb,h,h1,h2=>by
  rw [lJ,qz,qA,xu,vN,Au ha h1,Au hb h2]; have k1:¬ x=7:=by rcases ha.1 with h | h <;> omega
  have k3:¬ x=y:=by
   rintro rfl; rcases ha.1 with h | h
   · exact hb.2.2.1 h
   · exact hb.2.2.2 h
  by_cases k2:y=7
  · simp [k1,k2,Ty.api]
  · simp [k1,k2,k3,Ty.api,gM,oD]
 | n + 1,.nest x s,.nest y t,ha,hb,h,h1,h2=>by
  rw [lJ,qz,qA,xu,vN,Au ha h1,Au hb h2]; have k1:¬ x=7:=by rcases ha.1 with h | h <;> omega
  have k2:¬ y=7:=by rcases hb.1 with h | h <;> omega
  have hn:((x == 5) || (x == 6))=true:=by simp; exact ha.1
  simp only [Ty.dep] at h h1 h2; obtain ⟨i1,i2⟩:=aaz n s t ha.2 hb.2 (by omega) (by omega) (by omega); by_cases k3:x=y
  · subst k3; simp [k1,Ty.api,gN,sM,hn,m_,uq,idx,i1,i2]
  · simp [k1,k2,k3,Ty.api,gM,oD]
theorem join_eq {a b:Ty} (ha:a.wf) (hb:b.wf) (h1:a.dep≤1000) (h2:b.dep≤1000):Dz a.api b.api=some (vN a b).api∧Lu a.api b.api=some (vN a b).api:=
 aaz BIG a b ha hb (by have:=qB; omega) h1 h2
end Go.Ft
namespace Go.Ft
open Go
attribute [local congr] FV
def ZT :aD:=aD.mk 0 []
def sc (k:Int):Ty:=.leaf k
def af8 (x:Option (aD × Bool)):Option (aD × Int):=
 fJ x fun x6 ok1=>if !ok1 then some (ZT,9) else ay (Cg x6) fun x7=>if x7 != 0 then some (ZT,13) else some (x6,0)
def RES (x y:Option (aD × Int)):Prop:=∃ (T:Ty) (c:Int),T.wf∧T.dep≤16∧(c≠0→T=sc 0)∧x=some (T.api,c)∧y=some (T.api,c)
theorem RES.mk {x:Option (aD × Int)} {y:Option (aD × Bool)} (T:Ty) (b:Bool) (hx:x=some (if b then (T.api,0) else (ZT,9))) (hy:y=some (T.api,b)) (hw:b=true→T.wf∧T.dep≤16):RES x (af8 y):=by
 subst hx hy; unfold af8; cases b with
 | false=>exact ⟨sc 0,9,by simp [sc,Ty.wf],by simp [sc,Ty.dep],fun _=>rfl,rfl,rfl⟩
 | true=>
  obtain ⟨h1,h2⟩:=hw rfl; refine ⟨T,0,h1,h2,fun h=>absurd rfl h,rfl,?_⟩; simp only [u6,Bool.not_true,Bool.false_eq_true,if_false,(Lb _).2.1,XB h1 h2]; rfl
end Go.Ft
namespace Go.Ft
open Go
attribute [local congr] FV
theorem any_ok {k:Int} (h:0≤k∧k≤7∧k≠5∧k≠6):(sc k).wf∧(sc k).dep≤16:=⟨h,by simp [sc,Ty.dep]⟩
end Go.Ft
namespace Go.Ft
open Go
attribute [local congr] FV
mutual
def WM :ah→Ty
 | ⟨k,_,_,_,l,_⟩=>if k=0 then sc 1 else if k=1 then sc 2 else if k=2 then sc 3 else if k=3 then sc 4 else .nest (if k=4 then 5 else 6) (WL l (sc 7))
def WL :List ah→Ty→Ty
 | [],t=>t
 | x :: r,t=>WL r (vN t (WM x))
end
theorem adY (v:ah):WM v=if v.kind=0 then sc 1 else if v.kind=1 then sc 2 else if v.kind=2 then sc 3 else if v.kind=3 then sc 4 else .nest (if v.kind=4 then 5 else 6) (WL v.bH (sc 7)):=by cases v; rw [WM]
theorem O9 {v:ah} {level:Nat} (h:Cq v level=0):level≤16∧0≤v.kind∧v.kind≤5∧(v.kind=4∨v.kind=5→v.bH=[]→level≠16):=by
 unfold Cq at h; by_cases h0:16 < level
 · simp [h0] at h
 ·
  rw [if_neg h0] at h; cases h1:(decide (v.kind < 0) || decide (5 < v.kind) || !Ku v) with
  | true=>rw [h1] at h; simp at h
  | false=>
   rw [h1] at h; simp only [Bool.or_eq_false_iff,decide_eq_false_iff_not] at h1; refine ⟨by omega,by omega,by omega,fun hk hl h16=>?_⟩
   have e1:((((v.kind == 4) || (v.kind == 5)) && ((v.bH.length:Int) == 0)) && (level == 16))=true:=by
    rw [hl,h16]; rcases hk with hk | hk <;> simp [hk]
   rw [e1] at h; simp only [Bool.false_eq_true,if_false,if_true] at h; split at h
   · omega
   ·
    split at h
    · omega
    · split at h <;> omega
theorem Sc :∀ {l:List ah} {level:Nat},Ht l level=0→∀ x∈l,GX x level=0
 | [],_,_,x,hx=>by cases hx
 | y :: r,level,h,x,hx=>by
  rw [Ht] at h; by_cases hy:GX y level=0
  ·
   rw [if_neg (by simpa using hy)] at h; rcases List.mem_cons.1 hx with rfl | hx
   · exact hy
   · exact Sc h x hx
  · rw [if_pos (by simpa using hy)] at h; exact absurd h hy
theorem Sb {v:ah} {level:Nat} (h:GX v level=0):Cq v level=0∧∀ x∈v.bH,GX x (level + 1)=0:=by
 rw [Ti] at h; by_cases hn:Cq v level=0
 ·
  rw [if_neg (by simpa using hn)] at h; exact ⟨hn,Sc h⟩
 · rw [if_pos (by simpa using hn)] at h; exact absurd h hn
theorem ofL {go:ah→Option aD} {join:aD→aD→Option aD} {K:aD→Option aD} {lv:Nat} (hlv:lv≤16) (hj:∀ a b:Ty,a.wf→b.wf→a.dep≤1000→b.dep≤1000→join a.api b.api=some (vN a b).api):
  ∀ (l:List ah) (t:Ty) (i:Nat),t.wf→t.dep + lv≤17→(∀ x∈l,go x=some (WM x).api∧(WM x).wf∧(WM x).dep + lv≤17)→
  zu (fun _ e1 (pF:aD) r=>ay (go e1) fun x7=>ay (join pF x7) fun x8=>r x8) K i l t.api=K (WL l t).api∧(WL l t).wf∧(WL l t).dep + lv≤17
 | [],t,i,h,hd,_=>⟨rfl,h,hd⟩
 | x :: r,t,i,h,hd,hl=>by
  obtain ⟨x1,x2,x3⟩:=hl x (by simp); have jd:=Sz t (WM x); rw [zu,x1,WL]; simp only [bA,hj t (WM x) h x2 (by omega) (by omega)]; exact ofL hlv hj r (vN t (WM x)) (i + 1) (Vl _ _ h x2) (by omega) fun y hy=>hl y (by simp [hy])
theorem afF :∀ (n:Nat) (v:ah) (level:Nat),v.bulk≤n→v.bulk < 4611686018427387904→GX v level=0→
  mP (n + 1) v=some (WM v).api∧yw (n + 1) v=some (WM v).api∧(WM v).wf∧(WM v).dep + level≤17
 | 0,v,_,h,_,_=>by have:=v.AL; omega
 | n + 1,v,level,h,hB,hc=>by
  obtain ⟨h0,hm⟩:=Sb hc; obtain ⟨z1,z2,z3,z4⟩:=O9 h0; have hl:=EG v; rw [mP,zU,yw,Ls,adY]; by_cases k0:v.kind=0
  · simp only [k0]; exact ⟨rfl,rfl,(any_ok (by omega)).1,by simp [sc,Ty.dep]; omega⟩
  by_cases k1:v.kind=1
  · simp only [k1]; exact ⟨rfl,rfl,(any_ok (by omega)).1,by simp [sc,Ty.dep]; omega⟩
  by_cases k2:v.kind=2
  · simp only [k2]; exact ⟨rfl,rfl,(any_ok (by omega)).1,by simp [sc,Ty.dep]; omega⟩
  by_cases k3:v.kind=3
  · simp only [k3]; exact ⟨rfl,rfl,(any_ok (by omega)).1,by simp [sc,Ty.dep]; omega⟩
  have k45:v.kind=4∨v.kind=5:=by omega
  have hlv:level≤15:=by
   by_cases hnil:v.bH=[]
   · have:=z4 k45 hnil; omega
   ·
    obtain ⟨x,hx⟩:=List.exists_mem_of_ne_nil _ hnil; have:=(O9 (Sb (hm x hx)).1).1; omega
  have e0:(v.kind == 0)=false:=by simpa using k0
  have e1:(v.kind == 1)=false:=by simpa using k1
  have e2:(v.kind == 2)=false:=by simpa using k2
  have e3:(v.kind == 3)=false:=by simpa using k3
  simp only [e0,e1,e2,e3,Bool.false_eq_true,if_false,k0,k1,k2,k3,bA]; have w7:(sc 7).wf∧(sc 7).dep + (level + 1)≤17:=⟨(any_ok (by omega)).1,by simp [sc,Ty.dep]; omega⟩; have ih:=fun x (hx:x∈v.bH)=>afF n x (level + 1) (by have:=sJ hx; omega) (by have:=sJ hx; omega) (hm x hx)
  have s1:=zB (F:=fun k s i=>uh (mP (n + 1)) v k i s) (l:=v.bH) (body:=fun _ e1 (pF:aD) r=>ay (mP (n + 1) e1) fun x7=>ay (Dz pF x7) fun x8=>r x8)
   (fin:=fun pF=>if v.kind == 4 then m_ 5 pF else m_ 6 pF) (by omega) (fun k s i=>rfl) (sc 7).api
  have s2:=zB (F:=fun k s i=>EK (yw (n + 1)) v k i s) (l:=v.bH) (body:=fun _ e1 (pF:aD) r=>ay (yw (n + 1) e1) fun x7=>ay (Lu pF x7) fun x8=>r x8)
   (fin:=fun t1=>if v.kind == 5 then uq 6 t1 else uq 5 t1) (by omega) (fun k s i=>rfl) (sc 7).api
  obtain ⟨a1,a2,a3⟩:=ofL (lv:=level + 1) (K:=fun pF=>if v.kind == 4 then m_ 5 pF else m_ 6 pF) (by omega) (fun a b x y z w=>(join_eq x y z w).1) v.bH (sc 7) 0 w7.1 w7.2 (fun x hx=>⟨(ih x hx).1,(ih x hx).2.2⟩); obtain ⟨b1,_,_⟩:=ofL (lv:=level + 1) (K:=fun t1=>if v.kind == 5 then uq 6 t1 else uq 5 t1) (by omega) (fun a b x y z w=>(join_eq x y z w).2) v.bH (sc 7) 0 w7.1 w7.2 (fun x hx=>⟨(ih x hx).2.1,(ih x hx).2.2⟩); have t7:gM 7=some (sc 7).api:=rfl; have p7:oD 7=some (sc 7).api:=rfl; rw [t7,p7]; simp only [bA]; rw [s1,a1,s2,b1]; refine ⟨?_,?_,⟨?_,a2⟩,by simp only [Ty.dep]; omega⟩
  · rcases k45 with k | k <;> simp [k,m_,Ty.api]
  · rcases k45 with k | k <;> simp [k,uq,Ty.api]
  ·
   split
   · exact .inl rfl
   · exact .inr rfl
end Go.Ft
namespace Go.Ft
open Go
attribute [local congr] FV
theorem Yv {a:ah} (ha:a.keys.length < 4611686018427387904) (go:ah→ah→Option Bool):xL go a a BIG 0=oh go a a BIG 0:=by
 rw [zB (F:=fun k (_:Unit) i=>xL go a a k i) (l:=a.keys) (body:=fun (i:Nat) e1 (_:Unit) r=>ay (idx a.keys (i:Int)) fun e2=>if !(e1 == e2) then some false else r ()) (fin:=fun _=>oh go a a BIG 0) ha (fun k s i=>rfl) ()]
 have key:∀ (t:List Str) (i:Nat),t=a.keys.drop i→zu (fun (i:Nat) e1 (_:Unit) r=>ay (idx a.keys (i:Int)) fun e2=>if !(e1 == e2) then some false else r ()) (fun _=>oh go a a BIG 0) i t ()=oh go a a BIG 0:=by
  intro t
  induction t with
  | nil=>intro i _; rfl
  | cons d t ih=>
   intro i ht
   have hi:i < a.keys.length:=by
    rcases Nat.lt_or_ge i a.keys.length with h | h
    · exact h
    · rw [List.drop_eq_nil_of_le h] at ht; cases ht
   have hc:=List.drop_eq_getElem_cons hi; rw [←ht] at hc; have e1':=(List.cons.inj hc).1; have e2':=(List.cons.inj hc).2; rw [zu,FW hi,bA,←e1',if_neg (by simp)]; exact ih (i + 1) e2'
 exact key _ 0 rfl
theorem Wt {a:ah} (ha:a.bH.length < 4611686018427387904) {go:ah→ah→Option Bool} (h:∀ x∈a.bH,go x x=some true):oh go a a BIG 0=some true:=by
 rw [zB (F:=fun k (_:Unit) i=>oh go a a k i) (l:=a.bH) (body:=fun (i:Nat) e1 (_:Unit) r=>ay (idx a.bH (i:Int)) fun e2=>ay (go e1 e2) fun x1=>if !x1 then some false else r ()) (fin:=fun _=>some true) ha (fun k s i=>rfl) ()]
 have key:∀ (t:List ah) (i:Nat),t=a.bH.drop i→zu (fun (i:Nat) e1 (_:Unit) r=>ay (idx a.bH (i:Int)) fun e2=>ay (go e1 e2) fun x1=>if !x1 then some false else r ()) (fun _=>some true) i t ()=some true:=by
  intro t
  induction t with
  | nil=>intro i _; rfl
  | cons d t ih=>
   intro i ht
   have hi:i < a.bH.length:=by
    rcases Nat.lt_or_ge i a.bH.length with h | h
    · exact h
    · rw [List.drop_eq_nil_of_le h] at ht; cases ht
   have hc:=List.drop_eq_getElem_cons hi; rw [←ht] at hc; have e1':=(List.cons.inj hc).1; have e2':=(List.cons.inj hc).2; rw [zu,FW hi,bA,←e1',h d (by rw [e1']; exact List.getElem_mem hi),bA,if_neg (by simp)]; exact ih (i + 1) e2'
 exact key _ 0 rfl
theorem XO :∀ (n:Nat) (v:ah),v.bulk≤n→v.bulk < 4611686018427387904→xw (n + 1) v v=some true
 | 0,v,h,_=>by have:=v.AL; omega
 | n + 1,v,h,hb=>by
  have hl:=EG v; have hk:=Jq v; rw [xw,Fy,if_neg (by simp),Yv (by omega)]; exact Wt (by omega) fun x hx=>XO n x (by have:=sJ hx; omega) (by have:=sJ hx; omega)
theorem ae4 {v:ah} (h:v.bulk < 4611686018427387904):Lx v v=some true:=by
 obtain ⟨n,hn,hn2⟩:=Jo; unfold Lx; rw [hn]; exact XO n v (by omega) h
end Go.Ft
namespace Go.Ft
open Go
attribute [local congr] FV
abbrev agj :ah:=ah.mk 0 false 0 ([]:Str) [] []
theorem Qn {go:ah→Option ah} {l:List ah} (hl:l.length < 4611686018427387904) (hg:∀ x∈l,go x=some x):∀ kk i:Nat,l.length < kk + i→i≤l.length→kH go (l.length:Int) kk l (i:Int)=some l
 | 0,i,h,h'=>by omega
 | kk + 1,i,h,h'=>by
  rw [kH]; by_cases hi:i < l.length
  ·
   rw [if_pos (by simpa using hi),FW hi,bA,hg _ (List.getElem_mem hi),bA,GV (by omega),Int.toNat_natCast,List.set_getElem_self]; exact Qn hl hg kk (i + 1) (by omega) (by omega)
  · rw [if_neg (by simp; omega)]
theorem X8 :∀ (n:Nat) (v:ah),v.bulk≤n→v.bulk≤OU→lq (n + 1) v=some v
 | 0,v,h,_=>by have:=v.AL; omega
 | n + 1,v,h,hb=>by
  have hL:OU=4294967296:=rfl; have hl:=EG v; have hk:=Jq v; rw [lq,p8]; unfold fM eG
  rw [Xm (by simp; omega),bA,Xm (by simp; omega),bA,List.nil_append,List.nil_append,show (0:Int)=((0:Nat):Int) from rfl,
   Qn (by omega) (fun x hx=>X8 n x (by have:=sJ hx; omega) (by have:=sJ hx; omega)) BIG 0 (by have:=qB; omega) (by omega)]
  cases v; rfl
theorem copyV {v:ah} (h:v.bulk≤OU):mD v=some v:=by
 have hL:OU=4294967296:=rfl; obtain ⟨n,hn,hn2⟩:=Jo; unfold mD; rw [hn]; exact X8 n v (by omega) h
theorem Ye :EU=some true:=by kernel_rfl
end Go.Ft
namespace Go.Ft
open Go
attribute [local congr] FV
def Wo :Ty→Ty→Bool
 | .leaf a,.leaf b=>((a == 7) || (b == 0)) || (a == b)
 | .leaf a,.nest _ _=>a == 7
 | .nest _ _,.leaf b=>b == 0
 | .nest a x,.nest b y=>(a == b) && Wo x y
theorem UF :∀ (n:Nat) (a b:Ty),a.wf→b.wf→a.dep≤n→jU n a.api b.api=some (Wo a b)∧jV n a.api b.api=some (Wo a b)
 | 0,a,b,_,_,h=>by have:=a.OQ; omega
 | n + 1,.leaf x,.leaf y,ha,hb,h=>by
  have k5:(x == 5)=false:=by simpa using ha.2.2.1
  have k6:(x == 6)=false:=by simpa using ha.2.2.2
  rw [jU,nJ,jV,nL,Wo]; simp only [gN,sM,Ty.api,bA,k5,k6,Bool.or_self,Bool.false_eq_true,if_false,Bool.not_false,if_true]; cases k:(x == 7) || (y == 0) with
  | true=>simp
  | false=>
   by_cases hxy:x=y
   · subst hxy; simp
   · simp [hxy]
 | n + 1,.leaf x,.nest y t,ha,hb,h=>by
  rw [jU,nJ,jV,nL,Wo]; have k2:(y == 0)=false:=by simp; rcases hb.1 with h | h <;> omega
  have k3:(x != y)=true:=by
   simp only [bne_iff_ne]; rintro rfl; rcases hb.1 with h | h
   · exact ha.2.2.1 h
   · exact ha.2.2.2 h
  simp only [Ty.api,k2,k3,Bool.or_false,if_true]; cases (x == 7) <;> simp
 | n + 1,.nest x s,.leaf y,ha,hb,h=>by
  rw [jU,nJ,jV,nL,Wo]; have k1:(x == 7)=false:=by simp; rcases ha.1 with h | h <;> omega
  have k3:(x != y)=true:=by
   simp only [bne_iff_ne]; rintro rfl; rcases ha.1 with h | h
   · exact hb.2.2.1 h
   · exact hb.2.2.2 h
  simp only [Ty.api,k1,k3,Bool.false_or,if_true]; cases (y == 0) <;> simp
 | n + 1,.nest x s,.nest y t,ha,hb,h=>by
  rw [jU,nJ,jV,nL,Wo]; have k1:(x == 7)=false:=by simp; rcases ha.1 with h | h <;> omega
  have k2:(y == 0)=false:=by simp; rcases hb.1 with h | h <;> omega
  have k3:((x == 5) || (x == 6))=true:=by rcases ha.1 with h | h <;> simp [h]
  simp only [Ty.dep] at h; obtain ⟨ih,ih2⟩:=UF n s t ha.2 hb.2 (by omega); simp only [gN,sM,Ty.api,bA,k1,k2,k3,Bool.or_self,Bool.false_eq_true,if_false,if_true,Bool.not_true]; by_cases hxy:x=y
  · subst hxy; simp [idx,ih,ih2]
  · simp [hxy]
theorem YO (v:ah) (t:aD) (hb:v.bulk < 4611686018427387904):∃ b,xH v t=some b∧H9 v t=some b:=by
 unfold xH H9; rw [Yl hb,acW hb,bA,bA]; by_cases hc:GX v 1=0
 ·
  obtain ⟨n,hn,hn2⟩:=Jo; obtain ⟨a1,a2,a3,a4⟩:=afF n v 1 (by omega) hb hc; unfold Hz Fu DC Eb Wy Ee; rw [if_pos (by simpa using hc),if_pos (by simpa using hc),hn,a1,a2,bA,(Lb (WM v).api).1,XB a3 (by omega),bA,if_pos (by simp),(Lb t).1,(Lb t).2.1,bA,bA,bA,bA]; by_cases ht:UL t=0
  ·
   obtain ⟨T,h1,rfl,h2⟩:=(Lb t).2.2 ht; obtain ⟨w1,w2⟩:=UF (n + 1) (WM v) T a3 h1 (by omega); rw [if_pos (by simpa using ht),if_pos (by simpa using ht),w1]
   first | rw [w2] | rw [bA,if_pos rfl,w2]
   exact ⟨_,rfl,rfl⟩
  ·
   rw [if_neg (by simpa using ht),if_neg (by simpa using ht)]; exact ⟨_,rfl,rfl⟩
 ·
  rw [if_neg (by simpa using hc),if_neg (by simpa using hc),bA,if_neg (by decide)]; exact ⟨_,rfl,rfl⟩
def WV {α:Type} (p:α→Bool):List α→Nat→Int
 | [],_=>-1
 | x :: r,i=>if p x then (i:Int) else WV p r (i + 1)
theorem SB {α:Type} (p:α→Bool):∀ (l:List α) (i:Nat),WV p l i=-1∨∃ k,∃ h:k < l.length,WV p l i=((i + k:Nat):Int)∧p l[k]=true
 | [],i=>.inl rfl
 | x :: r,i=>by
  rw [WV]; by_cases h:p x=true
  · rw [if_pos h]; exact .inr ⟨0,by simp,rfl,h⟩
  ·
   rw [if_neg h]; rcases SB p r (i + 1) with h1 | ⟨k,hk,h1,h2⟩
   · exact .inl h1
   · exact .inr ⟨k + 1,by simpa using hk,by rw [h1]; exact congrArg Int.ofNat (by omega),by simpa using h2⟩
theorem ixV (p:aA→Bool) (s:List aA) (hs:s.length < 4611686018427387904):∀ (kk i:Nat),s.length < kk + i→i≤s.length→fF s (fun z=>some (p z)) kk i=some (WV p (s.drop i) i)
 | 0,i,h,h'=>by omega
 | kk + 1,i,h,h'=>by
  rw [fF]; by_cases hi:i < s.length
  ·
   rw [if_pos (by simpa using hi),FW hi,bA,bA,List.drop_eq_getElem_cons hi,WV,GV (by omega),ixV p s hs kk (i + 1) (by omega) (by omega)]; by_cases hp:p s[i]=true
   · rw [if_pos hp,if_pos hp]
   · rw [if_neg hp,if_neg hp]
  ·
   rw [if_neg (by simp; omega),List.drop_of_length_le (by omega)]; rfl
theorem ixP (p:aQ→Bool) (s:List aQ) (hs:s.length < 4611686018427387904):∀ (kk i:Nat),s.length < kk + i→i≤s.length→eT s (fun z=>some (p z)) kk i=some (WV p (s.drop i) i)
 | 0,i,h,h'=>by omega
 | kk + 1,i,h,h'=>by
  rw [eT]; by_cases hi:i < s.length
  ·
   rw [if_pos (by simpa using hi),FW hi,bA,bA,List.drop_eq_getElem_cons hi,WV,GV (by omega),ixP p s hs kk (i + 1) (by omega) (by omega)]; by_cases hp:p s[i]=true
   · rw [if_pos hp,if_pos hp]
   · rw [if_neg hp,if_neg hp]
  ·
   rw [if_neg (by simp; omega),List.drop_of_length_le (by omega)]; rfl
theorem ixR (n:Str) (s:List aQ) (hs:s.length < 4611686018427387904):∀ (kk i:Nat),s.length < kk + i→i≤s.length→xJ s n kk i=some (WV (fun z=>z.name == n) (s.drop i) i)
 | 0,i,h,h'=>by omega
 | kk + 1,i,h,h'=>by
  rw [xJ]; by_cases hi:i < s.length
  ·
   rw [if_pos (by simpa using hi),FW hi,bA,List.drop_eq_getElem_cons hi,WV,GV (by omega),ixR n s hs kk (i + 1) (by omega) (by omega)]; by_cases hp:(s[i].name == n)=true
   · rw [if_pos hp,if_pos hp]
   · rw [if_neg hp,if_neg hp]
  ·
   rw [if_neg (by simp; omega),List.drop_of_length_le (by omega)]; rfl
def gv (n:Str):List aA→ah × Bool
 | []=>(agj,false)
 | x :: r=>if x.name == n then (x.value,true) else gv n r
theorem aaG (n:Str):∀ l:List aA,(gv n l).2=true→∃ x∈l,(gv n l).1=x.value
 | [],h=>by cases h
 | x :: r,h=>by
  rw [gv] at h ⊢; by_cases hx:(x.name == n)=true
  · rw [if_pos hx]; exact ⟨x,by simp,rfl⟩
  ·
   rw [if_neg hx] at h ⊢; obtain ⟨y,hy,e⟩:=aaG n r h; exact ⟨y,by simp [hy],e⟩
theorem acN (n:Str) (vars:List aA):∀ (l:List aA) (i:Nat),vars.drop i=l→(if decide (WV (fun z:aA=>z.name == n) l i < 0) then some (agj,false) else ay (idx vars (WV (fun z:aA=>z.name == n) l i)) fun e1=>some (e1.value,true))=some (gv n l)
 | [],i,h=>by rw [WV,if_pos (by decide)]; rfl
 | x :: r,i,h=>by
  have hi:i < vars.length:=by
   rcases Nat.lt_or_ge i vars.length with h' | h'
   · exact h'
   · rw [List.drop_of_length_le h'] at h; cases h
  rw [List.drop_eq_getElem_cons hi] at h; obtain ⟨rfl,h2⟩:=List.cons.inj h; rw [WV,gv]; by_cases hx:(vars[i].name == n)=true
  · rw [if_pos hx,if_pos hx,if_neg (by rw [decide_eq_true_eq]; omega),FW hi,bA]
  ·
   rw [if_neg hx,if_neg hx]; exact acN n vars r (i + 1) h2
theorem find_eq (vars:List aA) (n:Str) (hs:vars.length < 4611686018427387904):n_ vars n=some (gv n vars):=by
 unfold n_ iA; rw [show (fun z0=>r_ z0 n)=fun z:aA=>some (z.name == n) from rfl,show (0:Int)=((0:Nat):Int) from rfl,ixV _ _ hs BIG 0 (by have:=qB; omega) (by omega),bA]; exact acN n vars vars 0 rfl
theorem SE (n:Str) (s:List aA) (hs:s.length < 4611686018427387904):∀ (kk i:Nat),s.length < kk + i→i≤s.length→vk s n kk i=some (gv n (s.drop i))
 | 0,i,h,h'=>by omega
 | kk + 1,i,h,h'=>by
  rw [vk]; by_cases hi:i < s.length
  ·
   rw [if_pos (by simpa using hi),FW hi,bA,bA,List.drop_eq_getElem_cons hi,gv,GV (by omega),SE n s hs kk (i + 1) (by omega) (by omega)]; by_cases hp:(s[i].name == n)=true
   · rw [if_pos hp,if_pos hp]
   · rw [if_neg hp,if_neg hp]
  ·
   rw [if_neg (by simp; omega),List.drop_of_length_le (by omega)]; rfl
theorem Vq (vars:List aA) (n:Str) (hs:vars.length < 4611686018427387904):Ce vars n=some (gv n vars):=by
 unfold Ce; exact SE n vars hs BIG 0 (by have:=qB; omega) (by omega)
theorem XM (l:List aA) (hl:l.length < 4611686018427387904) (hv:∀ x∈l,x.value.bulk < 4611686018427387904):∀ k i:Nat,l.length < k + i→i≤l.length→pR l l k (i:Int)=some true
 | 0,i,h,h'=>by omega
 | k + 1,i,h,h'=>by
  rw [pR]; by_cases hi:i < l.length
  ·
   rw [if_pos (by simpa using hi),FW hi]; simp only [bA,beq_self_eq_true,Bool.not_true,Bool.false_eq_true,if_false,ae4 (hv _ (List.getElem_mem hi))]; rw [GV (by omega)]; exact XM l hl hv k (i + 1) (by omega) (by omega)
  · rw [if_neg (by simp; omega)]
theorem Yw {l:List aA} (hl:l.length < 4611686018427387904) (hv:∀ x∈l,x.value.bulk < 4611686018427387904):yA l l=some true:=by
 unfold yA; rw [if_neg (by simp)]; exact XM l hl hv BIG 0 (by have:=qB; omega) (by omega)
theorem VR {ps:List aQ} {args:List aA} (hp:ps.length≤300) (ha:args.length≤300) (pd:∀ x∈ps,x.default.bulk≤1048576) (av:∀ x∈args,x.value.bulk≤1048576):∀ (kk i:Nat) (out:List aA),ps.length < kk + i→i≤ps.length→out.length=i→(∀ x∈out,x.value.bulk≤1048576)→∃ r,j3 ps args kk out i=some r∧rE ps args kk out i=some r∧r.1.length≤300∧∀ x∈r.1,x.value.bulk≤1048576
 | 0,i,_,h,h',_,_=>by omega
 | kk + 1,i,out,h,h',ho,hv=>by
  have hL:OU=4294967296:=rfl; rw [j3,rE]; by_cases hi:i < ps.length
  ·
   rw [if_pos (by simpa using hi),if_pos (by simpa using hi),FW hi,bA,bA,find_eq _ _ (by omega),Vq _ _ (by omega)]; have hm:=aaG ps[i].name args; generalize gv ps[i].name args=g at *; obtain ⟨v,is⟩:=g; rw [u6,u6]
   have go:∀ w:ah,w.bulk≤1048576→∃ r,(ay (app out [aA.mk ps[i].name w]) fun jJ=>j3 ps args kk jJ (dA ((i:Int) + 1)))=some r∧(ay (app out [aA.mk ps[i].name w]) fun jJ=>rE ps args kk jJ (dA ((i:Int) + 1)))=some r∧r.1.length≤300∧∀ x∈r.1,x.value.bulk≤1048576:=by
    intro w hw; rw [Xm (by simp; omega),bA,bA,GV (by omega)]; refine VR hp ha pd av kk (i + 1) _ (by omega) (by omega) (by simp [ho]) fun x hx=>?_; rcases List.mem_append.1 hx with hx | hx
    · exact hv x hx
    · rw [List.mem_singleton] at hx; subst hx; exact hw
   cases is with
   | false=>
    have hd:=pd _ (List.getElem_mem hi); cases hh:ps[i].has with
    | false=>exact ⟨([],8),by simp [hh],by simp [hh],by simp,by simp⟩
    | true=>
     simp only [hh,ow,Bool.not_false,Bool.not_true,Bool.and_false,Bool.false_eq_true,if_false,if_true,bA]; rw [copyV (by omega),bA]; exact go _ hd
   | true=>
    obtain ⟨x,hx,e⟩:=hm rfl; have hxv:=av x hx; simp only at e; subst e; simp only [ow,Bool.not_true,Bool.false_and,Bool.false_eq_true,if_false,bA]; rw [copyV (by omega),bA]; exact go _ hxv
  ·
   rw [if_neg (by simp; omega),if_neg (by simp; omega)]; exact ⟨(out,0),rfl,rfl,by simp only; omega,hv⟩
theorem VT {ps:List aQ} {args:List aA} (hp:ps.length≤300) (ha:args.length≤300) (pd:∀ x∈ps,x.default.bulk≤1048576) (av:∀ x∈args,x.value.bulk≤1048576):∀ (kk i:Nat),args.length < kk + i→i≤args.length→∃ r,ou ps args kk i=some r∧xK ps args kk i=some r∧r.1.length≤300∧∀ x∈r.1,x.value.bulk≤1048576
 | 0,i,h,h'=>by omega
 | kk + 1,i,h,h'=>by
  rw [ou,xK]; by_cases hi:i < args.length
  ·
   have hx:=av _ (List.getElem_mem hi); rw [if_pos (by simpa using hi),if_pos (by simpa using hi),FW hi,bA,bA]; unfold gD Lm; have x1:=ixP (fun z:aQ=>z.name == args[i].name) ps (by omega) BIG 0 (by have:=qB; omega) (by omega); have x2:=ixR args[i].name ps (by omega) BIG 0 (by have:=qB; omega) (by omega); rw [show ((0:Nat):Int)=0 from rfl,List.drop_zero] at x1 x2; rw [show (fun z0=>sj z0 args[i])=fun z:aQ=>some (z.name == args[i].name) from rfl,x1,x2,bA,bA]; have e0:sl args 0 (i:Int)=some (args.take i):=by rw [UU (by omega) (by omega) (by omega)]; simp
   simp only [e0,bA,find_eq (args.take i) args[i].name (by simp; omega),Vq (args.take i) args[i].name (by simp; omega)]; generalize gv args[i].name (args.take i)=g at *; obtain ⟨v,is⟩:=g; simp only [u6]; have hc:=SB (fun z:aQ=>z.name == args[i].name) ps 0; generalize WV (fun z:aQ=>z.name == args[i].name) ps 0=k at *; rcases hc with rfl | ⟨j,hj,rfl,_⟩
   · exact ⟨([],10),by simp,by simp,by simp,by simp⟩
   ·
    have nj:(decide (((0 + j:Nat):Int) < 0))=false:=by rw [decide_eq_false_iff_not]; omega
    simp only [nj,Bool.false_eq_true,if_false]; cases is with
    | true=>exact ⟨([],7),by rw [if_pos rfl],by rw [if_pos rfl],by simp,by simp⟩
    | false=>
     simp only [Bool.false_eq_true,if_false,Nat.zero_add,bA]; obtain ⟨b,h1,h2⟩:=YO args[i].value ps[j].Gs (by omega); rw [FW hj]; simp only [bA,h1,h2]; cases b with
     | false=>exact ⟨([],9),by simp,by simp,by simp,by simp⟩
     | true=>
      simp only [Bool.not_true,Bool.false_eq_true,if_false]; rw [GV (by omega)]; exact VT hp ha pd av kk (i + 1) (by omega) (by omega)
  ·
   rw [if_neg (by simp; omega),if_neg (by simp; omega)]; exact VR hp ha pd av BIG 0 [] (by have:=qB; omega) (by omega) rfl (by simp)
theorem agJ (x:aQ):x.default.bulk≤x.bulk:=by unfold aQ.bulk; omega
theorem agH (x:aA):x.value.bulk≤x.bulk:=by unfold aA.bulk; omega
theorem LQ (ps1:List aQ) (args1:List aA) (h:((List.map (fun z:aQ=>(aQ.bulk z)) ps1).sum + 1) + ((List.map (fun z:aA=>(aA.bulk z)) args1).sum + 1)≤1048576):tF ps1 args1=some true:=by
 replace h:((List.map aQ.bulk ps1).sum + 1) + ((List.map aA.bulk args1).sum + 1)≤1048576:=h; have hp1:=OO (l:=ps1) (f:=aQ.bulk) (fun x=>by unfold aQ.bulk; omega); have ha1:=OO (l:=args1) (f:=aA.bulk) (fun x=>by unfold aA.bulk; omega); unfold tF; rw [acU (by omega)]; split
 · exact Ye
 ·
  rename_i hc; rw [decide_eq_true_eq] at hc; obtain ⟨r,h1,h2,h3,h4⟩:=VT (ps:=ps1) (args:=args1) (by omega) (by omega) (fun x hx=>by have:=OP (f:=aQ.bulk) hx; have:=agJ x; omega) (fun x hx=>by have:=OP (f:=aA.bulk) hx; have:=agH x; omega) BIG 0 (by have:=qB; omega) (by omega); unfold sK Lp; rw [show (0:Int)=((0:Nat):Int) from rfl,h1,h2]; obtain ⟨l,e⟩:=r; rw [u6,u6,Yw (by simp only at h3; omega) (fun x hx=>by have:=h4 x hx; omega),bA,if_pos (by simp)]; exact Ye
end Go.Ft
