/- Proved here: plain facts on the functional texts. -/
import Derived.Test.YtggpjlegajicnaaGreatDoorCoPlain1
import Derived.Test.YtggpjlegajicnaaGreatDoorCoPlain2
import Derived.Test.YtggpjlegajicnaaGreatDoorCoPlain3
import Derived.Test.YtggpjlegajicnaaGreatDoorCoPlain5
import Derived.Test.YtggpjlegajicnaaGreatDoorCoPre1
import Derived.Test.YtggpjlegajicnaaGreatDoorCoPre2
import Derived.Test.YtggpjlegajicnaaGreatDoorCoFt1
import Derived.Test.YtggpjlegajicnaaGreatDoorCoFt2
import Derived.Test.YtggpjlegajicnaaGreatDoorCoFt3
import Derived.Test.YtggpjlegajicnaaGreatDoorCoFt7
set_option linter.unusedVariables false
set_option linter.unusedSimpArgs false
set_option linter.unusedSectionVars false
set_option maxHeartbeats 2000000
namespace Go.Ft
open Go
attribute [local congr] dZ
theorem agA :∀ (T:Ty) (n:Nat),T.wf→T.dep≤n→pJ n T.api=some T.api
 | .leaf a,0,_,h=>by simp [Ty.dep] at h
 | .leaf a,n + 1,hw,h=>by
  have hn:((a == 5) || (a == 6))=false:=by simp; exact ⟨hw.2.2.1,hw.2.2.2⟩
  simp [pJ,w_,jS,Ty.api,hn,g_]
 | .nest a T,0,_,h=>by simp only [Ty.dep] at h; omega
 | .nest a T,n + 1,hw,h=>by
  simp only [Ty.dep] at h
  have hn:((a == 5) || (a == 6))=true:=by simpa using hw.1
  have:=agA T n hw.2 (by omega)
  simp [pJ,w_,jS,Ty.api,hn,qU,idx,this]
theorem EC {T:Ty} (h:T.wf) (hd:T.dep≤1000):Fb T.api=some T.api:=agA T BIG h (by have:=jq; omega)
def kZ :Ty→Ty→Ty
 | .leaf a,.leaf b=>if a=7 then .leaf b else if b=7 then .leaf a else if a=b then .leaf a else .leaf 0
 | .leaf a,.nest b y=>if a=7 then .nest b y else .leaf 0
 | .nest a x,.leaf b=>if b=7 then .nest a x else .leaf 0
 | .nest a x,.nest b y=>if a=b then .nest a (kZ x y) else .leaf 0
theorem Dm :∀ (a b:Ty),(kZ a b).dep≤max a.dep b.dep
 | .leaf a,.leaf b=>by
  rw [kZ]; repeat' split
  all_goals simp only [Ty.dep]; omega
 | .leaf a,.nest b y=>by
  rw [kZ]; split
  all_goals simp only [Ty.dep]; omega
 | .nest a x,.leaf b=>by
  rw [kZ]; split
  all_goals simp only [Ty.dep]; omega
 | .nest a x,.nest b y=>by
  have:=Dm x y
  rw [kZ]; split
  all_goals simp only [Ty.dep]; omega
theorem qw :∀ (a b:Ty),a.wf→b.wf→(kZ a b).wf
 | .leaf a,.leaf b,ha,hb=>by
  rw [kZ]; repeat' split
  · exact hb
  · exact ha
  · exact ha
  · simp [Ty.wf]
 | .leaf a,.nest b y,ha,hb=>by
  rw [kZ]; split
  · exact hb
  · simp [Ty.wf]
 | .nest a x,.leaf b,ha,hb=>by
  rw [kZ]; split
  · exact ha
  · simp [Ty.wf]
 | .nest a x,.nest b y,ha,hb=>by
  have:=qw x y ha.2 hb.2
  rw [kZ]; split
  · exact ⟨ha.1,this⟩
  · simp [Ty.wf]
theorem ajP :∀ (n:Nat) (a b:Ty),a.wf→b.wf→a.dep≤n→a.dep≤1000→b.dep≤1000→nD n a.api b.api=some (kZ a b).api∧tZ n a.api b.api=some (kZ a b).api
 | 0,a,b,_,_,h,_,_=>by have:=a.Rm; omega
 | n + 1,.leaf x,.leaf y,ha,hb,h,h1,h2=>by
  rw [nD,tY,tZ,Ai,kZ,EC ha h1,EC hb h2]
  have hn:((x == 5) || (x == 6))=false:=by simp; exact ⟨ha.2.2.1,ha.2.2.2⟩
  by_cases k1:x=7
  · simp [k1,Ty.api]
  ·
   by_cases k2:y=7
   · simp [k1,k2,Ty.api]
   ·
    by_cases k3:x=y
    · subst k3; simp [k1,Ty.api,jS,Df,hn,g_]
    · simp [k1,k2,k3,Ty.api,g_,kH]
 | n + 1,.leaf x,.nest y t,ha,hb,h,h1,h2=>by
  rw [nD,tY,tZ,Ai,kZ,EC ha h1,EC hb h2]
  have k2:¬ y=7:=by rcases hb.1 with h | h <;> omega
  have k3:¬ x=y:=by
   rintro rfl
   rcases hb.1 with h | h
   · exact ha.2.2.1 h
   · exact ha.2.2.2 h
  by_cases k1:x=7
  · simp [k1,Ty.api]
  · simp [k1,k2,k3,Ty.api,g_,kH]
 | n + 1,.nest x s,.leaf y,ha,hb,h,h1,h2=>by
  rw [nD,tY,tZ,Ai,kZ,EC ha h1,EC hb h2]
  have k1:¬ x=7:=by rcases ha.1 with h | h <;> omega
  have k3:¬ x=y:=by
   rintro rfl
   rcases ha.1 with h | h
   · exact hb.2.2.1 h
   · exact hb.2.2.2 h
  by_cases k2:y=7
  · simp [k1,k2,Ty.api]
  · simp [k1,k2,k3,Ty.api,g_,kH]
 | n + 1,.nest x s,.nest y t,ha,hb,h,h1,h2=>by
  rw [nD,tY,tZ,Ai,kZ,EC ha h1,EC hb h2]
  have k1:¬ x=7:=by rcases ha.1 with h | h <;> omega
  have k2:¬ y=7:=by rcases hb.1 with h | h <;> omega
  have hn:((x == 5) || (x == 6))=true:=by simp; exact ha.1
  simp only [Ty.dep] at h h1 h2
  obtain ⟨i1,i2⟩:=ajP n s t ha.2 hb.2 (by omega) (by omega) (by omega)
  by_cases k3:x=y
  · subst k3; simp [k1,Ty.api,jS,Df,hn,qU,kP,idx,i1,i2]
  · simp [k1,k2,k3,Ty.api,g_,kH]
theorem join_eq {a b:Ty} (ha:a.wf) (hb:b.wf) (h1:a.dep≤1000) (h2:b.dep≤1000):Ec a.api b.api=some (kZ a b).api∧MN a.api b.api=some (kZ a b).api:=
 ajP BIG a b ha hb (by have:=jq; omega) h1 h2
theorem Lg {a b:Ty} (ha:a.wf) (hb:b.wf) (h1:a.dep≤16) (h2:b.dep≤16):nW a.api b.api=some (kZ a b).api∧BA a.api b.api=some (kZ a b).api:=by
 unfold nW BA Im QJ
 rw [(Dz _).1,(Dz _).1,(Dz _).2.1,(Dz _).2.1,aag ha h1,aag hb h2]
 obtain ⟨j1,j2⟩:=join_eq ha hb (by omega) (by omega)
 simp [j1,j2]
end Go.Ft

namespace Go.Ft
open Go
attribute [local congr] dZ
def eF :Ty→Ty→Bool
 | .leaf a,.leaf b=>((a == 0) || (a == 7)) || (b == 0) || (a == b)
 | .leaf a,.nest _ _=>(a == 0) || (a == 7)
 | .nest _ _,.leaf b=>b == 0
 | .nest a x,.nest b y=>(a == b) && eF x y
theorem akj :∀ (n:Nat) (a b:Ty),a.wf→b.wf→a.dep≤n→jG n a.api b.api=some (eF a b)∧kG n a.api b.api=some (eF a b)
 | 0,a,b,_,_,h=>by have:=a.Rm; omega
 | n + 1,.leaf x,.leaf y,ha,hb,h=>by
  rw [jG,mX,kG,oH,eF]
  simp only [gI,iI,Ty.api,ay]
  by_cases k:(((x == 0) || (x == 7)) || (y == 0))=true
  · simp only [k,if_true,Bool.true_or,and_self]
  ·
   rw [Bool.not_eq_true] at k
   simp only [k,Bool.false_eq_true,if_false,Bool.false_or]
   by_cases hxy:x=y
   · subst hxy; simp
   · simp [hxy]
 | n + 1,.leaf x,.nest y t,ha,hb,h=>by
  rw [jG,mX,kG,oH,eF]
  have k2:(y == 0)=false:=by simp; rcases hb.1 with h | h <;> omega
  have k3:(x != y)=true:=by
   simp only [bne_iff_ne]
   rintro rfl
   rcases hb.1 with h | h
   · exact ha.2.2.1 h
   · exact ha.2.2.2 h
  simp only [gI,iI,Ty.api,ay,k2,k3,Bool.or_false]
  by_cases k:((x == 0) || (x == 7))=true
  · simp only [k,if_true,and_self]
  ·
   rw [Bool.not_eq_true] at k
   simp only [k,Bool.false_eq_true,if_false,if_true,and_self]
 | n + 1,.nest x s,.leaf y,ha,hb,h=>by
  rw [jG,mX,kG,oH,eF]
  have k1:((x == 0) || (x == 7))=false:=by simp; rcases ha.1 with h | h <;> omega
  have k3:(x != y)=true:=by
   simp only [bne_iff_ne]
   rintro rfl
   rcases ha.1 with h | h
   · exact hb.2.2.1 h
   · exact hb.2.2.2 h
  simp only [gI,iI,Ty.api,ay,k1,k3,Bool.false_or]
  by_cases k:(y == 0)=true
  · simp only [k,if_true,and_self]
  ·
   rw [Bool.not_eq_true] at k
   simp only [k,Bool.false_eq_true,if_false,if_true,and_self]
 | n + 1,.nest x s,.nest y t,ha,hb,h=>by
  rw [jG,mX,kG,oH,eF]
  have k1:((x == 0) || (x == 7))=false:=by simp; rcases ha.1 with h | h <;> omega
  have k2:(y == 0)=false:=by simp; rcases hb.1 with h | h <;> omega
  simp only [Ty.dep] at h
  obtain ⟨i1,i2⟩:=akj n s t ha.2 hb.2 (by omega)
  simp only [gI,iI,Ty.api,ay,k1,k2,Bool.false_or]
  by_cases hxy:x=y
  · subst hxy; simp [idx,i1,i2]
  · simp [hxy]
theorem nP {a b:Ty} (ha:a.wf) (hb:b.wf) (h:a.dep≤1000):jP a.api b.api=some (eF a b)∧fV a.api b.api=some (eF a b):=
 akj BIG a b ha hb (by have:=jq; omega)
def eB (t:Ty):Bool:=(t.kind == 0) || (t.kind == 7)
theorem kR (t:Ty):gI t.api=some (eB t)∧iI t.api=some (eB t):=by
 unfold gI iI eB; rw [Ty.oG]; exact ⟨rfl,rfl⟩
theorem Tq {k:Int} (h:0≤k∧k≤7∧k≠5∧k≠6):(sc k).wf:=h
theorem of_eq (k:Int):gB k=some (sc k).api∧gL k=some (sc k).api∧kH k=some (sc k).api:=⟨rfl,rfl,rfl⟩
theorem ahm (k:Int) (t:Ty):nQ k t.api=some (Ty.nest k t).api∧kP k t.api=some (Ty.nest k t).api:=⟨rfl,rfl⟩
theorem qO {a:Ty} (ha:a.wf) (h:a.dep≤1000) {k:Int} (hk:0≤k∧k≤7∧k≠5∧k≠6):ig a.api k=some (eF a (sc k)):=by
 unfold ig
 rw [(of_eq k).2.1]
 exact (nP ha (Tq hk) h).2
theorem vK {k:Int} (h:k=0∨k=1∨k=2∨k=3∨k=4∨k=7):0≤k∧k≤7∧k≠5∧k≠6:=by omega
theorem aeS {t:Ty} (h:t.wf) (hd:t.dep≤16) {e:aj} (he:e.kind=3) (r:List ak):RES (Cm t.api) (Ie (gN e (t.api :: r))):=by
 have i0:idx (t.api :: r) 0=some t.api:=rfl
 unfold Cm gN
 rw [(kR t).1]
 simp only [he,i0,ay,(kR t).2,Ty.oG]
 cases t with
 | leaf k=>
  have h6:(k == 6)=false:=by simp; exact h.2.2.2
  refine RES.mk (.leaf k) (eB (.leaf k)) ?_ ?_ (fun _=>⟨h,hd⟩)
  ·
   simp only [Ty.kind,h6,Bool.false_eq_true,if_false]
   cases eB (.leaf k) <;> rfl
  · simp [Ty.kind,h6]
 | nest k s=>
  have hl:eB (.nest k s)=false:=by unfold eB; simp [Ty.kind]; rcases h.1 with h | h <;> omega
  simp only [Ty.dep] at hd
  by_cases h6:k=6
  ·
   subst h6
   refine RES.mk s true ?_ ?_ (fun _=>⟨h.2,by omega⟩)
   · simp [hl,Ty.kind,Ty.api,idx]
   · simp [Ty.kind,Ty.api,idx]
  ·
   refine RES.mk (.nest k s) false ?_ ?_ (fun hh=>by cases hh)
   · simp [hl,Ty.kind,h6,ZT]
   · simp [Ty.kind,h6,hl]
theorem ahu {t i:Ty} (h:t.wf) (hd:t.dep≤16) (hi:i.wf) (hid:i.dep≤16) {e:aj} (he:e.kind=4) (r:List ak):RES (EF t.api i.api) (Ie (gN e (t.api :: i.api :: r))):=by
 have i0:idx (t.api :: i.api :: r) 0=some t.api:=rfl
 have i1:idx (t.api :: i.api :: r) 1=some i.api:=rfl
 unfold EF gN JF
 have c3:=nP hi (Tq (vK (k:=3) (by omega))) (by omega)
 have c4:=nP hi (Tq (vK (k:=4) (by omega))) (by omega)
 simp only [he,i0,i1,ay,(kR t).1,(kR t).2,Ty.oG,(of_eq _).1,c3.1,c4.1,qO hi (by omega) (vK (k:=3) (by omega)),qO hi (by omega) (vK (k:=4) (by omega))]
 generalize eF i (sc 3)=n3
 generalize eF i (sc 4)=n4
 cases t with
 | leaf k=>
  have h5:(k == 5)=false:=by simp; exact h.2.2.1
  have h6:(k == 6)=false:=by simp; exact h.2.2.2
  refine RES.mk (.leaf k) (eB (.leaf k) && (n3 || n4)) ?_ ?_ (fun _=>⟨h,hd⟩)
  ·
   simp only [Ty.kind,h5,h6,Bool.false_and,Bool.false_eq_true,if_false]
   cases eB (.leaf k) <;> cases n3 <;> cases n4 <;> rfl
  ·
   simp only [Ty.kind,h5,h6,Bool.false_eq_true,if_false]
   cases eB (.leaf k) <;> cases n3 <;> cases n4 <;> simp
 | nest k s=>
  have hl:eB (.nest k s)=false:=by unfold eB; simp [Ty.kind]; rcases h.1 with h | h <;> omega
  simp only [Ty.dep] at hd
  rcases h.1 with h5 | h6
  ·
   subst h5
   refine RES.mk s n3 ?_ ?_ (fun _=>⟨h.2,by omega⟩)
   ·
    simp only [hl,Ty.kind,Ty.api]
    cases n3 <;> simp [idx,ZT]
   · simp [Ty.kind,Ty.api,idx]
  ·
   subst h6
   refine RES.mk s n4 ?_ ?_ (fun _=>⟨h.2,by omega⟩)
   ·
    simp only [hl,Ty.kind,Ty.api]
    cases n4 <;> simp [idx,ZT]
   · simp [Ty.kind,Ty.api,idx]
theorem agT {t:Ty} (h:t.wf) (hd:t.dep≤16) {e:aj} (he:e.kind=6) (r:List ak):RES (ED e.name t.api) (Ie (gN e (t.api :: r))):=by
 have i0:idx (t.api :: r) 0=some t.api:=rfl
 have c3:=nP h (Tq (vK (k:=3) (by omega))) (by omega)
 have c2:=nP h (Tq (vK (k:=2) (by omega))) (by omega)
 unfold ED gN
 simp only [he,i0,ay,(of_eq _).1,(of_eq _).2.1,c3.1,c2.1,qO h (by omega) (vK (k:=3) (by omega)),qO h (by omega) (vK (k:=2) (by omega))]
 cases hop:(e.name == ([33]:Str)) with
 | true=>
  refine RES.mk (sc 2) (eF t (sc 2)) ?_ ?_ (fun _=>⟨by simp [sc,Ty.wf],by simp [sc,Ty.dep]⟩)
  · simp only [if_true]; cases eF t (sc 2) <;> rfl
  · simp
 | false=>
  refine RES.mk (sc 3) (eF t (sc 3)) ?_ ?_ (fun _=>⟨by simp [sc,Ty.wf],by simp [sc,Ty.dep]⟩)
  · simp only [Bool.false_eq_true,if_false]; cases eF t (sc 3) <;> rfl
  · simp
theorem aki {a b c:Ty} (ha:a.wf) (had:a.dep≤16) (hb:b.wf) (hbd:b.dep≤16) (hc:c.wf) (hcd:c.dep≤16) {e:aj} (he:e.kind=8) (r:List ak):
  RES (au (gB 2) fun RP=>au (jP a.api RP) fun RO=>if !RO then some ((ak.mk 0 []),9) else au (nW b.api c.api) fun LP=>some (LP,0)) (Ie (gN e (a.api :: b.api :: c.api :: r))):=by
 have i0:idx (a.api :: b.api :: c.api :: r) 0=some a.api:=rfl
 have i1:idx (a.api :: b.api :: c.api :: r) 1=some b.api:=rfl
 have i2:idx (a.api :: b.api :: c.api :: r) 2=some c.api:=rfl
 have c2:=nP ha (Tq (vK (k:=2) (by omega))) (by omega)
 have j:=Lg hb hc hbd hcd
 have hjd:=Dm b c
 refine RES.mk (kZ b c) (eF a (sc 2)) ?_ ?_ (fun _=>⟨qw b c hb hc,by omega⟩)
 ·
  simp only [(of_eq _).1,ay,c2.1,j.1]
  cases eF a (sc 2) <;> rfl
 ·
  unfold gN
  simp [he,i0,i1,i2,j.2,qO ha (by omega) (vK (k:=2) (by omega))]
end Go.Ft

namespace Go.Ft
open Go
attribute [local congr] dZ
def cmB (a b:Ty) (k:Int):Bool:=(((eB a || (a.kind == k)) && (eB b || (b.kind == k))) && ((a.kind == k) || (b.kind == k)))
def PG (a b:Ty):Int:=if eB a then b.kind else if eB b || (a.kind == b.kind) then a.kind else -1
theorem SG (a b:Ty) (k:Int):jy a.api b.api k=some (cmB a b k):=by
 unfold jy cmB
 rw [(kR a).1,(kR b).1,Ty.oG,Ty.oG]
 simp only [ay]
 cases (eB a || (a.kind == k)) <;> simp
theorem Kq (a b:Ty):rD a.api b.api=some (PG a b):=by
 unfold rD PG
 rw [(kR a).2,(kR b).2,Ty.oG,Ty.oG]
 simp only [ay]
 cases eB a
 · simp only [Bool.false_eq_true,if_false]; split <;> rfl
 · rfl
theorem WM {a b:Ty} (h:(eB a && eB b)=false) {k:Int} (hk:k≠0∧k≠7∧0≤k):cmB a b k=(PG a b == k):=by
 unfold cmB PG eB at *
 generalize a.kind=x at *
 generalize b.kind=y at *
 rw [Bool.eq_iff_iff]
 simp only [Bool.and_eq_false_iff,Bool.or_eq_false_iff,beq_eq_false_iff_ne] at h
 by_cases h1:x=0∨x=7
 ·
  have e:((x == 0) || (x == 7))=true:=by simpa using h1
  simp only [e,if_true,Bool.true_or,Bool.true_and,Bool.and_eq_true,Bool.or_eq_true,beq_iff_eq]
  omega
 ·
  have e:((x == 0) || (x == 7))=false:=by simpa using h1
  simp only [e,Bool.false_eq_true,if_false,Bool.false_or]
  by_cases h2:y=0∨y=7
  ·
   have e2:((y == 0) || (y == 7))=true:=by simpa using h2
   simp only [e2,Bool.true_or,if_true,Bool.and_true,Bool.and_eq_true,Bool.or_eq_true,beq_iff_eq]
   omega
  ·
   have e2:((y == 0) || (y == 7))=false:=by simpa using h2
   simp only [e2,Bool.false_or]
   by_cases h3:x=y
   · simp only [h3,beq_self_eq_true,if_true,Bool.and_eq_true,Bool.or_eq_true,beq_iff_eq]; omega
   ·
    have e3:(x == y)=false:=by simpa using h3
    simp only [e3,Bool.false_eq_true,if_false,Bool.and_eq_true,Bool.or_eq_true,beq_iff_eq]; omega
def WA :Ty→Ty
 | .leaf k=>.leaf k
 | .nest _ t=>t
theorem Dj {t:Ty} (h:t.wf) (hl:eB t=true):t=sc t.kind∧(t.kind=0∨t.kind=7):=by
 unfold eB at hl
 simp only [Bool.or_eq_true,beq_iff_eq] at hl
 cases t with
 | leaf k=>exact ⟨rfl,hl⟩
 | nest k s=>simp only [Ty.kind] at hl; rcases h.1 with h | h <;> omega
theorem agw {t:Ty} (h:eB t=true∨t.kind=5) (hw:t.wf) (hd:t.dep≤16):wu t.api=some (WA t).api∧AJ t.api=some (WA t).api∧(WA t).wf∧(WA t).dep≤15:=by
 unfold wu AJ
 rw [(kR t).1,(kR t).2]
 simp only [ay]
 cases t with
 | leaf k=>
  have hl:eB (.leaf k)=true:=by
   rcases h with h | h
   · exact h
   · simp only [Ty.kind] at h; exact absurd h hw.2.2.1
  rw [hl]
  exact ⟨rfl,rfl,hw,by simp [WA,Ty.dep]⟩
 | nest k s=>
  have hl:eB (.nest k s)=false:=by unfold eB; simp [Ty.kind]; rcases hw.1 with h | h <;> omega
  rw [hl]
  simp only [Ty.dep] at hd
  exact ⟨by simp [Ty.api,idx,WA],by simp [Ty.api,idx,WA],hw.2,by simp only [WA]; omega⟩
theorem alj {a b:Ty} (ha:a.wf) (had:a.dep≤16) (hb:b.wf) (hbd:b.dep≤16):RES (J5 a.api b.api) (Ie (Ir a.api b.api)):=by
 unfold J5 Ir
 rw [(kR a).1,(kR a).2,(kR b).1,(kR b).2,Ty.oG,Ty.oG]
 simp only [ay]
 have hone:(if eB a=true then some (eB b) else some false)=some (eB a && eB b):=by cases eB a <;> rfl
 rw [hone]
 simp only [ay]
 cases hl:(eB a && eB b) with
 | true=>
  simp only [Bool.and_eq_true] at hl
  obtain ⟨a1,a2⟩:=Dj ha hl.1
  obtain ⟨b1,b2⟩:=Dj hb hl.2
  rcases a2 with a2 | a2
  ·
   rw [a2] at a1
   subst a1
   exact RES.mk (sc 0) true rfl rfl (fun _=>⟨ha,had⟩)
  ·
   rw [a2] at a1
   subst a1
   rcases b2 with b2 | b2
   ·
    rw [b2] at b1
    subst b1
    exact RES.mk (sc 0) true rfl rfl (fun _=>⟨hb,hbd⟩)
   ·
    rw [b2] at b1
    subst b1
    exact RES.mk (sc 7) true rfl rfl (fun _=>⟨hb,hbd⟩)
 | false=>
  simp only [Bool.false_eq_true,if_false,SG,Kq,ay]
  rw [WM hl (k:=3) (by omega),WM hl (k:=4) (by omega),WM hl (k:=5) (by omega)]
  by_cases k5:PG a b=5
  ·
   have ea:eB a=true∨a.kind=5:=by
    unfold PG at k5
    cases h:eB a with
    | true=>exact .inl rfl
    | false=>
     rw [h] at k5
     simp only [Bool.false_eq_true,if_false] at k5
     split at k5
     · exact .inr k5
     · omega
   have eb:eB b=true∨b.kind=5:=by
    unfold PG at k5
    cases h:eB b with
    | true=>exact .inl rfl
    | false=>
     rw [h] at k5
     cases h2:eB a with
     | true=>rw [h2] at k5; exact .inr (by simpa using k5)
     | false=>
      rw [h2] at k5
      simp only [Bool.false_eq_true,if_false,Bool.false_or] at k5
      split at k5
      · rename_i h3; right; simp only [beq_iff_eq] at h3; omega
      · omega
   obtain ⟨x1,x2,x3,x4⟩:=agw ea ha had
   obtain ⟨y1,y2,y3,y4⟩:=agw eb hb hbd
   have j:=Lg x3 y3 (by omega) (by omega)
   have jd:=Dm (WA a) (WA b)
   refine RES.mk (.nest 5 (kZ (WA a) (WA b))) true ?_ ?_ (fun _=>⟨⟨.inl rfl,qw _ _ x3 y3⟩,by simp only [Ty.dep]; omega⟩)
   · simp [k5,x1,y1,j.1,nQ,Ty.api]
   · simp [k5,x2,y2,j.2,kP,Ty.api]
  ·
   refine RES.mk (sc (PG a b)) ((PG a b == 3) || (PG a b == 4)) ?_ ?_ (fun hh=>⟨?_,by simp [sc,Ty.dep]⟩)
   ·
    by_cases k3:PG a b=3
    · simp [k3,gB,sc,Ty.api]
    ·
     by_cases k4:PG a b=4
     · simp [k4,gB,sc,Ty.api]
     · simp [k3,k4,k5,ZT]
   · simp [k5,gL,kH,sc,Ty.api]
   ·
    simp only [Bool.or_eq_true,beq_iff_eq] at hh
    simp only [sc,Ty.wf]; omega
theorem agF {a b:Ty} (ha:a.wf) (had:a.dep≤16) (hb:b.wf) (hbd:b.dep≤16) {k:Int} (hk:0≤k∧k≤7∧k≠5∧k≠6):kC k a.api b.api=some (eF a (sc k) && eF b (sc k)):=by
 unfold kC
 rw [(of_eq k).1]
 simp only [ay,(nP ha (Tq hk) (by omega)).1,(nP hb (Tq hk) (by omega)).1]
 cases eF a (sc k) <;> rfl
theorem afv {a b:Ty} (ha:a.wf) (had:a.dep≤16) (hb:b.wf) (hbd:b.dep≤16) {op:Str} (hop:op∈opsL):RES (FJ op a.api b.api) (Ie (nJ op a.api b.api)):=by
 have b2:=agF ha had hb hbd (vK (k:=2) (by omega))
 have b3:=agF ha had hb hbd (vK (k:=3) (by omega))
 have ia2:=qO ha (by omega) (vK (k:=2) (by omega))
 have ib2:=qO hb (by omega) (vK (k:=2) (by omega))
 have ia3:=qO ha (by omega) (vK (k:=3) (by omega))
 have ib3:=qO hb (by omega) (vK (k:=3) (by omega))
 have w2:(sc 2).wf∧(sc 2).dep≤16:=⟨by simp [sc,Ty.wf],by simp [sc,Ty.dep]⟩
 have w3:(sc 3).wf∧(sc 3).dep≤16:=⟨by simp [sc,Ty.wf],by simp [sc,Ty.dep]⟩
 have hone:∀ p q:Bool,(if p=true then some q else some false)=some (p && q):=by intro p q; cases p <;> rfl
 have rel:∀ (x:Option (ak × Int)) (y:Option (ak × Bool)),
   x=(au (gI a.api) fun x7=>au (if x7 then gI b.api else some false) fun b2=>au (if b2 then some true else jy a.api b.api 3) fun b3=>au (if b3 then some true else jy a.api b.api 4) fun b4=>
    if b4 then au (gB 2) fun H8=>some (H8,0) else some ((ak.mk 0 []),9))→
   y=(au (rD a.api b.api) fun rV=>au (gL 2) fun x9=>au (iI a.api) fun wS=>au (if wS then iI b.api else some false) fun b4=>some (x9,((b4 || (rV == 3)) || (rV == 4))))→RES x (Ie y):=by
  intro x y hx hy
  rw [hx,hy,(kR a).1,(kR a).2,(kR b).1,(kR b).2,SG,SG,Kq,(of_eq 2).1,(of_eq 2).2.1]
  simp only [ay,hone]
  refine RES.mk (sc 2) (((eB a && eB b) || (PG a b == 3)) || (PG a b == 4)) ?_ rfl (fun _=>w2)
  cases hl:(eB a && eB b) with
  | true=>rfl
  | false=>
   rw [WM hl (k:=3) (by omega),WM hl (k:=4) (by omega)]
   cases (PG a b == 3) <;> cases (PG a b == 4) <;> rfl
 have lg:∀ (x:Option (ak × Int)) (y:Option (ak × Bool)),
   x=(au (kC 2 a.api b.api) fun x1=>if x1 then au (gB 2) fun x2=>some (x2,0) else some ((ak.mk 0 []),9))→
   y=(au (gL 2) fun x1=>au (ig a.api 2) fun x2=>au (if x2 then ig b.api 2 else some false) fun b2=>some (x1,b2))→RES x (Ie y):=by
  intro x y hx hy
  rw [hx,hy,b2,ia2,ib2,(of_eq 2).1,(of_eq 2).2.1]
  simp only [ay,hone]
  refine RES.mk (sc 2) (eF a (sc 2) && eF b (sc 2)) ?_ rfl (fun _=>w2)
  cases (eF a (sc 2) && eF b (sc 2)) <;> rfl
 have ar:∀ (x:Option (ak × Int)) (y:Option (ak × Bool)),
   x=(au (kC 3 a.api b.api) fun x1=>if x1 then au (gB 3) fun x2=>some (x2,0) else some ((ak.mk 0 []),9))→
   y=(au (gL 3) fun x1=>au (ig a.api 3) fun x2=>au (if x2 then ig b.api 3 else some false) fun b2=>some (x1,b2))→RES x (Ie y):=by
  intro x y hx hy
  rw [hx,hy,b3,ia3,ib3,(of_eq 3).1,(of_eq 3).2.1]
  simp only [ay,hone]
  refine RES.mk (sc 3) (eF a (sc 3) && eF b (sc 3)) ?_ rfl (fun _=>w3)
  cases (eF a (sc 3) && eF b (sc 3)) <;> rfl
 have eqq:∀ (x:Option (ak × Int)) (y:Option (ak × Bool)),x=(au (gB 2) fun x5=>some (x5,0))→y=(au (gL 2) fun x7=>some (x7,true))→RES x (Ie y):=by
  intro x y hx hy
  exact RES.mk (sc 2) true (by rw [hx]; rfl) (by rw [hy]; rfl) (fun _=>w2)
 simp only [opsL,List.mem_cons,List.not_mem_nil,or_false] at hop
 rcases hop with rfl | rfl | rfl | rfl | rfl | rfl | rfl | rfl | rfl | rfl | rfl | rfl | rfl
 · exact lg _ _ rfl rfl
 · exact lg _ _ rfl rfl
 · exact eqq _ _ rfl rfl
 · exact eqq _ _ rfl rfl
 · exact rel _ _ rfl rfl
 · exact rel _ _ rfl rfl
 · exact rel _ _ rfl rfl
 · exact rel _ _ rfl rfl
 · exact ar _ _ rfl rfl
 · exact ar _ _ rfl rfl
 · exact ar _ _ rfl rfl
 · exact ar _ _ rfl rfl
 · exact alj ha had hb hbd
def A9 :Ty→List Ty→Ty
 | t,[]=>t
 | t,x :: r=>A9 (kZ t x) r
theorem ada :∀ (l:List Ty) (t:Ty),t.wf→t.dep≤16→(∀ x∈l,x.wf∧x.dep≤16)→(A9 t l).wf∧(A9 t l).dep≤16
 | [],t,h,hd,_=>⟨h,hd⟩
 | x :: r,t,h,hd,hl=>by
  have hx:=hl x (by simp)
  have jd:=Dm t x
  exact ada r (kZ t x) (qw t x h hx.1) (by omega) fun y hy=>hl y (by simp [hy])
theorem Zt {K:ak→Option (ak × Int)}:∀ (l:List Ty) (t:Ty) (i:Nat),t.wf→t.dep≤16→(∀ x∈l,x.wf∧x.dep≤16)→
  dG (fun _ e1 (kg:ak) r=>au (nW kg e1) fun x3=>r x3) K i (l.map Ty.api) t.api=K (A9 t l).api
 | [],t,i,_,_,_=>rfl
 | x :: r,t,i,h,hd,hl=>by
  have hx:=hl x (by simp)
  have jd:=Dm t x
  rw [List.map_cons,dG,(Lg h hx.1 hd hx.2).1]
  simp only [ay]
  exact Zt r (kZ t x) (i + 1) (qw t x h hx.1) (by omega) fun y hy=>hl y (by simp [hy])
theorem Zh {K:ak→Option (ak × Bool)}:∀ (l:List Ty) (t:Ty) (i:Nat),t.wf→t.dep≤16→(∀ x∈l,x.wf∧x.dep≤16)→
  dG (fun _ e1 (kg:ak) r=>au (BA kg e1) fun x3=>r x3) K i (l.map Ty.api) t.api=K (A9 t l).api
 | [],t,i,_,_,_=>rfl
 | x :: r,t,i,h,hd,hl=>by
  have hx:=hl x (by simp)
  have jd:=Dm t x
  rw [List.map_cons,dG,(Lg h hx.1 hd hx.2).2]
  simp only [ay]
  exact Zh r (kZ t x) (i + 1) (qw t x h hx.1) (by omega) fun y hy=>hl y (by simp [hy])
theorem Q7 {l:List Ty} (hl:∀ x∈l,x.wf∧x.dep≤16) (hn:l.length < 4611686018427387904) {k:Int} (hk:k=5∨k=6) {y:Option (ak × Bool)} (hy:y=some ((Ty.nest k (A9 (sc 7) l)).api,true)):
  RES (uS k (l.map Ty.api)) (Ie y):=by
 have w7:(sc 7).wf∧(sc 7).dep≤16:=⟨by simp [sc,Ty.wf],by simp [sc,Ty.dep]⟩
 obtain ⟨f1,f2⟩:=ada l (sc 7) w7.1 w7.2 hl
 unfold uS
 rw [(of_eq 7).1]
 simp only [ay]
 have:=dH (F:=fun n s i=>tF k (l.map Ty.api) n i s) (l:=l.map Ty.api) (body:=fun _ e1 (kg:ak) r=>au (nW kg e1) fun x3=>r x3)
  (fin:=fun kg=>au (nQ k kg) fun x4=>au (lW x4) fun x5=>if x5 != 0 then some (ZT,13) else some (x4,0)) (by simpa using hn) (fun n s i=>rfl) (sc 7).api
 rw [this,Zt l (sc 7) 0 w7.1 w7.2 hl,hy]
 unfold Ie
 rw [(ahm k _).1]
 simp only [ay,bU,Bool.not_true,Bool.false_eq_true,if_false]
 obtain ⟨t1,t2,t3⟩:=Dz (Ty.nest k (A9 (sc 7) l)).api
 rw [t1,t2]
 simp only [ay]
 by_cases hc:R3 (Ty.nest k (A9 (sc 7) l)).api=0
 ·
  obtain ⟨T,q1,q2,q3⟩:=t3 hc
  exact ⟨T,0,q1,q3,fun h=>absurd rfl h,by rw [hc,←q2]; rfl,by rw [hc,←q2]; rfl⟩
 · exact ⟨sc 0,13,by simp [sc,Ty.wf],by simp [sc,Ty.dep],fun _=>rfl,by rw [if_pos (by simpa using hc)]; rfl,by rw [if_pos (by simpa using hc)]; rfl⟩
theorem Oe {l:List Ty} (hl:∀ x∈l,x.wf∧x.dep≤16) (hn:l.length < 4611686018427387904) {e:aj} (he:e.kind=9∨e.kind=10):
  gN e (l.map Ty.api)=some ((Ty.nest (if e.kind=10 then 6 else 5) (A9 (sc 7) l)).api,true):=by
 have w7:(sc 7).wf∧(sc 7).dep≤16:=⟨by simp [sc,Ty.wf],by simp [sc,Ty.dep]⟩
 unfold gN
 have:=dH (F:=fun n s i=>Ei e (l.map Ty.api) n i s) (l:=l.map Ty.api) (body:=fun _ e1 (kg:ak) r=>au (BA kg e1) fun x3=>r x3)
  (fin:=fun t1=>if e.kind == 10 then (au (kP 6 t1) fun LP=>some (LP,true)) else (au (kP 5 t1) fun XD=>some (XD,true))) (by simpa using hn) (fun n s i=>rfl) (sc 7).api
 rw [(of_eq 7).2.1]
 simp only [ay]
 rw [this,Zh l (sc 7) 0 w7.1 w7.2 hl]
 rcases he with he | he <;> simp [he,kP,Ty.api]
end Go.Ft

namespace Go.Ft
open Go
attribute [local congr] dZ
theorem ao6 :∃ n,BIG=n + 4:=⟨BIG - 4,by decide⟩
theorem ain :bZ (0 + 1)=1:=by decide
theorem anj :bZ (1 + 1)=2:=by decide
theorem ant {a w:Ty} (ha:a.wf) (had:a.dep≤16) (hw:w.wf):tC [a.api] [w.api]=some (eF a w):=by
 obtain ⟨n,hn⟩:=ao6
 unfold tC
 rw [hn]
 have i0:∀ x:Ty,idx [x.api] 0=some x.api:=fun _=>rfl
 simp only [uR,i0,ay,(nP ha hw (by omega)).1,ain]
 cases eF a w <;> simp
theorem aiK {a b w v:Ty} (ha:a.wf) (had:a.dep≤16) (hb:b.wf) (hbd:b.dep≤16) (hw:w.wf) (hv:v.wf):tC [a.api,b.api] [w.api,v.api]=some (eF a w && eF b v):=by
 obtain ⟨n,hn⟩:=ao6
 unfold tC
 rw [hn]
 have i0:∀ x y:Ty,idx [x.api,y.api] 0=some x.api:=fun _ _=>rfl
 have i1:∀ x y:Ty,idx [x.api,y.api] 1=some y.api:=fun _ _=>rfl
 simp only [uR,i0,i1,ay,(nP ha hw (by omega)).1,(nP hb hv (by omega)).1,ain,anj]
 cases eF a w <;> cases eF b v <;> simp
theorem am_ {e:aj} {alts:List (List ak)} {x:ak} {ts:List ak} (hl:alts.length < 4611686018427387904) (hne:(e.name == ([100,101,102,97,117,108,116]:Str))=false) (bs:List Bool)
  (h:alts.map (tC ts)=bs.map some):pq e alts x ts BIG 0=some (if bs.any id then (x,0) else (ZT,9)):=by
 have:=dH (F:=fun k (_:Unit) i=>pq e alts x ts k i) (l:=alts) (body:=fun _ D7 _ r=>au (tC ts D7) fun x3=>if !x3 then r () else if !(e.name == ([100,101,102,97,117,108,116]:Str)) then some (x,0) else
   au (idx ts 0) fun e3=>if e3.kind == 1 then au (idx ts 1) fun e4=>some (e4,0) else au (idx ts 0) fun e5=>some (e5,0)) (fin:=fun _=>some (ZT,9)) hl (fun k s i=>rfl) ()
 rw [this]
 clear this hl
 simp only [hne,Bool.not_false,if_true]
 generalize 0=i
 induction alts generalizing bs i with
 | nil=>
  cases bs with
  | nil=>rfl
  | cons b bs=>simp at h
 | cons w alts ih=>
  cases bs with
  | nil=>simp at h
  | cons b bs=>
   simp only [List.map_cons,List.cons.injEq] at h
   rw [dG,h.1]
   simp only [ay,List.any_cons,id]
   cases b with
   | true=>simp
   | false=>
    simp only [Bool.not_false,if_true,Bool.false_or]
    exact ih bs h.2 (i + 1)
theorem ado (a:Ty):eF a (sc 0)=true:=by
 cases a <;> simp [sc,eF]
theorem any_ok {k:Int} (h:0≤k∧k≤7∧k≠5∧k≠6):(sc k).wf∧(sc k).dep≤16:=⟨h,by simp [sc,Ty.dep]⟩
theorem wL {k j:Int} (hk:k=5∨k=6) (h:0≤j∧j≤7∧j≠5∧j≠6):(Ty.nest k (sc j)).wf∧(Ty.nest k (sc j)).dep≤16:=⟨⟨hk,h⟩,by simp [sc,Ty.dep]⟩
def yx (name:Str) (n:Nat):Prop:=∃ (alts:List (List ak)) (x:ak) (w:List ak) (r:List (List ak)),kJ name=some (alts,x)∧alts=w :: r∧w.length=n∧rE name=some (n:Int)∧
 ∀ (e:aj) (Ts:List Ty),e.name=name→Ts.length=n→(∀ t∈Ts,t.wf∧t.dep≤16)→RES (pq e alts x (Ts.map Ty.api) BIG 0) (Ie (gY name (Ts.map Ty.api)))
theorem agC {name:Str} {alts:List Ty} {X:Ty} (hs:kJ name=some (alts.map fun w=>[w.api],X.api)) (hne:alts≠[]) (hA:rE name=some 1) (hw:∀ w∈alts,w.wf) (hX:X.wf∧X.dep≤16) (hd:(name == ([100,101,102,97,117,108,116]:Str))=false)
  (hl:alts.length < 100)
  (hr:∀ a:Ty,a.wf→a.dep≤16→gY name [a.api]=some (X.api,(alts.map (eF a)).any id)):yx name 1:=by
 obtain ⟨w0,r0,h0⟩:∃ w0 r0,alts=w0 :: r0:=by
  cases alts with
  | nil=>exact absurd rfl hne
  | cons a b=>exact ⟨a,b,rfl⟩
 refine ⟨_,_,[w0.api],r0.map fun w=>[w.api],hs,by rw [h0]; rfl,rfl,hA,?_⟩
 intro e Ts hn hlen hT
 match Ts,hlen with
 | [a],_=>
  obtain ⟨a1,a2⟩:=hT a (by simp)
  simp only [List.map_cons,List.map_nil]
  refine RES.mk X ((alts.map (eF a)).any id) ?_ (hr a a1 a2) (fun _=>hX)
  rw [am_ (by simp; omega) (by rw [hn]; exact hd) (alts.map (eF a)) ?_]
  ·
   simp only [List.map_map,Function.comp_def]
   refine List.map_congr_left fun w hwm=>?_
   exact ant a1 a2 (hw w hwm)
theorem akq {name:Str} {alts:List (Ty × Ty)} {X:Ty} (hs:kJ name=some (alts.map fun w=>[w.1.api,w.2.api],X.api)) (hne:alts≠[]) (hA:rE name=some 2) (hw:∀ w∈alts,w.1.wf∧w.2.wf) (hX:X.wf∧X.dep≤16) (hd:(name == ([100,101,102,97,117,108,116]:Str))=false)
  (hl:alts.length < 100)
  (hr:∀ a b:Ty,a.wf→a.dep≤16→b.wf→b.dep≤16→gY name [a.api,b.api]=some (X.api,(alts.map fun w=>eF a w.1 && eF b w.2).any id)):yx name 2:=by
 obtain ⟨w0,r0,h0⟩:∃ w0 r0,alts=w0 :: r0:=by
  cases alts with
  | nil=>exact absurd rfl hne
  | cons a b=>exact ⟨a,b,rfl⟩
 refine ⟨_,_,[w0.1.api,w0.2.api],r0.map fun w=>[w.1.api,w.2.api],hs,by rw [h0]; rfl,rfl,hA,?_⟩
 intro e Ts hn hlen hT
 match Ts,hlen with
 | [a,b],_=>
  obtain ⟨a1,a2⟩:=hT a (by simp)
  obtain ⟨b1,b2⟩:=hT b (by simp)
  simp only [List.map_cons,List.map_nil]
  refine RES.mk X ((alts.map fun w=>eF a w.1 && eF b w.2).any id) ?_ (hr a b a1 a2 b1 b2) (fun _=>hX)
  rw [am_ (by simp; omega) (by rw [hn]; exact hd) (alts.map fun w=>eF a w.1 && eF b w.2) ?_]
  ·
   simp only [List.map_map,Function.comp_def]
   refine List.map_congr_left fun w hwm=>?_
   exact aiK a1 a2 b1 b2 (hw w hwm).1 (hw w hwm).2
theorem arw (a b:Ty):idx [a.api,b.api] 0=some a.api:=rfl
theorem arv (a b:Ty):idx [a.api,b.api] 1=some b.api:=rfl
theorem ako :yx [108,101,110] 1:=
 agC (alts:=[sc 4,.nest 5 (sc 0),.nest 6 (sc 0)]) (X:=sc 3) rfl (by simp) rfl (by simp [sc,Ty.wf]) (any_ok (by omega)) rfl (by simp) fun a h hd=>by
  have i4:=qO h (by omega) (vK (k:=4) (by omega))
  have l5:=(nP h (wL (k:=5) (j:=0) (by omega) (by omega)).1 (by omega)).2
  have l6:=(nP h (wL (k:=6) (j:=0) (by omega) (by omega)).1 (by omega)).2
  rw [show gY [108,101,110] [a.api]=au (ig a.api 4) fun x3=>au (if x3 then some true else fV a.api (Ty.nest 5 (sc 0)).api) fun b1=>au (if b1 then some true else fV a.api (Ty.nest 6 (sc 0)).api) fun b2=>some ((sc 3).api,b2) from rfl,i4,l5,l6]
  simp only [ay,aaO,List.map_cons,List.map_nil,List.any_cons,List.any_nil,id,Bool.or_false,Bool.or_assoc]
theorem P6 {name:Str} {X:Ty} (hX:X.wf∧X.dep≤16) (hs:kJ name=some ([[(sc 4).api]],X.api)) (hA:rE name=some 1) (hd:(name == ([100,101,102,97,117,108,116]:Str))=false)
  (hr:∀ a:Ty,gY name [a.api]=au (ig a.api 4) fun b=>some (X.api,b)):yx name 1:=
 agC (alts:=[sc 4]) (X:=X) hs (by simp) hA (by simp [sc,Ty.wf]) hX hd (by simp) fun a h hd=>by
  rw [hr,qO h (by omega) (vK (k:=4) (by omega))]
  simp
theorem afe :yx [108,111,119,101,114] 1:=P6 (X:=sc 4) (any_ok (by omega)) rfl rfl rfl fun a=>rfl
theorem afc :yx [117,112,112,101,114] 1:=P6 (X:=sc 4) (any_ok (by omega)) rfl rfl rfl fun a=>rfl
theorem akp :yx [105,110,116] 1:=P6 (X:=sc 3) (any_ok (by omega)) rfl rfl rfl fun a=>rfl
theorem adt :yx [115,116,114,105,110,103] 1:=
 agC (alts:=[sc 1,sc 2,sc 3,sc 4]) (X:=sc 4) rfl (by simp) rfl (by simp [sc,Ty.wf]) (any_ok (by omega)) rfl (by simp) fun a h hd=>by
  have e1:gY [115,116,114,105,110,103] [a.api]=some ((sc 4).api,(a.kind != 5) && (a.kind != 6)):=by
   rw [show gY [115,116,114,105,110,103] [a.api]=au (if a.api.kind != 5 then some (a.api.kind != 6) else some false) fun b10=>some ((sc 4).api,b10) from rfl,Ty.oG]
   cases (a.kind != 5) <;> rfl
  rw [e1]
  congr 2
  cases a with
  | leaf k=>
   have hk:k=0∨k=1∨k=2∨k=3∨k=4∨k=7:=by obtain ⟨h1,h2,h3,h4⟩:=h; omega
   rcases hk with rfl | rfl | rfl | rfl | rfl | rfl <;> rfl
  | nest k s=>rcases h.1 with rfl | rfl <;> simp [sc,eF,Ty.kind]
theorem ahL :yx [107,101,121,115] 1:=
 agC (alts:=[.nest 6 (sc 0)]) (X:=.nest 5 (sc 4)) rfl (by simp) rfl (by simp [sc,Ty.wf]) (wL (by omega) (by omega)) rfl (by simp) fun a h hd=>by
  have l6:=(nP h (wL (k:=6) (j:=0) (by omega) (by omega)).1 (by omega)).2
  rw [show gY [107,101,121,115] [a.api]=au (fV a.api (Ty.nest 6 (sc 0)).api) fun x33=>some ((Ty.nest 5 (sc 4)).api,x33) from rfl,l6]
  simp
theorem Ye :yx [99,111,110,116,97,105,110,115] 2:=
 akq (alts:=[(.nest 5 (sc 0),sc 0),(sc 4,sc 4),(.nest 6 (sc 0),sc 4)]) (X:=sc 2) rfl (by simp) rfl (by simp [sc,Ty.wf]) (any_ok (by omega)) rfl (by simp) fun a b h hd hb hbd=>by
  have ia:=qO h (by omega) (vK (k:=4) (by omega))
  have ib:=qO hb (by omega) (vK (k:=4) (by omega))
  have l5:=(nP h (wL (k:=5) (j:=0) (by omega) (by omega)).1 (by omega)).2
  have l6:=(nP h (wL (k:=6) (j:=0) (by omega) (by omega)).1 (by omega)).2
  rw [show gY [99,111,110,116,97,105,110,115] [a.api,b.api]=au (fV a.api (Ty.nest 5 (sc 0)).api) fun wS=>au (if wS then some true else au (ig b.api 4) fun H8=>if H8 then
    (au (ig a.api 4) fun LQ=>if LQ then some true else fV a.api (Ty.nest 6 (sc 0)).api) else some false) fun b3=>some ((sc 2).api,b3) from rfl,l5,l6,ia,ib]
  simp only [ay,List.map_cons,List.map_nil,List.any_cons,List.any_nil,id,ado]
  cases eF a (Ty.nest 5 (sc 0)) <;> cases eF b (sc 4) <;> cases eF a (sc 4) <;> cases eF a (Ty.nest 6 (sc 0)) <;> rfl
theorem ahM :yx [106,111,105,110] 2:=
 akq (alts:=[(.nest 5 (sc 4),sc 4)]) (X:=sc 4) rfl (by simp) rfl (by simp [sc,Ty.wf]) (any_ok (by omega)) rfl (by simp) fun a b h hd hb hbd=>by
  have ib:=qO hb (by omega) (vK (k:=4) (by omega))
  have l5:=(nP h (wL (k:=5) (j:=4) (by omega) (by omega)).1 (by omega)).2
  rw [show gY [106,111,105,110] [a.api,b.api]=au (fV a.api (Ty.nest 5 (sc 4)).api) fun LP=>au (if LP then ig b.api 4 else some false) fun b6=>some ((sc 4).api,b6) from rfl,l5,ib]
  simp [yZ]
theorem P5 {name:Str} {X:Ty} (hX:X.wf∧X.dep≤16) (hs:kJ name=some ([[(sc 4).api,(sc 4).api]],X.api)) (hA:rE name=some 2) (hd:(name == ([100,101,102,97,117,108,116]:Str))=false)
  (hr:∀ a b:Ty,gY name [a.api,b.api]=au (ig a.api 4) fun x=>au (if x then ig b.api 4 else some false) fun b=>some (X.api,b)):yx name 2:=
 akq (alts:=[(sc 4,sc 4)]) (X:=X) hs (by simp) hA (by simp [sc,Ty.wf]) hX hd (by simp) fun a b h hd hb hbd=>by
  rw [hr,qO h (by omega) (vK (k:=4) (by omega)),qO hb (by omega) (vK (k:=4) (by omega))]
  simp [yZ]
theorem afd :yx [115,112,108,105,116] 2:=P5 (X:=.nest 5 (sc 4)) (wL (by omega) (by omega)) rfl rfl rfl fun a b=>rfl
theorem adu :yx [115,116,97,114,116,115,119,105,116,104] 2:=P5 (X:=sc 2) (any_ok (by omega)) rfl rfl rfl fun a b=>rfl
theorem ahN :yx [101,110,100,115,119,105,116,104] 2:=P5 (X:=sc 2) (any_ok (by omega)) rfl rfl rfl fun a b=>rfl
theorem abg :yx [100,101,102,97,117,108,116] 2:=by
 refine ⟨[[(sc 0).api,(sc 0).api]],(sc 0).api,[(sc 0).api,(sc 0).api],[],rfl,rfl,rfl,rfl,?_⟩
 intro e Ts hn hlen hT
 match Ts,hlen with
 | [a,b],_=>
  obtain ⟨a1,a2⟩:=hT a (by simp)
  obtain ⟨b1,b2⟩:=hT b (by simp)
  simp only [List.map_cons,List.map_nil]
  have e1:pq e [[(sc 0).api,(sc 0).api]] (sc 0).api [a.api,b.api] BIG 0=some (if a.kind == 1 then (b.api,0) else (a.api,0)):=by
   obtain ⟨n,hB⟩:=ao6
   rw [hB,pq]
   have hsu:=aiK a1 a2 b1 b2 (w:=sc 0) (v:=sc 0) (any_ok (by omega)).1 (any_ok (by omega)).1
   have i0:idx [[(sc 0).api,(sc 0).api]] 0=some [(sc 0).api,(sc 0).api]:=rfl
   rw [i0]
   simp only [ay,hsu,ado,hn,arw,arv,Ty.oG]
   simp
   split <;> rfl
  have e2:gY [100,101,102,97,117,108,116] [a.api,b.api]=some (if a.kind == 1 then (b.api,true) else (a.api,true)):=by
   rw [show gY [100,101,102,97,117,108,116] [a.api,b.api]=(if a.api.kind == 1 then some (b.api,true) else some (a.api,true)) from rfl,Ty.oG]
   split <;> rfl
  rw [e1,e2]
  cases (a.kind == 1) with
  | true=>exact RES.mk b true rfl rfl (fun _=>⟨b1,b2⟩)
  | false=>exact RES.mk a true rfl rfl (fun _=>⟨a1,a2⟩)
theorem ag4 (name:Str):(kJ name=some ([],(sc 0).api)∧rE name=some (-1))∨∃ n,yx name n:=by
 by_cases h1:name=[108,101,110]
 · subst h1; exact .inr ⟨_,ako⟩
 by_cases h2:name=[108,111,119,101,114]
 · subst h2; exact .inr ⟨_,afe⟩
 by_cases h3:name=[117,112,112,101,114]
 · subst h3; exact .inr ⟨_,afc⟩
 by_cases h4:name=[115,116,114,105,110,103]
 · subst h4; exact .inr ⟨_,adt⟩
 by_cases h5:name=[105,110,116]
 · subst h5; exact .inr ⟨_,akp⟩
 by_cases h6:name=[107,101,121,115]
 · subst h6; exact .inr ⟨_,ahL⟩
 by_cases h7:name=[99,111,110,116,97,105,110,115]
 · subst h7; exact .inr ⟨_,Ye⟩
 by_cases h8:name=[106,111,105,110]
 · subst h8; exact .inr ⟨_,ahM⟩
 by_cases h9:name=[115,112,108,105,116]
 · subst h9; exact .inr ⟨_,afd⟩
 by_cases h10:name=[115,116,97,114,116,115,119,105,116,104]
 · subst h10; exact .inr ⟨_,adu⟩
 by_cases h11:name=[101,110,100,115,119,105,116,104]
 · subst h11; exact .inr ⟨_,ahN⟩
 by_cases h12:name=[100,101,102,97,117,108,116]
 · subst h12; exact .inr ⟨_,abg⟩
 left
 constructor
 · simp [kJ,gB,nQ,h1,h2,h3,h4,h5,h6,h7,h8,h9,h10,h11,h12,sc,Ty.api]
 · simp [rE,h1,h2,h3,h4,h5,h6,h7,h8,h9,h10,h11,h12]
end Go.Ft

namespace Go.Ft
open Go
attribute [local congr] dZ
mutual
def Qi :ah→Ty
 | ⟨k,_,_,_,l,_⟩=>if k=0 then sc 1 else if k=1 then sc 2 else if k=2 then sc 3 else if k=3 then sc 4 else .nest (if k=4 then 5 else 6) (Sb l (sc 7))
def Sb :List ah→Ty→Ty
 | [],t=>t
 | x :: r,t=>Sb r (kZ t (Qi x))
end
theorem GJ (v:ah):Qi v=if v.kind=0 then sc 1 else if v.kind=1 then sc 2 else if v.kind=2 then sc 3 else if v.kind=3 then sc 4 else .nest (if v.kind=4 then 5 else 6) (Sb v.aO (sc 7)):=by cases v; rw [Qi]
theorem ofL {go:ah→Option ak} {join:ak→ak→Option ak} {K:ak→Option ak} {lv:Nat} (hlv:lv≤16) (hj:∀ a b:Ty,a.wf→b.wf→a.dep≤1000→b.dep≤1000→join a.api b.api=some (kZ a b).api):
  ∀ (l:List ah) (t:Ty) (i:Nat),t.wf→t.dep + lv≤17→(∀ x∈l,go x=some (Qi x).api∧(Qi x).wf∧(Qi x).dep + lv≤17)→
  dG (fun _ e1 (kg:ak) r=>au (go e1) fun x7=>au (join kg x7) fun x8=>r x8) K i l t.api=K (Sb l t).api∧(Sb l t).wf∧(Sb l t).dep + lv≤17
 | [],t,i,h,hd,_=>⟨rfl,h,hd⟩
 | x :: r,t,i,h,hd,hl=>by
  obtain ⟨x1,x2,x3⟩:=hl x (by simp)
  have jd:=Dm t (Qi x)
  rw [dG,x1,Sb]
  simp only [ay,hj t (Qi x) h x2 (by omega) (by omega)]
  exact ofL hlv hj r (kZ t (Qi x)) (i + 1) (qw _ _ h x2) (by omega) fun y hy=>hl y (by simp [hy])
theorem ap5 :∀ (n:Nat) (v:ah) (level:Nat),v.bulk≤n→v.bulk < 4611686018427387904→zB v level=0→
  oV (n + 1) v=some (Qi v).api∧Bz (n + 1) v=some (Qi v).api∧(Qi v).wf∧(Qi v).dep + level≤17
 | 0,v,_,h,_,_=>by have:=v.jY; omega
 | n + 1,v,level,h,hB,hc=>by
  obtain ⟨h0,hm⟩:=RZ hc
  obtain ⟨z1,z2,z3,z4⟩:=Gj h0
  have hl:=vW v
  rw [oV,Dy,Bz,QI,GJ]
  by_cases k0:v.kind=0
  · simp only [k0]; exact ⟨rfl,rfl,(any_ok (by omega)).1,by simp [sc,Ty.dep]; omega⟩
  by_cases k1:v.kind=1
  · simp only [k1]; exact ⟨rfl,rfl,(any_ok (by omega)).1,by simp [sc,Ty.dep]; omega⟩
  by_cases k2:v.kind=2
  · simp only [k2]; exact ⟨rfl,rfl,(any_ok (by omega)).1,by simp [sc,Ty.dep]; omega⟩
  by_cases k3:v.kind=3
  · simp only [k3]; exact ⟨rfl,rfl,(any_ok (by omega)).1,by simp [sc,Ty.dep]; omega⟩
  have k45:v.kind=4∨v.kind=5:=by omega
  have hlv:level≤15:=by
   by_cases hnil:v.aO=[]
   · have:=z4 k45 hnil; omega
   ·
    obtain ⟨x,hx⟩:=List.exists_mem_of_ne_nil _ hnil
    have:=(Gj (RZ (hm x hx)).1).1
    omega
  have e0:(v.kind == 0)=false:=by simpa using k0
  have e1:(v.kind == 1)=false:=by simpa using k1
  have e2:(v.kind == 2)=false:=by simpa using k2
  have e3:(v.kind == 3)=false:=by simpa using k3
  simp only [e0,e1,e2,e3,Bool.false_eq_true,if_false,k0,k1,k2,k3,ay]
  have w7:(sc 7).wf∧(sc 7).dep + (level + 1)≤17:=⟨(any_ok (by omega)).1,by simp [sc,Ty.dep]; omega⟩
  have ih:=fun x (hx:x∈v.aO)=>ap5 n x (level + 1) (by have:=iV hx; omega) (by have:=iV hx; omega) (hm x hx)
  have s1:=dH (F:=fun k s i=>w9 (oV (n + 1)) v k i s) (l:=v.aO) (body:=fun _ e1 (kg:ak) r=>au (oV (n + 1) e1) fun x7=>au (Ec kg x7) fun x8=>r x8)
   (fin:=fun kg=>if v.kind == 4 then qU 5 kg else qU 6 kg) (by omega) (fun k s i=>rfl) (sc 7).api
  have s2:=dH (F:=fun k s i=>JK (Bz (n + 1)) v k i s) (l:=v.aO) (body:=fun _ e1 (kg:ak) r=>au (Bz (n + 1) e1) fun x7=>au (MN kg x7) fun x8=>r x8)
   (fin:=fun t1=>if v.kind == 5 then kP 6 t1 else kP 5 t1) (by omega) (fun k s i=>rfl) (sc 7).api
  obtain ⟨a1,a2,a3⟩:=ofL (lv:=level + 1) (K:=fun kg=>if v.kind == 4 then qU 5 kg else qU 6 kg) (by omega) (fun a b x y z w=>(join_eq x y z w).1) v.aO (sc 7) 0 w7.1 w7.2 (fun x hx=>⟨(ih x hx).1,(ih x hx).2.2⟩)
  obtain ⟨b1,_,_⟩:=ofL (lv:=level + 1) (K:=fun t1=>if v.kind == 5 then kP 6 t1 else kP 5 t1) (by omega) (fun a b x y z w=>(join_eq x y z w).2) v.aO (sc 7) 0 w7.1 w7.2 (fun x hx=>⟨(ih x hx).2.1,(ih x hx).2.2⟩)
  have t7:g_ 7=some (sc 7).api:=rfl
  have p7:kH 7=some (sc 7).api:=rfl
  rw [t7,p7]
  simp only [ay]
  rw [s1,a1,s2,b1]
  refine ⟨?_,?_,⟨?_,a2⟩,by simp only [Ty.dep]; omega⟩
  · rcases k45 with k | k <;> simp [k,qU,Ty.api]
  · rcases k45 with k | k <;> simp [k,kP,Ty.api]
  ·
   split
   · exact .inl rfl
   · exact .inr rfl
theorem agK {v:ah} (h:v.bulk < 4611686018427387904) (hc:zB v 1=0):Jv v=some (Qi v).api∧MO v=some (Qi v).api∧(Qi v).wf∧(Qi v).dep≤16:=by
 obtain ⟨n,hn,hn2⟩:=uW
 obtain ⟨a1,a2,a3,a4⟩:=ap5 n v 1 (by omega) h hc
 unfold Jv MO Mq aeB
 rw [FT h,Ve h,hc,hn,a1,a2]
 exact ⟨rfl,rfl,a3,by omega⟩
def aa5 :List Str→List aH→Int
 | _,[]=>0
 | seen,d :: r=>if !oZ d.name then 1 else if R3 d.rY != 0 then R3 d.rY else if seen.contains d.name then 7 else aa5 (seen ++ [d.name]) r
def abC (env:List aH):Prop:=∀ d∈env,∃ T:Ty,T.wf∧T.dep≤16∧d.rY=T.api
theorem akc :∀ (r:List aH) (seen:List Str),aa5 seen r=0→abC r
 | [],_,_,d,hd=>by cases hd
 | x :: r,seen,h,d,hd=>by
  rw [aa5] at h
  cases h1:oZ x.name with
  | false=>rw [h1] at h; simp at h
  | true=>
   rw [h1] at h
   simp only [Bool.not_true,Bool.false_eq_true,if_false] at h
   by_cases h2:R3 x.rY=0
   ·
    rw [if_neg (by simpa using h2)] at h
    obtain ⟨T,t1,t2,t3⟩:=(Dz x.rY).2.2 h2
    split at h
    · simp at h
    ·
     rcases List.mem_cons.1 hd with rfl | hd
     · exact ⟨T,t1,t3,t2⟩
     · exact akc r _ h d hd
   · rw [if_pos (by simpa using h2)] at h; exact absurd h h2
theorem aqE :∀ (r:List aH) (i:Nat) (y:List (Str × Int)) (seen:List Str),(∀ d∈r,d.name.length < 4611686018427387000)→(∀ s,qp y s=if s∈seen then 1 else 0)→
  dG (fun _ e1 (y1:List (Str × Int)) r=>au (kQ (aj.mk 2 e1.name (ah.mk 0 false 0 ([]:Str) [] []) [] [])) fun x2=>if x2 != 0 then some 1 else au (lW e1.rY) fun e2=>if e2 != 0 then some e2 else
   if decide (1 < (qp (uX y1 e1.name (bZ ((qp y1 e1.name) + 1))) e1.name)) then some 7 else r (uX y1 e1.name (bZ ((qp y1 e1.name) + 1)))) (fun _=>some 0) i r y=some (aa5 seen r)
 | [],_,_,_,_,_=>rfl
 | d :: r,i,y,seen,hd,hy=>by
  rw [dG,aa5,af7 (hd d (by simp)),(Dz d.rY).1,Ga,if_pos rfl,hy d.name]
  cases h1:oZ d.name with
  | false=>simp
  | true=>
   simp only [if_true,ay,Bool.not_true,Bool.false_eq_true,if_false,bne_self_eq_false]
   by_cases h2:R3 d.rY=0
   ·
    simp only [h2,bne_self_eq_false,Bool.false_eq_true,if_false]
    by_cases hc:d.name∈seen
    ·
     have:bZ 2=2:=by decide
     simp [hc,this]
    ·
     have:bZ ((0:Int) + 1)=1:=by decide
     simp only [hc,if_false,this]
     have e:seen.contains d.name=false:=by simpa using hc
     rw [e]
     simp only [Int.lt_irrefl,decide_false,Bool.false_eq_true,if_false]
     refine aqE r (i + 1) _ (seen ++ [d.name]) (fun z hz=>hd z (by simp [hz])) fun s=>?_
     rw [Ga,hy s]
     by_cases h1:s=d.name
     · subst h1; simp
     · simp [h1]
   · simp [h2]
theorem aj_ (l:List aH) (i:Nat) (hi:i < l.length) (hl:l.length < 4611686018427387904) (go:Int→Option Int):∀ (k j:Nat),i < k + j→j≤i→
  Da l (i:Int) go k (j:Int)=if (((l.take i).drop j).map (·.name)).contains l[i].name then some 7 else go ((i + 1:Nat):Int)
 | 0,j,h,h'=>by omega
 | k + 1,j,h,h'=>by
  rw [Da]
  by_cases hj:j < i
  ·
   have hlt:j < (l.take i).length:=by simp; omega
   rw [if_pos (by simpa using hj),rW hi,rW (by omega),List.drop_eq_getElem_cons hlt]
   simp only [ay,List.map_cons,List.contains_cons,List.getElem_take]
   by_cases h1:l[j].name=l[i].name
   · simp [h1]
   ·
    have e1:(l[j].name == l[i].name)=false:=by simpa using h1
    have e2:(l[i].name == l[j].name)=false:=by simpa using fun hh=>h1 hh.symm
    simp only [e1,e2,Bool.false_eq_true,if_false,Bool.false_or]
    rw [zy (by omega)]
    exact aj_ l i hi hl go k (j + 1) (by omega) (by omega)
  ·
   have:j=i:=by omega
   subst this
   rw [if_neg (by simp),zy (by omega)]
   have:(List.take j l).drop j=[]:=List.drop_eq_nil_of_le (by simp; omega)
   rw [this]
   simp
theorem aqD (l:List aH) (hl:l.length < 4611686018427387904) (hd:∀ d∈l,d.name.length < 4611686018427387000):∀ (k i:Nat),l.length < k + i→i≤l.length→xu l k (i:Int)=some (aa5 ((l.take i).map (·.name)) (l.drop i))
 | 0,i,h,h'=>by omega
 | k + 1,i,h,h'=>by
  rw [xu]
  by_cases hi:i < l.length
  ·
   have hn:=hd l[i] (List.getElem_mem hi)
   rw [if_pos (by simpa using hi),List.drop_eq_getElem_cons hi,aa5,rW hi]
   have:=aj_ l i hi hl (xu l k) BIG 0 (by have:=jq; omega) (by omega)
   rw [show (0:Int)=((0:Nat):Int) from rfl,this,List.drop_zero,aqD l hl hd k (i + 1) (by omega) (by omega)]
   simp only [ay,(VA l[i].name (by omega)).2,(Dz _).2.1]
   have e:List.take (i + 1) l=List.take i l ++ [l[i]]:=by rw [List.take_add_one,List.getElem?_eq_getElem hi]; rfl
   rw [e,List.map_append]
   cases oZ l[i].name with
   | false=>simp
   | true=>
    simp only [Bool.not_true,Bool.false_eq_true,if_false]
    by_cases h2:R3 l[i].rY=0
    ·
     simp only [h2,Int.natCast_zero,bne_self_eq_false,Bool.false_eq_true,if_false]
     split <;> rfl
    · simp [h2]
  ·
   have:i=l.length:=by omega
   subst this
   simp [aa5]
def ae4 (env:List aH):Int:=if 1024 < env.length then 3 else aa5 [] env
theorem aoG {env:List aH} (hl:env.length < 4611686018427387904) (hd:∀ d∈env,d.name.length < 4611686018427387000):J6 env=some (ae4 env)∧QH env=some (ae4 env)∧(ae4 env=0→abC env):=by
 unfold J6 QH ae4
 have e:decide ((1024:Int) < (env.length:Int))=decide (1024 < env.length):=by congr 1; simp; omega
 rw [e]
 by_cases h:1024 < env.length
 · simp [h]
 ·
  simp only [h,decide_false,Bool.false_eq_true,if_false]
  have s1:=dH (F:=fun k s i=>Co env k i s) (l:=env) (body:=fun _ e1 (y1:List (Str × Int)) r=>au (kQ (aj.mk 2 e1.name (ah.mk 0 false 0 ([]:Str) [] []) [] [])) fun x2=>if x2 != 0 then some 1 else au (lW e1.rY) fun e2=>if e2 != 0 then some e2 else
   if decide (1 < (qp (uX y1 e1.name (bZ ((qp y1 e1.name) + 1))) e1.name)) then some 7 else r (uX y1 e1.name (bZ ((qp y1 e1.name) + 1)))) (fin:=fun _=>some 0) hl (fun k s i=>rfl) []
  have s2:=aqD env hl hd BIG 0 (by have:=jq; omega) (by omega)
  refine ⟨?_,by simpa using s2,akc env []⟩
  rw [s1]
  exact aqE env 0 [] [] hd (fun s=>by simp [qp])
end Go.Ft

namespace Go.Ft
open Go
attribute [local congr] dZ
def bodyC (go:aj→Option (ak × Int)):Nat→aj→List ak→(List ak→Option (List ak × Int))→Option (List ak × Int):=
 fun _ e1 bH r=>fM (go e1) fun x2 f1=>if f1 != 0 then some ([],f1) else au (app bH [x2]) fun yS=>r yS
def TT (go:aj→Option (ak × Int)):Nat→aj→List ak→(List ak→Option (ak × Int))→Option (ak × Int):=
 fun _ e1 bH r=>fM (go e1) fun x5 f1=>if f1 != 0 then some (ZT,f1) else au (app bH [x5]) fun l2=>r l2
theorem ane {goC goR:aj→Option (ak × Int)} {K:List ak→Option (ak × Int)}:∀ (l:List aj) (out:List Ty) (i:Nat),(∀ x∈l,RES (goC x) (goR x))→out.length + l.length≤4000→
  (∃ c,c≠0∧dG (bodyC goC) (fun o=>some (o,0)) i l (out.map Ty.api)=some ([],c)∧dG (TT goR) K i l (out.map Ty.api)=some (ZT,c))∨
  (∃ Ts:List Ty,Ts.length=l.length∧(∀ t∈Ts,t.wf∧t.dep≤16)∧dG (bodyC goC) (fun o=>some (o,0)) i l (out.map Ty.api)=some ((out ++ Ts).map Ty.api,0)∧dG (TT goR) K i l (out.map Ty.api)=K ((out ++ Ts).map Ty.api))
 | [],out,i,_,_=>.inr ⟨[],rfl,fun t ht=>(by cases ht),by simp [dG],by simp [dG]⟩
 | x :: r,out,i,h,hn=>by
  simp only [List.length_cons] at hn
  obtain ⟨T,c,w,d,z,e1,e2⟩:=h x (by simp)
  rw [dG,dG,bodyC,TT]
  simp only [e1,e2,bU]
  by_cases hc:c=0
  ·
   subst hc
   have ha:app (out.map Ty.api) [T.api]=some ((out ++ [T]).map Ty.api):=by
    rw [vN (by simp [wB]; omega)]; simp
   simp only [bne_self_eq_false,Bool.false_eq_true,if_false,ha,ay]
   rcases ane (K:=K) r (out ++ [T]) (i + 1) (fun y hy=>h y (by simp [hy])) (by simp; omega) with ⟨c,c1,c2,c3⟩ | ⟨Ts,c1,c2,c3,c4⟩
   · exact .inl ⟨c,c1,c2,c3⟩
   ·
    refine .inr ⟨T :: Ts,by simp [c1],?_,?_,?_⟩
    ·
     intro t ht
     rcases List.mem_cons.1 ht with rfl | ht
     · exact ⟨w,d⟩
     · exact c2 t ht
    · have:=c3; rw [List.append_assoc] at this; exact this
    · have:=c4; rw [List.append_assoc] at this; exact this
  · exact .inl ⟨c,hc,by simp [hc],by simp [hc]⟩
theorem aa_ {env:List aH} (hW:abC env) (hl:env.length < 4611686018427387904) (e:aj) (he:e.kind=2):RES (xW env e.name) (Br e env):=by
 unfold xW Br
 have h1:(e.kind == 1)=false:=by simp [he]
 rw [h1]
 simp only [Bool.false_eq_true,if_false]
 have s1:=dH (F:=fun k (_:Unit) i=>tH env e.name k i) (l:=env) (body:=fun _ e1 _ r=>if e1.name == e.name then some (e1.rY,0) else r ()) (fin:=fun _=>some (ZT,10)) hl (fun k s i=>rfl) ()
 have s2:=dH (F:=fun k (_:Unit) i=>AB e env k i) (l:=env) (body:=fun (i:Nat) e1 _ r=>if e1.name == e.name then au (idx env (i:Int)) fun e3=>some (e3.rY,0) else r ()) (fin:=fun _=>some (ZT,10)) hl (fun k s i=>rfl) ()
 rw [s1,s2]
 have key:∀ (t:List aH) (i:Nat),t=env.drop i→RES (dG (fun _ e1 (_:Unit) r=>if e1.name == e.name then some (e1.rY,0) else r ()) (fun _=>some (ZT,10)) i t ())
   (dG (fun (i:Nat) e1 (_:Unit) r=>if e1.name == e.name then au (idx env (i:Int)) fun e3=>some (e3.rY,0) else r ()) (fun _=>some (ZT,10)) i t ()):=by
  intro t
  induction t with
  | nil=>intro i _; exact ⟨sc 0,10,(any_ok (by omega)).1,(any_ok (by omega)).2,fun _=>rfl,rfl,rfl⟩
  | cons d t ih=>
   intro i ht
   have hi:i < env.length:=by
    rcases Nat.lt_or_ge i env.length with h | h
    · exact h
    · rw [List.drop_eq_nil_of_le h] at ht; cases ht
   have hc:=List.drop_eq_getElem_cons hi
   rw [←ht] at hc
   have e1:d=env[i]:=(List.cons.inj hc).1
   have e2:=(List.cons.inj hc).2
   rw [dG,dG,rW hi,←e1]
   simp only [ay]
   cases (d.name == e.name) with
   | true=>
    simp only [if_true]
    obtain ⟨T,t1,t2,t3⟩:=hW d (by rw [e1]; exact List.getElem_mem hi)
    exact ⟨T,0,t1,t2,fun h=>absurd rfl h,by rw [t3],by rw [t3]⟩
   | false=>
    simp only [Bool.false_eq_true,if_false]
    exact ih (i + 1) e2
 exact key env 0 rfl
theorem Rf {env:List aH} (hW:abC env) (hl:env.length < 4611686018427387904):∀ (b:Nat) (e:aj) (level k m:Nat),e.bulk≤b→e.bulk < 4611686018427387904→EO e level=0→3 * b + 3≤k→b + 1≤m→
  RES (iN k e env) (jM m e env)
 | 0,e,_,_,_,h,_,_,_,_=>by have:=e.jY; omega
 | b + 1,e,level,k,m,h,hB,hx,hk,hm=>by
  obtain ⟨x1,x2⟩:=RS hx
  obtain ⟨f1,f2,f3⟩:=U3 x1
  obtain ⟨p1,p2,p3⟩:=Q_ f1
  have hal:=J2 e
  obtain ⟨k1,rfl⟩:∃ k1,k=k1 + 3:=⟨k - 3,by omega⟩
  obtain ⟨m1,rfl⟩:∃ m1,m=m1 + 1:=⟨m - 1,by omega⟩
  have args:∀ k2:Nat,3 * b + 3≤k2→(∃ c,c≠0∧qJ (iN k2) e.args env BIG [] 0=some ([],c)∧sM (jM m1) e env BIG [] 0=some (ZT,c))∨
    (∃ Ts:List Ty,Ts.length=e.args.length∧(∀ t∈Ts,t.wf∧t.dep≤16)∧qJ (iN k2) e.args env BIG [] 0=some (Ts.map Ty.api,0)∧sM (jM m1) e env BIG [] 0=Ie (gN e (Ts.map Ty.api))):=by
   intro k2 hk2
   have s1:=dH (F:=fun k s i=>qJ (iN k2) e.args env k s i) (l:=e.args) (body:=bodyC fun x=>iN k2 x env) (fin:=fun o=>some (o,0)) (by omega) (fun k s i=>rfl) []
   have s2:=dH (F:=fun k s i=>sM (jM m1) e env k s i) (l:=e.args) (body:=TT fun x=>jM m1 x env) (fin:=fun l1=>Ie (gN e l1)) (by omega) (fun k s i=>rfl) []
   rw [s1,s2]
   have:=ane (K:=fun l1=>Ie (gN e l1)) (goC:=fun x=>iN k2 x env) (goR:=fun x=>jM m1 x env) e.args [] 0 (fun x hx=>Rf hW hl b x (level + 1) k2 m1 (by have:=jl hx; omega) (by have:=jl hx; omega) (x2 x hx) hk2 (by omega)) (by simp; omega)
   simpa using this
  have err:∀ c:Int,RES (some (ZT,c)) (some (ZT,c)):=fun c=>⟨sc 0,c,(any_ok (by omega)).1,(any_ok (by omega)).2,fun _=>rfl,rfl,rfl⟩
  rw [iN,FI,jM,Ah]
  unfold EU at p1
  simp only [Bool.not_eq_true',Bool.or_eq_false_iff,decide_eq_false_iff_not] at p1
  have hkind:e.kind=1∨e.kind=2∨e.kind=3∨e.kind=4∨e.kind=5∨e.kind=6∨e.kind=7∨e.kind=8∨e.kind=9∨e.kind=10:=by omega
  have Te:mD (k1 + 2) e.args env=qJ (iN (k1 + 1)) e.args env BIG [] 0:=rfl
  rcases hkind with hk' | hk' | hk' | hk' | hk' | hk' | hk' | hk' | hk' | hk'
  ·
   
   have hz:e.args=[]:=by unfold rP at p3; simp [hk'] at p3; exact p3
   have h1:mD (k1 + 2) e.args env=some ([],0):=by
    rw [Te,hz]; rfl
   obtain ⟨o1,o2,o3,o4⟩:=agK (v:=e.value) (by have:=Ez e; omega) (f2 hk')
   rw [h1]
   unfold Br
   simp only [hk',bU,o1,o2]
   exact ⟨Qi e.value,0,o3,o4,fun h=>absurd rfl h,rfl,rfl⟩
  ·
   
   have hz:e.args=[]:=by unfold rP at p3; simp [hk'] at p3; exact p3
   have h1:mD (k1 + 2) e.args env=some ([],0):=by
    rw [Te,hz]; rfl
   have:=aa_ hW hl e hk'
   rw [h1]
   simpa [hk'] using this
  ·
   have hlen:e.args.length=1:=by unfold rP at p3; simp [hk'] at p3; omega
   rw [Te]
   rcases args (k1 + 1) (by omega) with ⟨c,c1,c2,c3⟩ | ⟨Ts,c1,c2,c3,c4⟩
   · rw [c2]; simp only [hk']; simpa [c1,c3,ZT] using err c
   ·
    rw [c3]
    obtain ⟨t,rfl⟩:=len1 (c1.trans hlen)
    obtain ⟨w,d⟩:=c2 t (by simp)
    have:=aeS w d hk' []
    simp only [hk']
    simpa [c4,idx] using this
  ·
   have hlen:e.args.length=2:=by unfold rP at p3; simp [hk'] at p3; omega
   rw [Te]
   rcases args (k1 + 1) (by omega) with ⟨c,c1,c2,c3⟩ | ⟨Ts,c1,c2,c3,c4⟩
   · rw [c2]; simp only [hk']; simpa [c1,c3,ZT] using err c
   ·
    rw [c3]
    obtain ⟨t,u,rfl⟩:=len2 (c1.trans hlen)
    obtain ⟨w,d⟩:=c2 t (by simp)
    obtain ⟨w',d'⟩:=c2 u (by simp)
    have:=ahu w d w' d' hk' []
    simp only [hk']
    simpa [c4,idx] using this
  ·
   
   have hc5:nR (k1 + 2) e env=Cn (iN (k1 + 1)) (nR (k1 + 1)) (mD (k1 + 1)) e env:=rfl
   have aqM:mD (k1 + 1) e.args env=qJ (iN k1) e.args env BIG [] 0:=rfl
   simp only [hk']
   rw [hc5,Cn]
   rcases ag4 e.name with ⟨s1,s2⟩ | ⟨n,alts,x,w,r,s1,s2,s3,s4,s5⟩
   ·
    rw [s1,s2]
    simpa [ZT] using err 10
   ·
    rw [s1,s4]
    subst s2
    have hi:idx (w :: r) 0=some w:=rfl
    have hne:((((w :: r).length:Nat):Int) == 0)=false:=by simp; omega
    have hn0:decide (((n:Nat):Int) < 0)=false:=by simp
    simp only [bU,hne,Bool.false_eq_true,if_false,hi,ay,s3,hn0]
    by_cases hlen:e.args.length=n
    ·
     have e1:((e.args.length:Int) != (n:Int))=false:=by simp [hlen]
     have e2:((n:Int) != (e.args.length:Int))=false:=by simp [hlen]
     rw [aqM]
     rcases args k1 (by omega) with ⟨c,c1,c2,c3⟩ | ⟨Ts,c1,c2,c3,c4⟩
     · rw [c2]; simpa [e1,e2,c1,c3,ZT] using err c
     ·
      have:=s5 e Ts rfl (by omega) c2
      have Wh:gN e (Ts.map Ty.api)=gY e.name (Ts.map Ty.api):=by unfold gN; simp [hk']
      rw [c3]
      rw [Wh] at c4
      simpa [e1,e2,c4] using this
    ·
     have e1:((e.args.length:Int) != (n:Int))=true:=by simp; omega
     have e2:((n:Int) != (e.args.length:Int))=true:=by simp; omega
     simpa [e1,e2,ZT] using err 1
  ·
   have hlen:e.args.length=1:=by unfold rP at p3; simp [hk'] at p3; omega
   rw [Te]
   rcases args (k1 + 1) (by omega) with ⟨c,c1,c2,c3⟩ | ⟨Ts,c1,c2,c3,c4⟩
   · rw [c2]; simp only [hk']; simpa [c1,c3,ZT] using err c
   ·
    rw [c3]
    obtain ⟨t,rfl⟩:=len1 (c1.trans hlen)
    obtain ⟨w,d⟩:=c2 t (by simp)
    have:=agT w d hk' []
    simp only [hk']
    simpa [c4,idx] using this
  ·
   have hlen:e.args.length=2:=by unfold rP at p3; simp [hk'] at p3; omega
   have hop:e.name∈opsL:=by
    unfold EY at p2
    simp [hk'] at p2
    exact Vk p2
   rw [Te]
   rcases args (k1 + 1) (by omega) with ⟨c,c1,c2,c3⟩ | ⟨Ts,c1,c2,c3,c4⟩
   · rw [c2]; simp only [hk']; simpa [c1,c3,ZT] using err c
   ·
    rw [c3]
    obtain ⟨t,u,rfl⟩:=len2 (c1.trans hlen)
    obtain ⟨w,d⟩:=c2 t (by simp)
    obtain ⟨w',d'⟩:=c2 u (by simp)
    have:=afv w d w' d' hop
    have Wh:gN e [t.api,u.api]=nJ e.name t.api u.api:=by unfold gN; simp [hk',idx]
    simp only [List.map_cons,List.map_nil] at c4
    rw [Wh] at c4
    simp only [hk']
    simpa [c4,idx] using this
  ·
   have hlen:e.args.length=3:=by unfold rP at p3; simp [hk'] at p3; omega
   rw [Te]
   rcases args (k1 + 1) (by omega) with ⟨c,c1,c2,c3⟩ | ⟨Ts,c1,c2,c3,c4⟩
   · rw [c2]; simp only [hk']; simpa [c1,c3,ZT] using err c
   ·
    rw [c3]
    obtain ⟨t,u,v,rfl⟩:=aos (c1.trans hlen)
    obtain ⟨w,d⟩:=c2 t (by simp)
    obtain ⟨w',d'⟩:=c2 u (by simp)
    obtain ⟨w'',d''⟩:=c2 v (by simp)
    have:=aki w d w' d' w'' d'' hk' []
    simp only [hk']
    simpa [c4,idx] using this
  ·
   rw [Te]
   rcases args (k1 + 1) (by omega) with ⟨c,c1,c2,c3⟩ | ⟨Ts,c1,c2,c3,c4⟩
   · rw [c2]; simp only [hk']; simpa [c1,c3,ZT] using err c
   ·
    rw [c3]
    have hn:=Oe c2 (by omega) (e:=e) (.inl hk')
    have:=Q7 c2 (by omega) (k:=5) (.inl rfl) (by simpa [hk'] using hn)
    simp only [hk']
    simpa [c4] using this
  ·
   rw [Te]
   rcases args (k1 + 1) (by omega) with ⟨c,c1,c2,c3⟩ | ⟨Ts,c1,c2,c3,c4⟩
   · rw [c2]; simp only [hk']; simpa [c1,c3,ZT] using err c
   ·
    rw [c3]
    have hn:=Oe c2 (by omega) (e:=e) (.inr hk')
    have:=Q7 c2 (by omega) (k:=6) (.inr rfl) (by simpa [hk'] using hn)
    simp only [hk']
    simpa [c4] using this
end Go.Ft

namespace Go.Ft
open Go
attribute [local congr] dZ
theorem ac2 (T:Ty):kZ T (sc 7)=T:=by
 cases T with
 | leaf a=>
  unfold sc
  rw [kZ]
  by_cases h:a=7
  · simp [h]
  · simp [h]
 | nest a t=>unfold sc; rw [kZ]; simp
theorem afD {T:Ty} (h:T.wf) (hd:T.dep≤16):nW T.api (sc 7).api=some T.api:=by
 rw [(Lg h (any_ok (by omega)).1 hd (any_ok (by omega)).2).1,ac2]
end Go.Ft

namespace Go.Ft
open Go
attribute [local congr] dZ
theorem WO {e:aj} {env:List aH} (h:e.bulk≤1099511627776) (hl:env.length < 4611686018427387904) (hd:∀ d∈env,d.name.length < 4611686018427387000):
  (∃ c,c≠0∧xX e env=some (ZT,c)∧Bt e env=some (ZT,c))∨(∃ T:Ty,T.wf∧T.dep≤16∧xX e env=some (T.api,0)∧Bt e env=some (T.api,0)∧pK e env=some (T.api,0)∧xval e=0∧ae4 env=0):=by
 obtain ⟨v1,v2,v3⟩:=aoG (env:=env) hl hd
 obtain ⟨x1,x2⟩:=Uz (e:=e) (by omega)
 unfold xX Bt
 rw [v1,v2,x1,x2]
 simp only [ay]
 by_cases hv:ae4 env=0
 ·
  simp only [hv,bne_self_eq_false,Bool.false_eq_true,if_false]
  by_cases hx:xval e=0
  ·
   simp only [hx,bne_self_eq_false,Bool.false_eq_true,if_false]
   have hc:=NY hx
   obtain ⟨T,c,w,d,z,r1,r2⟩:=Rf (v3 hv) hl e.bulk e 1 BIG BIG (Nat.le_refl _) (by omega) hc (by have:=jq; omega) (by have:=jq; omega)
   have r1':PZ e env=some (T.api,c):=r1
   have r2':pK e env=some (T.api,c):=r2
   rw [r1',r2']
   simp only [bU]
   by_cases h0:c=0
   ·
    subst h0
    have t7:gB 7=some (sc 7).api:=rfl
    rw [if_neg (by simp),t7]
    simp only [ay,afD w d]
    exact .inr ⟨T,w,d,by simp⟩
   ·
    rw [if_pos (by simpa using h0),z h0]
    exact .inl ⟨c,h0,rfl,rfl⟩
  ·
   have hx':(xval e != 0)=true:=by simpa using hx
   simp only [hx',if_true]
   exact .inl ⟨_,hx,rfl,rfl⟩
 ·
  have hv':(ae4 env != 0)=true:=by simpa using hv
  simp only [hv',if_true]
  exact .inl ⟨_,hv,rfl,rfl⟩
end Go.Ft

namespace Go.Ft
open Go
attribute [local congr] dZ
def td (n:Str):aH:=aH.mk n (sc 2).api
def Ew :List aH:=[td nAl,td nCa,td nFa,td nSk,td nSu]
theorem Zb {vars:List aH} (h:vars.length≤1048576):CX vars=some (Ew ++ vars):=by
 have hL:wB=4294967296:=rfl
 unfold CX
 rw [show kH 2=some (sc 2).api from rfl,ay,vN (by simp; omega)]
 rfl
def Zl (t:ak):Int:=if t.kind=2∨t.kind=0∨t.kind=7 then 0 else 9
theorem WR {K:List aH→Option Int}:∀ (l:List aA) (i:Nat) (out:List aH),out.length + l.length≤100→
  dG (fun _ e1 (decls1:List aH) r=>au (app decls1 [(aH.mk e1.name (ak.mk 2 []))]) fun decls2=>r decls2) K i l out=K (out ++ l.map fun x=>td x.name)
 | [],i,out,_=>by simp [dG]
 | x :: l,i,out,h=>by
  have hL:wB=4294967296:=rfl
  simp only [List.length_cons] at h
  rw [dG,vN (by simp; omega),ay]
  refine (WR l (i + 1) _ (by simp; omega)).trans ?_
  simp [td,sc,Ty.api]
theorem Oq {e:aj} {vars:List aH} {t:ak} {c:Int} (hn:vars.length≤1048576) (hc:xX e (Ew ++ vars)=some (t,c)):je e vars=some (if c≠0 then c else Zl t):=by
 have hL:wB=4294967296:=rfl
 unfold je
 rw [UU (needs:=[]) (vars:=[]) (by simp) (fun x hx=>by cases hx) (by simp),ay]
 rw [dH (F:=fun k (s:List aH) i=>rQ e vars (Dr [] []) k s i) (l:=Dr [] []) (body:=fun _ e1 (decls1:List aH) r=>au (app decls1 [(aH.mk e1.name (ak.mk 2 []))]) fun decls2=>r decls2)
  (fin:=fun decls1=>au (app decls1 vars) fun x3=>fM (xX e x3) fun x4 e2=>if e2 != 0 then some e2 else if x4.kind == 2 then some 0 else if x4.kind == 0 then some 0 else if x4.kind == 7 then some 0 else some 9) (by simp [Dr,OV]) (fun k s i=>rfl)]
 rw [WR _ _ _ (by simp [Dr,OV])]
 have e1:([]:List aH) ++ (Dr [] []).map (fun x=>td x.name)=Ew:=rfl
 rw [e1,vN (by simp [Ew]; omega),ay,hc,bU]
 unfold Zl
 by_cases h:c=0
 ·
  by_cases k2:t.kind=2
  · simp [h,k2]
  ·
   by_cases k0:t.kind=0
   · simp [h,k0]
   ·
    by_cases k7:t.kind=7
    · simp [h,k7]
    · simp [h,k2,k0,k7]
 · simp [h]
theorem ade {vars:List aH} (hn:vars.length≤1048576) (hd:∀ d∈vars,d.name.length≤1048576):(Ew ++ vars).length < 4611686018427387904∧∀ d∈Ew ++ vars,d.name.length < 4611686018427387000:=by
 refine ⟨by simp [Ew]; omega,fun d hm=>?_⟩
 rcases List.mem_append.1 hm with hm | hm
 ·
  simp only [Ew,List.mem_cons,List.not_mem_nil,or_false] at hm
  rcases hm with rfl | rfl | rfl | rfl | rfl <;> decide
 · have:=hd d hm; omega
end Go.Ft
