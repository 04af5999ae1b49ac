/- Proved here: plain facts on the functional texts. -/
import Derived.Test.YtggpjlegajicnaaGreatDoorCoPre1
import Derived.Test.YtggpjlegajicnaaGreatDoorCoFt1
set_option linter.unusedVariables false
set_option linter.unusedSimpArgs false
set_option linter.unusedSectionVars false
set_option maxHeartbeats 2000000
namespace Go.Ft
open Go
attribute [local congr] dZ
def xK (s:Str):Bool:=decide (1≤s.length) && decide (s.length≤64)
def XT (a b:Str):Int:=(qN a b).getD 0
def NN :Option Str→List Str→Bool
 | _,[]=>true
 | p,k :: r=>xK k && (match p with | none=>true | some q=>decide (XT q k < 0)) && NN (some k) r
def vv (v:ah):Bool:=
 (((((v.kind == 1) || (!v.dO)) && ((v.kind == 2) || (v.dI == 0))) && ((v.kind == 3) || (v.bR == ([]:Str)))) && (((v.kind == 4) || (v.kind == 5)) || ((v.aO.length:Int) == 0))) && ((v.kind == 5) || ((v.keys.length:Int) == 0))
def qL (v:ah) (level:Nat):Int:=
 if 16 < level then 13
 else if (decide (v.kind < 0)) || (decide (5 < v.kind)) || !vv v then 1
 else if (decide (v.dI < (-9007199254740992))) || (decide (9007199254740992 < v.dI)) then 2
 else if ((decide (4096 < (v.bR.length:Int))) || (decide (1024 < (v.aO.length:Int)))) || (decide (1024 < (v.keys.length:Int))) then 3
 else if v.kind == 5 && !(((v.keys.length:Int) == (v.aO.length:Int)) && NN none v.keys) then 1
 else if (((v.kind == 4) || (v.kind == 5)) && ((v.aO.length:Int) == 0)) && level == 16 then 13
 else 0
end Go.Ft

namespace Go.Ft
open Go
attribute [local congr] dZ
inductive Ty where
 | leaf (k:Int)
 | nest (k:Int) (t:Ty)
namespace Ty
def api :Ty→ak
 | leaf k=>⟨k,[]⟩
 | nest k t=>⟨k,[t.api]⟩
def wf :Ty→Prop
 | leaf k=>0≤k∧k≤7∧k≠5∧k≠6
 | nest k t=>(k=5∨k=6)∧t.wf
def dep :Ty→Nat
 | leaf _=>1
 | nest _ t=>1 + t.dep
def kind :Ty→Int
 | leaf k=>k
 | nest k _=>k
theorem oG (t:Ty):t.api.kind=t.kind:=by cases t <;> rfl
theorem Rm (t:Ty):1≤t.dep:=by cases t <;> simp [dep] <;> omega
end Ty
theorem VO {k:Int} (h:0≤k∧k≤7):∃ s,Av k=some s∧(s == ([]:Str))=false:=by
 obtain ⟨n,rfl⟩:∃ n:Nat,k=n:=⟨k.toNat,by omega⟩
 have hn:n < 8:=by omega
 match n,hn with
 | 0,_=>exact ⟨_,rfl,rfl⟩
 | 1,_=>exact ⟨_,rfl,rfl⟩
 | 2,_=>exact ⟨_,rfl,rfl⟩
 | 3,_=>exact ⟨_,rfl,rfl⟩
 | 4,_=>exact ⟨_,rfl,rfl⟩
 | 5,_=>exact ⟨_,rfl,rfl⟩
 | 6,_=>exact ⟨_,rfl,rfl⟩
 | 7,_=>exact ⟨_,rfl,rfl⟩
theorem ajJ {k:Int} (h:¬ (0≤k∧k≤7)):Av k=some []:=by
 unfold Av
 rw [if_pos (by simp; omega)]
theorem aiB :∀ (k level:Nat) (t:ak),18≤k + level→level≤17→∃ c,mQ k (level:Int) t=some c∧xw k t (level:Int)=some c∧(c=0→∃ T:Ty,T.wf∧t=T.api∧T.dep + level≤17)
 | 0,level,t,h,h'=>by omega
 | k + 1,level,t,h,h'=>by
  rw [mQ,xw,Iy]
  have h16:decide ((16:Int) < (level:Int))=decide (16 < level):=by congr 1; simp; omega
  rw [h16]
  by_cases h0:16 < level
  · exact ⟨13,by simp [h0],by simp [h0],by simp⟩
  ·
   simp only [h0,decide_false,Bool.false_eq_true,if_false]
   by_cases hk:0≤t.kind∧t.kind≤7
   ·
    obtain ⟨s,hs,hs2⟩:=VO hk
    have hb:(decide (t.kind < 0) || decide (7 < t.kind))=false:=by simp; omega
    rw [hs,hb]
    simp only [ay,hs2,jS,Df,Bool.false_eq_true,if_false]
    cases hn:((t.kind == 5) || (t.kind == 6)) with
    | false=>
     simp only [Bool.false_and,Bool.not_false,Bool.true_and,Bool.false_eq_true,if_false,ay,if_true]
     cases he:t.elem with
     | nil=>
      refine ⟨0,by simp,by simp,fun _=>⟨.leaf t.kind,?_,?_,?_⟩⟩
      · simp at hn; exact ⟨hk.1,hk.2,hn.1,hn.2⟩
      · cases t; simp at he; subst he; rfl
      · simp only [Ty.dep]; omega
     | cons x r=>exact ⟨1,by first | (simp; done) | (simp; omega),by first | (simp; done) | (simp; omega),by simp⟩
    | true=>
     simp only [Bool.true_and,Bool.not_true,Bool.false_and,ay,Bool.false_eq_true,if_false]
     have hnk:t.kind=5∨t.kind=6:=by simpa using hn
     match he:t.elem with
     | []=>exact ⟨1,by simp,by simp,by simp⟩
     | [x]=>
      obtain ⟨c,c1,c2,c3⟩:=aiB k (level + 1) x (by omega) (by omega)
      have hw:bZ ((level:Int) + 1)=((level + 1:Nat):Int):=zy (by omega)
      refine ⟨c,?_,?_,fun hc=>?_⟩
      · rw [hw,←c1]; simp [idx]
      · rw [hw,←c2]; simp [idx]
      ·
       obtain ⟨T,w1,w2,w3⟩:=c3 hc
       refine ⟨.nest t.kind T,⟨hnk,w1⟩,?_,?_⟩
       · cases t; simp at he; subst he; simp [Ty.api,w2]
       · simp only [Ty.dep]; omega
     | x :: y :: r=>
      have hl:(((x :: y :: r).length:Int) != 1)=true:=by simp only [List.length_cons,bne_iff_ne]; omega
      exact ⟨1,by simp only [hl,if_true,ay],by simp only [hl,if_true],by simp⟩
   ·
    have hb:(decide (t.kind < 0) || decide (7 < t.kind))=true:=by simp; omega
    rw [ajJ hk,hb]
    exact ⟨1,by simp,by simp,by simp⟩
theorem amB :∀ (T:Ty) (k level:Nat),T.wf→T.dep + level≤17→18≤k + level→mQ k (level:Int) T.api=some 0
 | .leaf a,0,level,_,h,h'=>by simp only [Ty.dep] at h; omega
 | .leaf a,k + 1,level,hw,h,h'=>by
  simp only [Ty.dep] at h
  have h16:decide ((16:Int) < (level:Int))=false:=decide_eq_false (by omega)
  obtain ⟨s,hs,hs2⟩:=VO (k:=a) ⟨hw.1,hw.2.1⟩
  have hn:((a == 5) || (a == 6))=false:=by simp; exact ⟨hw.2.2.1,hw.2.2.2⟩
  simp [mQ,h16,Ty.api,hs,beq_eq_false_iff_ne.1 hs2,jS,hn]
 | .nest a T,0,level,_,h,h'=>by simp only [Ty.dep] at h; have:=T.Rm; omega
 | .nest a T,k + 1,level,hw,h,h'=>by
  simp only [Ty.dep] at h
  have hd:=T.Rm
  have h16:decide ((16:Int) < (level:Int))=false:=decide_eq_false (by omega)
  have hn:((a == 5) || (a == 6))=true:=by simpa using hw.1
  obtain ⟨s,hs,hs2⟩:=VO (k:=a) (by rcases hw.1 with h | h <;> omega)
  have hw64:bZ ((level:Int) + 1)=((level + 1:Nat):Int):=zy (by omega)
  have:=amB T k (level + 1) hw.2 (by omega) (by omega)
  rw [←this,←hw64]
  simp [mQ,h16,Ty.api,hs,beq_eq_false_iff_ne.1 hs2,jS,hn,idx]
def R3 (t:ak):Int:=(lW t).getD 0
theorem Dz (t:ak):lW t=some (R3 t)∧yL t=some (R3 t)∧(R3 t=0→∃ T:Ty,T.wf∧t=T.api∧T.dep≤16):=by
 obtain ⟨c,c1,c2,c3⟩:=aiB BIG 1 t (by have:=jq; omega) (by omega)
 have e1:lW t=some c:=c1
 have e2:yL t=some c:=c2
 have:R3 t=c:=by unfold R3; rw [e1]; rfl
 rw [this]
 exact ⟨e1,e2,fun h=>by obtain ⟨T,a,b,d⟩:=c3 h; exact ⟨T,a,b,by omega⟩⟩
theorem aag {T:Ty} (h:T.wf) (hd:T.dep≤16):R3 T.api=0:=by
 have:=amB T BIG 1 h (by omega) (by have:=jq; omega)
 have e1:lW T.api=some 0:=this
 unfold R3; rw [e1]; rfl
end Go.Ft

namespace Go.Ft
open Go
attribute [local congr] dZ
def ZT :ak:=ak.mk 0 []
def sc (k:Int):Ty:=.leaf k
def Ie (x:Option (ak × Bool)):Option (ak × Int):=
 fM x fun x6 ok1=>if !ok1 then some (ZT,9) else au (yL x6) fun x7=>if x7 != 0 then some (ZT,13) else some (x6,0)
def RES (x y:Option (ak × Int)):Prop:=∃ (T:Ty) (c:Int),T.wf∧T.dep≤16∧(c≠0→T=sc 0)∧x=some (T.api,c)∧y=some (T.api,c)
theorem RES.mk {x:Option (ak × Int)} {y:Option (ak × Bool)} (T:Ty) (b:Bool) (hx:x=some (if b then (T.api,0) else (ZT,9))) (hy:y=some (T.api,b)) (hw:b=true→T.wf∧T.dep≤16):RES x (Ie y):=by
 subst hx hy
 unfold Ie
 cases b with
 | false=>exact ⟨sc 0,9,by simp [sc,Ty.wf],by simp [sc,Ty.dep],fun _=>rfl,rfl,rfl⟩
 | true=>
  obtain ⟨h1,h2⟩:=hw rfl
  refine ⟨T,0,h1,h2,fun h=>absurd rfl h,rfl,?_⟩
  simp only [bU,Bool.not_true,Bool.false_eq_true,if_false,(Dz _).2.1,aag h1 h2]
  rfl
end Go.Ft

namespace Go.Ft
open Go
attribute [local congr] dZ
def ZV :ah:=ah.mk 0 false 0 ([]:Str) [] []
end Go.Ft

namespace Go.Ft
open Go
attribute [local congr] dZ
mutual
def zU :ah→Nat
 | ⟨k,_,_,_,l,_⟩=>if (k == 4) || (k == 5) then GX l 2 else 1
def GX :List ah→Nat→Nat
 | [],n=>n
 | x :: r,n=>GX r (max n (1 + zU x))
end
theorem xI (v:ah):zU v=if (v.kind == 4) || (v.kind == 5) then GX v.aO 2 else 1:=by cases v; rw [zU]
theorem DN :∀ (l:List ah) (n m:Nat),GX l n≤m↔n≤m∧∀ x∈l,1 + zU x≤m
 | [],n,m=>by simp [GX]
 | x :: r,n,m=>by
  rw [GX,DN r]
  simp only [List.mem_cons,forall_eq_or_imp,Nat.max_le]
  exact ⟨fun h=>⟨h.1.1,h.1.2,h.2⟩,fun h=>⟨⟨h.1,h.2.1⟩,h.2.2⟩⟩
theorem acZ {l:List ah} {n:Nat} {x:ah} (h:x∈l):1 + zU x≤GX l n:=((DN l n _).1 (Nat.le_refl _)).2 x h
mutual
def vok :ah→Bool
 | ⟨a,b,c,d,l,f⟩=>(qL ⟨a,b,c,d,l,f⟩ 1 == 0) && aip l
def aip :List ah→Bool
 | []=>true
 | x :: r=>vok x && aip r
end
theorem abR :∀ l:List ah,aip l=true↔∀ x∈l,vok x=true
 | []=>by simp [aip]
 | x :: r=>by simp [aip,abR r]
theorem zA (v:ah):vok v=true↔qL v 1=0∧∀ x∈v.aO,vok x=true:=by
 cases v; rw [vok,Bool.and_eq_true,abR]; simp
theorem RX {v:ah} (h:qL v 1=0):vv v=true:=by
 unfold qL at h
 cases hp:vv v with
 | true=>rfl
 | false=>simp [hp] at h
theorem Vd {v:ah} (h:vok v=true) (hk:((v.kind == 4) || (v.kind == 5))=false):v.aO=[]:=by
 have hp:=RX ((zA v).1 h).1
 unfold vv at hp
 simp only [Bool.and_eq_true,hk,Bool.false_or,beq_iff_eq] at hp
 exact List.eq_nil_of_length_eq_zero (by omega)
def VV (v:ah):Prop:=vok v=true∧zU v≤16
theorem VV.mem {v x:ah} (h:VV v) (hx:x∈v.aO):VV x:=by
 refine ⟨((zA v).1 h.1).2 x hx,?_⟩
 have h2:=h.2
 rw [xI] at h2
 split at h2
 · have:=acZ (n:=2) hx; omega
 ·
  rename_i hk
  have:=Vd h.1 (by simpa using hk)
  rw [this] at hx; cases hx
end Go.Ft

namespace Go.Ft
open Go
attribute [local congr] dZ
def DF {α:Type} (p:α × Int):fO aM α:=if p.2=0 then .ok p.1 else .bad ⟨p.2⟩
def okV (v:ah):ah × Int:=(v,0)
@[simp] theorem aq8 (v:ah):DF (okV v)=.ok v:=rfl
def GV (p:ah × Int) (N:Nat):Prop:=(p.2=0→VV p.1∧p.1.bulk≤N)∧(p.2≠0→p.1=ZV)
theorem GV.ok {v:ah} {N:Nat} (h:VV v) (hb:v.bulk≤N):GV (okV v) N:=⟨fun _=>⟨h,hb⟩,fun h=>absurd rfl h⟩
end Go.Ft

namespace Go.Ft
open Go
attribute [local congr] dZ
def tv (n:Str) (b:Bool):aA:=aA.mk n (ah.mk 1 b 0 ([]:Str) [] [])
def nAl :Str:=[97,108,119,97,121,115]
def nCa :Str:=[99,97,110,99,101,108,108,101,100]
def nFa :Str:=[102,97,105,108,117,114,101]
def nSk :Str:=[115,107,105,112,112,101,100]
def nSu :Str:=[115,117,99,99,101,115,115]
def OV (c f k s:Bool):List aA:=[tv nAl true,tv nCa c,tv nFa f,tv nSk k,tv nSu s]
def Dr (needs:List Int) (vars:List aA):List aA:=OV (needs.any (· == 4)) (needs.any (· == 2)) (needs.any (· == 3)) (needs.all (· == 1)) ++ vars
def anr :Nat→Int→bL→(bL→Option bL)→Option bL:=fun _ e1 s1 r=>
 if e1 == 1 then r s1 else if e1 == 3 then r (bL.mk s1.cancelled s1.failure true false) else if e1 == 4 then r (bL.mk true s1.failure s1.skipped false)
 else if e1 == 2 then r (bL.mk s1.cancelled true s1.skipped false) else r (bL.mk s1.cancelled s1.failure s1.skipped false)
theorem YP :∀ (l:List Int) (i:Nat) (c f k s:Bool),dG anr (fun s=>some s) i l (bL.mk c f k s)
  =some (bL.mk (c || l.any (· == 4)) (f || l.any (· == 2)) (k || l.any (· == 3)) (s && l.all (· == 1)))
 | [],i,c,f,k,s=>by simp [dG]
 | x :: l,i,c,f,k,s=>by
  have ih:=YP l (i + 1)
  rw [dG,anr,List.any_cons,List.any_cons,List.any_cons,List.all_cons]
  by_cases h1:x=1
  · subst h1; rw [if_pos (by rfl),ih]; simp
  ·
   by_cases h3:x=3
   · subst h3; rw [if_neg (by decide),if_pos (by rfl),ih]; simp
   ·
    by_cases h4:x=4
    · subst h4; rw [if_neg (by decide),if_neg (by decide),if_pos (by rfl),ih]; simp
    ·
     by_cases h2:x=2
     · subst h2; rw [if_neg (by decide),if_neg (by decide),if_neg (by decide),if_pos (by rfl),ih]; simp
     ·
      have b1:(x == 1)=false:=by simpa using h1
      have b2:(x == 2)=false:=by simpa using h2
      have b3:(x == 3)=false:=by simpa using h3
      have b4:(x == 4)=false:=by simpa using h4
      rw [b1,b2,b3,b4,if_neg (by decide),if_neg (by decide),if_neg (by decide),if_neg (by decide),ih]; simp
theorem ali {needs:List Int} (hl:needs.length < 4611686018427387904):qA needs=some (bL.mk (needs.any (· == 4)) (needs.any (· == 2)) (needs.any (· == 3)) (needs.all (· == 1))):=by
 unfold qA
 rw [dH (F:=fun k (s:bL) i=>iM needs k i s) (l:=needs) (body:=anr) (fin:=fun s=>some s) hl (fun k s i=>rfl)]
 rw [YP]; simp
theorem ZB :∀ (l:List aA) (i:Nat) (out:List aA),(∀ x∈l,x.value.bulk≤wB)→out.length + l.length≤wB→
  dG (fun _ e1 (bH:List aA) r=>au (oM e1.value) fun x8=>au (app bH [(aA.mk e1.name x8)]) fun yS=>r yS) (fun out=>some out) i l out=some (out ++ l)
 | [],i,out,_,_=>by simp [dG]
 | x :: l,i,out,h,hn=>by
  simp only [List.length_cons] at hn
  have hc:oM x.value=some x.value:=by unfold oM; rw [if_pos (h x (by simp))]
  rw [dG,hc,ay,vN (by simp; omega),ay]
  refine (ZB l (i + 1) _ (fun y hy=>h y (by simp [hy])) (by simp; omega)).trans ?_
  simp
theorem UU {needs:List Int} {vars:List aA} (hl:needs.length < 4611686018427387904) (hv:∀ x∈vars,x.value.bulk≤wB) (hn:vars.length≤1048576):uf needs vars=some (Dr needs vars):=by
 have hL:wB=4294967296:=rfl
 unfold uf nY
 rw [ali hl]
 simp only [ay]
 rw [dH (F:=fun k (s:List aA) i=>uP vars k s i) (l:=vars) (body:=fun _ e1 (bH:List aA) r=>au (oM e1.value) fun x8=>au (app bH [(aA.mk e1.name x8)]) fun yS=>r yS) (fin:=fun out=>some out) (by omega) (fun k s i=>rfl)]
 rw [ZB vars 0 _ hv (by simp; omega)]
 rfl
theorem asc :mW ([97,108,119,97,121,115,32,124,124,32,110,32,62,32,49]:Str) ([1,2]:List Int)=some (true,0):=by decide +kernel
theorem asb :mW ([115,117,99,99,101,115,115]:Str) ([1,2]:List Int)=some (false,0):=by decide +kernel
theorem asa :mW ([102,97,105,108,117,114,101,32,38,38,32,33,99,97,110,99,101,108,108,101,100,32,38,38,32,33,115,107,105,112,112,101,100]:Str) ([1,2]:List Int)=some (true,0):=by decide +kernel
theorem ar_ :mW ([49]:Str) []=some (false,9):=by decide +kernel
theorem ar9 :(match oW ([115,117,99,99,101,115,115,32,43,32,49]:Str) with | some (e,_,_)=>je e [] == some 9 | none=>false)=true:=by decide +kernel
theorem ar8 :je (aj.mk 2 nSu (ah.mk 0 false 0 ([]:Str) [] []) [] []) [(aH.mk ([97,108,119,97,121,115]:Str) (ak.mk 2 []))]=some 7:=by decide +kernel
theorem ar7 :JC (aj.mk 2 nSu (ah.mk 0 false 0 ([]:Str) [] []) [] [])=some true:=by decide +kernel
theorem ar6 :je (aj.mk 2 nSu (ah.mk 0 false 0 ([]:Str) [] []) [] []) []=some 0:=by decide +kernel
theorem agy :nO=some (aj.mk 2 nSu (ah.mk 0 false 0 ([]:Str) [] []) [] []):=rfl
theorem FM :lZ=some true:=by
 have a:=asc
 have b:=asb
 have c:=asa
 have d:=ar_
 have e:=ar9
 have f:=ar8
 have g:=ar7
 have h:=ar6
 unfold lZ
 rw [agy]
 generalize mW=D at a b c d ⊢
 generalize je=K at e f h ⊢
 generalize JC=E at g ⊢
 generalize oW ([115,117,99,99,101,115,115,32,43,32,49]:Str)=P at e ⊢
 rw [a,b,c,d]
 clear a b c d
 match P,e with
 | some (x,y,z),e=>
  have e1:K x []=some 9:=by simpa using e
  rw [bU,bU,bU,bU,Xr,ay,f,ay,if_pos (by decide),e1,ay,ay,if_pos (by decide),ay,g,ay,if_pos rfl,ay,h,ay]
  rfl
 | none,e=>cases e
end Go.Ft
