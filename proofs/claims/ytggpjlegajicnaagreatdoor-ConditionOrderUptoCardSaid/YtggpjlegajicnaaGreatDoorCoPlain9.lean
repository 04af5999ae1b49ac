/- Proved here: plain facts on the functional texts. -/
import Derived.Test.YtggpjlegajicnaaGreatDoorCoPlain8
set_option linter.unusedVariables false
set_option linter.unusedSimpArgs false
set_option linter.unusedSectionVars false
set_option maxHeartbeats 2000000
namespace Go.Ft
open Go
attribute [local congr] dZ
theorem ags {env:List aA} (hl:env.length < 4611686018427387904) (hE:∀ x∈env,VV x.value∧x.value.bulk≤1048576):∀ (b:Nat) (e:aj) (level k:Nat),e.bulk≤b→SE e→EO e level=0→3 * b + 3≤k→
  dU k env e=some (DF (nu env e))
 | 0,e,_,_,h,_,_,_=>by have:=e.jY; omega
 | b + 1,e,level,k,h,hS,hx,hk=>by
  obtain ⟨hB,hC⟩:=(id hS:SE e)
  obtain ⟨F,x2⟩:=ad1 hx
  have hW:WB=2199023255552:=rfl
  have ae0:wB=4294967296:=rfl
  have hlen:=F.len
  obtain ⟨k1,rfl⟩:∃ k1,k=k1 + 3:=⟨k - 3,by omega⟩
  have ih:∀ k2,3 * b + 3≤k2→∀ x∈e.args,dU k2 env x=some (DF (nu env x)):=fun k2 hk2 x hx=>ags hl hE b x (level + 1) k2 (by have:=jl hx; omega) (hS.arg hx) (x2 x hx) hk2
  have gv:∀ x∈e.args,(nu env x).2=0→VV (nu env x).1∧(nu env x).1.bulk < 1152921504606846976:=by
   intro x hx hz
   have hxb:=jl hx
   obtain ⟨g1,g2⟩:=(Wu hE b x (level + 1) (by omega) (hS.arg hx) (x2 x hx)).1 hz
   have hcl:=KY _ x (Nat.le_refl _)
   have:ecnt x * WB≤4096 * WB:=Nat.mul_le_mul_right _ (hS.arg hx).2
   exact ⟨g1,by omega⟩
  have all:∀ k2,3 * b + 3≤k2→pY (dU k2) env e.args BIG [] 0=some (DF (nV (e.args.map (nu env)))):=by
   intro k2 hk2
   rw [dH (F:=fun k s i=>pY (dU k2) env e.args k s i) (l:=e.args) (body:=fun _ e1 (bH:List ah) r=>fH (dU k2 env e1) (fun e2=>some (.bad e2)) fun x2=>au (app bH [x2]) fun yS=>r yS) (fin:=fun bH=>some (.ok bH)) (by omega) (fun k s i=>rfl)]
   have:=aqO (go:=dU k2 env) (f:=nu env) e.args 0 [] (ih k2 hk2) (by simp; omega)
   simpa using this
  have Te:∀ j,3 * b + 3≤j→gG (j + 1) env e.args=some (DF (nV (e.args.map (nu env)))):=fun j hj=>all j hj
  have amu:(nV (e.args.map (nu env))).2=0→(nV (e.args.map (nu env))).1.length=e.args.length∧∀ v∈(nV (e.args.map (nu env))).1,VV v∧v.bulk < 1152921504606846976:=by
   intro h0
   obtain ⟨o1,o2⟩:=Ow (N:=0) h0
   refine ⟨by rw [o2]; simp,fun v hv=>?_⟩
   rw [o2,List.map_map] at hv
   obtain ⟨x,hx,rfl⟩:=List.mem_map.1 hv
   exact gv x hx (o1 _ (List.mem_map_of_mem hx))
  rw [dU,wN,aa2]
  have hkind:=F.kind
  have hkc:e.kind=1∨e.kind=2∨e.kind=3∨e.kind=4∨e.kind=5∨e.kind=6∨e.kind=7∨e.kind=8∨e.kind=9∨e.kind=10:=by omega
  have i0:∀ (x:aj) (r:List aj),idx (x :: r) 0=some x:=fun x r=>rfl
  have i1:∀ (x y:aj) (r:List aj),idx (x :: y :: r) 1=some y:=fun x y r=>rfl
  have i2:∀ (x y z:aj) (r:List aj),idx (x :: y :: z :: r) 2=some z:=fun x y z r=>rfl
  have v0:∀ (x:ah) (r:List ah),idx (x :: r) 0=some x:=fun x r=>rfl
  have v1:∀ (x y:ah) (r:List ah),idx (x :: y :: r) 1=some y:=fun x y r=>rfl
  rcases hkc with hk' | hk' | hk' | hk' | hk' | hk' | hk' | hk' | hk' | hk'
  · rw [if_pos (by simpa using hk'),if_pos hk']; rfl
  · rw [if_neg (by simp [hk']),if_pos (by simpa using hk'),if_neg (by omega),if_pos hk',find_spec hl,DI]
  ·
   obtain ⟨x,ha⟩:=F.k3 hk'
   have e3:=ih (k1 + 2) (by omega) x (by rw [ha]; simp)
   have g3:=gv x (by rw [ha]; simp)
   rw [ha,i0]
   simp only [hk',ay,e3]
   unfold J3 E_
   rw [show (([x]:List aj).map (nu env))=[nu env x] from rfl,akB]
   simp only [oL,ay]
   by_cases h0:(nu env x).2=0
   ·
    obtain ⟨g1,g2⟩:=g3 h0
    have he:=Wz (b:=mkS e.name) g1 (by omega) (fun h=>by cases h.2)
    have he':Am (nu env x).1 (ah.mk 3 false 0 e.name [] [])=some (DF (QY (nu env x).1 (mkS e.name))):=he
    simp [h0,jQ,he',DI]
    first | exact ahz _ | exact ahy _ | exact DI _
   · simp [h0,jQ,uH h0]
  ·
   obtain ⟨x,y,ha⟩:=F.k4 hk'
   have e3:=ih (k1 + 2) (by omega) x (by rw [ha]; simp)
   have e4:=ih (k1 + 2) (by omega) y (by rw [ha]; simp)
   have g3:=gv x (by rw [ha]; simp)
   rw [ha,i0,i1]
   simp only [hk',ay,e3,e4]
   unfold J3 E_
   rw [show (([x,y]:List aj).map (nu env))=[nu env x,nu env y] from rfl,anf]
   by_cases h0:(nu env x).2=0
   ·
    obtain ⟨g1,g2⟩:=g3 h0
    have he:=aa6 (b:=(nu env y).1) g1 (by omega)
    by_cases h1:(nu env y).2=0
    ·
     simp [h0,h1,jQ,he]
     first | exact ahz _ | exact ahy _ | exact DI _
    · simp [h0,h1,jQ,uH h1]
   · simp [h0,jQ,uH h0]
  ·
   
   have hc5:fQ (k1 + 2) env e=tq (dU (k1 + 1)) (fQ (k1 + 1)) (gG (k1 + 1)) (fB (k1 + 1)) (eO (k1 + 1)) env e:=rfl
   obtain ⟨c1,c2,c3⟩:=WH e.name
   have ha:=Te k1 (by omega)
   simp only [hk']
   rw [hc5,tq,c1,ay,lY,lY,ha]
   unfold J3
   have hlm:(e.args.map (nu env)).length=e.args.length:=by simp
   rw [hlm]
   rcases c3 with c3 | c3 | ⟨c3,c4⟩
   · rw [c3]; simp [uH]
   ·
    rw [c3]
    by_cases hlen:e.args.length=1
    ·
     by_cases h0:(nV (e.args.map (nu env))).2=0
     ·
      obtain ⟨l1,l2⟩:=amu h0
      obtain ⟨a,hva⟩:=len1 (l1.trans hlen)
      rw [hva] at l2
      obtain ⟨g1,g2⟩:=l2 a (by simp)
      have ho:=ajC (name:=e.name) g1 (by omega)
      simp [hlen,h0,jQ,hva,v0,ho,E_]
      first | exact ahz _ | exact ahy _ | exact DI _
     · simp [hlen,h0,jQ,uH h0]
    ·
     have:¬ ((e.args.length:Int)=1):=by omega
     have t2:¬ ((1:Int)=(e.args.length:Int)):=by omega
     simp [this,t2,uH]
   ·
    rw [c3]
    by_cases hlen:e.args.length=2
    ·
     by_cases h0:(nV (e.args.map (nu env))).2=0
     ·
      obtain ⟨l1,l2⟩:=amu h0
      obtain ⟨a,b',hva⟩:=len2 (l1.trans hlen)
      rw [hva] at l2
      obtain ⟨g1,g2⟩:=l2 a (by simp)
      obtain ⟨g3,g4⟩:=l2 b' (by simp)
      have ho:=aiz (name:=e.name) g1 g3 (by omega) (by omega)
      simp [hlen,h0,jQ,hva,v0,v1,ho,E_]
      first | exact ahz _ | exact ahy _ | exact DI _
     · simp [hlen,h0,jQ,uH h0]
    ·
     have:¬ ((e.args.length:Int)=2):=by omega
     have t2:¬ ((2:Int)=(e.args.length:Int)):=by omega
     simp [this,t2,uH]
  ·
   obtain ⟨⟨x,ha⟩,_⟩:=F.k6 hk'
   have e3:=ih (k1 + 2) (by omega) x (by rw [ha]; simp)
   have g3:=gv x (by rw [ha]; simp)
   rw [ha,i0]
   simp only [hk',ay,e3]
   unfold J3 E_
   rw [show (([x]:List aj).map (nu env))=[nu env x] from rfl,akB]
   by_cases h0:(nu env x).2=0
   ·
    obtain ⟨g1,g2⟩:=g3 h0
    have he:=aej (op:=e.name) g1
    simp [h0,jQ,he]
    first | exact ahz _ | exact ahy _ | exact DI _
   · simp [h0,jQ,uH h0]
  ·
   
   obtain ⟨⟨x,y,ha⟩,hop⟩:=F.k7 hk'
   have hb5:fB (k1 + 2) env e=qz (dU (k1 + 1)) (fQ (k1 + 1)) (gG (k1 + 1)) (fB (k1 + 1)) (eO (k1 + 1)) env e:=rfl
   have e3:=ih (k1 + 1) (by omega) x (by rw [ha]; simp)
   have e4:=ih (k1 + 1) (by omega) y (by rw [ha]; simp)
   have g3:=gv x (by rw [ha]; simp)
   have g4:=gv y (by rw [ha]; simp)
   simp only [hk']
   rw [hb5,qz,ha,i0,i1]
   simp only [ay,e3,e4]
   unfold J3 E_
   rw [show (([x,y]:List aj).map (nu env))=[nu env x,nu env y] from rfl,anf]
   by_cases hsc:e.name=[38,38]∨e.name=[124,124]
   ·
    have aeY:((e.name == ([38,38]:Str)) || (e.name == ([124,124]:Str)))=true:=by simpa using hsc
    simp only [aeY,if_true,hsc,and_true,reduceIte,Mw]
    by_cases h0:(nu env x).2=0
    ·
     simp only [h0,jQ,Vh]
     by_cases hb1:(nu env x).1.kind=1
     ·
      have ed:((nu env x).1.dO == (e.name == ([124,124]:Str)))=decide ((nu env x).1.dO=decide (e.name=[124,124])):=by
       have eb:(e.name == ([124,124]:Str))=decide (e.name=[124,124]):=by rw [Bool.eq_iff_iff]; simp
       rw [eb]; rfl
      simp only [hb1,if_true,kT,ed,decide_eq_true_eq]
      by_cases hs:(nu env x).1.dO=decide (e.name=[124,124])
      ·
       have:DF (nu env x)=.ok (nu env x).1:=if_pos h0
       simp [hs,this]
      ·
       unfold Ka
       by_cases h1:(nu env y).2=0
       ·
        obtain ⟨gy1,gy2⟩:=g4 h1
        by_cases hb2:(nu env y).1.kind=1
        ·
         have hy:ah.mk 1 (nu env y).1.dO 0 ([]:Str) [] []=(nu env y).1:=by
          have hp:=RX ((zA _).1 gy1.1).1
          unfold vv at hp
          simp only [Bool.and_eq_true,Bool.or_eq_true,beq_iff_eq,hb2] at hp
          obtain ⟨⟨⟨⟨_,q2⟩,q3⟩,q4⟩,q5⟩:=hp
          generalize (nu env y).1=w at *
          cases w with
          | mk k bb n s l ks=>
           simp only at hb2 q2 q3 q4 q5
           have z1:n=0:=by omega
           have z2:s=[]:=q3.elim (fun q=>by omega) fun q=>q
           have z3:l=[]:=q4.elim (fun q=>by omega) fun q=>List.eq_nil_of_length_eq_zero (by omega)
           have z4:ks=[]:=q5.elim (fun q=>by omega) fun q=>List.eq_nil_of_length_eq_zero (by omega)
           subst z1 z2 z3 z4 hb2; rfl
         have:DF (nu env y)=.ok (nu env y).1:=if_pos h1
         simp [hs,h1,hb2,gK,hy,this]
        · simp [hs,h1,hb2,uH]
       · simp [hs,h1,uH h1]
     · simp [hb1,uH]
    · simp [h0,jQ,uH h0]
   ·
    have aeY:((e.name == ([38,38]:Str)) || (e.name == ([124,124]:Str)))=false:=by
     rw [Bool.or_eq_false_iff,beq_eq_false_iff_ne,beq_eq_false_iff_ne]
     exact ⟨fun h=>hsc (.inl h),fun h=>hsc (.inr h)⟩
    simp only [aeY,Bool.false_eq_true,if_false,hsc,and_false]
    by_cases h0:(nu env x).2=0
    ·
     by_cases h1:(nu env y).2=0
     ·
      obtain ⟨gx1,gx2⟩:=g3 h0
      obtain ⟨gy1,gy2⟩:=g4 h1
      have hb:=adU (op:=e.name) gx1 gy1 (by omega) (by omega)
      simp only [jQ,h0,h1,if_true]
      rw [hb]
      simp [h0,h1]
      first | exact ahz _ | exact ahy _ | exact DI _
     · simp [h0,h1,jQ,uH h1]
    · simp [h0,jQ,uH h0]
  ·
   obtain ⟨x,y,z,ha⟩:=F.k8 hk'
   have e3:=ih (k1 + 2) (by omega) x (by rw [ha]; simp)
   have e4:=ih (k1 + 2) (by omega) y (by rw [ha]; simp)
   have e5:=ih (k1 + 2) (by omega) z (by rw [ha]; simp)
   rw [ha,i0,i1,i2]
   simp only [hk',ay,e3,e4,e5,DI,Vh]
   unfold J3 Zz
   by_cases h0:(nu env x).2=0
   ·
    by_cases hb1:(nu env x).1.kind=1
    · cases hbb:(nu env x).1.dO <;> simp [h0,hb1,hbb,jQ]
    · simp [h0,hb1,jQ,uH]
   · simp [h0,jQ,uH h0]
  ·
   have ha:=Te (k1 + 1) (by omega)
   simp only [hk']
   rw [ha]
   unfold J3 E_
   by_cases h0:(nV (e.args.map (nu env))).2=0
   ·
    obtain ⟨l1,l2⟩:=amu h0
    have hv:zB (F9 (nV (e.args.map (nu env))).1) 1=if zU (F9 (nV (e.args.map (nu env))).1)≤16 then 0 else 13:=by
     rw [Qq _ _ 1 (Nat.le_refl _) (aaI (by omega) fun x hx=>(l2 x hx).1).1 (by omega)]
     refine dZ (propext (by omega))
    have hbk:(F9 (nV (e.args.map (nu env))).1).bulk < 4611686018427387904:=by
     rw [GL]
     obtain ⟨o1,o2⟩:=Ow (N:=0) h0
     rw [o2,List.map_map,List.map_map]
     have s1:=Km (l:=e.args) (f:=(ah.bulk ∘ fun x=>x.1) ∘ nu env) (g:=fun x=>ecnt x * WB) fun x hx=>((Wu hE b x (level + 1) (by have:=jl hx; omega) (hS.arg hx) (x2 x hx)).1 (o1 _ (List.mem_map_of_mem hx))).2
     rw [UE,←Gd] at s1
     have hec:=FD e
     have hcl:=KY _ e (Nat.le_refl _)
     have:IX e.args * WB≤4096 * WB:=Nat.mul_le_mul_right _ (by omega)
     omega
    have hvv:=FT hbk
    rw [hv] at hvv
    have hm:Hf (nV (e.args.map (nu env))).1=some (F9 (nV (e.args.map (nu env))).1):=rfl
    simp only [jQ,h0,if_true,hm,ay,hvv,lY]
    by_cases hle:zU (F9 (nV (e.args.map (nu env))).1)≤16
    · simp [h0,hle]
    · simp [h0,hle,uH]
   · simp [h0,jQ,uH h0]
  ·
   have he5:eO (k1 + 2) env e=pV (dU (k1 + 1)) (fQ (k1 + 1)) (gG (k1 + 1)) (fB (k1 + 1)) (eO (k1 + 1)) env e:=rfl
   have ha:=Te k1 (by omega)
   have n1:(e.kind == 1)=false:=by simp [hk']
   have n2:(e.kind == 2)=false:=by simp [hk']
   have n3:(e.kind == 3)=false:=by simp [hk']
   have n4:(e.kind == 4)=false:=by simp [hk']
   have n5:(e.kind == 5)=false:=by simp [hk']
   have n6:(e.kind == 6)=false:=by simp [hk']
   have n7:(e.kind == 7)=false:=by simp [hk']
   have n8:(e.kind == 8)=false:=by simp [hk']
   have n9:(e.kind == 9)=false:=by simp [hk']
   simp only [n1,n2,n3,n4,n5,n6,n7,n8,n9,Bool.false_eq_true,if_false]
   rw [he5,pV,ha]
   unfold J3 E_
   by_cases h0:(nV (e.args.map (nu env))).2=0
   ·
    obtain ⟨l1,l2⟩:=amu h0
    obtain ⟨q1,q2,q3⟩:=F.k10 hk'
    simp only [jQ,h0,if_true]
    rw [dH (F:=fun k s i=>oD e (nV (e.args.map (nu env))).1 k s i) (l:=(nV (e.args.map (nu env))).1) (body:=fun (i:Nat) e3 (o:List aA) r=>au (idx e.keys (i:Int)) fun e4=>au (app o [(aA.mk e4 e3)]) fun Gl=>r Gl)
     (fin:=fun bG=>fM (FU bG) fun x2 IZ=>fH (fF (IZ == 0) IZ) (fun e5=>some (.bad e5)) fun _=>some (.ok x2)) (by omega) (fun k s i=>rfl),adj (e:=e) (vs:=(nV (e.args.map (nu env))).1) (by omega) (by omega) (nV (e.args.map (nu env))).1 0 [] rfl rfl]
    have H:=ZW (keys:=e.keys) (vs:=(nV (e.args.map (nu env))).1) (by omega) (by omega) q2 q3 l2
    rw [List.nil_append,List.drop_zero,ak8 H]
    unfold X3
    split
    · rw [bU,lY]; simp [hk',h0,DF,ZV,vJ]
    · rw [bU,lY]; simp [hk',h0,DF,okV]
   · simp [hk',h0,jQ,uH h0]
end Go.Ft

namespace Go.Ft
open Go
attribute [local congr] dZ
def Rj :List Str→List aA→Int
 | _,[]=>0
 | seen,d :: r=>if !oZ d.name then 1 else if zB d.value 1 != 0 then zB d.value 1 else if seen.contains d.name then 7 else Rj (seen ++ [d.name]) r
theorem am5 :∀ (r:List aA) (i:Nat) (y:List (Str × Int)) (seen:List Str),(∀ d∈r,d.name.length < 4611686018427387000∧d.value.bulk < 4611686018427387904)→(∀ s,qp y s=if s∈seen then 1 else 0)→
  dG (fun _ e1 (y1:List (Str × Int)) r=>au (kQ (aj.mk 2 e1.name (ah.mk 0 false 0 ([]:Str) [] []) [] [])) fun x2=>if x2 != 0 then some 1 else au (mY e1.value) fun e2=>if e2 != 0 then some e2 else
   if decide (1 < (qp (uX y1 e1.name (bZ ((qp y1 e1.name) + 1))) e1.name)) then some 7 else r (uX y1 e1.name (bZ ((qp y1 e1.name) + 1)))) (fun _=>some 0) i r y=some (Rj seen r)
 | [],_,_,_,_,_=>rfl
 | d :: r,i,y,seen,hd,hy=>by
  rw [dG,Rj,af7 (hd d (by simp)).1,FT (hd d (by simp)).2,Ga,if_pos rfl,hy d.name]
  cases h1:oZ d.name with
  | false=>simp
  | true=>
   simp only [if_true,ay,Bool.not_true,Bool.false_eq_true,if_false,bne_self_eq_false]
   by_cases h2:zB d.value 1=0
   ·
    simp only [h2,bne_self_eq_false,Bool.false_eq_true,if_false]
    by_cases hc:d.name∈seen
    ·
     have:bZ 2=2:=by decide
     simp [hc,this]
    ·
     have:bZ ((0:Int) + 1)=1:=by decide
     simp only [hc,if_false,this]
     have e:seen.contains d.name=false:=by simpa using hc
     rw [e]
     simp only [Int.lt_irrefl,decide_false,Bool.false_eq_true,if_false]
     refine am5 r (i + 1) _ (seen ++ [d.name]) (fun z hz=>hd z (by simp [hz])) fun s=>?_
     rw [Ga,hy s]
     by_cases h1:s=d.name
     · subst h1; simp
     · simp [h1]
   · simp [h2]
theorem agv (l:List aA) (i:Nat) (hi:i < l.length) (hl:l.length < 4611686018427387904) (go:Int→Option Int):∀ (k j:Nat),i < k + j→j≤i→
  C8 l (i:Int) go k (j:Int)=if (((l.take i).drop j).map (·.name)).contains l[i].name then some 7 else go ((i + 1:Nat):Int)
 | 0,j,h,h'=>by omega
 | k + 1,j,h,h'=>by
  rw [C8]
  by_cases hj:j < i
  ·
   have hlt:j < (l.take i).length:=by simp; omega
   rw [if_pos (by simpa using hj),rW hi,rW (by omega),List.drop_eq_getElem_cons hlt]
   simp only [ay,List.map_cons,List.contains_cons,List.getElem_take]
   by_cases h1:l[j].name=l[i].name
   · simp [h1]
   ·
    have e1:(l[j].name == l[i].name)=false:=by simpa using h1
    have e2:(l[i].name == l[j].name)=false:=by simpa using fun hh=>h1 hh.symm
    simp only [e1,e2,Bool.false_eq_true,if_false,Bool.false_or]
    rw [zy (by omega)]
    exact agv l i hi hl go k (j + 1) (by omega) (by omega)
  ·
   have:j=i:=by omega
   subst this
   rw [if_neg (by simp),zy (by omega)]
   have:(List.take j l).drop j=[]:=List.drop_eq_nil_of_le (by simp; omega)
   rw [this]
   simp
theorem am4 (l:List aA) (hl:l.length < 4611686018427387904) (hd:∀ d∈l,d.name.length < 4611686018427387000∧d.value.bulk < 4611686018427387904):∀ (k i:Nat),l.length < k + i→i≤l.length→xk l k (i:Int)=some (Rj ((l.take i).map (·.name)) (l.drop i))
 | 0,i,h,h'=>by omega
 | k + 1,i,h,h'=>by
  rw [xk]
  by_cases hi:i < l.length
  ·
   have hn:=hd l[i] (List.getElem_mem hi)
   rw [if_pos (by simpa using hi),List.drop_eq_getElem_cons hi,Rj,rW hi]
   have:=agv l i hi hl (xk l k) BIG 0 (by have:=jq; omega) (by omega)
   rw [show (0:Int)=((0:Nat):Int) from rfl,this,List.drop_zero,am4 l hl hd k (i + 1) (by omega) (by omega)]
   simp only [ay,(VA l[i].name (by omega)).2,Ve hn.2]
   have e:List.take (i + 1) l=List.take i l ++ [l[i]]:=by rw [List.take_add_one,List.getElem?_eq_getElem hi]; rfl
   rw [e,List.map_append]
   cases oZ l[i].name with
   | false=>simp
   | true=>
    simp only [Bool.not_true,Bool.false_eq_true,if_false]
    by_cases h2:zB l[i].value 1=0
    ·
     simp only [h2,Int.natCast_zero,bne_self_eq_false,Bool.false_eq_true,if_false]
     split <;> rfl
    · simp [h2]
  ·
   have:i=l.length:=by omega
   subst this
   simp [Rj]
def Cz (env:List aA):Int:=if 1024 < env.length then 3 else Rj [] env
theorem aa4 {env:List aA} (hl:env.length < 4611686018427387904) (hd:∀ d∈env,d.name.length < 4611686018427387000∧d.value.bulk < 4611686018427387904):Ni env=some (Cz env)∧N_ env=some (Cz env):=by
 unfold Ni N_ Cz
 have e:decide ((1024:Int) < (env.length:Int))=decide (1024 < env.length):=by congr 1; simp; omega
 rw [e]
 by_cases h:1024 < env.length
 · simp [h]
 ·
  simp only [h,decide_false,Bool.false_eq_true,if_false]
  have s1:=dH (F:=fun k s i=>EB env k i s) (l:=env) (body:=fun _ e1 (y1:List (Str × Int)) r=>au (kQ (aj.mk 2 e1.name (ah.mk 0 false 0 ([]:Str) [] []) [] [])) fun x2=>if x2 != 0 then some 1 else au (mY e1.value) fun e2=>if e2 != 0 then some e2 else
   if decide (1 < (qp (uX y1 e1.name (bZ ((qp y1 e1.name) + 1))) e1.name)) then some 7 else r (uX y1 e1.name (bZ ((qp y1 e1.name) + 1)))) (fin:=fun _=>some 0) hl (fun k s i=>rfl) []
  have s2:=am4 env hl hd BIG 0 (by have:=jq; omega) (by omega)
  refine ⟨?_,by simpa using s2⟩
  rw [s1]
  exact am5 env 0 [] [] hd (fun s=>by simp [qp])
theorem adi :∀ (r:List aA) (seen:List Str),Rj seen r=0→(∀ x∈r,VV x.value∧oZ x.name=true∧x.name∉seen)∧(r.map (·.name)).Nodup
 | [],_,_=>⟨(fun x hx=>by cases hx),List.nodup_nil⟩
 | d :: r,seen,h=>by
  rw [Rj] at h
  split at h
  · cases h
  ·
   rename_i h1
   split at h
   · rename_i h2; rw [h] at h2; simp at h2
   ·
    rename_i h2
    split at h
    · cases h
    ·
     rename_i h3
     obtain ⟨i1,i2⟩:=adi r _ h
     have hs:d.name∉seen:=fun hm=>h3 (List.contains_iff_mem.2 hm)
     refine ⟨fun x hx=>?_,?_⟩
     ·
      rcases List.mem_cons.1 hx with rfl | hx
      · exact ⟨(NP _).1 (by simpa using h2),by simpa using h1,hs⟩
      ·
       obtain ⟨a1,a2,a3⟩:=i1 x hx
       exact ⟨a1,a2,fun hm=>a3 (by simp [hm])⟩
     ·
      rw [List.map_cons,List.nodup_cons]
      refine ⟨fun hm=>?_,i2⟩
      obtain ⟨x,hx,he⟩:=List.mem_map.1 hm
      exact (i1 x hx).2.2 (by simp [he])
def Rh (e:aj) (env:List aA):ah × Int:=if Cz env≠0 then vJ (Cz env) else if xval e≠0 then vJ (xval e) else nu env e
theorem Wy {env:List aA} (h:Cz env=0):(∀ x∈env,VV x.value∧oZ x.name=true)∧(env.map (·.name)).Nodup∧env.length≤1024:=by
 unfold Cz at h
 split at h
 · cases h
 ·
  rename_i h1
  obtain ⟨a,b⟩:=adi env [] h
  exact ⟨fun x hx=>⟨(a x hx).1,(a x hx).2.1⟩,b,by omega⟩
theorem ZX {e:aj} (h:e.bulk≤1099511627776) (hx:xval e=0):SE e:=by
 refine ⟨h,?_⟩
 unfold xval at hx
 split at hx
 · cases hx
 · omega
theorem afE {e:aj} {env:List aA} (h:e.bulk≤1099511627776) (hl:env.length < 4611686018427387904) (hd:∀ d∈env,d.name.length < 4611686018427387000∧d.value.bulk≤1048576):Ba e env=some (Rh e env)∧GV (Rh e env) 9007199254740992:=by
 obtain ⟨v1,v2⟩:=aa4 (env:=env) hl (fun d hd'=>by have:=hd d hd'; omega)
 obtain ⟨x1,x2⟩:=Uz (e:=e) (by omega)
 unfold Ba IV Rh
 rw [v1,x1]
 simp only [ay]
 by_cases hv:Cz env=0
 ·
  obtain ⟨w1,w2,w3⟩:=Wy hv
  have hEv:∀ x∈env,VV x.value∧x.value.bulk≤1048576:=fun x hx=>⟨(w1 x hx).1,(hd x hx).2⟩
  have bv:(Cz env != 0)=false:=by simpa using hv
  rw [if_neg (c:=Cz env≠0) (by simpa using hv)]
  simp only [bv,Bool.false_eq_true,if_false]
  by_cases hx:xval e=0
  ·
   have hc:=NY hx
   have hS:=ZX h hx
   have hW:WB=2199023255552:=rfl
   have hw:ecnt e * WB≤4096 * WB:=Nat.mul_le_mul_right _ hS.2
   have hg:=(Wu hEv e.bulk e 1 (Nat.le_refl _) hS hc).mono (M:=9007199254740992) (by omega)
   have bx:(xval e != 0)=false:=by simpa using hx
   rw [if_neg (c:=xval e≠0) (by simpa using hx)]
   simp only [bx,Bool.false_eq_true,if_false,bU,bne_self_eq_false]
   have p:=ags (by omega) hEv e.bulk e 1 BIG (Nat.le_refl _) hS hc (by have:=jq; omega)
   refine ⟨?_,hg⟩
   unfold Cj EW
   rw [p]
   unfold DF
   by_cases h0:(nu env e).2=0
   ·
    rw [if_pos h0,kT,bU]
    obtain ⟨g1,g2⟩:=hg.1 h0
    rw [(RY g1.1 (by omega)).2,ay,←h0]
   ·
    rw [if_neg h0,ZK,bU]
    have hz:=hg.2 h0
    have hc2:Ap (ah.mk 0 false 0 ([]:Str) [] [])=some ZV:=(agR (v:=ZV) (by rw [amv]; decide)).2
    rw [hc2,ay]
    generalize nu env e=p at hz ⊢
    obtain ⟨v,c⟩:=p
    simp only at hz
    rw [hz]
  ·
   have bx:(xval e != 0)=true:=by simpa using hx
   rw [if_pos (c:=xval e≠0) hx]
   simp only [bx,if_true,bU]
   exact ⟨rfl,GV.er hx⟩
 ·
  have bv:(Cz env != 0)=true:=by simpa using hv
  rw [if_pos (c:=Cz env≠0) hv]
  simp only [bv,if_true,bU]
  exact ⟨rfl,GV.er hv⟩
theorem Kc {α β ρ:Type} (p:α × β) (f:α→β→Option ρ):fM (some p) f=f p.1 p.2:=rfl
end Go.Ft

namespace Go.Ft
open Go
attribute [local congr] dZ
def TD (p:ah × Int):Bool × Int:=if p.2≠0 then (false,p.2) else if p.1.kind≠1 then (false,9) else (p.1.dO,0)
theorem adh (p:ah × Int):(fM (some p) fun x2 e1=>if e1 != 0 then some (false,e1) else if x2.kind != 1 then some (false,9) else some (x2.dO,0))=some (TD p):=by
 obtain ⟨v,c⟩:=p
 rw [bU]
 unfold TD
 by_cases h:c=0
 · by_cases k:v.kind=1 <;> simp [h,k]
 · simp [h]
theorem RB {e:aj} {needs:List Int} {vars:List aA} (h:e.bulk≤1099511627776) (hl:needs.length≤4194304) (hE:(vars.map aA.bulk).sum≤1048576):jO e needs vars=some (TD (Rh e (Dr needs vars))):=by
 obtain ⟨s1,s2⟩:=CK hE
 have hL:wB=4294967296:=rfl
 obtain ⟨c1,c2⟩:=UQ (needs:=needs) hE
 unfold jO
 rw [UU (by omega) (fun x hx=>by have:=s2 x hx; omega) s1,ay,(afE h c1 c2).1,adh]
theorem aan {e:aj} (h:e.bulk < 4611686018427387904) (n:Int):yX e n=some ((decide ((ecnt e:Int)≤5000)) && (decide (n≤300))):=by
 unfold yX
 rw [(count_eq h).2]
 rfl
theorem ael {e:aj} {needs:List Int} {vars:List aA} (h:aj.bulk e + ((List.map (fun z:Int=>1) needs).sum + 1) + ((List.map (fun z:aA=>(aA.bulk z)) vars).sum + 1)≤1048576):e.bulk≤1048576∧needs.length≤1048576∧(vars.map aA.bulk).sum≤1048576:=by
 have:=QN needs
 have h':(List.map (fun z:aA=>(aA.bulk z)) vars).sum≤1048576:=by omega
 exact ⟨by omega,by omega,h'⟩
end Go.Ft
