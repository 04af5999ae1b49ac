/- Proved here: plain facts on the functional texts. -/
import Derived.Test.YtdhmchjccpmppaaGreatDoorEvPlain2
import Derived.Test.YtdhmchjccpmppaaGreatDoorEvEval16
import Derived.Test.YtdhmchjccpmppaaGreatDoorEvEval17
set_option linter.unusedVariables false
set_option linter.unusedSimpArgs false
set_option linter.unusedSectionVars false
set_option maxHeartbeats 2000000
namespace Go.Ft
open Go
attribute [local congr] jE
theorem UR :∀ (more:List av) {env:List av},qC (more ++ env)=0→qC env=0
 | [],_,h=>h
 | x :: r,env,h=>UR r (Rp (x:=x) (by simpa using h))
theorem Rj :∀ (l:List av) (n:Str),n∉l.map (·.name)→qB l n=nu 10
 | [],_,_=>rfl
 | x :: r,n,h=>by
  simp only [List.map_cons,List.mem_cons,not_or] at h
  rw [qB,if_neg (fun he=>h.1 he.symm),Rj r n h.2]
theorem UN :∀ (more:List av) {env:List av} {n:Str},n∉more.map (·.name)→qB (more ++ env) n=qB env n
 | [],_,_,_=>rfl
 | x :: r,env,n,h=>by
  simp only [List.map_cons,List.mem_cons,not_or] at h
  rw [List.cons_append,qB,if_neg (fun he=>h.1 he.symm),UN r h.2]
def PV2 (p q:ah × Int):Prop:=p.2=0→q=p
theorem aeO :∀ {l m:List (ah × Int)},l.length=m.length→(∀ i (h1:i < l.length) (h2:i < m.length),PV2 l[i] m[i])→(lT l).2=0→lT m=lT l
 | [],[],_,_,_=>rfl
 | [],_ :: _,h,_,_=>by simp at h
 | _ :: _,[],h,_,_=>by simp at h
 | p :: l,q :: m,h,hp,h0=>by
  have e1:=hp 0 (by simp) (by simp)
  simp only [List.getElem_cons_zero] at e1
  rw [lT] at h0
  split at h0
  · rename_i hn; simp only at h0; exact absurd h0 hn
  ·
   rename_i hn
   have hp0:p.2=0:=by simpa using hn
   split at h0
   · rename_i hm; simp only at h0; exact absurd h0 hm
   ·
    rename_i hm
    have hl0:(lT l).2=0:=by simpa using hm
    have ih:=aeO (l:=l) (m:=m) (by simpa using h) (fun i h1 h2=>by
     have:=hp (i + 1) (by simp; omega) (by simp; omega)
     simpa using this) hl0
    rw [lT,lT,e1 hp0,ih]
theorem agk {b b':ah × Int} (h:PV2 b b'):PV2 (zA b) (zA b'):=by
 unfold zA
 intro h0
 split at h0
 · rename_i hn; simp only [nu] at h0; exact absurd h0 hn
 ·
  rename_i hn
  have hb:b.2=0:=by simpa using hn
  rw [h hb]
theorem agb {k:Int} {n:Str} {keys:List Str} {l m:List (ah × Int)} (hl:l.length=m.length) (hp:∀ i (h1:i < l.length) (h2:i < m.length),PV2 l[i] m[i]):PV2 (vS k n keys l) (vS k n keys m):=by
 unfold vS
 by_cases h8:k=8
 ·
  rw [if_pos h8,if_pos h8]
  match l,m,hl,hp with
  | [a,b,c],[a',b',c'],_,hp=>
   have ha:=hp 0 (by simp) (by simp)
   have hb:=hp 1 (by simp) (by simp)
   have hc:=hp 2 (by simp) (by simp)
   simp only [List.getElem_cons_zero,List.getElem_cons_succ] at ha hb hc
   intro h0
   simp only at h0 ⊢
   unfold Ox at h0 ⊢
   split at h0
   · rename_i hn; simp only [nu] at h0; exact absurd h0 hn
   ·
    rename_i hn
    rw [ha (by simpa using hn),if_neg hn]
    split at h0
    · rename_i hk; simp [nu] at h0
    ·
     rename_i hk
     rw [if_neg hk]
     split at h0
     · rename_i hb1; rw [if_pos hb1,if_pos hb1,if_neg hn,if_neg hk]; exact hb h0
     · rename_i hb1; rw [if_neg hb1,if_neg hb1,if_neg hn,if_neg hk]; exact hc h0
  | [],m,hl,_=>cases m with | nil=>exact fun h=>rfl | cons _ _=>simp at hl
  | [a],m,hl,_=>match m,hl with | [_],_=>exact fun h=>rfl
  | [a,b],m,hl,_=>match m,hl with | [_,_],_=>exact fun h=>rfl
  | a :: b :: c :: d :: r,m,hl,_=>match m,hl with | _ :: _ :: _ :: _ :: _,_=>exact fun h=>rfl
 ·
  rw [if_neg h8,if_neg h8]
  by_cases h7:k=7∧(n=[38,38]∨n=[124,124])
  ·
   rw [if_pos h7,if_pos h7]
   match l,m,hl,hp with
   | [a,b],[a',b'],_,hp=>
    have ha:=hp 0 (by simp) (by simp)
    have hb:=hp 1 (by simp) (by simp)
    simp only [List.getElem_cons_zero,List.getElem_cons_succ] at ha hb
    intro h0
    simp only at h0 ⊢
    unfold uo at h0 ⊢
    split at h0
    · rename_i hn; simp only [nu] at h0; exact absurd h0 hn
    ·
     rename_i hn
     rw [ha (by simpa using hn),if_neg hn]
     split at h0
     · rename_i hk; simp [nu] at h0
     ·
      rename_i hk
      rw [if_neg hk]
      split at h0
      · rename_i hb1; rw [if_pos hb1,if_pos hb1,if_neg hn,if_neg hk]
      · rename_i hb1; rw [if_neg hb1,if_neg hb1,if_neg hn,if_neg hk]; exact agk hb h0
   | [],m,hl,_=>cases m with | nil=>exact fun h=>rfl | cons _ _=>simp at hl
   | [a],m,hl,_=>match m,hl with | [_],_=>exact fun h=>rfl
   | a :: b :: c :: r,m,hl,_=>match m,hl with | _ :: _ :: _ :: _,_=>exact fun h=>rfl
  ·
   rw [if_neg h7,if_neg h7,←hl]
   by_cases h5:k=5∧BM n=0
   · rw [if_pos h5,if_pos h5]; exact fun _=>rfl
   ·
    rw [if_neg h5,if_neg h5]
    by_cases h6:k=5∧BM n≠l.length
    · rw [if_pos h6,if_pos h6]; exact fun _=>rfl
    ·
     rw [if_neg h6,if_neg h6]
     intro h0
     split at h0
     · rename_i hn; simp only [nu] at h0; exact absurd h0 hn
     ·
      rename_i hn
      rw [aeO hl hp (by simpa using hn)]
theorem YC {more env:List av} (hd:((more ++ env).map (·.name)).Nodup):∀ (n:Nat) (e:aj),e.bulk≤n→PV2 (iJ env e) (iJ (more ++ env) e)
 | 0,e,h=>by have:=e.gF; omega
 | n + 1,e,h=>by
  rw [rU,rU]
  by_cases h1:e.kind=1
  · rw [if_pos h1,if_pos h1]; exact fun _=>rfl
  ·
   rw [if_neg h1,if_neg h1]
   by_cases h2:e.kind=2
   ·
    rw [if_pos h2,if_pos h2]
    by_cases hm:e.name∈env.map (·.name)
    ·
     have:e.name∉more.map (·.name):=by
      intro hx
      rw [List.map_append,List.nodup_append] at hd
      exact hd.2.2 _ hx _ hm rfl
     rw [UN more this]; exact fun _=>rfl
    ·
     rw [Rj env e.name hm]
     intro h0; simp [nu] at h0
   ·
    rw [if_neg h2,if_neg h2]
    refine agb (by simp) fun i k1 k2=>?_
    simp only [List.getElem_map]
    exact YC hd n _ (by have:=fF (List.getElem_mem (by simpa using k1):e.args[i]'(by simpa using k1)∈e.args); omega)
theorem YD {more env:List av} (hd:((more ++ env).map (·.name)).Nodup):∀ (n:Nat) (e:aj),e.bulk≤n→iJ (more ++ env) (NA env e)=iJ (more ++ env) e
 | 0,e,h=>by have:=e.gF; omega
 | n + 1,e,h=>by
  rw [Nz]
  by_cases h0:(iJ env e).2=0
  ·
   rw [if_pos h0,YC hd (n + 1) e h h0,rU]
   simp only [if_true]
   rw [←Prod.eta (iJ env e)]
   simp only [okV,h0]
  ·
   rw [if_neg h0,rU,rU (more ++ env) e]
   simp only
   have ih:(e.args.map (NA env)).map (iJ (more ++ env))=e.args.map (iJ (more ++ env)):=by
    rw [List.map_map]
    exact List.map_congr_left fun x hx=>YD hd n x (by have:=fF hx; omega)
   rw [ih]
theorem Zi {k:Int} {n:Str} {v:ah} {a a':List aj} {ks:List Str} (h:a.length=a'.length) (level:Nat):tY ⟨k,n,v,a,ks⟩ level=tY ⟨k,n,v,a',ks⟩ level:=by
 unfold tY rV Al sW Cb Ab
 simp only [h]
theorem PX :∀ {l:List aj} {level:Nat},(∀ x∈l,zG x level=0)→Il l level=0
 | [],_,_=>rfl
 | x :: r,level,h=>by
  rw [Il,h x (by simp),PX fun y hy=>h y (by simp [hy])]
  simp
theorem UW {f:aj→aj}:∀ {l:List aj},(∀ x∈l,ecnt (f x)≤ecnt x)→vR (l.map f)≤vR l
 | [],_=>Nat.le_refl _
 | x :: r,h=>by
  simp only [List.map_cons,vR]
  have:=h x (by simp)
  have:=UW (l:=r) fun y hy=>h y (by simp [hy])
  omega
theorem UL {env:List av}:∀ (n:Nat) (e:aj),e.bulk≤n→ecnt (NA env e)≤ecnt e
 | 0,e,h=>by have:=e.gF; omega
 | n + 1,e,h=>by
  rw [Nz,tL e]
  split
  · rw [tL]; simp [vR]
  ·
   rw [tL]
   have:=UW (f:=NA env) (l:=e.args) fun x hx=>UL n x (by have:=fF hx; omega)
   simp only
   omega
theorem Rh {env:List av} (hE:∀ x∈env,VV x.value∧x.value.bulk≤1048576):∀ (n:Nat) (e:aj) (level:Nat),e.bulk≤n→SE e→zG e level=0→zG (NA env e) level=0
 | 0,e,_,h,_,_=>by have:=e.gF; omega
 | n + 1,e,level,h,hS,hx=>by
  obtain ⟨y1,y2⟩:=M8 hx
  obtain ⟨f1,f2,f3⟩:=KN y1
  obtain ⟨F,x2⟩:=Sr hx
  have akV:¬ 16 < level:=by
   intro hc
   unfold tY at y1
   rw [if_pos hc] at y1; cases y1
  rw [Nz]
  by_cases h0:(iJ env e).2=0
  ·
   rw [if_pos h0,JM]
   have g:=((Jl hE e.bulk e level (Nat.le_refl _) hS hx).1 h0).1
   have hv:=(Fw _).2 g
   have hn:tY ⟨1,[],(iJ env e).1,[],[]⟩ level=0:=by
    unfold tY
    rw [if_neg akV,hv]
    simp [rV,Ab,Al,sW,Cb,K_]
   rw [hn]
   rfl
  ·
   rw [if_neg h0,JM,Zi (a':=e.args) (by simp)]
   have:(⟨e.kind,e.name,e.value,e.args,e.keys⟩:aj)=e:=by cases e; rfl
   rw [this,y1]
   simp only [bne_self_eq_false,Bool.false_eq_true,if_false]
   refine PX fun y hy=>?_
   obtain ⟨x,hx',rfl⟩:=List.mem_map.1 hy
   exact Rh hE n x (level + 1) (by have:=fF hx'; omega) (hS.arg hx') (x2 x hx')
theorem Xz {f:aj→aj} {W:Nat}:∀ {l:List aj},(∀ x∈l,(f x).bulk≤ecnt x * W + x.bulk)→((l.map f).map aj.bulk).sum≤vR l * W + (l.map aj.bulk).sum
 | [],_=>by simp
 | x :: r,h=>by
  simp only [List.map_cons,List.sum_cons,vR,Nat.add_mul]
  have:=h x (by simp)
  have:=Xz (l:=r) fun y hy=>h y (by simp [hy])
  omega
theorem UM {env:List av} (hE:∀ x∈env,VV x.value∧x.value.bulk≤1048576):∀ (n:Nat) (e:aj) (level:Nat),e.bulk≤n→e.bulk≤1048576→SE e→zG e level=0→(NA env e).bulk≤ecnt e * 16777316 + e.bulk
 | 0,e,_,h,_,_,_=>by have:=e.gF; omega
 | n + 1,e,level,h,hb,hS,hx=>by
  obtain ⟨F,x2⟩:=Sr hx
  have hec:=tL e
  have hpos:=e.gF
  rw [Nz]
  by_cases h0:(iJ env e).2=0
  ·
   have g:=((Wz (W:=16777216) ⟨by omega,by omega⟩ (fun x hx=>⟨(hE x hx).1,by have:=(hE x hx).2; omega⟩) e.bulk e level (Nat.le_refl _) (by omega) hS hx).1 h0).2
   rw [if_pos h0,aj.iC]
   simp only [aj.iN,List.map_nil,List.sum_nil,List.length_nil]
   omega
  ·
   rw [if_neg h0,aj.iC,aj.iC e,aj.iN,aj.iN]
   have:=Xz (f:=NA env) (W:=16777316) (l:=e.args) fun x hx'=>UM hE n x (level + 1) (by have:=fF hx'; omega) (by have:=fF hx'; omega) (hS.arg hx') (x2 x hx')
   simp only
   rw [hec,Nat.add_mul]
   omega
theorem Ta (e1:aj) (bK:List av) (oJ:List av) (h:aj.bulk e1 + ((List.map (fun z:av=>(av.bulk z)) bK).sum + 1) + ((List.map (fun z:av=>(av.bulk z)) oJ).sum + 1)≤1048576):A9 e1 bK oJ=some true:=by
 have hE:(bK.map av.bulk).sum≤1048576:=by
  have h':(List.map (fun z:av=>(av.bulk z)) bK).sum≤1048576:=by omega
  exact h'
 have hN:(oJ.map av.bulk).sum≤1048576:=by
  have h':(List.map (fun z:av=>(av.bulk z)) oJ).sum≤1048576:=by omega
  exact h'
 have hM:((oJ ++ bK).map av.bulk).sum≤1048576:=by
  have h':(List.map (fun z:av=>(av.bulk z)) (oJ ++ bK)).sum≤1048576:=by
   rw [List.map_append,List.sum_append]; omega
  exact h'
 obtain ⟨s1,s2⟩:=uh hE
 obtain ⟨r1,r2⟩:=uh hN
 obtain ⟨t1,t2⟩:=uh hM
 have hb:e1.bulk≤1048576:=by omega
 obtain ⟨x1,_⟩:=Gf (e:=e1) (by omega)
 obtain ⟨v1,_⟩:=J9 (env:=oJ ++ bK) (by omega) (fun d hd=>by have:=t2 d hd; omega)
 unfold A9
 rw [JW (by omega),ay]
 split
 · exact nG
 ·
  rw [q8 (by simp [rC]; omega),ay,q8 (by simp [rC]; omega),ay]
  simp only [List.nil_append]
  rw [v1,x1,ay]
  by_cases hv:qC (oJ ++ bK)=0
  ·
   by_cases hx:xval e1=0
   ·
    simp only [hv,hx,bne_self_eq_false,Bool.false_eq_true,if_false,ay]
    have hve:=UR oJ hv
    obtain ⟨w1,_,_⟩:=Jm hve
    obtain ⟨_,w2,_⟩:=Jm hv
    have hEv:∀ x∈bK,VV x.value∧x.value.bulk≤1048576:=fun x hx=>⟨(w1 x hx).1,(s2 x hx).2⟩
    have hS:=Vj (by omega) hx
    have hc:=M7 hx
    obtain ⟨p,_,_⟩:=Vg (e:=e1) (env:=bK) hb hE
    have hf:Ri e1 bK=NA bK e1:=by unfold Ri; simp [hve,hx]
    have fb:=UM hEv e1.bulk e1 1 (Nat.le_refl _) hb hS hc
    have fc:=UL (env:=bK) e1.bulk e1 (Nat.le_refl _)
    have fv:=Rh hEv e1.bulk e1 1 (Nat.le_refl _) hS hc
    have hC:=hS.2
    have hm:ecnt e1 * 16777316≤4096 * 16777316:=Nat.mul_le_mul_right _ hC
    have hxf:xval (NA bK e1)=0:=by
     unfold xval
     rw [if_neg (by omega),fv]
    obtain ⟨y1,_⟩:=Gf (e:=NA bK e1) (by omega)
    obtain ⟨q1,_,g⟩:=xW (e:=e1) (env:=oJ ++ bK) (by omega) hM
    obtain ⟨q2,_,_⟩:=xW (e:=NA bK e1) (env:=oJ ++ bK) (by omega) hM
    have he:wJ (NA bK e1) (oJ ++ bK)=wJ e1 (oJ ++ bK):=by
     unfold wJ
     rw [hxf,hx,YD w2 e1.bulk e1 (Nat.le_refl _)]
    obtain ⟨a,b⟩:=Mw g
    rw [p,ay,hf,y1,ay,hxf,q1,q2,he,mD,mD]
    simp only [bne_self_eq_false,Bool.false_eq_true,if_false,beq_self_eq_true,if_true]
    rw [aaZ (by omega),ay]
    exact nG
   · simp [hv,hx,nG]
  · simp [hv,nG]
end Go.Ft
