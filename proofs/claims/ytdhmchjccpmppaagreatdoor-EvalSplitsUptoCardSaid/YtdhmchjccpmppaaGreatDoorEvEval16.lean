/- Proved here: plain facts on the functional texts. -/
import Derived.Test.YtdhmchjccpmppaaGreatDoorEvPlain2
set_option linter.unusedVariables false
set_option linter.unusedSimpArgs false
set_option linter.unusedSectionVars false
set_option maxHeartbeats 2000000
namespace Go.Ft
open Go
attribute [local congr] jE
mutual
def NA (env:List av):aj→aj
 | ⟨k,n,v,args,keys⟩=>if (iJ env ⟨k,n,v,args,keys⟩).2=0 then ⟨1,[],(iJ env ⟨k,n,v,args,keys⟩).1,[],[]⟩ else ⟨k,n,v,foL env args,keys⟩
def foL (env:List av):List aj→List aj
 | []=>[]
 | x :: r=>NA env x :: foL env r
end
theorem abg (env:List av):∀ l:List aj,foL env l=l.map (NA env)
 | []=>rfl
 | x :: r=>by rw [foL,abg env r,List.map_cons]
theorem Nz (env:List av) (e:aj):NA env e=if (iJ env e).2=0 then ⟨1,[],(iJ env e).1,[],[]⟩ else ⟨e.kind,e.name,e.value,e.args.map (NA env),e.keys⟩:=by
 cases e; rw [NA,abg]
theorem NH {go:aj→Option aj} {f:aj→aj} {R:Type} {fin:aj→Option R}:∀ (l:List aj) (i:Nat) (out:aj),(∀ x∈l,go x=some (f x))→out.args.length + l.length≤rC→
  dQ (fun _ x (out:aj) r=>au (go x) fun x4=>au (app out.args [x4]) fun x5=>r (aj.mk out.kind out.name out.value x5 out.keys)) fin i l out
   =fin (aj.mk out.kind out.name out.value (out.args ++ l.map f) out.keys)
 | [],i,out,_,_=>by cases out; simp [dQ]
 | x :: l,i,out,h,hl=>by
  simp only [List.length_cons] at hl
  rw [dQ,h x (by simp),ay,q8 (by simp; omega),ay]
  refine (NH l (i + 1) _ (fun y hy=>h y (by simp [hy])) (by simp; omega)).trans ?_
  simp
theorem YL :∀ (n:Nat) (e:aj),e.bulk≤n→e.bulk≤1048576→lF (n + 1) e=some e
 | 0,e,h,_=>by have:=e.gF; omega
 | n + 1,e,h,hb=>by
  have hL:rC=4294967296:=rfl
  have ha:=Am e
  have hk:=xS e
  have hv:=xP e
  have ih:∀ x∈e.args,lF (n + 1) x=some (id x):=fun x hx=>YL n x (by have:=fF hx; omega) (by have:=fF hx; omega)
  rw [lF,A_,(T_ (v:=e.value) (by omega)).2,ay,q8 (by simp; omega),ay]
  rw [dP (F:=fun k s i=>uS (lF (n + 1)) e k i s) (l:=e.args) (body:=fun _ x (out:aj) r=>au (lF (n + 1) x) fun x4=>au (app out.args [x4]) fun x5=>r (aj.mk out.kind out.name out.value x5 out.keys)) (fin:=fun out=>some out) (by omega) (fun k s i=>rfl)]
  rw [NH (f:=id) e.args 0 _ ih (by simp; omega)]
  cases e; simp
theorem U0 {e:aj} (h:e.bulk≤1048576):EJ e=some e:=by
 obtain ⟨n,hn,hn2⟩:=ru
 unfold EJ
 rw [hn]
 exact YL n e (by omega) h
theorem af0 {e:aj} {level:Nat} (h:zG e level=0):e.keys.length≤e.args.length:=by
 obtain ⟨x1,_⟩:=M8 h
 obtain ⟨f1,_,_⟩:=KN x1
 have p4:Cb e=true:=by unfold rV at f1; simp only [Bool.and_eq_true] at f1; exact f1.2
 unfold Cb at p4
 split at p4
 · simp at p4; simp [p4]
 · simp only [Bool.and_eq_true,beq_iff_eq] at p4; omega
theorem adx {e:aj} {env:List av} (hl:env.length < 4611686018427387904) (hE:∀ x∈env,VV x.value∧x.value.bulk≤1048576) (h:SE e) {level:Nat} (hc:zG e level=0):oL env e=some (iJ env e):=by
 have hg:=Jl hE e.bulk e level (Nat.le_refl _) h hc
 have p:=Wu hl hE e.bulk e level BIG (Nat.le_refl _) h hc (by have:=j_; have:=h.1; omega)
 unfold oL wX
 rw [p]
 unfold zL
 by_cases h0:(iJ env e).2=0
 · rw [if_pos h0,jC,←h0]
 ·
  rw [if_neg h0,N_]
  have hz:=hg.2 h0
  generalize iJ env e=p at hz ⊢
  obtain ⟨v,c⟩:=p
  simp only at hz
  rw [hz]; rfl
theorem UK {env:List av} (hl:env.length < 4611686018427387904) (hE:∀ x∈env,VV x.value∧x.value.bulk≤1048576):∀ (n:Nat) (e:aj) (level:Nat),e.bulk≤n→SE e→zG e level=0→
  jf (n + 1) env e=some (NA env e)∧nM (n + 1) e env=some (NA env e)
 | 0,e,_,h,_,_=>by have:=e.gF; omega
 | n + 1,e,level,h,hb,hx=>by
  obtain ⟨hB,hC⟩:=(id hb:SE e)
  have hL:rC=4294967296:=rfl
  have ha:=Am e
  have hk:=xS e
  obtain ⟨F,x2⟩:=Sr hx
  have hk2:=af0 hx
  have hlen:=F.len
  have ih:∀ x∈e.args,jf (n + 1) env x=some (NA env x)∧nM (n + 1) x env=some (NA env x):=fun x hx'=>UK hl hE n x (level + 1) (by have:=fF hx'; omega) (hb.arg hx') (x2 x hx')
  have hg:=Jl hE e.bulk e level (Nat.le_refl _) hb hx
  have hw:ecnt e * WB≤4096 * WB:=Nat.mul_le_mul_right _ hC
  have hW:WB=2199023255552:=rfl
  have q:L8 e env=some (iJ env e):=aae hl hE e.bulk e level BIG (Nat.le_refl _) hb hx (by have:=j_; omega)
  rw [jf,tJ,adx hl hE hb hx,nM,Gn,q,mD,mD,Nz]
  by_cases h0:(iJ env e).2=0
  ·
   obtain ⟨g1,g2⟩:=hg.1 h0
   have b0:((iJ env e).2 == 0)=true:=by simpa using h0
   rw [if_pos h0,if_pos b0,if_pos b0,(JU g1.1 (by omega)).2,ay]
   exact ⟨rfl,rfl⟩
  ·
   have b0:¬ ((iJ env e).2 == 0)=true:=by simpa using h0
   rw [if_neg h0,if_neg b0,if_neg b0,q8 (by simp; omega),ay]
   constructor
   ·
    rw [dP (F:=fun k s i=>oM (jf (n + 1)) env e k i s) (l:=e.args) (body:=fun _ x (out:aj) r=>au (jf (n + 1) env x) fun x4=>au (app out.args [x4]) fun x5=>r (aj.mk out.kind out.name out.value x5 out.keys)) (fin:=fun out=>some out) (by omega) (fun k s i=>rfl)]
    rw [NH (f:=NA env) e.args 0 _ (fun x hx'=>(ih x hx').1) (by simp; omega)]
    simp
   ·
    rw [dP (F:=fun k s i=>Br (nM (n + 1)) e env k s i) (l:=e.args) (body:=fun _ x (l1:List aj) r=>au (nM (n + 1) x env) fun x2=>au (app l1 [x2]) fun l2=>r l2) (fin:=fun l1=>some (aj.mk e.kind e.name e.value l1 e.keys)) (by omega) (fun k s i=>rfl)]
    have key:∀ (l:List aj) (i:Nat) (o:List aj),(∀ x∈l,nM (n + 1) x env=some (NA env x))→o.length + l.length≤rC→
      dQ (fun _ x (l1:List aj) r=>au (nM (n + 1) x env) fun x2=>au (app l1 [x2]) fun l2=>r l2) (fun l1=>some (aj.mk e.kind e.name e.value l1 e.keys)) i l o=some (aj.mk e.kind e.name e.value (o ++ l.map (NA env)) e.keys):=by
     intro l
     induction l with
     | nil=>intro i o _ _; simp [dQ]
     | cons x l ihl=>
      intro i o h1 h2
      simp only [List.length_cons] at h2
      rw [dQ,h1 x (by simp),ay,q8 (by simp; omega),ay]
      refine (ihl (i + 1) _ (fun y hy=>h1 y (by simp [hy])) (by simp; omega)).trans ?_
      simp
    rw [key e.args 0 [] (fun x hx'=>(ih x hx').2) (by simp; omega)]
    simp
theorem Nq {α:Type} {c:α→α→Int}:∀ l:List α,(∀ x∈l,c x x=0)→xq c l l=0
 | [],_=>by rw [xq]
 | x :: r,h=>by rw [xq,h x (by simp),Nq r fun y hy=>h y (by simp [hy])]; simp
theorem Na :∀ (n:Nat) (v:ah),v.bulk≤n→qw v v=0
 | 0,v,h=>by have:=v.gF; omega
 | n + 1,v,h=>by
  have h1:xq qw v.aI v.aI=0:=Nq _ fun x hx=>Na n x (by have:=iH hx; omega)
  have h2:xq fA v.keys v.keys=0:=Nq _ fun x _=>EA x
  have h3:∀ x:Int,oV x x=0:=fun x=>Ap.2 rfl
  rw [JR,h1,h2,h3,h3,U2]
  have h4:vW (!v.dh && v.dh) (v.dh && !v.dh)=0:=by cases v.dh <;> rfl
  rw [h4]
  simp
theorem GX {x:aj} {go:aj→aj→Option Bool} (hk:x.keys.length < 4611686018427387904) (ha:x.args.length < 4611686018427387904) (hv:x.value.bulk < 4611686018427387904) (h:∀ y∈x.args,go y y=some true):Bv go x x=some true:=by
 have e1:sJ x.value x.value=some true:=by rw [(Gb hv hv).2,Na _ _ (Nat.le_refl _)]; rfl
 rw [Bv,e1]
 simp only [bne_self_eq_false,beq_self_eq_true,Bool.not_true,Bool.or_self,Bool.false_eq_true,if_false,ay]
 rw [dP (F:=fun k (_:Unit) i=>yG go x x k i) (l:=x.keys) (body:=fun (i:Nat) e1 (_:Unit) r=>au (idx x.keys (i:Int)) fun e2=>if !(e1 == e2) then some false else r ()) (fin:=fun _=>pR go x x BIG 0) hk (fun k s i=>rfl) ()]
 have key:∀ (t:List Str) (i:Nat),t=x.keys.drop i→dQ (fun (i:Nat) e1 (_:Unit) r=>au (idx x.keys (i:Int)) fun e2=>if !(e1 == e2) then some false else r ()) (fun _=>pR go x x BIG 0) i t ()=pR go x x BIG 0:=by
  intro t
  induction t with
  | nil=>intro i _; rfl
  | cons d t ih=>
   intro i ht
   have hi:i < x.keys.length:=by
    rcases Nat.lt_or_ge i x.keys.length with h | h
    · exact h
    · rw [List.drop_eq_nil_of_le h] at ht; cases ht
   have hc:=List.drop_eq_getElem_cons hi
   rw [←ht] at hc
   have e1':=(List.cons.inj hc).1
   have e2':=(List.cons.inj hc).2
   rw [dQ,rA hi,ay,←e1',if_neg (by simp)]
   exact ih (i + 1) e2'
 rw [key x.keys 0 rfl]
 rw [dP (F:=fun k (_:Unit) i=>pR go x x k i) (l:=x.args) (body:=fun (i:Nat) e1 (_:Unit) r=>au (idx x.args (i:Int)) fun e2=>au (go e1 e2) fun x1=>if !x1 then some false else r ()) (fin:=fun _=>some true) ha (fun k s i=>rfl) ()]
 have key2:∀ (t:List aj) (i:Nat),t=x.args.drop i→dQ (fun (i:Nat) e1 (_:Unit) r=>au (idx x.args (i:Int)) fun e2=>au (go e1 e2) fun x1=>if !x1 then some false else r ()) (fun _=>some true) i t ()=some true:=by
  intro t
  induction t with
  | nil=>intro i _; rfl
  | cons d t ih=>
   intro i ht
   have hi:i < x.args.length:=by
    rcases Nat.lt_or_ge i x.args.length with h | h
    · exact h
    · rw [List.drop_eq_nil_of_le h] at ht; cases ht
   have hc:=List.drop_eq_getElem_cons hi
   rw [←ht] at hc
   have e1':=(List.cons.inj hc).1
   have e2':=(List.cons.inj hc).2
   rw [dQ,rA hi,ay,←e1',h d (by rw [e1']; exact List.getElem_mem hi),ay,if_neg (by simp)]
   exact ih (i + 1) e2'
 exact key2 x.args 0 rfl
theorem UQ :∀ (n:Nat) (e:aj),e.bulk≤n→e.bulk < 4611686018427387904→pQ (n + 1) e e=some true
 | 0,e,h,_=>by have:=e.gF; omega
 | n + 1,e,h,hb=>by
  have ha:=Am e
  have hk:=xS e
  have hv:=xP e
  rw [pQ]
  exact GX (by omega) (by omega) (by omega) fun x hx=>UQ n x (by have:=fF hx; omega) (by have:=fF hx; omega)
theorem Ro {env:List av} (hE:∀ x∈env,VV x.value∧x.value.bulk≤1048576):∀ (n:Nat) (e:aj) (level:Nat),e.bulk≤n→SE e→zG e level=0→pQ (n + 1) (NA env e) (NA env e)=some true
 | 0,e,_,h,_,_=>by have:=e.gF; omega
 | n + 1,e,level,h,hb,hx=>by
  obtain ⟨hB,hC⟩:=(id hb:SE e)
  have ha:=Am e
  have hk:=xS e
  have hv:=xP e
  obtain ⟨F,x2⟩:=Sr hx
  have hg:=Jl hE e.bulk e level (Nat.le_refl _) hb hx
  have hw:ecnt e * WB≤4096 * WB:=Nat.mul_le_mul_right _ hC
  have hW:WB=2199023255552:=rfl
  rw [pQ,Nz]
  by_cases h0:(iJ env e).2=0
  ·
   obtain ⟨g1,g2⟩:=hg.1 h0
   rw [if_pos h0]
   exact GX (by simp) (by simp) (by simpa using (by omega:(iJ env e).1.bulk < 4611686018427387904)) (by simp)
  ·
   rw [if_neg h0]
   refine GX (by simpa using (by omega:e.keys.length < 4611686018427387904)) (by simpa using (by omega:e.args.length < 4611686018427387904)) (by simpa using (by omega:e.value.bulk < 4611686018427387904)) ?_
   intro y hy
   obtain ⟨x,hx',rfl⟩:=List.mem_map.1 hy
   exact Ro hE n x (level + 1) (by have:=fF hx'; omega) (hb.arg hx') (x2 x hx')
def Ri (e:aj) (env:List av):aj:=if qC env≠0 then e else if xval e≠0 then e else NA env e
theorem Vg {e:aj} {env:List av} (h:e.bulk≤1048576) (hE:(env.map av.bulk).sum≤1048576):Aj e env=some (Ri e env)∧IL e env=some (Ri e env)∧CW (Ri e env) (Ri e env)=some true:=by
 obtain ⟨s1,s2⟩:=uh hE
 obtain ⟨v1,v2⟩:=J9 (env:=env) (by omega) (fun d hd=>by have:=s2 d hd; omega)
 obtain ⟨x1,x2⟩:=Gf (e:=e) (by omega)
 obtain ⟨n,hn,hn2⟩:=ru
 have hself:CW e e=some true:=by unfold CW; rw [hn]; exact UQ n e (by omega) (by omega)
 unfold Aj xQ IL Ri
 rw [v1,v2,x1,x2]
 simp only [ay]
 by_cases hv:qC env=0
 ·
  obtain ⟨w1,w2,w3⟩:=Jm hv
  have hEv:∀ x∈env,VV x.value∧x.value.bulk≤1048576:=fun x hx=>⟨(w1 x hx).1,(s2 x hx).2⟩
  have bv:(qC env != 0)=false:=by simpa using hv
  rw [if_neg (c:=qC env≠0) (by simpa using hv)]
  simp only [bv,Bool.false_eq_true,if_false]
  by_cases hx:xval e=0
  ·
   have hc:=M7 hx
   have hS:=Vj (by omega) hx
   have bx:(xval e != 0)=false:=by simpa using hx
   rw [if_neg (c:=xval e≠0) (by simpa using hx)]
   simp only [bx,Bool.false_eq_true,if_false,ay,dH,bne_self_eq_false]
   obtain ⟨f1,f2⟩:=UK (by omega) hEv n e 1 (by omega) hS hc
   unfold B_ Qt CW
   rw [hn]
   exact ⟨f1,f2,Ro hEv n e 1 (by omega) hS hc⟩
  ·
   have bx:(xval e != 0)=true:=by simpa using hx
   rw [if_pos (c:=xval e≠0) hx]
   simp only [bx,if_true,ay,dH]
   exact ⟨U0 h,trivial,hself⟩
 ·
  have bv:(qC env != 0)=true:=by simpa using hv
  rw [if_pos (c:=qC env≠0) hv]
  simp only [bv,if_true,ay,dH]
  exact ⟨U0 h,trivial,hself⟩
theorem Q5 (e1:aj) (bK:List av) (h:aj.bulk e1 + ((List.map (fun z:av=>(av.bulk z)) bK).sum + 1)≤1048576):zl e1 bK=some true:=by
 have hE:(bK.map av.bulk).sum≤1048576:=by
  have h':(List.map (fun z:av=>(av.bulk z)) bK).sum≤1048576:=by omega
  exact h'
 obtain ⟨p,q,g⟩:=Vg (e:=e1) (env:=bK) (by omega) hE
 unfold zl
 rw [JW (by omega),ay]
 split
 · exact nG
 ·
  rw [p,q,ay,ay,g,ay]
  simp [nG]
end Go.Ft
