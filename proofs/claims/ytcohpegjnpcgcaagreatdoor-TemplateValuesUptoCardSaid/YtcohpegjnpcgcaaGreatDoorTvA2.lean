/- Proved here: how a functional text stands for a walk of the given code. -/
import Derived.Test.YtcohpegjnpcgcaaGreatDoorTvWords
import Derived.Test.YtcohpegjnpcgcaaGreatDoorTvA1
import Derived.Lib.Builder
import Derived.Lib.UnsafeStr
import Derived.Laws.Externs
import Derived.Laws.Pointers
import Derived.WalkSmall
import Derived.WideLaws
import Derived.Recover
set_option linter.unusedVariables false
set_option linter.unusedSimpArgs false
set_option linter.unusedSectionVars false
namespace Go.Abs
variable [iJ]
open Go Go.Ft
def nD (s:List UInt8):List PV:=[.str s]
def MX (n:Int):List PV:=[.int .i64 n]
section
variable {P : Program} {o : Oper} {ρ : Operand → PV} {σ : List bf} {R S : PV → List bf → Prop} {α : Type}
theorem AO.fV {t:TypeId} {x i:Operand} {s:List UInt8} {k:IntKind} {n:Int} {c:UInt8} (hv:idx s n=some c) (ho:o.op=.index t x i) (hs:P.underlying t=some .string) (hx:ρ x=.str s) (hi:ρ i=.int k n)
  (hR:R (.int .u8 (c.toNat:Int)) σ):AO P o ρ σ R S:=
 AO.Z8 ho hs hx hi (vX hv).1 (vX hv).2 hR
theorem AO.aP {t:TypeId} {x i:Operand} {L:List (List PV)} {k:IntKind} {n:Int} {sz:Nat} {e:List PV} {f:α→List PV} {l:List α} {a:α} (hv:idx l n=some a) (ho:o.op=.indexAddr t x i) (hx:(ρ x).els=some L) (hL:L=l.map f) (hi:ρ i=.int k n) (hs:elemSize P t=some sz)
  (he:f a=e) (hl:e.length=sz) (hR:R (.ref e) σ):AO P o ρ σ R S:=
 AO.indexAddr ho hx hi hs (vX hv).1 (by rw [hL,List.getElem?_map,(vX hv).2,←he]; rfl) hl hR
theorem AO.aO {x:Operand} {t:TypeId} {L:List (List PV)} {sz:Nat} {c:Call} {f:α→List PV} {l:List α} (ho:o.op=.call c) (kZ:c.callee=.builtin .len) (hargs:c.args=#[x]) (hty:c.argTypes=#[t]) (hs:elemSize P t=some sz) (hx:(ρ x).els=some L) (hL:L=l.map f)
  (hR:R (.int .i64 (l.length:Int)) σ):AO P o ρ σ R S:=
 AO.Z5 ho kZ hargs hty hs hx (by rw [hL,List.length_map]; exact hR)
def Oy (ρ:Operand→PV) (o:Option Operand) (a d:Int):Prop:=
 match o with
 | some y=>∃ k,ρ y=.int k a
 | none=>a=d
theorem G8 {o:Option Operand} {a:Int} {d:Nat} (h:Oy ρ o a d) (h0:0≤a):bound ρ o a.toNat d:=by
 unfold Oy at h; unfold bound; cases o with
 | none=>simp only at h ⊢; omega
 | some y=>obtain ⟨k,h⟩:=h; exact ⟨k,by rw [h]; congr 1; omega⟩
theorem AO.qd {t:TypeId} {x:Operand} {lo hi:Option Operand} {s r:List UInt8} {a b:Int} (hv:sl s a b=some r) (ho:o.op=.slice t x lo hi none) (hu:P.underlying t=some .string) (hx:ρ x=.str s)
  (hlo:Oy ρ lo a (0:Nat)) (hhi:Oy ρ hi b (s.length:Nat)) (hR:R (.str r) σ):AO P o ρ σ R S:=by
 obtain ⟨h0,h1,h2,rfl⟩:=YS hv; exact AO.ZI ho hu hx (G8 hlo h0) (G8 hhi (by omega)) (by omega) (by omega) hR
theorem AO.YU {t:TypeId} {x:Operand} {lo hi:Option Operand} {L Lr:List (List PV)} {sz:Nat} {a b:Int} {f:α→List PV} {l r:List α} (hv:sl l a b=some r) (ho:o.op=.slice t x lo hi none) (hs:elemSize P t=some sz) (hx:(ρ x).els=some L)
  (hL:L=l.map f) (hr:r.map f=Lr) (fl:∀ x,(f x).length=sz) (hlo:Oy ρ lo a (0:Nat)) (hhi:Oy ρ hi b (l.length:Nat)) (hR:R (.list Lr) σ):AO P o ρ σ R S:=by
 obtain ⟨h0,h1,h2,rfl⟩:=YS hv; refine AO.X5 (a:=a.toNat) (b:=b.toNat) ho hs hx ?_ (G8 hlo h0) ?_ (by omega) (by rw [hL,List.length_map]; omega) ?_
 ·
  intro e he; rw [hL,List.mem_map] at he; obtain ⟨y,_,rfl⟩:=he; exact fl y
 ·
  have:=G8 (d:=l.length) hhi (by omega); rw [hL,List.length_map]; exact this
 · rw [hL,←List.map_take,←List.map_drop,hr]; exact hR
theorem acz :Ik≤maxLen:=by decide
theorem AO.eZ {c:Call} {s x:Operand} {t tx e sz bytes:Nat} {v:Value} {L L2 Lr:List (List PV)} {i:Nat} {f:α→List PV} {l m r:List α} (hv:app l m=some r) (ho:o.op=.call c) (kZ:c.callee=.builtin .append) (hargs:c.args=#[s,x]) (hty:c.argTypes=#[t,tx])
  (hs:ρ s=.own v L) (hx:(ρ x).els=some L2) (hi:σ[i]?=some (bf.row v L.length sz e)) (hf:iL P t e sz bytes) (htx:elemSize P tx=some sz)
  (hL:L=l.map f) (hL2:L2=m.map f) (hr:r.map f=Lr) (fl:∀ x,(f x).length=sz) (fo:∀ x,(f x).all PV.one=true) (hb:Nat.ble bytes 32768=true)
  (hR:∀ v' σ',Ch σ i (.row v' Lr.length sz e)=some σ'→R (.own v' Lr) σ'):AO P o ρ σ R S:=by
 obtain ⟨h1,rfl⟩:=kF hv; have hb:=Nat.le_of_ble_eq_true hb; have hlim:l.length + m.length≤4294967296:=h1; have hmul:(l.length + m.length) * bytes≤4294967296 * 32768:=Nat.mul_le_mul hlim hb; have hLr:L ++ L2=Lr:=by rw [hL,hL2,←List.map_append,hr]
 have e1:L.length=l.length:=by rw [hL,List.length_map]
 have e2:L2.length=m.length:=by rw [hL2,List.length_map]
 refine AO.append ho kZ hargs hty hs hx hi hf htx rfl ?_ ?_ ?_ ?_ ?_ ?_
 · intro y hy; rw [hL,List.mem_map] at hy; obtain ⟨z,_,rfl⟩:=hy; exact fl z
 · intro y hy; rw [hL2,List.mem_map] at hy; obtain ⟨z,_,rfl⟩:=hy; exact fl z
 · intro y hy; rw [hL2,List.mem_map] at hy; obtain ⟨z,_,rfl⟩:=hy; exact fo z
 · rw [e1,e2]; exact Nat.le_trans h1 acz
 · rw [e1,e2]; omega
 ·
  intro v' σ' h; rw [hLr]; exact hR v' σ' (by rw [←hLr,List.length_append]; exact h)
theorem AO.qC {t u:TypeId} {x y:Operand} {a b r:List UInt8} (hv:app a b=some r) (ho:o.op=.binOp .add t x y u) (hx:ρ x=.str a) (hy:ρ y=.str b)
  (hR:R (.str r) σ):AO P o ρ σ R S:=by
 obtain ⟨h1,rfl⟩:=kF hv; have:a.length + b.length≤4294967296:=h1; exact AO.concat ho hx hy (by omega) hR
theorem AO.bq {t e sz bytes len:Nat} {parts:Array (Nat × Operand)} {cells:List PV} {L:List (List PV)} (Lr:List (List PV)) (ho:o.op=.buildSlice t len parts) (hs:iL P t e sz bytes) (hle:Nat.ble (len * sz) 16777216=true)
  (hf:DX (fun i=>some (i * sz,sz)) (List.replicate (len * sz) .undef) (parts.toList.map fun x=>(x.1,(ρ x.2).weak))=some cells) (hl:GX sz len cells=some L) (hr:L=Lr) (hR:R (.list Lr) σ):AO P o ρ σ R S:=
 AO.buildSlice ho hs hle hf hl (by rw [hr]; exact hR)
theorem AO.fO {t e sz bytes len:Nat} {parts:Array (Nat × Operand)} {cells:List PV} {L:List (List PV)} (Lr:List (List PV)) (ho:o.op=.buildSlice t len parts) (hs:iL P t e sz bytes) (hle:Nat.ble (len * sz) 16777216=true)
  (hf:DX (fun i=>some (i * sz,sz)) (List.replicate (len * sz) .undef) (parts.toList.map fun x=>(x.1,(ρ x.2).weak))=some cells) (hl:GX sz len cells=some L) (hlen:Nat.ble len 16777216=true) (hr:L=Lr) (hR:∀ v,R (.own v Lr) (.row v Lr.length sz e :: σ)):AO P o ρ σ R S:=by
 refine AO.Sr ho hs hle hf hl hlen fun v=>?_; have:=hR v; rw [←hr] at this; rw [←(Ko hl).1]; exact this
theorem AO.eO {x:Operand} (ho:o.op=.assign x) (hx:ρ x=.own (.slice none 0 0) []) (hR:R (.list []) σ):AO P o ρ σ R S:=by
 refine AO.of_same hR fun w m ev hr _=>?_; have h1:=hr x (by simp [ho,Op.operands]); rw [hx] at h1; exact ⟨ev x,by simp [execOp,ho],h1.weak⟩
theorem AO.Xl {src dst:TypeId} {x:Operand} {d:TypeDesc} {k:IntKind} {n:Int} (ho:o.op=.convert src dst x) (hs:P.underlying src=some d) (hd:P.underlying dst=some (.int .u8)) (hx:ρ x=.int k n)
  (hR:R (.int .u8 ((Ft.byteOf n).toNat:Int)) σ):AO P o ρ σ R S:=
 AO.Jr ho hs hd hx (by rw [←Ft.byteOf_toNat]; exact hR)
theorem AO.aaV {t u:TypeId} {x y:Operand} {p q:Int} (a b:UInt8) (ho:o.op=.binOp .add t x y u) (hx:ρ x=.int .u8 p) (hy:ρ y=.int .u8 q) (ha:p=(a.toNat:Int)) (hb:q=(b.toNat:Int))
  (hR:R (.int .u8 ((a + b).toNat:Int)) σ):AO P o ρ σ R S:=by
 refine AO.RQ (p:=.int .u8 (IntKind.u8.wrap (p + q))) (by simp only [pev,ho,hx,hy]; rfl) ?_ hR; rw [ha,hb]; simp [IntKind.wrap,IntKind.bits,IntKind.signed,UInt8.toNat_add]
theorem AO.U4 {t u:TypeId} {x y:Operand} {p q:Int} (a b:UInt8) (ho:o.op=.binOp .sub t x y u) (hx:ρ x=.int .u8 p) (hy:ρ y=.int .u8 q) (ha:p=(a.toNat:Int)) (hb:q=(b.toNat:Int))
  (hR:R (.int .u8 ((a - b).toNat:Int)) σ):AO P o ρ σ R S:=by
 refine AO.RQ (p:=.int .u8 (IntKind.u8.wrap (p - q))) (by simp only [pev,ho,hx,hy]; rfl) ?_ hR; rw [ha,hb]; congr 1; have h1:=a.toNat_lt; have h2:=b.toNat_lt; simp [IntKind.wrap,IntKind.bits,IntKind.signed,UInt8.toNat_sub]; omega
theorem AO.u8_quo {t u:TypeId} {x y:Operand} {p q:Int} (a b:UInt8) (ho:o.op=.binOp .quo t x y u) (hx:ρ x=.int .u8 p) (hy:ρ y=.int .u8 q) (ha:p=(a.toNat:Int)) (hb:q=(b.toNat:Int)) (h0:q≠0)
  (hR:R (.int .u8 ((a / b).toNat:Int)) σ):AO P o ρ σ R S:=by
 have e:IntKind.u8.wrap (p.tdiv q)=((a / b).toNat:Int):=by
  have h1:=a.toNat_lt; rw [ha,hb]; rw [←Int.ofNat_tdiv]; have h2:=Nat.div_le_self a.toNat b.toNat; rw [UInt8.toNat_div]; generalize a.toNat / b.toNat=z at *; simp [IntKind.wrap,IntKind.bits,IntKind.signed]; omega
 exact AO.quo ho hx hy h0 (by rw [e]; exact hR)
theorem AO.XW {t u:TypeId} {x y:Operand} {p q:Int} (a b:UInt8) (ho:o.op=.binOp .rem t x y u) (hx:ρ x=.int .u8 p) (hy:ρ y=.int .u8 q) (ha:p=(a.toNat:Int)) (hb:q=(b.toNat:Int)) (h0:q≠0)
  (hR:R (.int .u8 ((a % b).toNat:Int)) σ):AO P o ρ σ R S:=by
 have e:p.tmod q=((a % b).toNat:Int):=by
  rw [ha,hb]; rw [←Int.ofNat_tmod]; simp [UInt8.toNat_mod]
 exact AO.rem ho hx hy h0 (by rw [e]; exact hR)
theorem AO.ah4 {t u:TypeId} {x y:Operand} {k:IntKind} {a b:Int} (hv:chk (!(b == 0))=some ()) (ho:o.op=.binOp .quo t x y u) (hx:ρ x=.int k a) (hy:ρ y=.int k b)
  (hR:R (.int k (k.wrap (a.tdiv b))) σ):AO P o ρ σ R S:=
 AO.quo ho hx hy (by have:=Xp hv; simpa using this) hR
theorem AO.ah3 {t u:TypeId} {x y:Operand} {k:IntKind} {a b:Int} (hv:chk (!(b == 0))=some ()) (ho:o.op=.binOp .rem t x y u) (hx:ρ x=.int k a) (hy:ρ y=.int k b)
  (hR:R (.int k (a.tmod b)) σ):AO P o ρ σ R S:=
 AO.rem ho hx hy (by have:=Xp hv; simpa using this) hR
end
section
variable {P : Program} {n : Nat} {env : Env} {σ : List bf} {ds : List Deferred} {Q : Post} {all : Array Oper} {l : List Oper}
theorem AW.drop1 {c:Code} {r:bf} (h:AW P n c env σ ds Q):AW P n c env (r :: σ) ds Q:=AW.drop σ (List.sublist_cons_self r σ) h
theorem AR.drop1 {r:bf} (h:AR P n all l env σ ds Q):AR P n all l env (r :: σ) ds Q:=
 fun w m a QC uI ha=>h w m a QC ⟨uI.size,uI.ds,uI.env,uI.lK.sub (List.sublist_cons_self r σ)⟩ (ha.step (Trans.sub (Trans.refl w m (r :: σ)) (List.sublist_cons_self r σ)))
def Less (e' e:Env):Prop:=∀ t,e'.get t=.undef∨e'.get t=e.get t
theorem Less.settle {ps:List Nat} {e e':Env} (h:Abs.settle ps e=some e'):Less e' e:=LU h
theorem Less.refl (e:Env):Less e e:=fun _=>.inr rfl
theorem Less.cons {e e':Env} (h:Less e' e) (t:Nat) (p:PV):Less ((t,p) :: e') ((t,p) :: e):=by
 intro u; simp only [Env.get]; cases Nat.beq t u with
 | true=>exact .inr rfl
 | false=>exact h u
theorem Less.ev {e e':Env} (h:Less e' e) (x:Operand):e'.ev x=.undef∨e'.ev x=e.ev x:=by
 cases x with
 | tmp t=>exact h t
 | const v=>exact .inr rfl
 | global g=>exact .inr rfl
 | func f=>exact .inr rfl
theorem AO.less {o:Oper} {e e':Env} (h:Less e' e) {R S:PV→List bf→Prop} (k:AO P o e'.ev σ R S):AO P o e.ev σ R S:=by
 intro w m a K QC hr hc h1 h2; refine k w m a K QC (fun x hx=>?_) hc h1 h2; rcases h.ev x with h' | h'
 · rw [h']; simp [dK]
 · rw [h']; exact hr x hx
theorem Less.known {e e':Env} (h:Less e' e) {t:Nat} {p:PV} (hp:e'.get t=p) (hn:p≠.undef):e.get t=p:=by
 rcases h t with h' | h'
 · rw [h'] at hp; exact absurd hp.symm hn
 · rw [←h']; exact hp
theorem Cb.less {o:Oper} {e e':Env} (h:Less e' e) {p:PV} (k:Cb P all e' σ o p):Cb P all e σ o p:=by
 rcases k with ⟨hg,k⟩ | ⟨j,want,oj,u,h1,h2,h3,k⟩
 · exact .inl ⟨hg,AO.less h k⟩
 ·
  refine .inr ⟨j,want,oj,u,h1,h2,h3,?_⟩; rcases k with ⟨h5,k⟩ | ⟨h5 | h5,k⟩
  · exact .inl ⟨h.known h5 (by simp),AO.less h k⟩
  · exact .inr ⟨.inl (h.known h5 (by simp)),k⟩
  · exact .inr ⟨.inr (h.known h5 (by simp)),k⟩
theorem uZ.less {w:World} {m:ko} {e e':Env} {a:Act} (h:Less e' e) (hs:uZ w m n e σ ds a):uZ w m n e' σ ds a:=
 ⟨hs.size,hs.ds,fun t=>by
  rcases h t with h' | h'
  · rw [h']; simp [dK]
  · rw [h']; exact hs.env t,hs.lK⟩
theorem AR.less {e e':Env} (h:Less e' e) (k:AR P n all l e' σ ds Q):AR P n all l e σ ds Q:=
 fun w m a QC hs ha=>k w m a QC (hs.less h) ha
theorem Ev.less {K:Env→Prop} (hK:∀ e e',Less e' e→K e'→K e):∀ {l:List Oper} {e e':Env},Less e' e→Ev P n all σ e' l K→Ev P n all σ e l K
 | [],e,e',h,k=>hK e e' h k
 | o :: rest,e,e',h,k=>by
  obtain ⟨t,p,h1,h2,h3,h4⟩:=k; exact ⟨t,p,h1,h2,Cb.less h h3,Ev.less hK (h.cons t p) h4⟩
theorem Ev.append {K:Env→Prop}:∀ {l l':List Oper} {e:Env},Ev P n all σ e l (fun e=>Ev P n all σ e l' K)→Ev P n all σ e (l ++ l') K
 | [],_,_,h=>h
 | _ :: _,_,_,h=>by
  obtain ⟨t,p,h1,h2,h3,h4⟩:=h; exact ⟨t,p,h1,h2,h3,Ev.append h4⟩
theorem Ev.Uo {K K':Env→Prop} (hK:∀ e,K e→K' e):∀ {l:List Oper} {e:Env},Ev P n all σ e l K→Ev P n all σ e l K'
 | [],e,h=>hK e h
 | _ :: _,_,h=>by
  obtain ⟨t,p,h1,h2,h3,h4⟩:=h; exact ⟨t,p,h1,h2,h3,Ev.Uo hK h4⟩
theorem Less.trans {a b c:Env} (h:Less a b) (k:Less b c):Less a c:=by
 intro t; rcases h t with h' | h'
 · exact .inl h'
 ·
  rcases k t with k' | k'
  · exact .inl (h'.trans k')
  · exact .inr (h'.trans k')
theorem Ev.fK {K:Env→Prop} (hK:∀ e e',Less e' e→K e'→K e) (k g t:Nat) (want:Bool) (keep:List Nat) {b:Bool} (p:PV) {env':Env} (_hb:env.get g=.bool b) (_hk:settle keep env=some env')
  (h1:b=want→Ev P n all σ env (l.take k) fun e=>Less ((t,p) :: env') e)
  (h2:b=!want→Ev P n all σ env (l.take k) fun e=>Less ((t,p) :: env') e)
  (h3:Ev P n all σ ((t,p) :: env') (l.drop k) K):Ev P n all σ env l K:=by
 have key:(Ev P n all σ env (l.take k) fun e=>Less ((t,p) :: env') e)→Ev P n all σ env l K:=by
  intro h; rw [←List.take_append_drop k l]; refine Ev.append (Ev.Uo (fun e he=>?_) h); exact Ev.less hK he h3
 cases b with
 | true=>cases want with
  | true=>exact key (h1 rfl)
  | false=>exact key (h2 rfl)
 | false=>cases want with
  | true=>exact key (h2 rfl)
  | false=>exact key (h1 rfl)
theorem hKA {L2:List Oper} (e e':Env) (h:Less e' e) (k:AR P n all L2 e' σ ds Q):AR P n all L2 e σ ds Q:=AR.less h k
theorem W_ {X:Env} (e e':Env) (h:Less e' e) (k:Less X e'):Less X e:=k.trans h
theorem AR.fK (k g t:Nat) (want:Bool) (keep:List Nat) {b:Bool} (x:Bool) {env':Env}
  (hb:env.get g=.bool b) (hk:settle keep env=some env')
  (h1:b=want→AR P n all (l.take k) env σ ds fun ax e s d=>ax=.normal∧e=(t,.bool x) :: env'∧s=σ∧d=ds)
  (h2:b=!want→AR P n all (l.take k) env σ ds fun ax e s d=>ax=.normal∧e=(t,.bool x) :: env'∧s=σ∧d=ds)
  (h3:AR P n all (l.drop k) ((t,.bool x) :: env') σ ds Q):AR P n all l env σ ds Q:=
 AR.join k g t want keep (x:=x) (y:=x) hb hk h1 h2 (by cases (b == want) <;> exact h3)
end
section
variable {P : Program} {n : Nat} {env : Env} {σ : List bf} {ds : List Deferred} {Q : Post}
theorem AW.afr {A0:Type} {c:Code} (E:A0→Env) (T:A0→List bf) (I:Nat→A0→Prop) (k0:Nat) (x0:A0) (h0:env=E x0) (h1:σ=T x0) (h2:I k0 x0)
  (z:∀ x0,I 0 x0→False)
  (round:∀ k x0,I (k + 1) x0→AW P n c (E x0) (T x0) ds (AX.then (fun e s d=>∃ y0,e=E y0∧s=T y0∧d=ds∧I k y0) Q)):AW P n (.loop c) env σ ds Q:=by
 refine AW.loop (α:=Nat × (A0)) (fun q=>E (q.2)) (fun q=>T (q.2)) (fun q=>I q.1 (q.2)) (fun q=>q.1) (k0,(x0)) h0 h1 h2 ?_; rintro ⟨k,q⟩ hI; cases k with
 | zero=>exact (z _ hI).elim
 | succ k=>
  refine (round k (q) hI).mono fun x e s d hx=>?_; cases x with
  | normal=>obtain ⟨y0,h3,h4,h5,h6⟩:=hx; exact ⟨(k,(y0)),h3,h4,h5,h6,Nat.lt_succ_self k⟩
  | exit id=>exact hx
  | ret=>exact hx
  | panic p=>exact hx
theorem AW.ahF {A0:Type} {c:Code} (E:A0→Env) (T:A0→List bf) (I:A0→Prop)
  (h:AW P n c env σ ds (AX.then (fun e s d=>∃ y0,e=E y0∧s=T y0∧d=ds∧I y0) Q)) (hq:∀ x0,I x0→Q .normal (E x0) (T x0) ds):AW P n c env σ ds Q:=by
 refine h.mono fun x e s d hx=>?_; cases x with
 | normal=>obtain ⟨y0,rfl,rfl,rfl,hI⟩:=hx; exact hq _ hI
 | exit id=>exact hx
 | ret=>exact hx
 | panic p=>exact hx
theorem AW.NU {A0:Type} {A1:Type} {c:Code} (E:A0→A1→Env) (T:A0→A1→List bf) (I:Nat→A0→A1→Prop) (k0:Nat) (x0:A0) (x1:A1) (h0:env=E x0 x1) (h1:σ=T x0 x1) (h2:I k0 x0 x1)
  (z:∀ x0 x1,I 0 x0 x1→False)
  (round:∀ k x0 x1,I (k + 1) x0 x1→AW P n c (E x0 x1) (T x0 x1) ds (AX.then (fun e s d=>∃ y0 y1,e=E y0 y1∧s=T y0 y1∧d=ds∧I k y0 y1) Q)):AW P n (.loop c) env σ ds Q:=by
 refine AW.loop (α:=Nat × (A0 × A1)) (fun q=>E (q.2.1) (q.2.2)) (fun q=>T (q.2.1) (q.2.2)) (fun q=>I q.1 (q.2.1) (q.2.2)) (fun q=>q.1) (k0,(x0,x1)) h0 h1 h2 ?_; rintro ⟨k,q⟩ hI; cases k with
 | zero=>exact (z _ _ hI).elim
 | succ k=>
  refine (round k (q.1) (q.2) hI).mono fun x e s d hx=>?_; cases x with
  | normal=>obtain ⟨y0,y1,h3,h4,h5,h6⟩:=hx; exact ⟨(k,(y0,y1)),h3,h4,h5,h6,Nat.lt_succ_self k⟩
  | exit id=>exact hx
  | ret=>exact hx
  | panic p=>exact hx
theorem AW.afq {A0:Type} {A1:Type} {A2:Type} {c:Code} (E:A0→A1→A2→Env) (T:A0→A1→A2→List bf) (I:Nat→A0→A1→A2→Prop) (k0:Nat) (x0:A0) (x1:A1) (x2:A2) (h0:env=E x0 x1 x2) (h1:σ=T x0 x1 x2) (h2:I k0 x0 x1 x2)
  (z:∀ x0 x1 x2,I 0 x0 x1 x2→False)
  (round:∀ k x0 x1 x2,I (k + 1) x0 x1 x2→AW P n c (E x0 x1 x2) (T x0 x1 x2) ds (AX.then (fun e s d=>∃ y0 y1 y2,e=E y0 y1 y2∧s=T y0 y1 y2∧d=ds∧I k y0 y1 y2) Q)):AW P n (.loop c) env σ ds Q:=by
 refine AW.loop (α:=Nat × (A0 × A1 × A2)) (fun q=>E (q.2.1) (q.2.2.1) (q.2.2.2)) (fun q=>T (q.2.1) (q.2.2.1) (q.2.2.2)) (fun q=>I q.1 (q.2.1) (q.2.2.1) (q.2.2.2)) (fun q=>q.1) (k0,(x0,x1,x2)) h0 h1 h2 ?_; rintro ⟨k,q⟩ hI; cases k with
 | zero=>exact (z _ _ _ hI).elim
 | succ k=>
  refine (round k (q.1) (q.2.1) (q.2.2) hI).mono fun x e s d hx=>?_; cases x with
  | normal=>obtain ⟨y0,y1,y2,h3,h4,h5,h6⟩:=hx; exact ⟨(k,(y0,y1,y2)),h3,h4,h5,h6,Nat.lt_succ_self k⟩
  | exit id=>exact hx
  | ret=>exact hx
  | panic p=>exact hx
theorem AW.afp {A0:Type} {A1:Type} {A2:Type} {A3:Type} {c:Code} (E:A0→A1→A2→A3→Env) (T:A0→A1→A2→A3→List bf) (I:Nat→A0→A1→A2→A3→Prop) (k0:Nat) (x0:A0) (x1:A1) (x2:A2) (x3:A3) (h0:env=E x0 x1 x2 x3) (h1:σ=T x0 x1 x2 x3) (h2:I k0 x0 x1 x2 x3)
  (z:∀ x0 x1 x2 x3,I 0 x0 x1 x2 x3→False)
  (round:∀ k x0 x1 x2 x3,I (k + 1) x0 x1 x2 x3→AW P n c (E x0 x1 x2 x3) (T x0 x1 x2 x3) ds (AX.then (fun e s d=>∃ y0 y1 y2 y3,e=E y0 y1 y2 y3∧s=T y0 y1 y2 y3∧d=ds∧I k y0 y1 y2 y3) Q)):AW P n (.loop c) env σ ds Q:=by
 refine AW.loop (α:=Nat × (A0 × A1 × A2 × A3)) (fun q=>E (q.2.1) (q.2.2.1) (q.2.2.2.1) (q.2.2.2.2)) (fun q=>T (q.2.1) (q.2.2.1) (q.2.2.2.1) (q.2.2.2.2)) (fun q=>I q.1 (q.2.1) (q.2.2.1) (q.2.2.2.1) (q.2.2.2.2)) (fun q=>q.1) (k0,(x0,x1,x2,x3)) h0 h1 h2 ?_; rintro ⟨k,q⟩ hI; cases k with
 | zero=>exact (z _ _ _ _ hI).elim
 | succ k=>
  refine (round k (q.1) (q.2.1) (q.2.2.1) (q.2.2.2) hI).mono fun x e s d hx=>?_; cases x with
  | normal=>obtain ⟨y0,y1,y2,y3,h3,h4,h5,h6⟩:=hx; exact ⟨(k,(y0,y1,y2,y3)),h3,h4,h5,h6,Nat.lt_succ_self k⟩
  | exit id=>exact hx
  | ret=>exact hx
  | panic p=>exact hx
theorem AW.afo {A0:Type} {A1:Type} {A2:Type} {A3:Type} {A4:Type} {c:Code} (E:A0→A1→A2→A3→A4→Env) (T:A0→A1→A2→A3→A4→List bf) (I:Nat→A0→A1→A2→A3→A4→Prop) (k0:Nat) (x0:A0) (x1:A1) (x2:A2) (x3:A3) (x4:A4) (h0:env=E x0 x1 x2 x3 x4) (h1:σ=T x0 x1 x2 x3 x4) (h2:I k0 x0 x1 x2 x3 x4)
  (z:∀ x0 x1 x2 x3 x4,I 0 x0 x1 x2 x3 x4→False)
  (round:∀ k x0 x1 x2 x3 x4,I (k + 1) x0 x1 x2 x3 x4→AW P n c (E x0 x1 x2 x3 x4) (T x0 x1 x2 x3 x4) ds (AX.then (fun e s d=>∃ y0 y1 y2 y3 y4,e=E y0 y1 y2 y3 y4∧s=T y0 y1 y2 y3 y4∧d=ds∧I k y0 y1 y2 y3 y4) Q)):AW P n (.loop c) env σ ds Q:=by
 refine AW.loop (α:=Nat × (A0 × A1 × A2 × A3 × A4)) (fun q=>E (q.2.1) (q.2.2.1) (q.2.2.2.1) (q.2.2.2.2.1) (q.2.2.2.2.2)) (fun q=>T (q.2.1) (q.2.2.1) (q.2.2.2.1) (q.2.2.2.2.1) (q.2.2.2.2.2)) (fun q=>I q.1 (q.2.1) (q.2.2.1) (q.2.2.2.1) (q.2.2.2.2.1) (q.2.2.2.2.2)) (fun q=>q.1) (k0,(x0,x1,x2,x3,x4)) h0 h1 h2 ?_; rintro ⟨k,q⟩ hI; cases k with
 | zero=>exact (z _ _ _ _ _ hI).elim
 | succ k=>
  refine (round k (q.1) (q.2.1) (q.2.2.1) (q.2.2.2.1) (q.2.2.2.2) hI).mono fun x e s d hx=>?_; cases x with
  | normal=>obtain ⟨y0,y1,y2,y3,y4,h3,h4,h5,h6⟩:=hx; exact ⟨(k,(y0,y1,y2,y3,y4)),h3,h4,h5,h6,Nat.lt_succ_self k⟩
  | exit id=>exact hx
  | ret=>exact hx
  | panic p=>exact hx
theorem AW.afn {A0:Type} {A1:Type} {A2:Type} {A3:Type} {A4:Type} {A5:Type} {c:Code} (E:A0→A1→A2→A3→A4→A5→Env) (T:A0→A1→A2→A3→A4→A5→List bf) (I:Nat→A0→A1→A2→A3→A4→A5→Prop) (k0:Nat) (x0:A0) (x1:A1) (x2:A2) (x3:A3) (x4:A4) (x5:A5) (h0:env=E x0 x1 x2 x3 x4 x5) (h1:σ=T x0 x1 x2 x3 x4 x5) (h2:I k0 x0 x1 x2 x3 x4 x5)
  (z:∀ x0 x1 x2 x3 x4 x5,I 0 x0 x1 x2 x3 x4 x5→False)
  (round:∀ k x0 x1 x2 x3 x4 x5,I (k + 1) x0 x1 x2 x3 x4 x5→AW P n c (E x0 x1 x2 x3 x4 x5) (T x0 x1 x2 x3 x4 x5) ds (AX.then (fun e s d=>∃ y0 y1 y2 y3 y4 y5,e=E y0 y1 y2 y3 y4 y5∧s=T y0 y1 y2 y3 y4 y5∧d=ds∧I k y0 y1 y2 y3 y4 y5) Q)):AW P n (.loop c) env σ ds Q:=by
 refine AW.loop (α:=Nat × (A0 × A1 × A2 × A3 × A4 × A5)) (fun q=>E (q.2.1) (q.2.2.1) (q.2.2.2.1) (q.2.2.2.2.1) (q.2.2.2.2.2.1) (q.2.2.2.2.2.2)) (fun q=>T (q.2.1) (q.2.2.1) (q.2.2.2.1) (q.2.2.2.2.1) (q.2.2.2.2.2.1) (q.2.2.2.2.2.2)) (fun q=>I q.1 (q.2.1) (q.2.2.1) (q.2.2.2.1) (q.2.2.2.2.1) (q.2.2.2.2.2.1) (q.2.2.2.2.2.2)) (fun q=>q.1) (k0,(x0,x1,x2,x3,x4,x5)) h0 h1 h2 ?_; rintro ⟨k,q⟩ hI; cases k with
 | zero=>exact (z _ _ _ _ _ _ hI).elim
 | succ k=>
  refine (round k (q.1) (q.2.1) (q.2.2.1) (q.2.2.2.1) (q.2.2.2.2.1) (q.2.2.2.2.2) hI).mono fun x e s d hx=>?_; cases x with
  | normal=>obtain ⟨y0,y1,y2,y3,y4,y5,h3,h4,h5,h6⟩:=hx; exact ⟨(k,(y0,y1,y2,y3,y4,y5)),h3,h4,h5,h6,Nat.lt_succ_self k⟩
  | exit id=>exact hx
  | ret=>exact hx
  | panic p=>exact hx
end
end Go.Abs
namespace Go.Abs
variable [iJ]
open Go Go.Ft
section
variable {P : Program} {o : Oper} {ρ : Operand → PV} {σ : List bf} {R S : PV → List bf → Prop}
theorem Kv {w:World} {m:ko} {σ:List bf} (hc:Conc w m σ) (ob:Obj):
  Conc (w.alloc ob) (fun b off=>m b off∨(b=w.heap.size∧False)) (.obj w.heap.size ob :: σ):=by
 have hc':=uq hc ob (fun _=>False); refine ⟨fun r hr=>?_,?_,hc'.wf,hc'.uK⟩
 ·
  rcases List.mem_cons.1 hr with rfl | hr
  ·
   refine ⟨heap_alloc_new w _,fun off ho=>?_⟩; rcases ho with ho | ⟨_,ho⟩
   · have:=hc.wf _ off ho; omega
   · exact ho
  · exact hc'.each r hr
 ·
  simp only [lU,List.flatMap_cons,bf.fp,List.singleton_append,List.nodup_cons]; refine ⟨fun hm=>?_,hc.apart⟩; have:=hc.LV _ hm; omega
theorem AO.ZM {t:TypeId} {x:Operand} {s:List UInt8} (ho:o.op=.range t x) (hu:P.underlying t=some .string) (hx:ρ x=.str s)
  (hR:∀ b,R (.val (.pointer (some ⟨b,0,none⟩))) (.obj b (.stringIter ⟨s.toArray⟩ 0) :: σ)):AO P o ρ σ R S:=by
 refine AO.of_run' fun w m ev hr hc=>?_; have h1:=hr x (by simp [ho,Op.operands]); rw [hx] at h1; simp only [dK] at h1; have:=Kv hc (.stringIter ⟨s.toArray⟩ 0); refine ⟨_,_,.pointer (some ⟨w.heap.size,0,none⟩),_,_,hR w.heap.size,?_,by simp [dK],this,kX hc _ _ fun b hb=>?_⟩
 · simp [execOp,ho,Instr.range,run_underlying hu,h1,go_sem]
 ·
  simp [lU,bf.fp] at hb ⊢; rcases hb with hb | hb
  · exact .inr hb
  · exact .inl hb
theorem KT {w:World} {b:Nat} {s:ByteArray} {pos:Nat} (h:w.heap[b]?=some (.stringIter s pos)):(getObj b).run P w=.ok (.stringIter s pos) w:=by simp [getObj,Sem.run,h]
theorem AO.abN {x:Operand} {s:List UInt8} {b pos i:Nat} (ho:o.op=.next x true) (hx:ρ x=.val (.pointer (some ⟨b,0,none⟩))) (hi:σ[i]?=some (bf.obj b (.stringIter ⟨s.toArray⟩ pos)))
  (hlt:decide (pos < s.length)=true) (hR:R (.tuple [.bool true,.int .i64 (pos:Int),.int .i32 ((dec s pos).1:Int)]) (σ.set i (.obj b (.stringIter ⟨s.toArray⟩ (pos + (dec s pos).2))))):AO P o ρ σ R S:=by
 have hlt:=of_decide_eq_true hlt; refine AO.of_run' fun w m ev hr hc=>?_; have h1:=hr x (by simp [ho,Op.operands]); rw [hx] at h1; simp only [dK] at h1; obtain ⟨hb,hm⟩:=hc.each _ (List.mem_of_getElem? hi)
 have hblt:b < w.heap.size:=by
  rcases Nat.lt_or_ge b w.heap.size with h | h
  · exact h
  · simp [Array.getElem?_eq_none h] at hb
 let w':World:={w with heap:=w.heap.setIfInBounds b (.stringIter ⟨s.toArray⟩ (pos + (dec s pos).2))}; have hb':w'.heap[b]?=some (.stringIter ⟨s.toArray⟩ (pos + (dec s pos).2)):=by simp [w',hblt]
 obtain ⟨k1,k2⟩:=Conc.write (w':=w') (r':=.obj b (.stringIter ⟨s.toArray⟩ (pos + (dec s pos).2))) hc hi rfl rfl hm ⟨hb',hm⟩ ⟨rfl,rfl,rfl⟩ (by simp [w']) (fun k hk=>by simp [w',Array.getElem?_setIfInBounds_ne (Ne.symm hk)]); refine ⟨_,_,.tuple #[.bool true,.int .i64 (pos:Int),.int .i32 ((dec s pos).1:Int)],w',m,hR,?_,?_,k1,k2⟩
 ·
  have hsz:pos < (ByteArray.mk s.toArray).size:=by simpa [ByteArray.size] using hlt
  simp [execOp,ho,Instr.next,h1,KT hb,hsz,setObj,Sem.run,hb,w',dec,goInt,Instr.next]
 ·
  simp only [dK]; exact ⟨_,rfl,bD.cons rfl (bD.cons rfl (bD.cons rfl bD.nil))⟩
theorem AO.Z0 {x:Operand} {s:List UInt8} {b pos i:Nat} (ho:o.op=.next x true) (hx:ρ x=.val (.pointer (some ⟨b,0,none⟩))) (hi:σ[i]?=some (bf.obj b (.stringIter ⟨s.toArray⟩ pos)))
  (hge:decide (pos < s.length)=false) (hR:R (.tuple [.bool false]) σ):AO P o ρ σ R S:=by
 have hge:=of_decide_eq_false hge; refine AO.of_same hR fun w m ev hr hc=>?_; have h1:=hr x (by simp [ho,Op.operands]); rw [hx] at h1; simp only [dK] at h1; obtain ⟨hb,hm⟩:=hc.each _ (List.mem_of_getElem? hi); refine ⟨.tuple #[.bool false],?_,?_⟩
 ·
  have hsz:¬ pos < (ByteArray.mk s.toArray).size:=by simpa [ByteArray.size] using hge
  simp [execOp,ho,Instr.next,h1,KT hb,hsz]
 ·
  simp only [dK]; exact ⟨_,rfl,bD.cons rfl bD.nil⟩
theorem Conc.kV {w:World} {m:ko} {σ:List bf} (h:Conc w m σ) {i b:Nat} {ty:TypeId} {cs:List PV} (hi:σ[i]?=some (bf.kV b ty cs)):
  ∃ vs:List Value,w.heap[b]?=some (.cells vs.toArray ty (0,0))∧bD w m cs vs∧∀ off,¬ m b off:=h.each _ (List.mem_of_getElem? hi)
theorem AO.kN {t:TypeId} {x:Operand} {cs:List PV} {b off i:Nat} {ty:TypeId} {ag:Bool} {k:Nat} {p:PV} (ho:o.op=.load t x) (hx:ρ x=.val (.pointer (some ⟨b,off,none⟩))) (hi:σ[i]?=some (bf.kV b ty cs))
  (ht:iD P t=some (ag,k)) {cs':List PV} (hd:D7 off cs=some cs') (hp:zO ag k cs'=some p) (hR:R p σ):AO P o ρ σ R S:=by
 obtain ⟨rfl,_⟩:=D6 hd; refine AO.of_same hR fun w m ev hr hc=>?_; have h:=hr x (by simp [ho,Op.operands]); rw [hx] at h; simp only [dK] at h; obtain ⟨vs,g1,g2,_⟩:=hc.kV hi
 obtain ⟨v,h5,h6⟩:=zA ht hp (g2.drop off) (b:=b) (off:=off) fun i v hv=>by
  rw [cell_of_row w b (off + i) vs.toArray ty (0,0) g1]; simpa [List.getElem?_drop] using hv
 exact ⟨v,by simp [execOp,ho,Instr.loadAt,h,Instr.sureAddr,h5],h6⟩
theorem AO.tX {t:TypeId} {x y:Operand} {cs new cs':List PV} {b off i:Nat} {ty:TypeId} {ag:Bool} {k:Nat} {σ':List bf} (ho:o.op=.store t x y) (hx:ρ x=.val (.pointer (some ⟨b,off,none⟩))) (hi:σ[i]?=some (bf.kV b ty cs))
  (ht:iD P t=some (ag,k)) (hnew:(ρ y).Ad=some new) (hone:new.all PV.one=true) (hk:Nat.beq new.length k=true) (hput:Ve cs off new=some cs') (hset:Ch σ i (.kV b ty cs')=some σ') (hR:R .undef σ'):AO P o ρ σ R S:=by
 obtain ⟨hnew,hok⟩:=Dq hnew; have hnew:=hnew.symm; have hk:=Nat.eq_of_beq_eq_true hk; obtain ⟨rfl,hfit⟩:=MN hput; have hset:=P7 hset; subst hset; intro w m a K QC hr hc hK _; have h:=hr x (by simp [ho,Op.operands]); have hy:=hr y (by simp [ho,Op.operands]); rw [hx] at h; simp only [dK] at h; obtain ⟨vs,g1,g2,g3⟩:=hc.kV hi; have hyl:=hy.cells hok; rw [hnew] at hyl; have hl:=hyl.length_eq; have hl2:=g2.length_eq; have hst:=run_storeCells_at P b off ty (a.eval y).cells.toList 0 vs.toArray w g1 (by simp at hl ⊢; omega) (hyl.oneCell hone); obtain ⟨_,hsz⟩:=Di ht w; have hsize:(a.eval y).cells.size=k:=by rw [←Array.length_toList,hl,hk]
 have hrun:(execOp a.eval o).run P w=.ok .skip (w.setRow b (vs.take off ++ ((a.eval y).cells.toList ++ vs.drop (off + (a.eval y).cells.toList.length))).toArray):=by
  simp only [execOp,ho,Instr.storeAt,h,Instr.sureAddr,storeVar,Sem.run_bind,Sem.run_pure,Result.andThen_ok,hsz,hsize,ne_eq,not_true_eq_false,if_false]; rw [hst]; simp
 have hl':bD w m (putCells cs off new) (vs.take off ++ ((a.eval y).cells.toList ++ vs.drop (off + (a.eval y).cells.toList.length))):=by
  unfold putCells; refine (g2.take off).append (hyl.append ?_); rw [hl]; exact g2.drop _
 have hrow:=setRow_heap w b vs.toArray (vs.take off ++ ((a.eval y).cells.toList ++ vs.drop (off + (a.eval y).cells.toList.length))).toArray ty (0,0) g1; have hother:∀ k,k≠b→(w.setRow b (vs.take off ++ ((a.eval y).cells.toList ++ vs.drop (off + (a.eval y).cells.toList.length))).toArray).heap[k]?=w.heap[k]?:=fun k hk=>setRow_other w b k _ hk
 have hle:Le w m (w.setRow b (vs.take off ++ ((a.eval y).cells.toList ++ vs.drop (off + (a.eval y).cells.toList.length))).toArray) m:=by
  intro c off hco; refine ⟨hco,World.cell?_of_block (w:=w) (hother c ?_)⟩; intro e; subst e; exact g3 off hco
 obtain ⟨k1,k2⟩:=Conc.write (r':=.kV b ty (putCells cs off new)) hc hi rfl rfl g3 ⟨_,hrow,bD.mono hle _ _ hl',g3⟩ ⟨rfl,rfl,rfl⟩ (by simp [World.setRow]) hother; unfold Oper.wp; rw [hrun]; exact hK .undef _ _ _ m hR trivial k1 k2
theorem Kn {w:World} {m:ko} {r:bf} {τ:List bf} (h:r.holds w m) (hn:r.fp.Nodup) (hd:∀ b∈r.fp,b∉lU τ) (hc:Conc w m τ):Conc w m (r :: τ):=by
 refine ⟨fun x hx=>?_,?_,hc.wf,hc.uK⟩
 ·
  rcases List.mem_cons.1 hx with rfl | hx
  · exact h
  · exact hc.each x hx
 ·
  have e:lU (r :: τ)=r.fp ++ lU τ:=by simp [lU]
  rw [e,List.nodup_append]; exact ⟨hn,hc.apart,fun a ha b hb hab=>hd a ha (hab ▸ hb)⟩
theorem AO.Dr {e eu:TypeId} {cs:List PV} (ho:o.op=.alloc e) (hz:lW P e=some cs) (hcs:cs=[.val (.pointer none),.own (.slice none 0 0) []])
  (hR:∀ b,R (.val (.pointer (some ⟨b,0,none⟩))) (.K_ b (.slice none 0 0) e eu [] :: σ)):AO P o ρ σ R S:=by
 refine AO.of_run' fun w m ev hr hc=>?_; obtain ⟨z,h1,h2⟩:=FC hz w
 have hz':z.cells.toList=[.pointer none,.slice none 0 0]:=by
  have:=h2 m; rw [hcs] at this; simp only [bD,dK] at this; obtain ⟨v,vs,e1,rfl,v2,vs2,rfl,⟨rfl,_⟩,rfl⟩:=this; exact e1
 have aie:z.cells=#[.pointer none,.slice none 0 0]:=by rw [←Array.toArray_toList (xs:=z.cells),hz']
 have hc':=uq hc (.cells z.cells e) (fun _=>False)
 have hnew:Conc (w.alloc (.cells z.cells e)) (fun b off=>m b off∨(b=w.heap.size∧False)) (.K_ w.heap.size (.slice none 0 0) e eu [] :: σ):=by
  refine Kn ⟨⟨.pointer none,.inl rfl,?_⟩,fun off ho=>?_,rfl,⟨rfl,.inl ⟨rfl,rfl⟩⟩,fun g hg=>by cases hg⟩ (by simp [bf.fp,Value.ownBlock]) (fun b hb hm=>?_) hc'
  · rw [heap_alloc_new w _,aie]
  ·
   rcases ho with ho | ⟨_,ho⟩
   · have:=hc.wf _ off ho; omega
   · exact ho
  ·
   simp [bf.fp,Value.ownBlock] at hb; subst hb; have:=hc.LV _ hm; omega
 refine ⟨_,_,.pointer (some ⟨w.heap.size,0,none⟩),_,_,hR w.heap.size,?_,by simp [dK],hnew,kX hc _ _ fun b hb=>?_⟩
 · simp [execOp,ho,Instr.alloc,newVar,newRow,h1,go_sem]
 ·
  simp [lU,bf.fp,Value.ownBlock] at hb ⊢; rcases hb with hb | hb
  · exact .inr hb
  · exact .inl hb
theorem Conc.WK {w:World} {m:ko} {b:Nat} {v:Value} {ty e:TypeId} {bs:List UInt8} {τ:List bf} (hc:Conc w m (.K_ b v ty e bs :: τ)):
  ∃ p m',(p=Value.pointer none∨p=.pointer (some ⟨b,0,none⟩))∧roomy v=true∧Conc w m' (.kV b ty [.val p,.own v (bs.map jK)] :: .row v bs.length 1 e :: τ)∧
   Trans w m (.K_ b v ty e bs :: τ) w m' (.kV b ty [.val p,.own v (bs.map jK)] :: .row v bs.length 1 e :: τ):=by
 obtain ⟨⟨p,hp,hb⟩,hmb,hroom,hrow,Tg⟩:=hc.each _ List.mem_cons_self; have hap:=hc.apart; have aae:lU (.K_ b v ty e bs :: τ)=b :: (v.ownBlock.toList ++ lU τ):=by simp [lU,bf.fp]
 rw [aae,List.nodup_cons,List.nodup_append] at hap; have hbn:v.ownBlock≠some b:=fun h=>hap.1 (by simp [h]); have hle:Le w m w (fun c off=>m c off∨(v.ownBlock=some c∧off < bs.length * 1)):=fun c off h=>⟨.inl h,rfl⟩; have hc2:Conc w m τ:=Conc.sub hc (List.sublist_cons_self _ _)
 have hτ:Conc w (fun c off=>m c off∨(v.ownBlock=some c∧off < bs.length * 1)) τ:=by
  refine ⟨fun r hr=>bf.uf (hc2.each r hr) hle fun c hcf=>⟨rfl,fun off h=>?_⟩,hc2.apart,fun c off h=>?_,iJ.mono hle hc.uK⟩
  ·
   rcases h with h | ⟨h,_⟩
   · exact h
   · exact absurd rfl (hap.2.2.2 c (by simp [h]) c (by simp only [lU,List.mem_flatMap]; exact ⟨r,hr,hcf⟩))
  ·
   rcases h with h | ⟨h,_⟩
   · exact hc.wf c off h
   · exact hrow.block_lt h
 have hrep:dK w (fun c off=>m c off∨(v.ownBlock=some c∧off < bs.length * 1)) (.own v (bs.map jK)) v:=by
  simp only [dK]; refine ⟨trivial,?_⟩; rcases hrow.2 with ⟨rfl,hn⟩ | ⟨g,cap,cur,fz,rfl,hg,hfz,hnc,hcm,hcs,htake⟩
  · exact ⟨none,0,by simp [hn],by simp [hn],.inl (by simpa using List.eq_nil_of_length_eq_zero hn)⟩
  ·
   refine ⟨some ⟨g,0,none⟩,cap,by simp,by simp; omega,.inr ⟨g,0,1,rfl,ql.2 ⟨Ba bs,oJ.2 ⟨bs.map fun c=>.int .u8 (c.toNat:Int),?_,fun j u hj=>⟨.inr ⟨rfl,?_⟩,?_⟩⟩⟩⟩⟩
   · rw [Eh]; exact (Av bs _).2 rfl
   ·
    have:=(List.getElem?_eq_some_iff.1 hj).1; simp at this; omega
   ·
    have hlt:j < bs.length * 1:=by have:=(List.getElem?_eq_some_iff.1 hj).1; simp at this; omega
    rw [Nat.zero_add,hrow.cell (b:=g) rfl hlt]; exact hj
 have air:∀ c∈(bf.row v bs.length 1 e).fp,c∉lU τ:=fun c hcf=>hap.2.2.2 c hcf c |> fun h=>fun hm=>h hm rfl
 have ahj:Conc w (fun c off=>m c off∨(v.ownBlock=some c∧off < bs.length * 1)) (.row v bs.length 1 e :: τ):=by
  refine Kn ⟨_,hrow,fun c hcv off h=>?_⟩ (by cases h:v.ownBlock <;> simp [bf.fp,h]) air hτ; rcases h with h | h
  · exact Tg c hcv off h
  · exact h.2
 refine ⟨p,_,hp,hroom,Kn ⟨[p,v],hb,bD.cons (by simp [dK]) (bD.cons hrep bD.nil),fun off h=>?_⟩ (by simp [bf.fp]) (fun c hcf=>?_) ahj,⟨rfl,rfl,rfl,Nat.le_refl _,hle,fun c _ hn=>⟨rfl,fun off h=>?_⟩,fun c hcf=>.inl ?_,fun _=>Nat.le_refl _⟩⟩
 ·
  rcases h with h | ⟨h,_⟩
  · exact hmb off h
  · exact hbn h
 ·
  simp only [bf.fp,List.mem_singleton] at hcf; subst hcf; have:lU (.row v bs.length 1 e :: τ)=v.ownBlock.toList ++ lU τ:=by simp [lU,bf.fp]
  rw [this]; exact hap.1
 ·
  rcases h with h | ⟨h,_⟩
  · exact h
  · exact absurd (by rw [aae]; simp [h]) hn
 ·
  have:lU (.kV b ty [.val p,.own v (bs.map jK)] :: .row v bs.length 1 e :: τ)=b :: (v.ownBlock.toList ++ lU τ):=by simp [lU,bf.fp]
  rw [this] at hcf; rw [aae]; exact hcf
theorem QU {w:World} {m:ko} {v:Value} {n sz:Nat} {e:TypeId} {xs:List Value} {l:List (List PV)} (hrow:wM w e sz v n xs) (hn:l.length=n) (hsz:∀ x∈l,x.length=sz) (hl:dK w m (.own v l) v):bD w m l.flatten xs:=by
 simp only [dK] at hl; obtain ⟨_,a,cap,h1,h2,h3⟩:=hl; rcases h3 with h3 | ⟨b,off,sz',rfl,h4⟩
 ·
  subst h3; have:xs=[]:=List.eq_nil_of_length_eq_zero (by rw [hrow.1]; simp at hn; simp [←hn]); subst this; simpa using bD.nil
 ·
  obtain ⟨vs,k1,k2⟩:=oJ.1 (ql.1 h4).2
  have hvx:vs=xs:=by
   rcases hrow.2 with ⟨rfl,_⟩ | ⟨g,cap0,cur,fz,rfl,hg1,_,_,_,_,htake⟩
   · cases h1
   ·
    cases h1
    have hvl:vs.length=xs.length:=by
     rw [k1.length_eq,hrow.1]
     have:∀ (l:List (List PV)),(∀ x∈l,x.length=sz)→l.flatten.length=l.length * sz:=by
      intro l
      induction l with
      | nil=>simp
      | cons e es ih=>
       intro h; have h0:=h e (by simp); have:=ih fun x hx=>h x (by simp [hx]); simp only [List.flatten_cons,List.length_append,List.length_cons,this,h0,Nat.add_mul]; omega
     rw [this l hsz]
    apply List.ext_getElem hvl; intro j h1 h2; have h5:=(k2 j vs[j] (by simp [h1])).2; rw [Nat.zero_add,wM.cell hrow (b:=b) rfl (by rw [←hrow.1]; exact h2)] at h5; simpa [h2] using h5.symm
  subst hvx; exact k1
theorem Conc.aaj {w:World} {m:ko} {b:Nat} {v p:Value} {ty e:TypeId} {bs:List UInt8} {τ:List bf} (hp:p=Value.pointer none∨p=.pointer (some ⟨b,0,none⟩)) (hroom:roomy v=true)
  (hc:Conc w m (.kV b ty [.val p,.own v (bs.map jK)] :: .row v bs.length 1 e :: τ)):
  Conc w m (.K_ b v ty e bs :: τ)∧Trans w m (.kV b ty [.val p,.own v (bs.map jK)] :: .row v bs.length 1 e :: τ) w m (.K_ b v ty e bs :: τ):=by
 obtain ⟨vs,hb,hrep,hmb⟩:=hc.each _ List.mem_cons_self; obtain ⟨xs,hrow,Tg⟩:=hc.each (.row v bs.length 1 e) (by simp); have aae:lU (.kV b ty [.val p,.own v (bs.map jK)] :: .row v bs.length 1 e :: τ)=lU (.K_ b v ty e bs :: τ):=by simp [lU,bf.fp]
 simp only [bD] at hrep; obtain ⟨v1,vs1,rfl,h1,v2,vs2,rfl,h2,rfl⟩:=hrep; simp only [dK] at h1; subst h1; have h2':=h2; simp only [dK] at h2'; obtain ⟨rfl,_⟩:=h2'; have hx:=QU hrow (by simp) (Ba bs) h2; rw [Eh] at hx; have hx:=(Av bs xs).1 hx; subst hx; refine ⟨⟨fun r hr=>?_,by rw [←aae]; exact hc.apart,hc.wf,hc.uK⟩,⟨rfl,rfl,rfl,Nat.le_refl _,Le.refl _ _,fun _ _ _=>⟨rfl,fun _ h=>h⟩,fun c hcf=>.inl (by rw [aae]; exact hcf),fun _=>Nat.le_refl _⟩⟩; rcases List.mem_cons.1 hr with rfl | hr
 · exact ⟨⟨_,hp,hb⟩,hmb,hroom,hrow,Tg⟩
 · exact hc.each r (by simp [hr])
theorem AC.K_ {P:Program} {f:FuncId} {args:List PV} {b:Nat} {v:Value} {ty e:TypeId} {bs:List UInt8} {R:dx→List bf→Prop}
  (h:∀ p,(p=Value.pointer Option.none∨p=.pointer (some ⟨b,0,Option.none⟩))→roomy v=true→AC P f args [.kV b ty [.val p,.own v (bs.map jK)],.row v bs.length 1 e] fun out σ'=>
   ∃ p' v' bs',σ'=[.kV b ty [.val p',.own v' (bs'.map jK)],.row v' bs'.length 1 e]∧(p'=Value.pointer Option.none∨p'=.pointer (some ⟨b,0,Option.none⟩))∧roomy v'=true∧R out [.K_ b v' ty e bs']):
  AC P f args [.K_ b v ty e bs] R:=by
 intro w m vs hc hv; obtain ⟨p,m',hp,hroom,hc',ht⟩:=hc.WK; refine (h p hp hroom w m' vs hc' (bD.mono ht.le _ _ hv)).mono fun en w' ⟨out,σ',m'',⟨p',v',bs',hσ,hp',hroom',hR⟩,hout,hc'',ht'⟩=>?_; subst hσ; obtain ⟨k1,k2⟩:=hc''.aaj hp' hroom'; exact ⟨out,_,m'',hR,hout,k1,(ht.trans ht').trans k2⟩
end
end Go.Abs
namespace Go.Abs
variable [iJ]
open Go Go.Ft
section
variable {P : Program} {o : Oper} {ρ : Operand → PV} {σ : List bf} {R S : PV → List bf → Prop}
theorem AO.P8 {t u te:TypeId} {x y:Operand} {q:Option Addr} (ho:o.op=.binOp .eql t x y u) (hu:P.underlying t=some (.pointer te)) (hx:ρ x=.val (.pointer q)) (hy:ρ y=.val (.pointer none))
  (hR:R (.bool q.isNone) σ):AO P o ρ σ R S:=by
 refine AO.of_same hR fun w m ev hr _=>?_; have h1:=hr x (by simp [ho,Op.operands]); have h2:=hr y (by simp [ho,Op.operands]); rw [hx] at h1; rw [hy] at h2; simp only [dK] at h1 h2; refine ⟨.bool q.isNone,?_,by simp only [dK]⟩; have e1:binOp .eql t (.pointer q) (.pointer none)=(do pure (.bool (←Op.equal t (.pointer q) (.pointer none)))):=rfl
 have e2:(Op.equal t (.pointer q) (.pointer none)).run P w=.ok q.isNone w:=by
  show (Op.equalIn (9999 + 1) t (.pointer q) (.pointer none)).run P w=_; generalize 9999=d; unfold Op.equalIn; simp only [Sem.run_bind,run_underlying hu,Result.andThen_ok]; cases q <;> simp
 simp only [execOp,ho,h1,h2,e1,Sem.run_bind,Sem.run_pure]; simp [eqGuard,e2]
theorem AO.MO {t u te:TypeId} {x y:Operand} {a:Addr} {j:TypeInfo} (ho:o.op=.binOp .neq t x y u) (hu:P.underlying t=some (.pointer te)) (hte:P.info? te=some j) (hx:ρ x=.val (.pointer (some a))) (hy:ρ y=.val (.pointer (some a)))
  (hR:R (.bool false) σ):AO P o ρ σ R S:=by
 refine AO.of_same hR fun w m ev hr _=>?_; have h1:=hr x (by simp [ho,Op.operands]); have h2:=hr y (by simp [ho,Op.operands]); rw [hx] at h1; rw [hy] at h2; simp only [dK] at h1 h2; refine ⟨.bool false,?_,by simp only [dK]⟩; have e2:=Lib.run_neq_ptr_same w a hu hte; simp only [execOp,ho,h1,h2,Sem.run_bind]; simp [eqGuard,e2]
theorem sized {t n:Nat} (h:(P.info? t).map (·.size)=some n) (hn:(n != 0)=true):∃ j,P.info? t=some j∧(j.size != 0)=true:=by
 cases e:P.info? t with
 | none=>rw [e] at h; cases h
 | some j=>
  rw [e] at h; simp only [Option.map_some,Option.some.injEq] at h; exact ⟨j,rfl,by rw [h]; exact hn⟩
theorem AO.ZA {src dst t e:TypeId} {x:Operand} {b i n:Nat} {cs:List PV} {j:TypeInfo} (ho:o.op=.convert src dst x) (hs:P.underlying src=some (.pointer t)) (hd:P.underlying dst=some .unsafePointer) (ht:P.info? t=some j) (hj:(j.size != 0)=true)
  (hx:ρ x=.val (.pointer (some ⟨b,0,none⟩))) (hi:σ[i]?=some (bf.kV b e cs)) (hn:cs.length=n + 1) (hR:R (.val (.pointer (some ⟨b,0,none⟩))) σ):AO P o ρ σ R S:=by
 refine AO.of_same hR fun w m ev hr hc=>?_; have h1:=hr x (by simp [ho,Op.operands]); rw [hx] at h1; simp only [dK] at h1; obtain ⟨vs,g1,g2,_⟩:=hc.kV hi; have hsh:w.shape? b=some (e,vs.length):=by simp [World.shape?,g1]
 have hl:=g2.length_eq; refine ⟨.pointer (some ⟨b,0,none⟩),?_,by simp only [dK]⟩; have:=Lib.run_to_unsafe w ⟨b,0,none⟩ hs hd ht (by simpa using hj) hsh (by show 0 < vs.length; omega); simp [execOp,ho,h1,this]
theorem AO.Xd {src dst u e:TypeId} {x:Operand} {b i n:Nat} {cs:List PV} {j:TypeInfo} (ho:o.op=.convert src dst x) (hs:P.underlying src=some .unsafePointer) (hd:P.underlying dst=some (.pointer u)) (hu:P.info? u=some j)
  (hx:ρ x=.val (.pointer (some ⟨b,0,none⟩))) (hi:σ[i]?=some (bf.kV b e cs)) (hn:cs.length=n) (hlies:liesAt P P.depth e (n / P.cellsOf e) 0 u 1=true) (hR:R (.val (.pointer (some ⟨b,0,none⟩))) σ):AO P o ρ σ R S:=by
 refine AO.of_same hR fun w m ev hr hc=>?_; have h1:=hr x (by simp [ho,Op.operands]); rw [hx] at h1; simp only [dK] at h1; obtain ⟨vs,g1,g2,_⟩:=hc.kV hi; have hsh:w.shape? b=some (e,n):=by simp [World.shape?,g1,←hn,g2.length_eq]
 refine ⟨.pointer (some ⟨b,0,none⟩),?_,by simp only [dK]⟩; have:=Lib.run_from_unsafe w ⟨b,0,none⟩ hs hd hu hsh hlies; simp [execOp,ho,h1,this]
theorem AO.WL {c:Call} {x RS:Operand} {f:FuncId} {fn:Func} {p:PV} (ho:o.op=.call c) (kZ:c.callee=.value RS) (hf:ρ RS=.fn f []) (hargs:c.args=#[x])
  (h1:P.funcs[f]?=some fn) (h2:(fn.name == "runtime.NumGoroutine")=false) (h3:fn.body.isNone=true) (h4:Extern.findNext fn=none) (h5:Extern.find fn=some Extern.AbiNoEscape.same) (hx:ρ x=p)
  (hR:R p σ):AO P o ρ σ R S:=by
 refine AO.of_same hR fun w m ev hr _=>?_; have hv:=hr x (by simp [ho,Op.operands,Call.operands,kZ,hargs]); have hc:=hr RS (by simp [ho,Op.operands,Call.operands,kZ,hargs]); rw [hf] at hc; simp only [dK,bD] at hc; obtain ⟨cs,hc,rfl⟩:=hc; rw [hx] at hv; refine ⟨ev x,?_,hv⟩; have:=run_callFunc_extern (P:=P) h1 h2 h3 h4 h5 #[ev x] w; rw [Lib.run_noEscape] at this; simp only [Result.andThen] at this; unfold execOp; simp only [ho,resolve,kZ,hc,hargs,Deferred.ofValue,invoke,Sem.run_bind,Sem.run_pure,Result.andThen_ok]; simp [this]
def OU :Value→Option Addr
 | .slice a _ _=>a
 | _=>none
theorem AO.sliceData {c:Call} {x:Operand} {v:Value} {l:List (List PV)} (ho:o.op=.call c) (kZ:c.callee=.builtin .unsafeSliceData) (hargs:c.args=#[x]) (hx:ρ x=.own v l) (hroom:roomy v=true)
  (hR:R (.val (.pointer (OU v))) σ):AO P o ρ σ R S:=by
 refine AO.of_same hR fun w m ev hr _=>?_; have h1:=hr x (by simp [ho,Op.operands,Call.operands,kZ,hargs]); rw [hx] at h1; simp only [dK] at h1; obtain ⟨h1,a,cap,h2,_⟩:=h1; have h3:v=.slice a l.length cap:=h1 ▸ h2; subst h3; refine ⟨.pointer a,?_,by simp only [dK,OU]⟩; cases a with
 | none=>simp [execOp,ho,resolve,kZ,hargs,invoke,builtin,h1,Lib.run_unsafeSliceData_nil]
 | some a=>
  have hc:cap≠0:=by simpa [roomy] using hroom
  simp [execOp,ho,resolve,kZ,hargs,invoke,builtin,h1,Lib.run_unsafeSliceData_row _ _ _ _ _ _ hc]
theorem AO.unsafeString {c:Call} {x y:Operand} {pt it e eu:TypeId} {b:Nat} {v p:Value} {bs:List UInt8} (ho:o.op=.call c) (kZ:c.callee=.builtin .unsafeString) (hargs:c.args=#[x,y]) (hty:c.argTypes=#[pt,it])
  (hp:P.underlying pt=some (.pointer eu)) (hce:P.cellsOf eu=1) (hσ:σ=[.kV b e [.val p,.own v (bs.map jK)],.row v bs.length 1 eu]) (hx:ρ x=.val (.pointer (OU v))) (hy:ρ y=.int .i64 bs.length)
  (hR:R (.str bs) []):AO P o ρ σ R S:=by
 subst hσ; refine AO.of_run' fun w m ev hr hc=>?_; have h1:=hr x (by simp [ho,Op.operands,Call.operands,kZ,hargs]); have h2:=hr y (by simp [ho,Op.operands,Call.operands,kZ,hargs]); rw [hx] at h1; rw [hy] at h2; simp only [dK] at h1 h2; obtain ⟨vs,g1,g2,_⟩:=hc.each (.kV b e [.val p,.own v (bs.map jK)]) (by simp); obtain ⟨xs,hrow,Tg⟩:=hc.each (.row v bs.length 1 eu) (by simp); simp only [bD] at g2; obtain ⟨v1,vs1,rfl,g3,v2,vs2,rfl,g4,rfl⟩:=g2; have hvv:v2=v:=by simp only [dK] at g4; exact g4.1
 rw [hvv] at g4; have hxs:=QU hrow (by simp) (Ba bs) g4; rw [Eh] at hxs; have hxs:=(Av bs xs).1 hxs; subst hxs
 have ex:∀ r,(Builtin.unsafeString_ #[pt,it] o.type #[.pointer (OU v),.int .i64 bs.length]).run P w=r→(execOp ev o).run P w=r.andThen fun v w'=>.ok (.value v) w':=by
  intro r hr'; simp [execOp,ho,resolve,kZ,hargs,hty,invoke,builtin,h1,h2]; rw [←hr']
 have fin:∀ w',w'.os=w.os→w'.tape=w.tape→w'.output=w.output→w'.heap.size=w.heap.size→w'.drawn=w.drawn→(∀ k a,(w'.cell? ⟨k,a,none⟩)=w.cell? ⟨k,a,none⟩)→(∀ k,v.ownBlock≠some k→w'.heap[k]?=w.heap[k]?)→
   Conc w' m []∧Trans w m [.kV b e [.val p,.own v (bs.map jK)],.row v bs.length 1 eu] w' m []:=by
  intro w' e1 e2 e3 e4 ed e5 e6; refine ⟨⟨by simp,by simp [lU],fun c off h=>by rw [e4]; exact hc.wf c off h,iJ.mono (fun c off h=>⟨h,e5 c off⟩) hc.uK⟩,⟨e1,e2,e3,by omega,fun c off h=>⟨h,e5 c off⟩,fun c hcl hn=>⟨e6 c fun h=>hn ?_,fun _ h=>h⟩,by simp [lU],fun _=>Nat.le_of_eq ed.symm⟩⟩; simp [lU,bf.fp,h]
 by_cases h0:bs=[]
 ·
  subst h0; have hrun:=Lib.run_unsafeString_none (P:=P) w pt it o.type (OU v); obtain ⟨k1,k2⟩:=fin w rfl rfl rfl rfl rfl (fun _ _=>rfl) (fun _ _=>rfl); exact ⟨.str [],[],.string .empty,w,m,hR,by rw [ex _ (by simpa using hrun)]; rfl,by simp only [dK]; rfl,k1,k2⟩
 ·
  rcases hrow.2 with ⟨_,hn⟩ | ⟨g,cap,cur,fz,rfl,hg,hfz,hnc,hcm,hcs,htake⟩
  · exact absurd (List.eq_nil_of_length_eq_zero hn) h0
  ·
   have hsh:w.shape? g=some (eu,cur.size):=by simp [World.shape?,hg]
   have hrun:=Lib.run_unsafeString_row (P:=P) w pt it o.type eu hp hce g cur.size hsh bs h0 (by omega) (by unfold maxLen at hcm; omega) (fun j x hj=>by
    rw [Addr.add_lit,Nat.zero_add,hrow.cell (b:=g) rfl (by have:=(List.getElem?_eq_some_iff.1 hj).1; omega)]
    simp [hj])
   have hz:bs.length≠0:=by simpa using h0
   have hsame:∀ k,k≠g→(w.freeze ⟨g,0,none⟩ bs.length).heap[k]?=w.heap[k]?:=by
    intro k hk; simp [World.freeze,hz,Array.getElem?_modify,Ne.symm hk]
   have hcell:∀ k a,(w.freeze ⟨g,0,none⟩ bs.length).cell? ⟨k,a,none⟩=w.cell? ⟨k,a,none⟩:=by
    intro k a; by_cases hk:k=g
    ·
     subst hk; simp [World.cell?,World.freeze,hz,Array.getElem?_modify,hg]
    · simp only [World.cell?,hsame k hk]
   obtain ⟨k1,k2⟩:=fin (w.freeze ⟨g,0,none⟩ bs.length) (by simp [World.freeze,hz]) (by simp [World.freeze,hz]) (by simp [World.freeze,hz]) (by simp [World.freeze,hz]) (by simp [World.freeze,hz]) hcell (fun k hk=>hsame k fun e=>hk (by subst e; rfl)); refine ⟨.str bs,[],.string ⟨bs.toArray⟩,_,m,hR,?_,by simp only [dK],k1,k2⟩; rw [ex _ hrun]; rfl
theorem AC.adz {P:Program} {f:FuncId} {args:List PV} {b:Nat} {v:Value} {ty e:TypeId} {bs:List UInt8} {R:dx→List bf→Prop}
  (h:∀ p,roomy v=true→AC P f args [.kV b ty [.val p,.own v (bs.map jK)],.row v bs.length 1 e] R):AC P f args [.K_ b v ty e bs] R:=by
 intro w m vs hc hv; obtain ⟨p,m',_,hroom,hc',ht⟩:=hc.WK; refine (h p hroom w m' vs hc' (bD.mono ht.le _ _ hv)).mono fun en w' ⟨out,σ',m'',hR,hout,hc'',ht'⟩=>?_; exact ⟨out,_,m'',hR,hout,hc'',ht.trans ht'⟩
theorem AO.Oz {c:Call} {s x:Operand} {t tx e:TypeId} {v:Value} {i:Nat} {l m r:List UInt8} (hv:app l m=some r) (ho:o.op=.call c) (kZ:c.callee=.builtin .append) (hargs:c.args=#[s,x]) (hty:c.argTypes=#[t,tx])
  (hs:ρ s=.own v (l.map jK)) (hx:Lb P 1 tx (ρ x) (m.map jK)) (hi:σ[i]?=some (bf.row v l.length 1 e)) (hf:iL P t e 1 1)
  (hR:∀ v' σ',Ch σ i (.row v' r.length 1 e)=some σ'→(roomy v=true→roomy v'=true)→R (.own v' (r.map jK)) σ'):AO P o ρ σ R S:=by
 obtain ⟨h1,rfl⟩:=kF hv; have hlim:l.length + m.length≤4294967296:=h1; refine AO.Zo ho kZ hargs hty hs hx hi hf (by simp) (Ba l) (Ba m) (by simp only [List.length_map]; exact Nat.le_trans h1 acz) (by simp only [List.length_map]; omega) ?_; intro v' σ' h h'; rw [←List.map_append]; exact hR v' σ' (by simpa using h) h'
theorem AC.one {P:Program} {f:FuncId} {args:List PV} {σ:List bf} {R:dx→List bf→Prop} {r:bf} (i:Nat) (hi:σ[i]?=some r)
  (h:AC P f args [r] fun out σ'=>∃ r',σ'=[r']∧R out (σ.set i r')):AC P f args σ R:=by
 intro w m vs hc hv; have hc1:=hc.perm (xP hi r).1; refine (h w m vs hc1.left hv).mono fun en w' ⟨out,σ',m',⟨r',hσ,hR⟩,hout,hc',ht⟩=>?_; subst hσ; obtain ⟨f1,f2⟩:=Conc.frame hc1 hc' ht; obtain ⟨p1,p2⟩:=xP hi r'; exact ⟨out,_,m',hR,hout,f1.perm p2.symm,f2.perm p1.symm p2.symm⟩
theorem AC.Kc {P:Program} {f:FuncId} {args:List PV} {σ:List bf} {R:dx→List bf→Prop} {r:bf} (i:Nat) (hi:σ[i]?=some r)
  (h:AC P f args [r] fun out σ'=>R out (σ.eraseIdx i)):AC P f args σ R:=by
 intro w m vs hc hv; have hp:=(xP hi r).1; have hc1:=hc.perm hp; refine (h w m vs hc1.left hv).mono fun en w' ⟨out,σ',m',hR,hout,hc',ht⟩=>?_; obtain ⟨f1,f2⟩:=Conc.frame hc1 hc' ht; exact ⟨out,_,m',hR,hout,f1.sub (List.sublist_append_right _ _),(f2.perm hp.symm (List.Perm.refl _)).sub (List.sublist_append_right _ _)⟩
end
end Go.Abs
namespace Go.Abs
variable [iJ]
open Go Go.Ft
structure Facts where
 ti:List (Nat × Bool × Nat)
 fo:List (Nat × Nat × Nat)
 fd:List (Nat × Nat × Nat × Bool × Nat)
 str:List Nat
def LW :List (Nat × Bool × Nat)→Nat→Option (Bool × Nat)
 | [],_=>none
 | (t,x) :: r,u=>bif Nat.beq t u then some x else LW r u
def Vu :List (Nat × Nat × Nat)→Nat→Nat→Option Nat
 | [],_,_=>none
 | (t,f,x) :: r,u,g=>bif (Nat.beq t u && Nat.beq f g) then some x else Vu r u g
def Vv :List (Nat × Nat × Nat × Bool × Nat)→Nat→Nat→Option (Nat × Bool × Nat)
 | [],_,_=>none
 | (t,f,x) :: r,u,g=>bif (Nat.beq t u && Nat.beq f g) then some x else Vv r u g
def fdB (P:Program) (t f:Nat) (off:Nat) (ag:Bool) (k:Nat):Bool:=
 match P.underlying t with
 | some (.struct fs)=>match fs[f]? with
  | some fl=>Nat.beq fl.offset off && (match iD P fl.type with | some (a,n)=>(a == ag) && Nat.beq n k | none=>false)
  | none=>false
 | _=>false
def ah0 (P:Program) (t:Nat):Bool:=match P.underlying t with | some .string=>true | _=>false
def Facts.okB (F:Facts) (P:Program):Bool:=
 (F.ti.all fun x=>match iD P x.1 with | some (a,n)=>(a == x.2.1) && Nat.beq n x.2.2 | none=>false) &&
 (F.fo.all fun x=>match xW P x.1 x.2.1 with | some n=>Nat.beq n x.2.2 | none=>false) &&
 (F.fd.all fun x=>fdB P x.1 x.2.1 x.2.2.1 x.2.2.2.1 x.2.2.2.2) &&
 (F.str.all fun t=>ah0 P t)
section
variable {P : Program} {F : Facts}
theorem Facts.ac4 (h:F.okB P=true) {t:Nat} {x:Bool × Nat} (hf:LW F.ti t=some x):iD P t=some x:=by
 simp only [Facts.okB,Bool.and_eq_true] at h; have h:=h.1.1.1; revert hf h; generalize F.ti=l
 induction l with
 | nil=>intro hf _; cases hf
 | cons y l ih=>
  obtain ⟨u,a,n⟩:=y; intro hf h; simp only [List.all_cons,Bool.and_eq_true] at h; unfold LW at hf; cases e:Nat.beq u t with
  | true=>
   rw [e] at hf; simp only [cond_true,Option.some.injEq] at hf; subst hf; have:=Nat.eq_of_beq_eq_true e; subst this; have h1:=h.1; split at h1
   ·
    rename_i a' n' ht; simp only [Bool.and_eq_true,beq_iff_eq] at h1; rw [ht,h1.1,Nat.eq_of_beq_eq_true h1.2]
   · cases h1
  | false=>rw [e] at hf; exact ih hf h.2
theorem Facts.ahz (h:F.okB P=true) {t f x:Nat} (hf:Vu F.fo t f=some x):xW P t f=some x:=by
 simp only [Facts.okB,Bool.and_eq_true] at h; have h:=h.1.1.2; revert hf h; generalize F.fo=l
 induction l with
 | nil=>intro hf _; cases hf
 | cons y l ih=>
  obtain ⟨u,g,n⟩:=y; intro hf h; simp only [List.all_cons,Bool.and_eq_true] at h; unfold Vu at hf; cases e:(Nat.beq u t && Nat.beq g f) with
  | true=>
   rw [e] at hf; simp only [cond_true,Option.some.injEq] at hf; subst hf; simp only [Bool.and_eq_true] at e; have e1:=Nat.eq_of_beq_eq_true e.1; have e2:=Nat.eq_of_beq_eq_true e.2; subst e1 e2; have h1:=h.1; split at h1
   ·
    rename_i n' ht; rw [ht,Nat.eq_of_beq_eq_true h1]
   · cases h1
  | false=>rw [e] at hf; exact ih hf h.2
theorem Facts.aiC (h:F.okB P=true) {t f off k:Nat} {ag:Bool} (hf:Vv F.fd t f=some (off,ag,k)):fdB P t f off ag k=true:=by
 simp only [Facts.okB,Bool.and_eq_true] at h; have h:=h.1.2; revert hf h; generalize F.fd=l
 induction l with
 | nil=>intro hf _; cases hf
 | cons y l ih=>
  obtain ⟨u,g,n⟩:=y; intro hf h; simp only [List.all_cons,Bool.and_eq_true] at h; unfold Vv at hf; cases e:(Nat.beq u t && Nat.beq g f) with
  | true=>
   rw [e] at hf; simp only [cond_true,Option.some.injEq] at hf; subst hf; simp only [Bool.and_eq_true] at e; have e1:=Nat.eq_of_beq_eq_true e.1; have e2:=Nat.eq_of_beq_eq_true e.2; subst e1 e2; exact h.1
  | false=>rw [e] at hf; exact ih hf h.2
theorem ab6 {t f off k:Nat} {ag:Bool} (h:fdB P t f off ag k=true):∃ fs fl,P.underlying t=some (.struct fs)∧fs[f]?=some fl∧fl.offset=off∧iD P fl.type=some (ag,k):=by
 unfold fdB at h; split at h
 ·
  rename_i fs hu; split at h
  ·
   rename_i fl hfl; simp only [Bool.and_eq_true] at h; refine ⟨fs,fl,hu,hfl,Nat.eq_of_beq_eq_true h.1,?_⟩; have h2:=h.2; split at h2
   ·
    rename_i a n ht; simp only [Bool.and_eq_true,beq_iff_eq] at h2; rw [ht,h2.1,Nat.eq_of_beq_eq_true h2.2]
   · cases h2
  · cases h
 · cases h
end
def ZQ (F:Facts) (ρ:Operand→PV):Op→Option PV
 | .nilCheck x=>bif (ρ x).notNil then (ρ x).force else none
 | .fieldAddr s x f=>match Vu F.fo s f with
  | some off=>match ρ x with
   | .ref cs=>match D7 off cs with
    | some r=>some (.ref r)
    | none=>none
   | .val (.pointer (some ⟨b,k,none⟩))=>some (.val (.pointer (some ⟨b,k + off,none⟩)))
   | _=>none
  | none=>none
 | .load t x=>match LW F.ti t with
  | some (ag,k)=>match ρ x with
   | .ref cs=>zO ag k cs
   | _=>none
  | none=>none
 | .field t x f=>match Vv F.fd t f with
  | some (off,ag,k)=>match ρ x with
   | .agg cs=>match D7 off cs with
    | some r=>zO ag k r
    | none=>none
   | _=>none
  | none=>none
 | op=>pev ρ op
theorem DL {P:Program} {F:Facts} (hF:F.okB P=true) {o:Oper} {ρ:Operand→PV} {σ:List bf} {R S:PV→List bf→Prop} {p:PV} (h:ZQ F ρ o.op=some p) (hR:R p σ):AO P o ρ σ R S:=by
 unfold ZQ at h; split at h
 ·
  rename_i x ho; cases e:(ρ x).notNil with
  | false=>rw [e] at h; cases h
  | true=>
   rw [e] at h; simp only [cond_true] at h; rw [←PV.force_eq h] at hR; exact AO.nilCheck ho e hR
 ·
  rename_i s x f ho; split at h
  ·
   rename_i off hoff; split at h
   ·
    rename_i cs hx; split at h
    ·
     rename_i r hr; simp only [Option.some.injEq] at h; subst h; exact AO.Tk ho hx (Facts.ahz hF hoff) hr hR
    · cases h
   ·
    rename_i b k hx; simp only [Option.some.injEq] at h; subst h; exact AO.dB ho hx (Facts.ahz hF hoff) hR
   · cases h
  · cases h
 ·
  rename_i t x ho; split at h
  ·
   rename_i ag k hti; split at h
   ·
    rename_i cs hx; exact AO.Rh ho hx (Facts.ac4 hF hti) h hR
   · cases h
  · cases h
 ·
  rename_i t x f ho; split at h
  ·
   rename_i off ag k hfd; obtain ⟨fs,fl,h1,h2,h3,h4⟩:=ab6 (Facts.aiC hF hfd); split at h
   ·
    rename_i cs hx; split at h
    ·
     rename_i r hr; exact AO.field ho h1 h2 h3 h4 hx hr h hR
    · cases h
   · cases h
  · cases h
 · exact AO.calc' h hR
def EH (all:Array Oper) (env:Env):Option (Nat × Bool)→Option Bool
 | none=>some true
 | some (j,want)=>match all[j]? with
  | some oj=>match oj.dst with
   | some u=>match env.get u with
    | .bool true=>some want
    | .bool false=>some (!want)
    | .val (.tuple ⟨[]⟩)=>some false
    | _=>none
   | none=>none
  | none=>none
theorem ug {all:Array Oper} {env:Env} {j:Nat} {want r:Bool} (h:EH all env (some (j,want))=some r):
  ∃ oj u,all[j]?=some oj∧oj.dst=some u∧((r=true∧env.get u=.bool want)∨(r=false∧(env.get u=.bool (!want)∨env.get u=.val Go.undef))):=by
 unfold EH at h; simp only at h; cases h1:all[j]? with
 | none=>rw [h1] at h; cases h
 | some oj=>
  rw [h1] at h; simp only at h; cases h2:oj.dst with
  | none=>rw [h2] at h; cases h
  | some u=>
   rw [h2] at h; simp only at h; refine ⟨oj,u,rfl,h2,?_⟩; split at h
   ·
    rename_i he; simp only [Option.some.injEq] at h; subst h; cases want with
    | true=>exact .inl ⟨rfl,he⟩
    | false=>exact .inr ⟨rfl,.inl he⟩
   ·
    rename_i he; simp only [Option.some.injEq] at h; subst h; cases want with
    | true=>exact .inr ⟨rfl,.inl he⟩
    | false=>exact .inl ⟨rfl,he⟩
   ·
    rename_i he; simp only [Option.some.injEq] at h; subst h; exact .inr ⟨rfl,.inr he⟩
   · cases h
def Pp (F:Facts) (all:Array Oper) (n:Nat):Nat→List Oper→Env→Option (Env × List Oper)
 | 0,l,env=>some (env,l)
 | _ + 1,[],_=>none
 | k + 1,o :: rest,env=>match o.dst with
  | some t=>bif Nat.blt t n then (match EH all env o.guard with
   | some true=>match ZQ F env.ev o.op with
    | some p=>Pp F all n k rest ((t,p) :: env)
    | none=>none
   | some false=>Pp F all n k rest ((t,.val Go.undef) :: env)
   | none=>none) else none
  | none=>none
section
variable {P : Program} {n : Nat} {σ : List bf} {ds : List Deferred} {Q : Post} {all : Array Oper} {F : Facts}
theorem AR.cs (hF:F.okB P=true):∀ (k:Nat) {l l':List Oper} {env env':Env},Pp F all n k l env=some (env',l')→AR P n all l' env' σ ds Q→AR P n all l env σ ds Q
 | 0,l,l',env,env',h,hr=>by simp only [Pp,Option.some.injEq,Prod.mk.injEq] at h; obtain ⟨rfl,rfl⟩:=h; exact hr
 | k + 1,[],l',env,env',h,hr=>by simp [Pp] at h
 | k + 1,o :: rest,l',env,env',h,hr=>by
  unfold Pp at h; cases hd:o.dst with
  | none=>rw [hd] at h; cases h
  | some t=>
   rw [hd] at h; simp only at h; cases ht:Nat.blt t n with
   | false=>rw [ht] at h; cases h
   | true=>
    rw [ht] at h; simp only [cond_true] at h; cases hg:EH all env o.guard with
    | none=>rw [hg] at h; cases h
    | some r=>
     rw [hg] at h; cases r with
     | true=>
      simp only at h; cases hp:ZQ F env.ev o.op with
      | none=>rw [hp] at h; cases h
      | some p=>
       rw [hp] at h; have ih:=AR.cs hF k h hr; cases hgo:o.guard with
       | none=>exact AR.step hgo hd ht (DL hF hp ih)
       | some jw=>
        obtain ⟨j,want⟩:=jw; rw [hgo] at hg; obtain ⟨oj,u,h1,h2,h3⟩:=ug hg; rcases h3 with ⟨_,h3⟩ | ⟨h3,_⟩
        ·
         refine AR.run (b:=want) hgo h1 h2 h3 hd ht rfl ?_; exact AR.step rfl hd ht (DL hF hp ih)
        · cases h3
     | false=>
      simp only at h; have ih:=AR.cs hF k h hr; cases hgo:o.guard with
      | none=>rw [hgo] at hg; cases hg
      | some jw=>
       obtain ⟨j,want⟩:=jw; rw [hgo] at hg; obtain ⟨oj,u,h1,h2,h3⟩:=ug hg; rcases h3 with ⟨h3,_⟩ | ⟨_,h3 | h3⟩
       · cases h3
       · exact AR.skip hgo h1 h2 h3 hd ht rfl ih
       · exact AR.YV hgo h1 h2 h3 hd ht ih
theorem Ev.cs {K:Env→Prop} (hF:F.okB P=true):∀ (k:Nat) {l l':List Oper} {env env':Env},Pp F all n k l env=some (env',l')→Ev P n all σ env' l' K→Ev P n all σ env l K
 | 0,l,l',env,env',h,hr=>by simp only [Pp,Option.some.injEq,Prod.mk.injEq] at h; obtain ⟨rfl,rfl⟩:=h; exact hr
 | k + 1,[],l',env,env',h,hr=>by simp [Pp] at h
 | k + 1,o :: rest,l',env,env',h,hr=>by
  unfold Pp at h; cases hd:o.dst with
  | none=>rw [hd] at h; cases h
  | some t=>
   rw [hd] at h; simp only at h; cases ht:Nat.blt t n with
   | false=>rw [ht] at h; cases h
   | true=>
    rw [ht] at h; simp only [cond_true] at h; cases hg:EH all env o.guard with
    | none=>rw [hg] at h; cases h
    | some r=>
     rw [hg] at h; cases r with
     | true=>
      simp only at h; cases hp:ZQ F env.ev o.op with
      | none=>rw [hp] at h; cases h
      | some p=>
       rw [hp] at h; have ih:=Ev.cs hF k h hr; cases hgo:o.guard with
       | none=>exact Ev.cons hgo hd ht (DL hF hp ⟨rfl,rfl⟩) ih
       | some jw=>
        obtain ⟨j,want⟩:=jw; rw [hgo] at hg; obtain ⟨oj,u,h1,h2,h3⟩:=ug hg; rcases h3 with ⟨_,h3⟩ | ⟨h3,_⟩
        · exact Ev.run (b:=want) hgo h1 h2 h3 hd ht rfl (DL hF hp ⟨rfl,rfl⟩) ih
        · cases h3
     | false=>
      simp only at h; have ih:=Ev.cs hF k h hr; cases hgo:o.guard with
      | none=>rw [hgo] at hg; cases hg
      | some jw=>
       obtain ⟨j,want⟩:=jw; rw [hgo] at hg; obtain ⟨oj,u,h1,h2,h3⟩:=ug hg; rcases h3 with ⟨h3,_⟩ | ⟨_,h3 | h3⟩
       · cases h3
       · exact Ev.skip hgo h1 h2 h3 hd ht rfl ih
       · exact Ev.YV hgo h1 h2 h3 hd ht ih
theorem AR.is {l:List Oper} {env:Env} {b want:Bool} (u:Nat) (h:b=want) (hu:env.get u=.bool b) (hr:AR P n all l ((u,.bool want) :: env) σ ds Q):AR P n all l env σ ds Q:=by
 subst h; refine AR.less ?_ hr; intro t; simp only [Env.get]; cases e:Nat.beq u t with
 | false=>exact .inr rfl
 | true=>rw [←Nat.eq_of_beq_eq_true e]; exact .inr hu.symm
theorem Ev.is {K:Env→Prop} (hK:∀ e e',Less e' e→K e'→K e) {l:List Oper} {env:Env} {b want:Bool} (u:Nat) (h:b=want) (hu:env.get u=.bool b) (hr:Ev P n all σ ((u,.bool want) :: env) l K):Ev P n all σ env l K:=by
 subst h; refine Ev.less hK ?_ hr; intro t; simp only [Env.get]; cases e:Nat.beq u t with
 | false=>exact .inr rfl
 | true=>rw [←Nat.eq_of_beq_eq_true e]; exact .inr hu.symm
theorem AR.go {t j u:Nat} {want:Bool} {oj o:Oper} {rest:List Oper} {env:Env} (hg:o.guard=some (j,want)) (hj:all[j]?=some oj) (hu:oj.dst=some u) (hb:env.get u=.bool want) (hd:o.dst=some t) (ht:Nat.blt t n=true)
  (h:AO P {o with guard:=none} env.ev σ (fun p σ'=>AR P n all rest ((t,p) :: env) σ' ds Q) (fun p σ'=>Q (.panic p) env σ' ds)):AR P n all (o :: rest) env σ ds Q:=
 AR.run hg hj hu hb hd ht rfl (AR.step rfl hd ht h)
end
end Go.Abs
namespace Go.Abs
variable [iJ]
open Go Go.Ft
inductive Fr where
 | sq (c:Code)
 | bl (id:Nat)
 | lp (R:Env→List bf→List Deferred→Prop)
def den (P:Program) (n:Nat):List Fr→Post→Post
 | [],Q=>Q
 | .sq c :: k,Q=>AX.then (fun e s d=>AW P n c e s d (den P n k Q)) (den P n k Q)
 | .bl id :: k,Q=>AX.inBlock id (den P n k Q)
 | .lp R :: k,Q=>AX.then R (den P n k Q)
inductive St where
 | w (c:Code) (k:List Fr) (e:Env) (s:List bf)
 | r (all:Array Oper) (l:List Oper) (k:List Fr) (e:Env) (s:List bf)
 | x (ax:AX) (k:List Fr) (e:Env) (s:List bf)
def St.ok (P:Program) (n:Nat) (ds:List Deferred) (Q:Post):St→Prop
 | .w c k e s=>AW P n c e s ds (den P n k Q)
 | .r all l k e s=>AR P n all l e s ds (den P n k Q)
 | .x ax k e s=>den P n k Q ax e s ds
structure FB where
 f:Facts
 zp:List (Nat × List PV)
 pl:List (Nat × List (Nat × Nat))
def Xf {α:Type}:List (Nat × α)→Nat→Option α
 | [],_=>none
 | (t,x) :: r,u=>bif Nat.beq t u then some x else Xf r u
theorem Rt {α:Type} {g:Nat→Option α}:∀ {l:List (Nat × α)} {t:Nat} {x:α},l.map (fun y=>g y.1)=l.map (fun y=>some y.2)→Xf l t=some x→g t=some x
 | [],t,x,_,h=>by cases h
 | (u,y) :: l,t,x,h0,h=>by
  simp only [List.map_cons,List.cons.injEq] at h0; unfold Xf at h; cases e:Nat.beq u t with
  | true=>
   rw [e] at h; simp only [cond_true,Option.some.injEq] at h; rw [←Nat.eq_of_beq_eq_true e,←h]; exact h0.1
  | false=>rw [e] at h; exact Rt h0.2 h
structure FB.Ok (F:FB) (P:Program):Prop where
 f:F.f.okB P=true
 zp:F.zp.map (fun x=>lW P x.1)=F.zp.map (fun x=>some x.2)
 pl:F.pl.map (fun x=>xL P x.1)=F.pl.map (fun x=>some x.2)
def opX (F:FB) (s:List bf) (ρ:Operand→PV) (ix A B:List Nat):Op→Option (PV × List Nat × List Nat × List Nat)
 | .load t x=>match LW F.f.ti t with
  | some (ag,k)=>match ρ x with
   | .ref cs=>match zO ag k cs with
    | some p=>some (p,ix,A,B)
    | none=>none
   | .val (.pointer (some ⟨b,off,none⟩))=>match ix with
    | i :: ix'=>match s[i]? with
     | some (.box b' cs)=>match D7 off cs with
      | some cs'=>match zO ag k cs' with
       | some p=>some (p,ix',b :: A,b' :: B)
       | none=>none
      | none=>none
     | _=>none
    | []=>none
   | _=>none
  | none=>none
 | .box _ x=>match (ρ x).Ad with
  | some cs=>match Iq cs with
   | some cs'=>some (.ref cs',ix,A,B)
   | none=>none
  | none=>none
 | .build t parts=>match Xf F.zp t with
  | some zc=>match Xf F.pl t with
   | some pl=>match DX (fun i=>pl[i]?) zc (parts.toList.map fun x=>(x.1,ρ x.2)) with
    | some cs=>some (.agg cs,ix,A,B)
    | none=>none
   | none=>none
  | none=>none
 | op=>match ZQ F.f ρ op with
  | some p=>some (p,ix,A,B)
  | none=>none
def stX (F:FB) (s:List bf) (ρ:Operand→PV) (ix A B:List Nat):Op→Option (List bf × List Nat × List Nat × List Nat)
 | .store t x y=>match LW F.f.ti t with
  | some (_,k)=>match ρ x with
   | .val (.pointer (some ⟨b,off,none⟩))=>match ix with
    | i :: ix'=>match s[i]? with
     | some (.box b' cs)=>match (ρ y).Ad with
      | some new=>bif (new.all PV.one && Nat.beq new.length k) then (match Ve cs off new with
       | some cs'=>match Ch s i (.box b cs') with
        | some s'=>some (s',ix',b :: A,b' :: B)
        | none=>none
       | none=>none) else none
      | none=>none
     | _=>none
    | []=>none
   | _=>none
  | none=>none
 | _=>none
def run (F:FB) (n:Nat) (fl:Nat):Nat→Nat→List Nat→List Nat→List Nat→St→Option (List Nat × List Nat × St)
 | 0,_,_,_,_,_=>none
 | f + 1,b,ix,A,B,.w c k e s=>match c with
  | .seq c d=>run F n fl f b ix A B (.w c (.sq d :: k) e s)
  | .block id c=>bif Nat.beq fl 2 && Nat.beq b 0 then some (A,B,.w (.block id c) k e s) else run F n fl f b ix A B (.w c (.bl id :: k) e s)
  | .region _ all false=>run F n fl f b ix A B (.r all all.toList k e s)
  | .skip=>bif Nat.beq fl 2 && Nat.beq b 0 then some (A,B,.w .skip k e s) else run F n fl f b ix A B (.x .normal k e s)
  | .label _=>run F n fl f b ix A B (.x .normal k e s)
  | .exit id=>bif Nat.beq fl 2 && Nat.beq b 0 then some (A,B,.w (.exit id) k e s) else run F n fl f b ix A B (.x (.exit id) k e s)
  | .ret=>bif Nat.beq fl 2 && Nat.beq b 0 then some (A,B,.w .ret k e s) else run F n fl f b ix A B (.x .ret k e s)
  | c=>bif Nat.beq b 0 then some (A,B,.w c k e s) else none
 | f + 1,b,ix,A,B,.r all l k e s=>match l with
  | []=>bif Nat.beq fl 1 && Nat.beq b 0 then some (A,B,.r all [] k e s) else run F n fl f b ix A B (.x .normal k e s)
  | o :: rest=>match b with
   | 0=>some (A,B,.r all (o :: rest) k e s)
   | b + 1=>match o.dst with
    | some t=>bif Nat.blt t n then (match EH all e o.guard with
     | some true=>match opX F s e.ev ix A B o.op with
      | some (p,ix',A',B')=>run F n fl f b ix' A' B' (.r all rest k ((t,p) :: e) s)
      | none=>none
     | some false=>run F n fl f b ix A B (.r all rest k ((t,.val Go.undef) :: e) s)
     | none=>none) else none
    | none=>match o.guard with
     | none=>match stX F s e.ev ix A B o.op with
      | some (s',ix',A',B')=>run F n fl f b ix' A' B' (.r all rest k e s')
      | none=>none
     | some _=>none
 | f + 1,b,ix,A,B,.x ax k e s=>match k with
  | []=>bif Nat.beq b 0 then some (A,B,.x ax [] e s) else none
  | .sq d :: k=>match ax with
   | .normal=>run F n fl f b ix A B (.w d k e s)
   | ax=>run F n fl f b ix A B (.x ax k e s)
  | .bl id :: k=>match ax with
   | .exit i=>bif Nat.beq i id then run F n fl f b ix A B (.x .normal k e s) else run F n fl f b ix A B (.x (.exit i) k e s)
   | ax=>run F n fl f b ix A B (.x ax k e s)
  | .lp R :: k=>match ax with
   | .normal=>bif Nat.beq b 0 then some (A,B,.x .normal (.lp R :: k) e s) else none
   | ax=>run F n fl f b ix A B (.x ax k e s)
section
variable {P : Program} {F : FB} {n : Nat} {ds : List Deferred} {Q : Post}
theorem Un (hF:F.Ok P) {o:Oper} {ρ:Operand→PV} {s:List bf} {ix A B ix' A' B':List Nat} {p:PV} (h:opX F s ρ ix A B o.op=some (p,ix',A',B')):
  (A'=B'→A=B)∧(A'=B'→∀ {R S:PV→List bf→Prop},R p s→AO P o ρ s R S):=by
 unfold opX at h; split at h
 ·
  rename_i t x ho; split at h
  ·
   rename_i ag k hti; have hti:=Facts.ac4 hF.f hti; split at h
   ·
    rename_i cs hx; split at h
    ·
     rename_i q hq; simp only [Option.some.injEq,Prod.mk.injEq] at h; obtain ⟨rfl,rfl,rfl,rfl⟩:=h; exact ⟨id,fun _ {_ _} hR=>AO.Rh ho hx hti hq hR⟩
    · cases h
   ·
    rename_i b off hx; split at h
    ·
     rename_i i ix1; split at h
     ·
      rename_i b' cs hi; split at h
      ·
       rename_i cs' hd; split at h
       ·
        rename_i q hq; simp only [Option.some.injEq,Prod.mk.injEq] at h; obtain ⟨rfl,rfl,rfl,rfl⟩:=h; refine ⟨fun h=>(List.cons.inj h).2,fun hab {_ _} hR=>?_⟩; obtain ⟨rfl,_⟩:=List.cons.inj hab; exact AO.aR ho hx hi hti hd hq hR
       · cases h
      · cases h
     · cases h
    · cases h
   · cases h
  · cases h
 ·
  rename_i t x ho; split at h
  ·
   rename_i cs hcs; split at h
   ·
    rename_i cs' hwk; simp only [Option.some.injEq,Prod.mk.injEq] at h; obtain ⟨rfl,rfl,rfl,rfl⟩:=h; exact ⟨id,fun _ {_ _} hR=>AO.Dc ho hcs hwk hR⟩
   · cases h
  · cases h
 ·
  rename_i t parts ho; split at h
  ·
   rename_i zc hz; split at h
   ·
    rename_i pl hpl; split at h
    ·
     rename_i cs hf; simp only [Option.some.injEq,Prod.mk.injEq] at h; obtain ⟨rfl,rfl,rfl,rfl⟩:=h; exact ⟨id,fun _ {_ _} hR=>AO.build ho (Rt hF.zp hz) (Rt hF.pl hpl) hf hR⟩
    · cases h
   · cases h
  · cases h
 ·
  split at h
  ·
   rename_i q hq; simp only [Option.some.injEq,Prod.mk.injEq] at h; obtain ⟨rfl,rfl,rfl,rfl⟩:=h; exact ⟨id,fun _ {_ _} hR=>DL hF.f hq hR⟩
  · cases h
theorem ZG (hF:F.Ok P) {o:Oper} {ρ:Operand→PV} {s s':List bf} {ix A B ix' A' B':List Nat} (h:stX F s ρ ix A B o.op=some (s',ix',A',B')):
  (A'=B'→A=B)∧(A'=B'→∀ {R S:PV→List bf→Prop},R .undef s'→AO P o ρ s R S):=by
 unfold stX at h; split at h
 ·
  rename_i t x y ho; split at h
  ·
   rename_i ag k hti; have hti:=Facts.ac4 hF.f hti; split at h
   ·
    rename_i b off hx; split at h
    ·
     rename_i i ix1; split at h
     ·
      rename_i b' cs hi; split at h
      ·
       rename_i new hnew; cases hb:(new.all PV.one && Nat.beq new.length k) with
       | false=>rw [hb] at h; cases h
       | true=>
        rw [hb] at h; simp only [cond_true] at h; simp only [Bool.and_eq_true] at hb; split at h
        ·
         rename_i cs' hput; split at h
         ·
          rename_i s1 hset; simp only [Option.some.injEq,Prod.mk.injEq] at h; obtain ⟨rfl,rfl,rfl,rfl⟩:=h; refine ⟨fun h=>(List.cons.inj h).2,fun hab {_ _} hR=>?_⟩; obtain ⟨rfl,_⟩:=List.cons.inj hab; exact AO.bR ho hx hi hti hnew hb.1 hb.2 hput hset hR
         · cases h
        · cases h
      · cases h
     · cases h
    · cases h
   · cases h
  · cases h
 · cases h
theorem AR.nil' {all:Array Oper} {env:Env} {σ:List bf} (h:Q .normal env σ ds):AR P n all [] env σ ds Q:=
 fun w m a _ uI ha=>ha .normal .normal _ _ _ a w m h rfl uI (Trans.refl ..)
theorem iW (hF:F.Ok P) {fl:Nat} {A' B':List Nat} {st':St} (hr:st'.ok P n ds Q) (hab:A'=B'):∀ (f b:Nat) (ix A B:List Nat) (st:St),run F n fl f b ix A B st=some (A',B',st')→A=B∧st.ok P n ds Q
 | 0,b,ix,A,B,st,h=>by cases h
 | f + 1,b,ix,A,B,.w c k e s,h=>by
  have fin:∀ c,(bif Nat.beq b 0 then some (A,B,St.w c k e s) else none)=some (A',B',st')→A=B∧(St.w c k e s).ok P n ds Q:=by
   intro c h; cases eb:Nat.beq b 0 with
   | false=>rw [eb] at h; cases h
   | true=>
    rw [eb] at h; simp only [cond_true,Option.some.injEq,Prod.mk.injEq] at h; obtain ⟨rfl,rfl,rfl⟩:=h; exact ⟨hab,hr⟩
  cases c with
  | seq c d=>have ih:=iW hF hr hab f _ _ _ _ _ h; exact ⟨ih.1,AW.seq ih.2⟩
  | block id c=>
   have h:(bif Nat.beq fl 2 && Nat.beq b 0 then some (A,B,St.w (.block id c) k e s) else run F n fl f b ix A B (.w c (.bl id :: k) e s))=some (A',B',st'):=h; cases hfl:Nat.beq fl 2 && Nat.beq b 0 with
   | true=>
    rw [hfl] at h; simp only [cond_true,Option.some.injEq,Prod.mk.injEq] at h; obtain ⟨rfl,rfl,rfl⟩:=h; exact ⟨hab,hr⟩
   | false=>rw [hfl] at h; have ih:=iW hF hr hab f _ _ _ _ _ h; exact ⟨ih.1,AW.block ih.2⟩
  | region id all g=>
   cases g with
   | false=>
    have ih:=iW hF hr hab f _ _ _ _ _ h; have:AW P n (.region id all.toList.toArray false) e s ds (den P n k Q):=AW.region (by simpa only [St.ok,Array.toArray_toList] using ih.2); exact ⟨ih.1,by simpa only [St.ok,Array.toArray_toList] using this⟩
   | true=>exact fin _ h
  | skip=>
   have h:(bif Nat.beq fl 2 && Nat.beq b 0 then some (A,B,St.w (.skip) k e s) else run F n fl f b ix A B (.x .normal k e s))=some (A',B',st'):=h; cases hfl:Nat.beq fl 2 && Nat.beq b 0 with
   | true=>
    rw [hfl] at h; simp only [cond_true,Option.some.injEq,Prod.mk.injEq] at h; obtain ⟨rfl,rfl,rfl⟩:=h; exact ⟨hab,hr⟩
   | false=>rw [hfl] at h; have ih:=iW hF hr hab f _ _ _ _ _ h; exact ⟨ih.1,AW.skip ih.2⟩
  | label l=>have ih:=iW hF hr hab f _ _ _ _ _ h; exact ⟨ih.1,AW.label ih.2⟩
  | exit id=>
   have h:(bif Nat.beq fl 2 && Nat.beq b 0 then some (A,B,St.w (.exit id) k e s) else run F n fl f b ix A B (.x (.exit id) k e s))=some (A',B',st'):=h; cases hfl:Nat.beq fl 2 && Nat.beq b 0 with
   | true=>
    rw [hfl] at h; simp only [cond_true,Option.some.injEq,Prod.mk.injEq] at h; obtain ⟨rfl,rfl,rfl⟩:=h; exact ⟨hab,hr⟩
   | false=>rw [hfl] at h; have ih:=iW hF hr hab f _ _ _ _ _ h; exact ⟨ih.1,AW.exit ih.2⟩
  | ret=>
   have h:(bif Nat.beq fl 2 && Nat.beq b 0 then some (A,B,St.w (.ret) k e s) else run F n fl f b ix A B (.x .ret k e s))=some (A',B',st'):=h; cases hfl:Nat.beq fl 2 && Nat.beq b 0 with
   | true=>
    rw [hfl] at h; simp only [cond_true,Option.some.injEq,Prod.mk.injEq] at h; obtain ⟨rfl,rfl,rfl⟩:=h; exact ⟨hab,hr⟩
   | false=>rw [hfl] at h; have ih:=iW hF hr hab f _ _ _ _ _ h; exact ⟨ih.1,AW.ret ih.2⟩
  | _=>exact fin _ h
 | f + 1,b,ix,A,B,.r all l k e s,h=>by
  cases l with
  | nil=>
   have h:(bif Nat.beq fl 1 && Nat.beq b 0 then some (A,B,St.r all [] k e s) else run F n fl f b ix A B (.x .normal k e s))=some (A',B',st'):=h; cases hfl:Nat.beq fl 1 && Nat.beq b 0 with
   | true=>
    rw [hfl] at h; simp only [cond_true,Option.some.injEq,Prod.mk.injEq] at h; obtain ⟨rfl,rfl,rfl⟩:=h; exact ⟨hab,hr⟩
   | false=>
    rw [hfl] at h; have ih:=iW hF hr hab f _ _ _ _ _ h; exact ⟨ih.1,AR.nil' ih.2⟩
  | cons o rest=>
   cases b with
   | zero=>
    simp only [run,Option.some.injEq,Prod.mk.injEq] at h; obtain ⟨rfl,rfl,rfl⟩:=h; exact ⟨hab,hr⟩
   | succ b=>
    simp only [run] at h; cases hd:o.dst with
    | some t=>
     rw [hd] at h; simp only at h; cases ht:Nat.blt t n with
     | false=>rw [ht] at h; cases h
     | true=>
      rw [ht] at h; simp only [cond_true] at h; cases hg:EH all e o.guard with
      | none=>rw [hg] at h; cases h
      | some r=>
       rw [hg] at h; cases r with
       | true=>
        simp only at h; split at h
        ·
         rename_i p ix1 A1 B1 hp; have ih:=iW hF hr hab f _ _ _ _ _ h; have hs:=Un hF hp; refine ⟨hs.1 ih.1,?_⟩; have h2:=ih.2; simp only [St.ok] at h2 ⊢; cases hgo:o.guard with
         | none=>exact AR.step hgo hd ht (hs.2 ih.1 h2)
         | some jw=>
          obtain ⟨j,want⟩:=jw; rw [hgo] at hg; obtain ⟨oj,u,h1,h2',h3⟩:=ug hg; rcases h3 with ⟨_,h3⟩ | ⟨h3,_⟩
          ·
           refine AR.run (b:=want) hgo h1 h2' h3 hd ht rfl ?_; exact AR.step rfl hd ht ((Un (o:={o with guard:=none}) hF hp).2 ih.1 h2)
          · cases h3
        · cases h
       | false=>
        simp only at h; have ih:=iW hF hr hab f _ _ _ _ _ h; refine ⟨ih.1,?_⟩; cases hgo:o.guard with
        | none=>rw [hgo] at hg; cases hg
        | some jw=>
         obtain ⟨j,want⟩:=jw; rw [hgo] at hg; obtain ⟨oj,u,h1,h2,h3⟩:=ug hg; rcases h3 with ⟨h3,_⟩ | ⟨_,h3 | h3⟩
         · cases h3
         · exact AR.skip hgo h1 h2 h3 hd ht rfl ih.2
         · exact AR.YV hgo h1 h2 h3 hd ht ih.2
    | none=>
     rw [hd] at h; simp only at h; cases hg:o.guard with
     | some x=>rw [hg] at h; cases h
     | none=>
      rw [hg] at h; simp only at h; split at h
      ·
       rename_i s1 ix1 A1 B1 hp; have ih:=iW hF hr hab f _ _ _ _ _ h; have hs:=ZG hF hp; exact ⟨hs.1 ih.1,AR.bF hg hd (hs.2 ih.1 ih.2)⟩
      · cases h
 | f + 1,b,ix,A,B,.x ax k e s,h=>by
  cases k with
  | nil=>
   simp only [run] at h; cases eb:Nat.beq b 0 with
   | false=>rw [eb] at h; cases h
   | true=>
    rw [eb] at h; simp only [cond_true,Option.some.injEq,Prod.mk.injEq] at h; obtain ⟨rfl,rfl,rfl⟩:=h; exact ⟨hab,hr⟩
  | cons fr k=>
   cases fr with
   | sq d=>cases ax <;> (simp only [run] at h; have ih:=iW hF hr hab f _ _ _ _ _ h; exact ih)
   | bl id=>
    cases ax with
    | exit i=>
     simp only [run] at h; simp only [St.ok,den,AX.inBlock]; cases eb:Nat.beq i id with
     | false=>rw [eb] at h; have ih:=iW hF hr hab f _ _ _ _ _ h; exact ih
     | true=>rw [eb] at h; have ih:=iW hF hr hab f _ _ _ _ _ h; exact ih
    | _=>simp only [run] at h; have ih:=iW hF hr hab f _ _ _ _ _ h; exact ih
   | lp R=>
    cases ax with
    | normal=>
     simp only [run] at h; cases eb:Nat.beq b 0 with
     | false=>rw [eb] at h; cases h
     | true=>
      rw [eb] at h; simp only [cond_true,Option.some.injEq,Prod.mk.injEq] at h; obtain ⟨rfl,rfl,rfl⟩:=h; exact ⟨hab,hr⟩
    | _=>simp only [run] at h; have ih:=iW hF hr hab f _ _ _ _ _ h; exact ih
end
end Go.Abs
namespace Go.Abs
variable [iJ]
open Go Go.Ft
def abR :List Nat→Nat→Bool
 | [],_=>false
 | x :: r,y=>bif Nat.beq x y then true else abR r y
theorem WS {p:Nat→Bool}:∀ {l:List Nat} {x:Nat},l.all p=true→abR l x=true→p x=true
 | [],_,_,h=>by cases h
 | y :: r,x,h0,h=>by
  simp only [List.all_cons,Bool.and_eq_true] at h0; unfold abR at h; cases e:Nat.beq y x with
  | true=>rw [←Nat.eq_of_beq_eq_true e]; exact h0.1
  | false=>rw [e] at h; exact WS h0.2 h
class FK (P:Program) where
 F:FB
 ok:F.Ok P
 pf:List Nat
 pk:pf.all (aU P)=true
def keysOf (e:Env):List Nat:=e.map Prod.fst
def adu (n:Nat) (o:Oper):Option Nat:=
 match o.guard with
 | none=>match o.dst with
  | some t=>bif Nat.blt t n then some t else none
  | none=>none
 | some _=>none
theorem Vz {n t:Nat} {o:Oper} (h:adu n o=some t):o.guard=none∧o.dst=some t∧Nat.blt t n=true:=by
 unfold adu at h; split at h
 ·
  rename_i hg; split at h
  ·
   rename_i u hd; cases e:Nat.blt u n with
   | true=>rw [e] at h; simp only [cond_true,Option.some.injEq] at h; subst h; exact ⟨hg,hd,e⟩
   | false=>rw [e] at h; cases h
  · cases h
 · cases h
def aec (pf:List Nat) (n:Nat) (e:Env) (o:Oper):Option (Nat × Call × FuncId × List PV):=
 match adu n o with
 | some t=>match o.op with
  | .call c=>match c.callee with
   | .value RS=>match e.ev RS with
    | .fn f caps=>bif abR pf f then some (t,c,f,caps) else none
    | _=>none
   | _=>none
  | _=>none
 | none=>none
def goO (n:Nat) (all:Array Oper) (e:Env) (o:Oper):Option Nat:=
 match o.guard,EH all e o.guard with
 | some _,some true=>match o.dst with
  | some t=>bif Nat.blt t n then some t else none
  | none=>none
 | _,_=>none
def ZL (e:Env):List ResultVar→Option (List PV)
 | []=>some []
 | .tmp t :: rs=>match (e.get t).force with
  | some p=>match ZL e rs with
   | some ps=>some (p :: ps)
   | none=>none
  | none=>none
 | _=>none
theorem Va {P:Program} {e:Env} {s:List bf}:∀ {rs:List ResultVar} {ps:List PV},ZL e rs=some ps→G9 P e s rs ps
 | [],ps,h=>by simp only [ZL,Option.some.injEq] at h; exact h.symm
 | .tmp t :: rs,ps,h=>by
  unfold ZL at h; split at h
  ·
   rename_i p hp; split at h
   ·
    rename_i qs hq; simp only [Option.some.injEq] at h; subst h; exact ⟨p,qs,rfl,hp,Va hq⟩
   · cases h
  · cases h
 | .cell a t :: rs,ps,h=>by cases h
def X6 (F:FB) (e:Env) (s:List bf):List Nat→List ResultVar→Option (List Nat × List Nat × List PV)
 | _,[]=>some ([],[],[])
 | ix,.tmp t :: rs=>match (e.get t).force with
  | some p=>match X6 F e s ix rs with
   | some (A,B,ps)=>some (A,B,p :: ps)
   | none=>none
  | none=>none
 | i :: ix,.cell a t :: rs=>match e.get a with
  | .val (.pointer (some ⟨b,0,none⟩))=>match s[i]? with
   | some (.box b' cs)=>match LW F.f.ti t with
    | some (ag,k)=>match zO ag k cs with
     | some p=>match X6 F e s ix rs with
      | some (A,B,ps)=>some (b :: A,b' :: B,p :: ps)
      | none=>none
     | none=>none
    | none=>none
   | _=>none
  | _=>none
 | [],.cell _ _ :: _=>none
theorem Vb {P:Program} {F:FB} (hF:F.Ok P) {e:Env} {s:List bf}:∀ {rs:List ResultVar} {ix A B:List Nat} {ps:List PV},X6 F e s ix rs=some (A,B,ps)→A=B→G9 P e s rs ps
 | [],ix,A,B,ps,h,_=>by cases ix <;> (simp only [X6,Option.some.injEq,Prod.mk.injEq] at h; exact h.2.2.symm)
 | .tmp t :: rs,ix,A,B,ps,h,hab=>by
  have h:(match (e.get t).force with
   | some p=>match X6 F e s ix rs with
    | some (A,B,ps)=>some (A,B,p :: ps)
    | none=>none
   | none=>none)=some (A,B,ps):=by cases ix <;> exact h
  split at h
  ·
   rename_i p hp; split at h
   ·
    rename_i A1 B1 qs hq; simp only [Option.some.injEq,Prod.mk.injEq] at h; obtain ⟨rfl,rfl,rfl⟩:=h; exact ⟨p,qs,rfl,hp,Vb hF hq hab⟩
   · cases h
  · cases h
 | .cell a t :: rs,[],A,B,ps,h,hab=>by cases h
 | .cell a t :: rs,i :: ix,A,B,ps,h,hab=>by
  unfold X6 at h; split at h
  ·
   rename_i b hb; split at h
   ·
    rename_i b' cs hi; split at h
    ·
     rename_i ag k ht; split at h
     ·
      rename_i p hp; split at h
      ·
       rename_i A1 B1 qs hq; simp only [Option.some.injEq,Prod.mk.injEq] at h; obtain ⟨rfl,rfl,rfl⟩:=h; simp only [List.cons.injEq] at hab; obtain ⟨rfl,hab⟩:=hab; exact ⟨p,qs,rfl,⟨b,cs,i,ag,k,hb,hi,Facts.ac4 hF.f ht,hp⟩,Vb hF hq hab⟩
      · cases h
     · cases h
    · cases h
   · cases h
  · cases h
def grp (F:FB) (all:Array Oper) (n k:Nat) (l:List Oper) (e:Env) (ks:List Nat):Option Env:=
 match Pp F.f all n k (l.take k) e with
 | some (e',[])=>settle ks e'
 | _=>none
section
variable {P : Program} {n : Nat} {env : Env} {σ : List bf} {ds : List Deferred} {Q : Post}
theorem agz {c:Code} {Q':Post} (h:AW P n c env σ ds Q') (hq:∀ x e s d,Q' x e s d→∃ e',Less e' e∧Q x e' s d):AW P n c env σ ds Q:=
 fun w m a QC hs ha=>h w m a QC hs fun x ex e1 s1 d1 a1 w1 m1 h1 hx hs1 ht=>let ⟨e',hl,hq'⟩:=hq _ _ _ _ h1; ha x ex e' s1 d1 a1 w1 m1 hq' hx (uZ.less hl hs1) ht
theorem WT {α:Type} {c:Code} (E:α→Env) (T:α→List bf) (I:α→Prop) (μ:α→Nat) (x0:α) (h0:settle (keysOf (E x0)) env=some (E x0)) (h1:σ=T x0) (h2:I x0)
  (round:∀ x,I x→AW P n c (E x) (T x) ds (AX.then (fun e s d=>∃ y,settle (keysOf (E y)) e=some (E y)∧s=T y∧d=ds∧I y∧μ y < μ x) Q)):AW P n (.loop c) env σ ds Q:=by
 refine AW.settle _ h0 (AW.loop E T I μ x0 rfl h1 h2 fun x hx=>agz (round x hx) ?_); intro ax e s d h; cases ax with
 | normal=>obtain ⟨y,h3,h4,h5,h6⟩:=h; exact ⟨E y,Less.settle h3,y,rfl,h4,h5,h6⟩
 | exit id=>exact ⟨e,Less.refl e,h⟩
 | ret=>exact ⟨e,Less.refl e,h⟩
 | panic p=>exact ⟨e,Less.refl e,h⟩
theorem MS {c:Code} {k:List Fr} {R R':Env→List bf→List Deferred→Prop} (h:AW P n c env σ ds (den P n (.lp R :: k) Q)) (hr:∀ e s d,R e s d→R' e s d):AW P n c env σ ds (AX.then R' (den P n k Q)):=by
 refine h.mono fun ax e s d hq=>?_; cases ax with
 | normal=>exact hr _ _ _ hq
 | exit id=>exact hq
 | ret=>exact hq
 | panic p=>exact hq
theorem JY {A0:Type} {c:Code} {k:List Fr} (E:A0→Env) (T:A0→List bf) (I:Nat→A0→Prop) (k0:Nat) (x0:A0) (h0:settle (keysOf (E x0)) env=some (E x0)) (h1:σ=T x0) (h2:I k0 x0)
  (z:∀ x0,I 0 x0→False)
  (round:∀ j x0,I (j + 1) x0→AW P n c (E x0) (T x0) ds (den P n (.lp (fun e s d=>∃ y0,settle (keysOf (E y0)) e=some (E y0)∧s=T y0∧d=ds∧I j y0) :: k) Q)):AW P n (.loop c) env σ ds (den P n k Q):=by
 refine WT (α:=Nat × (A0)) (fun q=>E (q.2)) (fun q=>T (q.2)) (fun q=>I q.1 (q.2)) (fun q=>q.1) (k0,(x0)) h0 h1 h2 ?_; rintro ⟨j,q⟩ hI; cases j with
 | zero=>exact (z _ hI).elim
 | succ j=>exact MS (round j (q) hI) fun e s d ⟨y0,h3,h4,h5,h6⟩=>⟨(j,(y0)),h3,h4,h5,h6,Nat.lt_succ_self j⟩
theorem Zq {A0:Type} {A1:Type} {c:Code} {k:List Fr} (E:A0→A1→Env) (T:A0→A1→List bf) (I:Nat→A0→A1→Prop) (k0:Nat) (x0:A0) (x1:A1) (h0:settle (keysOf (E x0 x1)) env=some (E x0 x1)) (h1:σ=T x0 x1) (h2:I k0 x0 x1)
  (z:∀ x0 x1,I 0 x0 x1→False)
  (round:∀ j x0 x1,I (j + 1) x0 x1→AW P n c (E x0 x1) (T x0 x1) ds (den P n (.lp (fun e s d=>∃ y0 y1,settle (keysOf (E y0 y1)) e=some (E y0 y1)∧s=T y0 y1∧d=ds∧I j y0 y1) :: k) Q)):AW P n (.loop c) env σ ds (den P n k Q):=by
 refine WT (α:=Nat × (A0 × A1)) (fun q=>E (q.2.1) (q.2.2)) (fun q=>T (q.2.1) (q.2.2)) (fun q=>I q.1 (q.2.1) (q.2.2)) (fun q=>q.1) (k0,(x0,x1)) h0 h1 h2 ?_; rintro ⟨j,q⟩ hI; cases j with
 | zero=>exact (z _ _ hI).elim
 | succ j=>exact MS (round j (q.1) (q.2) hI) fun e s d ⟨y0,y1,h3,h4,h5,h6⟩=>⟨(j,(y0,y1)),h3,h4,h5,h6,Nat.lt_succ_self j⟩
theorem V5 {A0:Type} {A1:Type} {A2:Type} {c:Code} {k:List Fr} (E:A0→A1→A2→Env) (T:A0→A1→A2→List bf) (I:Nat→A0→A1→A2→Prop) (k0:Nat) (x0:A0) (x1:A1) (x2:A2) (h0:settle (keysOf (E x0 x1 x2)) env=some (E x0 x1 x2)) (h1:σ=T x0 x1 x2) (h2:I k0 x0 x1 x2)
  (z:∀ x0 x1 x2,I 0 x0 x1 x2→False)
  (round:∀ j x0 x1 x2,I (j + 1) x0 x1 x2→AW P n c (E x0 x1 x2) (T x0 x1 x2) ds (den P n (.lp (fun e s d=>∃ y0 y1 y2,settle (keysOf (E y0 y1 y2)) e=some (E y0 y1 y2)∧s=T y0 y1 y2∧d=ds∧I j y0 y1 y2) :: k) Q)):AW P n (.loop c) env σ ds (den P n k Q):=by
 refine WT (α:=Nat × (A0 × A1 × A2)) (fun q=>E (q.2.1) (q.2.2.1) (q.2.2.2)) (fun q=>T (q.2.1) (q.2.2.1) (q.2.2.2)) (fun q=>I q.1 (q.2.1) (q.2.2.1) (q.2.2.2)) (fun q=>q.1) (k0,(x0,x1,x2)) h0 h1 h2 ?_; rintro ⟨j,q⟩ hI; cases j with
 | zero=>exact (z _ _ _ hI).elim
 | succ j=>exact MS (round j (q.1) (q.2.1) (q.2.2) hI) fun e s d ⟨y0,y1,y2,h3,h4,h5,h6⟩=>⟨(j,(y0,y1,y2)),h3,h4,h5,h6,Nat.lt_succ_self j⟩
theorem LK4 {A0:Type} {A1:Type} {A2:Type} {A3:Type} {c:Code} {k:List Fr} (E:A0→A1→A2→A3→Env) (T:A0→A1→A2→A3→List bf) (I:Nat→A0→A1→A2→A3→Prop) (k0:Nat) (x0:A0) (x1:A1) (x2:A2) (x3:A3) (h0:settle (keysOf (E x0 x1 x2 x3)) env=some (E x0 x1 x2 x3)) (h1:σ=T x0 x1 x2 x3) (h2:I k0 x0 x1 x2 x3)
  (z:∀ x0 x1 x2 x3,I 0 x0 x1 x2 x3→False)
  (round:∀ j x0 x1 x2 x3,I (j + 1) x0 x1 x2 x3→AW P n c (E x0 x1 x2 x3) (T x0 x1 x2 x3) ds (den P n (.lp (fun e s d=>∃ y0 y1 y2 y3,settle (keysOf (E y0 y1 y2 y3)) e=some (E y0 y1 y2 y3)∧s=T y0 y1 y2 y3∧d=ds∧I j y0 y1 y2 y3) :: k) Q)):AW P n (.loop c) env σ ds (den P n k Q):=by
 refine WT (α:=Nat × (A0 × A1 × A2 × A3)) (fun q=>E (q.2.1) (q.2.2.1) (q.2.2.2.1) (q.2.2.2.2)) (fun q=>T (q.2.1) (q.2.2.1) (q.2.2.2.1) (q.2.2.2.2)) (fun q=>I q.1 (q.2.1) (q.2.2.1) (q.2.2.2.1) (q.2.2.2.2)) (fun q=>q.1) (k0,(x0,x1,x2,x3)) h0 h1 h2 ?_; rintro ⟨j,q⟩ hI; cases j with
 | zero=>exact (z _ _ _ _ hI).elim
 | succ j=>exact MS (round j (q.1) (q.2.1) (q.2.2.1) (q.2.2.2) hI) fun e s d ⟨y0,y1,y2,y3,h3,h4,h5,h6⟩=>⟨(j,(y0,y1,y2,y3)),h3,h4,h5,h6,Nat.lt_succ_self j⟩
theorem LK5 {A0:Type} {A1:Type} {A2:Type} {A3:Type} {A4:Type} {c:Code} {k:List Fr} (E:A0→A1→A2→A3→A4→Env) (T:A0→A1→A2→A3→A4→List bf) (I:Nat→A0→A1→A2→A3→A4→Prop) (k0:Nat) (x0:A0) (x1:A1) (x2:A2) (x3:A3) (x4:A4) (h0:settle (keysOf (E x0 x1 x2 x3 x4)) env=some (E x0 x1 x2 x3 x4)) (h1:σ=T x0 x1 x2 x3 x4) (h2:I k0 x0 x1 x2 x3 x4)
  (z:∀ x0 x1 x2 x3 x4,I 0 x0 x1 x2 x3 x4→False)
  (round:∀ j x0 x1 x2 x3 x4,I (j + 1) x0 x1 x2 x3 x4→AW P n c (E x0 x1 x2 x3 x4) (T x0 x1 x2 x3 x4) ds (den P n (.lp (fun e s d=>∃ y0 y1 y2 y3 y4,settle (keysOf (E y0 y1 y2 y3 y4)) e=some (E y0 y1 y2 y3 y4)∧s=T y0 y1 y2 y3 y4∧d=ds∧I j y0 y1 y2 y3 y4) :: k) Q)):AW P n (.loop c) env σ ds (den P n k Q):=by
 refine WT (α:=Nat × (A0 × A1 × A2 × A3 × A4)) (fun q=>E (q.2.1) (q.2.2.1) (q.2.2.2.1) (q.2.2.2.2.1) (q.2.2.2.2.2)) (fun q=>T (q.2.1) (q.2.2.1) (q.2.2.2.1) (q.2.2.2.2.1) (q.2.2.2.2.2)) (fun q=>I q.1 (q.2.1) (q.2.2.1) (q.2.2.2.1) (q.2.2.2.2.1) (q.2.2.2.2.2)) (fun q=>q.1) (k0,(x0,x1,x2,x3,x4)) h0 h1 h2 ?_; rintro ⟨j,q⟩ hI; cases j with
 | zero=>exact (z _ _ _ _ _ hI).elim
 | succ j=>exact MS (round j (q.1) (q.2.1) (q.2.2.1) (q.2.2.2.1) (q.2.2.2.2) hI) fun e s d ⟨y0,y1,y2,y3,y4,h3,h4,h5,h6⟩=>⟨(j,(y0,y1,y2,y3,y4)),h3,h4,h5,h6,Nat.lt_succ_self j⟩
theorem C {α:Type} {b:Bool} {x y:Option α} {r:Option α} {c:Operand} {X Y:Code} (hf:(if b=true then x else y)=r) (hc:env.ev c=.bool b) (ht:b=true→x=r→AW P n X env σ ds Q) (he:b=false→y=r→AW P n Y env σ ds Q):AW P n (.cond c X Y) env σ ds Q:=
 AW.cond hc (fun h=>ht h (jF h hf)) fun h=>he h (iw h hf)
section
variable {all : Array Oper} {rest l : List Oper} {o : Oper}
theorem AS {t:Nat} (h0:adu n o=some t) (h:AO P o env.ev σ (fun p σ'=>AR P n all rest ((t,p) :: env) σ' ds Q) (fun p σ'=>Q (.panic p) env σ' ds)):AR P n all (o :: rest) env σ ds Q:=
 AR.step (Vz h0).1 (Vz h0).2.1 (Vz h0).2.2 h
theorem CL [K:FK P] {t:Nat} {c:Call} {f:FuncId} {caps:List PV} (h0:aec K.pf n env o=some (t,c,f,caps))
  (h:AC P f ((c.args.toList.map env.ev).map PV.weak ++ caps) σ fun out σ'=>match out with | .ret p=>AR P n all rest ((t,p) :: env) σ' ds Q | .panic p=>Q (.panic p) env σ' ds):AR P n all (o :: rest) env σ ds Q:=by
 unfold aec at h0; split at h0
 ·
  rename_i t' ht; split at h0
  ·
   rename_i c' ho; split at h0
   ·
    rename_i RS kZ; split at h0
    ·
     rename_i f' ajb hf; cases hm:abR K.pf f' with
     | false=>rw [hm] at h0; cases h0
     | true=>
      rw [hm] at h0; simp only [cond_true,Option.some.injEq,Prod.mk.injEq] at h0; obtain ⟨rfl,rfl,rfl,rfl⟩:=h0; exact AS ht (AO.call ho RS kZ hf (WS K.pk hm) h)
    · cases h0
   · cases h0
  · cases h0
 · cases h0
theorem GO {t:Nat} (h0:goO n all env o=some t) (h:AO P {o with guard:=none} env.ev σ (fun p σ'=>AR P n all rest ((t,p) :: env) σ' ds Q) (fun p σ'=>Q (.panic p) env σ' ds)):AR P n all (o :: rest) env σ ds Q:=by
 unfold goO at h0; split at h0
 ·
  rename_i jw hg hgd; split at h0
  ·
   rename_i u hd; cases e:Nat.blt u n with
   | false=>rw [e] at h0; cases h0
   | true=>
    rw [e] at h0; simp only [cond_true,Option.some.injEq] at h0; subst h0; obtain ⟨j,want⟩:=jw; rw [hg] at hgd; obtain ⟨oj,u',g1,g2,g3⟩:=ug hgd; rcases g3 with ⟨_,g3⟩ | ⟨g3,_⟩
    · exact AR.go hg g1 g2 g3 hd e h
    · cases g3
  · cases h0
 · cases h0
theorem Vq [K:FK P] {k:Nat} {e e':Env} {ks:List Nat} (h:grp K.F all n k l e ks=some e'):AR P n all (l.take k) e σ ds fun ax e s d=>ax=.normal∧e=e'∧s=σ∧d=ds:=by
 unfold grp at h; split at h
 ·
  rename_i e1 hp; exact AR.cs K.ok.f k hp (AR.nil ks h ⟨rfl,rfl,rfl,rfl⟩)
 · cases h
theorem An [K:FK P] (k g t:Nat) (keep:List Nat) (x:Bool) {b:Bool} {env':Env} (hb:env.get g=.bool b) (hk:settle keep env=some env')
  (h1:grp K.F all n k l ((g,.bool true) :: env) (t :: keep)=some ((t,.bool x) :: env')) (h2:grp K.F all n k l ((g,.bool false) :: env) (t :: keep)=some ((t,.bool false) :: env'))
  (h3:AR P n all (l.drop k) ((t,.bool (b && x)) :: env') σ ds Q):AR P n all l env σ ds Q:=
 AR.and k g t keep hb hk (fun h=>AR.is g h hb (Vq h1)) (fun h=>AR.is g h hb (Vq h2)) h3
theorem On [K:FK P] (k g t:Nat) (keep:List Nat) (x:Bool) {b:Bool} {env':Env} (hb:env.get g=.bool b) (hk:settle keep env=some env')
  (h1:grp K.F all n k l ((g,.bool false) :: env) (t :: keep)=some ((t,.bool x) :: env')) (h2:grp K.F all n k l ((g,.bool true) :: env) (t :: keep)=some ((t,.bool true) :: env'))
  (h3:AR P n all (l.drop k) ((t,.bool (b || x)) :: env') σ ds Q):AR P n all l env σ ds Q:=
 AR.or k g t keep hb hk (fun h=>AR.is g h hb (Vq h1)) (fun h=>AR.is g h hb (Vq h2)) h3
end
section
variable [K : FK P] {c c' : Code} {all all' : Array Oper} {l l' : List Oper} {k k' : List Fr} {e e' : Env} {s s' : List bf} {ax ax' : AX} {A B : List Nat}
theorem Ww (b:Nat) (ix:List Nat) (h:run K.F n 0 999 b ix [] [] (.w c k e s)=some (A,B,.w c' k' e' s')) (hab:A=B) (hr:AW P n c' e' s' ds (den P n k' Q)):AW P n c e s ds (den P n k Q):=(iW K.ok (st':=.w c' k' e' s') hr hab _ _ _ _ _ _ h).2
theorem V (b:Nat) (h:run K.F n 0 999 b [] [] [] (.w c k e s)=some ([],[],.w c' k' e' s')) (hr:AW P n c' e' s' ds (den P n k' Q)):AW P n c e s ds (den P n k Q):=Ww b [] h rfl hr
theorem Wr (b:Nat) (ix:List Nat) (h:run K.F n 0 999 b ix [] [] (.w c k e s)=some (A,B,.r all' l' k' e' s')) (hab:A=B) (hr:AR P n all' l' e' s' ds (den P n k' Q)):AW P n c e s ds (den P n k Q):=(iW K.ok (st':=.r all' l' k' e' s') hr hab _ _ _ _ _ _ h).2
theorem W (b:Nat) (h:run K.F n 0 999 b [] [] [] (.w c k e s)=some ([],[],.r all' l' k' e' s')) (hr:AR P n all' l' e' s' ds (den P n k' Q)):AW P n c e s ds (den P n k Q):=Wr b [] h rfl hr
theorem Wx (b:Nat) (ix:List Nat) (h:run K.F n 0 999 b ix [] [] (.w c k e s)=some (A,B,.x ax' k' e' s')) (hab:A=B) (hr:den P n k' Q ax' e' s' ds):AW P n c e s ds (den P n k Q):=(iW K.ok (st':=.x ax' k' e' s') hr hab _ _ _ _ _ _ h).2
theorem M (b:Nat) (h:run K.F n 0 999 b [] [] [] (.w c k e s)=some ([],[],.x ax' k' e' s')) (hr:den P n k' Q ax' e' s' ds):AW P n c e s ds (den P n k Q):=Wx b [] h rfl hr
theorem Wn0 (b:Nat) (h:run K.F n 1 999 b [] [] [] (.w c k e s)=some ([],[],.r all' [] k' e' s')) (hr:AR P n all' [] e' s' ds (den P n k' Q)):AW P n c e s ds (den P n k Q):=(iW K.ok (st':=.r all' [] k' e' s') hr rfl _ _ _ _ _ _ h).2
theorem Rw (b:Nat) (ix:List Nat) (h:run K.F n 0 999 b ix [] [] (.r all l k e s)=some (A,B,.w c' k' e' s')) (hab:A=B) (hr:AW P n c' e' s' ds (den P n k' Q)):AR P n all l e s ds (den P n k Q):=(iW K.ok (st':=.w c' k' e' s') hr hab _ _ _ _ _ _ h).2
theorem J (b:Nat) (h:run K.F n 0 999 b [] [] [] (.r all l k e s)=some ([],[],.w c' k' e' s')) (hr:AW P n c' e' s' ds (den P n k' Q)):AR P n all l e s ds (den P n k Q):=Rw b [] h rfl hr
theorem Rr (b:Nat) (ix:List Nat) (h:run K.F n 0 999 b ix [] [] (.r all l k e s)=some (A,B,.r all' l' k' e' s')) (hab:A=B) (hr:AR P n all' l' e' s' ds (den P n k' Q)):AR P n all l e s ds (den P n k Q):=(iW K.ok (st':=.r all' l' k' e' s') hr hab _ _ _ _ _ _ h).2
theorem U (b:Nat) (h:run K.F n 0 999 b [] [] [] (.r all l k e s)=some ([],[],.r all' l' k' e' s')) (hr:AR P n all' l' e' s' ds (den P n k' Q)):AR P n all l e s ds (den P n k Q):=Rr b [] h rfl hr
theorem Rx (b:Nat) (ix:List Nat) (h:run K.F n 0 999 b ix [] [] (.r all l k e s)=some (A,B,.x ax' k' e' s')) (hab:A=B) (hr:den P n k' Q ax' e' s' ds):AR P n all l e s ds (den P n k Q):=(iW K.ok (st':=.x ax' k' e' s') hr hab _ _ _ _ _ _ h).2
theorem N (b:Nat) (h:run K.F n 0 999 b [] [] [] (.r all l k e s)=some ([],[],.x ax' k' e' s')) (hr:den P n k' Q ax' e' s' ds):AR P n all l e s ds (den P n k Q):=Rx b [] h rfl hr
theorem fI (b:Nat) (h:run K.F n 1 999 b [] [] [] (.r all l k e s)=some ([],[],.r all' [] k' e' s')) (hr:AR P n all' [] e' s' ds (den P n k' Q)):AR P n all l e s ds (den P n k Q):=(iW K.ok (st':=.r all' [] k' e' s') hr rfl _ _ _ _ _ _ h).2
theorem Rn (b:Nat) (ix:List Nat) (h:run K.F n 1 999 b ix [] [] (.r all l k e s)=some (A,B,.r all' [] k' e' s')) (hab:A=B) (hr:AR P n all' [] e' s' ds (den P n k' Q)):AR P n all l e s ds (den P n k Q):=(iW K.ok (st':=.r all' [] k' e' s') hr hab _ _ _ _ _ _ h).2
theorem Y {rs:List ResultVar} {R:dx→List bf→Prop} {ps:List PV} (h0:ZL e rs=some ps) (h:R (.ret (nK (ps.map PV.weak))) []):den P n [] (UO P rs R) .ret e s []:=⟨rfl,ps,Va h0,[],List.nil_sublist _,h⟩
theorem ZN {rs:List ResultVar} {R:dx→List bf→Prop} {ps:List PV} (h0:ZL e rs=some ps) (h:R (.ret (nK (ps.map PV.weak))) []):den P n [] (UO P rs R) .normal e s []:=⟨rfl,ps,Va h0,[],List.nil_sublist _,h⟩
theorem ZC {rs:List ResultVar} {R:dx→List bf→Prop} {ps:List PV} (ix:List Nat) (h0:X6 K.F e s ix rs=some (A,B,ps)) (hab:A=B) (h:R (.ret (nK (ps.map PV.weak))) []):den P n [] (UO P rs R) .ret e s []:=⟨rfl,ps,Vb K.ok h0 hab,[],List.nil_sublist _,h⟩
end
end
end Go.Abs
namespace Go.Abs
universe u v
variable [iJ]
open Go Go.Ft
section
variable {P : Program} {f : FuncId} {fn : Func} {c : Code} {args : List PV} {σ : List bf} {R : dx → List bf → Prop}
theorem BD (n:Nat) (rs:List ResultVar) (ts:List Nat) {env:Env} (hf:P.funcs[f]?=some fn) (hb:fn.body=some c) (hn:fn.ntmps=n) (hl:Nat.ble args.length n=true) (hrs:fn.results.toList=rs) (NY:settle ts (Cr 0 args)=some env)
  (h:AW P n c env σ [] (den P n [] (UO P rs R))):AC P f args σ R:=AC.jX n rs ts hf hb hn hl hrs NY h
theorem BN (n:Nat) (rs:List ResultVar) (ts:List Nat) {env:Env} (hf:P.funcs[f]?=some fn) (hb:fn.body=some c) (hn:fn.ntmps=n) (hl:Nat.ble args.length n=true) (hrs:fn.results.toList=rs) (NY:settle ts (Cr 0 args)=some env)
  (h:AW P n c env [] [] (den P n [] (UO P rs fun o s=>R o (s ++ σ)))):AC P f args σ R:=AC.none (AC.jX n rs ts hf hb hn hl hrs NY h)
end
theorem B1 {α ρ:Type} {x:Option α} {f:α→Option ρ} {r:ρ} {G:Prop} (h:av x f=some r) (k:∀ a,x=some a→f a=some r→G):G:=let ⟨a,h1,h2⟩:=Ku h; k a h1 h2
theorem BR {α:Type} {x:Option α} {r:α} {G:Prop} (h:x=some r) (k:∀ a,x=some a→some a=some r→G):G:=k r h rfl
section
variable {P : Program} {n : Nat} {env env' : Env} {σ : List bf} {ds : List Deferred} {Q : Post} {all : Array Oper} {l : List Oper}
theorem Is (g:Nat) {b v:Bool} (h:b=v) (hg:env.get g=.bool b) (hr:AR P n all l ((g,.bool v) :: env) σ ds (den P n [] Q)):AR P n all l env σ ds Q:=AR.is g h hg hr
theorem IT {α:Type} {x y r:Option α} (g:Nat) {b:Bool} (h:b=true) (hx:(if b=true then x else y)=r) (hg:env.get g=.bool b) (hr:x=r→AR P n all l ((g,.bool true) :: env) σ ds (den P n [] Q)):AR P n all l env σ ds (den P n [] Q):=Is g h hg (hr (jF h hx))
theorem IF {α:Type} {x y r:Option α} (g:Nat) {b:Bool} (h:b=false) (hx:(if b=true then x else y)=r) (hg:env.get g=.bool b) (hr:y=r→AR P n all l ((g,.bool false) :: env) σ ds (den P n [] Q)):AR P n all l env σ ds (den P n [] Q):=Is g h hg (hr (iw h hx))
theorem En (ks:List Nat) (h:settle ks env=some env'):AR P n all [] env σ ds (den P n [] fun ax e s d=>ax=.normal∧e=env'∧s=σ∧d=ds):=AR.nil ks h ⟨rfl,rfl,rfl,rfl⟩
end
theorem Z {α:Sort u} {a:α}:a=a:=rfl
theorem zg {α:Sort u} {β:Sort v} {a:α} {b:β}:a=a∧b=b:=⟨rfl,rfl⟩
theorem AW.sr {P:Program} {n:Nat} {env:Env} {σ:List bf} {ds:List Deferred} {Q:Post} {id:Nat} {l:List Oper} {d:Code} (h:AR P n l.toArray l env σ ds (AX.then (fun e s ds=>AW P n d e s ds Q) Q)):AW P n (.seq (.region id l.toArray false) d) env σ ds Q:=AW.seq (AW.region h)
end Go.Abs
namespace Go.Abs
variable [iJ]
open Go
mutual
def rG {H:Type}:DataW H→Nat
 | .lit (.string bytes)=>bytes.length + 1
 | .lit _=>1
 | .nil=>1
 | .ptr d=>rG d + 1
 | .slice elems spare=>pE elems + pE spare + 1
 | .agg parts=>pE parts + 1
 | .iface _ d=>rG d + 1
 | .map entries=>Ah entries + 1
 | .held _=>1
def pE {H:Type}:List (DataW H)→Nat
 | []=>0
 | d :: r=>rG d + pE r
def Ah {H:Type}:List (Lit × DataW H)→Nat
 | []=>0
 | x :: r=>yT x + Ah r
def yT {H:Type}:Lit × DataW H→Nat
 | (.string bytes,d)=>bytes.length + rG d + 1
 | (_,d)=>rG d + 1
end
inductive F5 (P:Program):TypeId→List PV→Nat→Prop
 | bool {t:TypeId} {b:Bool}:P.underlying t=some .bool→F5 P t [.bool b] 1
 | int {t:TypeId} {k:IntKind} {n:Int}:P.underlying t=some (.int k)→(Lit.int k n).wf=true→F5 P t [.int k n] 1
 | str {t:TypeId} {s:List UInt8}:P.underlying t=some .string→F5 P t [.str s] (s.length + 1)
 | slice {t e:TypeId} {l:List (List PV × Nat)}:P.underlying t=some (.slice e)→(∀ c∈l,F5 P e c.1 c.2)→F5 P t [.list (l.map (·.1))] ((l.map (·.2)).sum + 1)
 | struct {t:TypeId} {fs:Array Field} {ps:List (List PV × Nat)}:P.underlying t=some (.struct fs)→ps.length=fs.toList.length→(∀ x∈fs.toList.zip ps,F5 P x.1.type x.2.1 x.2.2)→F5 P t (ps.map (·.1)).flatten ((ps.map (·.2)).sum + 1)
 | array {t e:TypeId} {n:Nat} {ps:List (List PV × Nat)}:P.underlying t=some (.array n e)→ps.length=n→(∀ c∈ps,F5 P e c.1 c.2)→F5 P t (ps.map (·.1)).flatten ((ps.map (·.2)).sum + 1)
theorem IK {H α:Type} {g:Nat→List PV × Nat}:∀ {n s:Nat} {es:List (DataW H × α)},n=es.length→(∀ i,i < n→∀ y,es[i]?=some y→(g (s + i)).2≤rG y.1)→
  ((((List.range' s n).map g).map (·.2))).sum≤pE (es.map (·.1))
 | 0,s,[],_,_=>by simp [pE]
 | n + 1,s,e :: es,hl,h=>by
  rw [List.range'_succ]; simp only [List.map_cons,List.sum_cons,pE]; have h0:=h 0 (by omega) e rfl
  have ih:=IK (g:=g) (n:=n) (s:=s + 1) (es:=es) (by simpa using hl) fun i hi y hy=>by
   have:=h (i + 1) (by omega) y (by simpa using hy)
   rwa [show s + 1 + i=s + (i + 1) from by omega]
  simp only [Nat.add_zero] at h0; omega
 | 0,s,e :: es,hl,_=>by simp at hl
 | n + 1,s,[],hl,_=>by simp at hl
theorem MC {H α β:Type} {f:β→Option (DataW H × α)} {g:β→Nat}:∀ {l:List β} {xs:List (DataW H × α)},l.mapM f=some xs→(∀ b∈l,∀ y,f b=some y→g b≤rG y.1)→(l.map g).sum≤pE (xs.map (·.1))
 | [],xs,h,_=>by simp
 | b :: l,xs,h,hb=>by
  rw [List.mapM_cons] at h; cases e:f b with
  | none=>simp [e] at h
  | some y=>
   cases e2:l.mapM f with
   | none=>simp [e,e2] at h
   | some ys=>
    simp [e,e2] at h; subst h; have h0:=hb b List.mem_cons_self y e; have ih:=MC (g:=g) e2 fun b' hb'=>hb b' (List.mem_cons_of_mem _ hb'); simp only [List.map_cons,List.sum_cons,pE]; omega
section
variable {P : Program} {w : World}
theorem Zz {H:Type} {enc:TypeId × Value→H} {sp:Nat→Bool} {held:Bool} {S:List TypeId} (hS:∀ t,S.contains t=true→Gj P S t=true):
  ∀ (fuel:Nat) (t:TypeId) (cs:List Value) (x:DataW H × List MemPlace),S.contains t=true→DataW.trod enc P w 0 sp held fuel t cs=some x→∃ ps N,bD w (yU w) ps cs∧F5 P t ps N∧N≤rG x.1:=by
 intro fuel
 induction fuel with
 | zero=>intro t cs x _ h; simp [DataW.trod] at h
 | succ fuel ih=>
  intro t cs x ht h; have hp:=hS t ht; unfold Gj at hp; split at hp
  ·
   rename_i hu; unfold DataW.trod at h; rw [hu] at h; split at h <;> simp_all; rename_i b; subst h; exact ⟨[.bool b],bD.cons (by simp only [dK]) bD.nil,_,.bool hu,Nat.le_refl _⟩
  ·
   rename_i k hu; unfold DataW.trod at h; rw [hu] at h; split at h <;> simp_all; rename_i k1 k' n hk; obtain ⟨⟨rfl,hw⟩,rfl⟩:=h; exact ⟨[.int k' n],bD.cons (by simp only [dK]) bD.nil,_,.int hu hw,Nat.le_refl _⟩
  ·
   rename_i hu; unfold DataW.trod at h; rw [hu] at h; split at h <;> simp_all; rename_i b; obtain ⟨_,rfl⟩:=h; exact ⟨[.str b.data.toList],bD.cons (by simp only [dK]) bD.nil,_,.str hu,Nat.le_refl _⟩
  ·
   rename_i e hu; simp only [Bool.and_eq_true,decide_eq_true_eq] at hp; unfold DataW.trod at h; rw [hu] at h; split at h <;> first | (exfalso; simp_all; done) | skip
   ·
    cases h; exact ⟨[.list []],_,bD.cons (by simp only [dK]; exact ⟨none,0,rfl,Nat.le_refl _,.inl trivial⟩) bD.nil,.slice (l:=[]) hu (by simp),Nat.le_refl _⟩
   ·
    rename_i e' a len cap heq1; cases heq1; simp only at h; split at h
    ·
     rename_i hb; cases hm:(List.range len).mapM fun i=>(w.cells? 0 (a.add (i * P.cellsOf e)) (P.cellsOf e)).bind (DataW.trod enc P w 0 sp held fuel e) with
     | none=>rw [hm] at h; cases h
     | some elems=>
      rw [hm] at h; simp only [Option.bind_some] at h; obtain ⟨rest,_,hx⟩:=Option.map_eq_some_iff.1 h; subst hx; obtain ⟨_,hat⟩:=xR hm; have hlen:=(xR hm).1
      have hspot:0 < len→a=⟨a.block,a.off,none⟩∧a.block < w.heap.size:=by
       intro hpos; have h1:=hat 0 hpos; rw [List.getElem?_eq_getElem (by omega)] at h1; cases hcs:w.cells? 0 (a.add (0 * P.cellsOf e)) (P.cellsOf e) with
       | none=>rw [hcs] at h1; cases h1
       | some cs'=>
        simp only [World.cells?,Nat.zero_le,if_true] at hcs; obtain ⟨hl',hat'⟩:=xR hcs; have h0:=hat' 0 hp.1; rw [List.getElem?_eq_getElem (by omega)] at h0; have:=U7 h0; simpa [Addr.add] using this
      have hone:∀ i,∃ ps:List PV × Nat,i < len→(ps.1.length=P.cellsOf e∧qo w (yU w) a.block (a.off + i * P.cellsOf e) ps.1∧F5 P e ps.1 ps.2∧∀ y,elems[i]?=some y→ps.2≤rG y.1):=by
       intro i; rcases Nat.lt_or_ge i len with hi | hi
       ·
        have h1:=hat i hi; obtain ⟨hsp,hblk⟩:=hspot (by omega); rw [List.getElem?_eq_getElem (by omega)] at h1; cases hcs:w.cells? 0 (a.add (i * P.cellsOf e)) (P.cellsOf e) with
        | none=>rw [hcs] at h1; cases h1
        | some cs'=>
         rw [hcs] at h1; obtain ⟨ps,N,hr,hty,hN⟩:=ih e cs' _ hp.2 h1; simp only [World.cells?,Nat.zero_le,if_true] at hcs; obtain ⟨hl',hat'⟩:=xR hcs; refine ⟨(ps,N),fun _=>⟨by rw [←hr.length_eq,hl'],?_,hty,fun y hy=>?_⟩⟩
         case refine_2=>rw [List.getElem?_eq_getElem (by omega)] at hy; cases hy; exact hN
         refine QI hr (fun _=>hblk) fun j v hv=>?_
         have hj:j < P.cellsOf e:=by
          rw [←hl']; exact (List.getElem?_eq_some_iff.1 hv).1
         have:=hat' j hj; rw [hv,hsp,Addr.add_lit,Addr.add_lit] at this; exact this
       · exact ⟨([],0),fun h=>by omega⟩
      obtain ⟨g,hg⟩:=L9 hone; refine ⟨[.list (((List.range' 0 len).map g).map (·.1))],_,bD.cons ?_ bD.nil,.slice hu fun c hc=>?_,?_⟩
      ·
       simp only [dK]; refine ⟨some a,cap,by simp,by simp; omega,?_⟩; rcases Nat.eq_zero_or_pos len with h0 | h0
       · subst h0; exact .inl rfl
       ·
        refine .inr ⟨a.block,a.off,P.cellsOf e,by rw [←(hspot h0).1],?_⟩; rw [List.map_map]; refine MH len 0 a.off fun i hi=>?_; rw [Nat.zero_add]; exact ⟨(hg i hi).1,(hg i hi).2.1⟩
      ·
       obtain ⟨i,hi,rfl⟩:=List.mem_map.1 hc; simp at hi; exact (hg i hi).2.2.1
      ·
       have hsum:=IK (g:=g) (n:=len) (s:=0) (es:=elems) (by omega) fun i hi y hy=>(hg (0 + i) (by omega)).2.2.2 y (by simpa using hy); simp only [rG]; omega
    · cases h
  ·
   rename_i fs hu; simp only [Bool.and_eq_true] at hp; unfold DataW.trod at h; rw [hu] at h; split at h <;> first | (exfalso; simp_all; done) | skip
   rename_i cs _ _ fs' heq; cases heq; split at h
   ·
    rename_i hlen; cases hm:fs.toList.mapM fun f=>DataW.trod enc P w 0 sp held fuel f.type ((cs.drop f.offset).take (P.cellsOf f.type)) with
    | none=>rw [hm] at h; cases h
    | some xs=>
     obtain ⟨hxl,hat⟩:=mapM_at hm; rw [hm] at h; simp only [Option.map_some,Option.some.injEq] at h; subst h
     have hone:∀ f:Field,∃ ps:List PV × Nat,f∈fs.toList→bD w (yU w) ps.1 ((cs.drop f.offset).take (P.cellsOf f.type))∧F5 P f.type ps.1 ps.2∧∀ y,DataW.trod enc P w 0 sp held fuel f.type ((cs.drop f.offset).take (P.cellsOf f.type))=some y→ps.2≤rG y.1:=by
      intro f; by_cases hf:f∈fs.toList
      ·
       obtain ⟨i,hi⟩:=List.getElem?_of_mem hf; have h1:=hat i f hi; have hil:i < fs.toList.length:=(List.getElem?_eq_some_iff.1 hi).1; rw [List.getElem?_eq_getElem (by omega)] at h1; have hSf:S.contains f.type=true:=(List.all_eq_true.1 hp.2) f hf; obtain ⟨ps,N,h2,h3,h4⟩:=ih f.type _ _ hSf h1; exact ⟨(ps,N),fun _=>⟨h2,h3,fun y hy=>by rw [h1] at hy; cases hy; exact h4⟩⟩
      · exact ⟨([],0),fun h=>absurd h hf⟩
     obtain ⟨g,hg⟩:=L9 hone; refine ⟨((fs.toList.map g).map (·.1)).flatten,_,?_,.struct hu (by simp) fun x hx=>?_,?_⟩
     ·
      rw [List.map_map]; have:=QH (w:=w) (m:=yU w) (cs:=cs) (g:=fun f=>(g f).1) fs.toList 0 _ hp.1 hlen.symm fun f hf=>(hg f hf).1; simpa [Function.comp_def] using this
     ·
      obtain ⟨k1,k2⟩:=Qd g _ _ hx; rw [k2]; exact (hg _ k1).2.1
     ·
      have hsum:=MC (g:=fun f=>(g f).2) hm fun f hf y hy=>(hg f hf).2.2 y hy; rw [List.map_map]; simp only [rG]; have:(fs.toList.map ((fun x=>x.2) ∘ g)).sum=(fs.toList.map fun f=>(g f).2).sum:=rfl; omega
   · cases h
  ·
   rename_i n e hu; simp only [Bool.and_eq_true,beq_iff_eq] at hp; unfold DataW.trod at h; rw [hu] at h; split at h <;> first | (exfalso; simp_all; done) | skip
   rename_i cs _ _ n' e' heq; cases heq; split at h
   ·
    rename_i hlen; cases hm:(List.range n).mapM fun i=>DataW.trod enc P w 0 sp held fuel e ((cs.drop (i * P.cellsOf e)).take (P.cellsOf e)) with
    | none=>rw [hm] at h; cases h
    | some xs=>
     obtain ⟨hxl,hat⟩:=xR hm; rw [hm] at h; simp only [Option.map_some,Option.some.injEq] at h; subst h
     have hone:∀ i,∃ ps:List PV × Nat,i < n→bD w (yU w) ps.1 ((cs.drop (i * P.cellsOf e)).take (P.cellsOf e))∧F5 P e ps.1 ps.2∧∀ y,xs[i]?=some y→ps.2≤rG y.1:=by
      intro i; rcases Nat.lt_or_ge i n with hi | hi
      ·
       have h1:=hat i hi; rw [List.getElem?_eq_getElem (by omega)] at h1; obtain ⟨ps,N,h2,h3,h4⟩:=ih e _ _ hp.2 h1; exact ⟨(ps,N),fun _=>⟨h2,h3,fun y hy=>by rw [List.getElem?_eq_getElem (by omega)] at hy; cases hy; exact h4⟩⟩
      · exact ⟨([],0),fun h=>by omega⟩
     obtain ⟨g,hg⟩:=L9 hone; refine ⟨(((List.range' 0 n).map g).map (·.1)).flatten,_,?_,.array hu (by simp) fun c hc=>?_,?_⟩
     ·
      rw [List.map_map]; have:=Uh (w:=w) (m:=yU w) (cs:=cs) (sz:=P.cellsOf e) (g:=fun i=>(g i).1) n 0 (by rw [hlen,hp.1,Nat.zero_add]) fun i hi=>(hg i (by omega)).1; simpa [Function.comp_def] using this
     ·
      obtain ⟨i,hi,rfl⟩:=List.mem_map.1 hc; simp at hi; exact (hg i hi).2.1
     ·
      have hsum:=IK (g:=g) (n:=n) (s:=0) (es:=xs) (by omega) fun i hi y hy=>(hg (0 + i) (by omega)).2.2 y (by simpa using hy); simp only [rG]; omega
   · cases h
  · cases hp
inductive VU (P:Program):TypeId→PV→Nat→Prop
 | one {t:TypeId} {p:PV} {N:Nat}:F5 P t [p] N→(∀ fs,P.underlying t≠some (.struct fs))→(∀ n e,P.underlying t≠some (.array n e))→VU P t p N
 | agg {t:TypeId} {cs:List PV} {N:Nat}:F5 P t cs N→((∃ fs,P.underlying t=some (.struct fs))∨∃ n e,P.underlying t=some (.array n e))→VU P t (.agg cs) N
def VW (P:Program):List TypeId→List PV→Nat→Prop
 | [],ps,N=>ps=[]∧N=0
 | t :: ts,ps,N=>∃ p ps' A B,ps=p :: ps'∧N=A + B∧VU P t p A∧VW P ts ps' B
theorem aau {H:Type} {enc:TypeId × Value→H} {sp:Nat→Bool} {held:Bool} {S:List TypeId} (hS:∀ t,S.contains t=true→Gj P S t=true) {r:Reach} {b0:Nat} {t:TypeId} {v:Value} {d:DataW H} {ps:List MemPlace}
  (ht:S.contains t=true) (hv:Value.okWide P w r b0 t v) (h:DataW.Trod enc P w 0 sp held t v d ps):∃ p N,dK w (yU w) p v∧VU P t p N∧N≤rG d:=by
 obtain ⟨fuel,h⟩:=h; obtain ⟨qs,N,hr,hty,hN⟩:=Zz hS fuel t _ _ ht h; have hp:=hS t ht; unfold Gj at hp
 have hone:(∀ fs,P.underlying t≠some (.struct fs))→(∀ n e,P.underlying t≠some (.array n e))→v.cells.toList=[v]→∃ p N,dK w (yU w) p v∧VU P t p N∧N≤rG d:=by
  intro h1 h2 h3; rw [h3] at hr; obtain ⟨p,rfl,h4⟩:=abf hr; exact ⟨p,N,h4,.one hty h1 h2,hN⟩
 unfold Value.okWide at hv; split at hp
 ·
  rename_i hu; rw [hu] at hv; refine hone (by simp [hu]) (by simp [hu]) ?_; cases v <;> simp_all [Cell.okWide,Cell.ok,Value.cells]
 ·
  rename_i hu; rw [hu] at hv; refine hone (by simp [hu]) (by simp [hu]) ?_; cases v <;> simp_all [Cell.okWide,Cell.ok,Value.cells]
 ·
  rename_i hu; rw [hu] at hv; refine hone (by simp [hu]) (by simp [hu]) ?_; cases v <;> simp_all [Cell.okWide,Cell.ok,Value.cells]
 ·
  rename_i hu; rw [hu] at hv; refine hone (by simp [hu]) (by simp [hu]) ?_; cases v <;> simp_all [Cell.okWide,Cell.ok,Value.cells]
 ·
  rename_i hu; rw [hu] at hv; obtain ⟨cs,rfl,_⟩:=hv; exact ⟨.agg qs,N,by simp only [dK]; exact ⟨cs.toList,rfl,hr⟩,.agg hty (.inl ⟨_,hu⟩),hN⟩
 ·
  rename_i hu; rw [hu] at hv; obtain ⟨cs,rfl,_⟩:=hv; exact ⟨.agg qs,N,by simp only [dK]; exact ⟨cs.toList,rfl,hr⟩,.agg hty (.inr ⟨_,_,hu⟩),hN⟩
 · cases hp
theorem Nq {H:Type} {enc:TypeId × Value→H} {sp:Nat→Bool} {held:Bool} {S:List TypeId} (hS:∀ t,S.contains t=true→Gj P S t=true) {r:Reach} {b0:Nat}:
  ∀ (ts:List TypeId) (vs:List Value) (ds:List (DataW H)) (ps:List MemPlace),(∀ t∈ts,S.contains t=true)→(∀ (j:Nat) t v,ts[j]?=some t→vs[j]?=some v→Value.okWide P w r b0 t v)→
  DataW.TrodAll enc P w 0 sp held ts vs ds ps→ds.length=ts.length∧∃ qs N,bD w (yU w) qs vs∧VW P ts qs N∧N≤pE ds
 | [],[],[],_,_,_,_=>⟨rfl,[],0,bD.nil,⟨rfl,rfl⟩,Nat.le_refl _⟩
 | t :: ts,v :: vs,d :: ds,ps,hts,hv,h=>by
  obtain ⟨p,q,h1,h2,_⟩:=h; obtain ⟨p1,N1,k1,k2,k3⟩:=aau hS (hts t List.mem_cons_self) (hv 0 t v rfl rfl) h1; obtain ⟨hl,qs,N2,k4,k5,k6⟩:=Nq hS ts vs ds q (fun x hx=>hts x (List.mem_cons_of_mem _ hx)) (fun j t' v' e1 e2=>hv (j + 1) t' v' (by simpa using e1) (by simpa using e2)) h2; exact ⟨by simp [hl],p1 :: qs,N1 + N2,bD.cons k1 k4,⟨p1,qs,N1,N2,rfl,rfl,k2,k5⟩,by simp only [pE]; omega⟩
 | [],[],_ :: _,_,_,_,h=>h.elim
 | [],_ :: _,_,_,_,_,h=>by cases h
 | _ :: _,[],_,_,_,_,h=>by cases h
 | _ :: _,_ :: _,[],_,_,_,h=>h.elim
theorem Z6 {H:Type} {enc:TypeId × Value→H} {f:Func} {fid:FuncId} {s:ChangeSpec} {S:List TypeId} {tb:TypeId} (hS:(S.all fun t=>Gj P S t)=true) (hts:∀ t∈f.params.toList,S.contains t=true)
  (hrd:∀ t∈f.params.toList,P.readableRec t=true∧t < P.types.size) (hl:laidOutB P=true) (hres:f.resultTypes=#[tb]) (aht:P.underlying tb=some .bool) (hvars:s.vars=[])
  (hspec:∀ ds:List (DataW H),ds.length=f.params.toList.length→s.fn H ds={results:=[.lit (.bool true)],args:=ds})
  {ds:List (DataW H)} (walk:∀ qs N,VW P f.params.toList qs N→N≤pE ds→AC P fid qs [] fun out _=>out=.ret (.bool true))
  {W:World} {base:Nat} {args:Array Value} {gs:List (DataW H)} {before:List MemPlace} (hval:∀ (j:Nat) t v,f.params[j]?=some t→args[j]?=some v→Value.okWide P W .any base t v)
  (hW:DataW.Whole enc P f.params.toList s.vars false W args.toList ds gs before) (hG:iJ.G W (yU W)):
  Calls P fid args W fun e W'=>∃ v,e=.returned v∧s.post enc P f false true false false W args v W':=by
 have hW':=hW; have hlt:=hW.lt; obtain ⟨p,q,hA,hV,rfl,hfz,hnd⟩:=hW; rw [hvars] at hV
 obtain ⟨rfl,rfl⟩:gs=[]∧q=[]:=by
  cases gs with
  | nil=>exact ⟨rfl,hV⟩
  | cons g gs=>exact hV.elim
 have hS':∀ t,S.contains t=true→Gj P S t=true:=fun t ht=>List.all_eq_true.1 hS t (by simpa using ht); obtain ⟨hdl,qs,N,hr,hty,hN⟩:=Nq hS' f.params.toList args.toList ds p hts (fun j t v e1 e2=>hval j t v (by simpa using e1) (by simpa using e2)) hA; have ahs:Conc W (yU W) []:=⟨fun r hr=>by simp at hr,by simp [lU],fun b _ h=>h,hG⟩; have hcall:=walk qs N hty hN W (yU W) args.toList ahs hr; rw [Array.toArray_toList] at hcall; refine hcall.mono ?_; rintro e W' ⟨out,σ',m',rfl,hout,_,htr⟩; simp only [G_] at hout; obtain ⟨v,rfl,hv⟩:=hout; simp only [dK] at hv; subst hv; have bel:Go.RowKit.Below W.heap.size W W':=⟨htr.os,htr.tape,htr.output,htr.size,fun k hk=>(htr.keep k hk (by simp [lU])).1⟩; refine ⟨_,rfl,ds,[],_,[],p,[],hW',?_,?_,?_,bel.frame _,fun h=>by cases h⟩
 ·
  rw [List.append_nil,hspec ds hdl,hres]; exact ⟨[],[],⟨1,by simp [DataW.trod,aht,Value.cells]⟩,rfl,rfl⟩
 ·
  rw [List.append_nil,hspec ds hdl]; exact La hl bel _ _ _ _ hrd hA fun x hx=>hlt x (List.mem_append_left _ hx)
 ·
  rw [List.append_nil,hspec ds hdl,hvars]; rfl
theorem F5.adn {t:TypeId} {k:IntKind} {c:List PV} {N:Nat} (h:F5 P t c N) (hu:P.underlying t=some (.int k)):∃ n,c=[.int k n]∧(Lit.int k n).wf=true∧N=1:=by
 cases h with
 | int hu' hw=>rw [hu] at hu'; cases hu'; exact ⟨_,rfl,hw,rfl⟩
 | _ hu'=>rw [hu] at hu'; cases hu'
theorem F5.Zl {t:TypeId} {c:List PV} {N:Nat} (h:F5 P t c N) (hu:P.underlying t=some .bool):∃ b,c=[.bool b]∧N=1:=by
 cases h with
 | bool hu'=>exact ⟨_,rfl,rfl⟩
 | _ hu'=>rw [hu] at hu'; cases hu'
theorem F5.ac9 {t:TypeId} {c:List PV} {N:Nat} (h:F5 P t c N) (hu:P.underlying t=some .string):∃ s,c=[.str s]∧N=s.length + 1:=by
 cases h with
 | str hu'=>exact ⟨_,rfl,rfl⟩
 | _ hu'=>rw [hu] at hu'; cases hu'
theorem F5.Qz {t e:TypeId} {c:List PV} {N:Nat} (h:F5 P t c N) (hu:P.underlying t=some (.slice e)):∃ l:List (List PV × Nat),c=[.list (l.map (·.1))]∧N=(l.map (·.2)).sum + 1∧∀ x∈l,F5 P e x.1 x.2:=by
 cases h with
 | slice hu' h'=>rw [hu] at hu'; cases hu'; exact ⟨_,rfl,rfl,h'⟩
 | _ hu'=>rw [hu] at hu'; cases hu'
theorem F5.YN {t:TypeId} {fs:Array Field} {c:List PV} {N:Nat} (h:F5 P t c N) (hu:P.underlying t=some (.struct fs)):∃ ps:List (List PV × Nat),c=(ps.map (·.1)).flatten∧N=(ps.map (·.2)).sum + 1∧ps.length=fs.toList.length∧∀ x∈fs.toList.zip ps,F5 P x.1.type x.2.1 x.2.2:=by
 cases h with
 | struct hu' h1 h2=>rw [hu] at hu'; cases hu'; exact ⟨_,rfl,rfl,h1,h2⟩
 | _ hu'=>rw [hu] at hu'; cases hu'
theorem VU.ZX {t:TypeId} {p:PV} {N:Nat} (h:VU P t p N) (h1:∀ fs,P.underlying t≠some (.struct fs)) (h2:∀ n e,P.underlying t≠some (.array n e)):F5 P t [p] N:=by
 cases h with
 | one h _ _=>exact h
 | agg h hor=>rcases hor with ⟨fs,hu⟩ | ⟨n,e,hu⟩; exact absurd hu (h1 _); exact absurd hu (h2 _ _)
theorem VU.ahM {t:TypeId} {p:PV} {N:Nat} (h:VU P t p N) (hu:∃ fs,P.underlying t=some (.struct fs)):∃ cs,p=.agg cs∧F5 P t cs N:=by
 cases h with
 | one _ h1 _=>obtain ⟨fs,hu⟩:=hu; exact absurd hu (h1 _)
 | agg h _=>exact ⟨_,rfl,h⟩
theorem abT :∀ {l:List (List PV × Nat)} {x:List PV × Nat},x∈l→x.2≤(l.map (·.2)).sum
 | [],x,h=>by cases h
 | y :: l,x,h=>by
  simp only [List.map_cons,List.sum_cons]; rcases List.mem_cons.1 h with rfl | h
  · omega
  · have:=abT h; omega
theorem Ri {α:Type} {f:α→List PV} {μ:α→Nat}:∀ {l:List (List PV × Nat)},(∀ x∈l,∃ a,x.1=f a∧μ a≤x.2)→∃ ET:List α,l.map (·.1)=ET.map f∧(ET.map μ).sum≤(l.map (·.2)).sum
 | [],_=>⟨[],rfl,Nat.le_refl _⟩
 | x :: l,h=>by
  obtain ⟨a,h1,h2⟩:=h x List.mem_cons_self; obtain ⟨ET,h3,h4⟩:=Ri fun y hy=>h y (List.mem_cons_of_mem _ hy); exact ⟨a :: ET,by simp [h1,h3],by simp only [List.map_cons,List.sum_cons]; omega⟩
end
end Go.Abs
namespace Go.Abs
variable [iJ]
open Go Go.Ft
section
variable {P : Program} {o : Oper} {ρ : Operand → PV} {σ : List bf} {R S : PV → List bf → Prop}
def concrete (P:Program) (t:TypeId):Bool:=
 match P.underlying t with
 | some (.interface _)=>false
 | some _=>true
 | none=>false
theorem Wv {t:TypeId} (h:concrete P t=true) (v:Value) (w:World):(Instr.makeInterface t v).run P w=.ok (.iface t v) w:=by
 unfold concrete at h; split at h
 · cases h
 ·
  rename_i d hd e; simp only [Instr.makeInterface,Sem.run_bind,run_underlying e,Result.andThen_ok]; cases d <;> simp_all
 · cases h
theorem AO.Y3 {t:TypeId} {x:Operand} {p:PV} (ho:o.op=.makeInterface t x) (hu:concrete P t=true) (hx:(ρ x).force=some p) (hR:R (.iface t p) σ):AO P o ρ σ R S:=by
 have hx:=PV.force_eq hx; refine AO.of_same hR fun w m ev hr hc=>?_; have h:=hr x (by simp [ho,Op.operands]); rw [hx] at h; refine ⟨.iface t (ev x),?_,?_⟩
 · simp only [execOp,ho,Sem.run_bind,Wv hu,Result.andThen_ok,Sem.run_pure]
 · simp only [dK]; exact ⟨_,rfl,h⟩
theorem AO.abI {x:Operand} {t:TypeId} {p:PV} (ho:o.op=.panic x) (hx:ρ x=.iface t p) (hS:S (.iface t p) σ):AO P o ρ σ R S:=by
 intro w m a K QC hr hc _ hP; have h:=hr x (by simp [ho,Op.operands]); rw [hx] at h; have h':=h; simp only [dK] at h; obtain ⟨v,hv,hp⟩:=h; unfold Oper.wp
 have hrun:(execOp a.eval o).run P w=.halt (.panic (.iface t v)) w:=by
  simp only [execOp,ho,hv,Sem.run_bind]; rw [run_panic_iface]; rfl
 rw [hrun]; rw [hv] at h'; exact hP _ σ _ w m hS h' hc (Trans.refl ..)
theorem AO.eqNil {op:BinOp} {t yt:TypeId} {x:Operand} {e:Option TypeId} {b:Bool} (ho:o.op=.binOp op t x (.const .nilIface) yt) (hu:P.underlying t=some (.interface (P.methodsAt t)))
  (hx:ρ x=.err e) (hb:(match op with | .eql=>some e.isNone | .neq=>some e.isSome | _=>none)=some b) (hR:R (.bool b) σ):AO P o ρ σ R S:=by
 intro w m a K QC hr hc hK _; have h:=hr x (by simp [ho,Op.operands]); rw [hx] at h
 have hrun:(execOp a.eval o).run P w=.ok (.value (.bool b)) w:=by
  have hev:a.eval (.const .nilIface)=.nilIface:=rfl; cases e with
  | none=>
   simp only [dK] at h; cases op <;> simp only [reduceCtorEq,Option.some.injEq] at hb <;> subst hb
   · simp only [execOp,ho,h,hev,Sem.run_bind,eqGuard_nil_constR,Sem.run_pure,Result.andThen_ok,run_eql_nil_nil w t hu]; rfl
   · simp only [execOp,ho,h,hev,Sem.run_bind,eqGuard_nil_constR,Sem.run_pure,Result.andThen_ok,run_neq_nil_nil w t hu]; rfl
  | some u=>
   simp only [dK] at h; obtain ⟨z,h⟩:=h; cases op <;> simp only [reduceCtorEq,Option.some.injEq] at hb <;> subst hb
   ·
    simp only [execOp,ho,h,hev,Sem.run_bind]; rw [show eqGuard .eql t x (.const .nilIface) (.iface u z) .nilIface=pure () from rfl]; simp only [Sem.run_pure,Result.andThen_ok,run_eql_held_nil w t u z hu]; rfl
   ·
    simp only [execOp,ho,h,hev,Sem.run_bind]; rw [show eqGuard .neq t x (.const .nilIface) (.iface u z) .nilIface=pure () from rfl]; simp only [Sem.run_pure,Result.andThen_ok,run_neq_held_nil w t u z hu]; rfl
 unfold Oper.wp; rw [hrun]; exact hK _ σ _ w m hR (by simp only [dK]) hc (Trans.refl ..)
theorem AO.X3 {src dst e:TypeId} {x:Operand} {s r:List UInt8} {u:TypeDesc} (h:Ft.app [] s=some r) (ho:o.op=.convert src dst x) (hs:P.underlying src=some u) (hd:P.underlying dst=some (.slice e)) (he:P.underlying e=some (.int .u8))
  (hx:ρ x=.str s) (hR:∀ v,R (.own v (r.map jK)) (.row v (r.map jK).length 1 e :: σ)):AO P o ρ σ R S:=by
 obtain ⟨h1,h2⟩:=Ft.kF h; rw [List.nil_append] at h2; subst h2; refine AO.SX ho hs hd he hx ?_ (fun v=>by have:=hR v; rw [List.length_map] at this; exact this); have:Ik≤maxLen:=by decide
 simp only [List.length_nil,Nat.zero_add] at h1; exact Nat.le_trans h1 this
end
end Go.Abs
namespace Go.Abs
variable [iJ]
open Go Go.Ft
def nC :Nat→List (Str × Int)→List MapEntry
 | _,[]=>[]
 | i,(k,v) :: r=>{key:=.string ⟨k.toArray⟩,val:=.int .i64 v,born:=i} :: nC (i + 1) r
def xE (l:List (Str × Int)):Obj:=.map (nC 0 l).toArray l.length
theorem Yr (a b:List UInt8):((⟨a.toArray⟩:ByteArray) == ⟨b.toArray⟩)=(a == b):=by
 show (a.toArray == b.toArray)=(a == b); simp
theorem Od (k:Str):∀ (l:List (Str × Int)) (i j:Nat),∃ r,Instr.findNow .string (.string ⟨k.toArray⟩) (nC i l) j=some r∧
  ((r=none∧wQ l k=0∧∀ n,nC i (xQ l k n)=nC i l ++ [{key:=.string ⟨k.toArray⟩,val:=.int .i64 n,born:=i + l.length}]∧(xQ l k n).length=l.length + 1)∨
   ∃ q v,r=some (j + q,.int .i64 v)∧wQ l k=v∧(∃ e,(nC i l)[q]?=some e∧e.key=.string ⟨k.toArray⟩)∧
    ∀ n,nC i (xQ l k n)=(nC i l).modify q (fun e=>{e with key:=.string ⟨k.toArray⟩,val:=.int .i64 n})∧(xQ l k n).length=l.length)
 | [],i,j=>⟨none,rfl,.inl ⟨rfl,rfl,fun n=>⟨by simp [xQ,nC],rfl⟩⟩⟩
 | (k',v) :: l,i,j=>by
  simp only [nC,Instr.findNow,Instr.sameNow,wQ,xQ]; by_cases e:k=k'
  ·
   subst e; refine ⟨some (j,.int .i64 v),by rw [Yr,beq_self_eq_true],.inr ⟨0,v,rfl,by simp,⟨_,rfl,rfl⟩,fun n=>⟨by simp [nC],by simp⟩⟩⟩
  ·
   have hb:(k == k')=false:=beq_eq_false_iff_ne.2 e; have hb2:((⟨k.toArray⟩:ByteArray) == ⟨k'.toArray⟩)=false:=(Yr k k').trans hb; rw [hb2,hb]; obtain ⟨r,h1,h2⟩:=Od k l (i + 1) (j + 1); refine ⟨r,h1,?_⟩; rcases h2 with ⟨h3,h4,h5⟩ | ⟨q,u,h3,h4,h5,h6⟩
   ·
    refine .inl ⟨h3,by simpa using h4,fun n=>⟨?_,?_⟩⟩
    ·
     simp only [Bool.false_eq_true,if_false,nC,(h5 n).1,List.cons_append,List.length_cons]; rw [show i + 1 + l.length=i + (l.length + 1) from by omega]
    · simp [(h5 n).2]
   ·
    refine .inr ⟨q + 1,u,by rw [h3]; congr 2; omega,by simpa using h4,by simpa using h5,fun n=>⟨?_,?_⟩⟩
    · simp only [Bool.false_eq_true,if_false,nC,(h6 n).1,List.modify_succ_cons]
    · simp [(h6 n).2]
section
variable {P : Program} {o : Oper} {ρ : Operand → PV} {σ : List bf} {R S : PV → List bf → Prop}
theorem AO.Rc {t:TypeId} (ho:o.op=.makeMap t none) (hR:∀ b,R (.val (.map (some b))) (.obj b (xE []) :: σ)):AO P o ρ σ R S:=by
 refine AO.of_run' fun w m ev hr hc=>?_; have:=Kv hc (xE []); refine ⟨_,_,.map (some w.heap.size),_,_,hR w.heap.size,?_,by simp [dK],this,kX hc _ _ fun b hb=>?_⟩
 · simp [execOp,ho,Instr.makeMap,go_sem,xE,nC]
 ·
  simp [lU,bf.fp] at hb ⊢; rcases hb with hb | hb
  · exact .inr hb
  · exact .inl hb
theorem FD {t:TypeId} (h:P.underlying t=some .string) (b:Bool) (n:Nat) (k:ByteArray) (w:World):(Instr.checkKey b (n + 1) t (.string k)).run P w=.ok () w:=by
 simp [Instr.checkKey,run_underlying h]
theorem run_getObj_map {w:World} {b c:Nat} {es:Array MapEntry} (h:w.heap[b]?=some (.map es c)):(getObj b).run P w=.ok (.map es c) w:=by simp [getObj,Sem.run,h]
theorem run_setObj_map {w:World} {b c:Nat} {es:Array MapEntry} (h:w.heap[b]?=some (.map es c)) (o:Obj):(setObj b o).run P w=.ok () {w with heap:=w.heap.setIfInBounds b o}:=by simp [setObj,Sem.run,h]
theorem AO.Kg {t kt et:TypeId} {x y:Operand} {l:List (Str × Int)} {k:Str} {b i:Nat} (ho:o.op=.lookup t x y false) (hi:σ[i]?=some (.obj b (xE l))) (hx:ρ x=.val (.map (some b))) (hy:ρ y=.str k)
  (ht:P.underlying t=some (.map kt et)) (hk:P.underlying kt=some .string) (hz:(P.info? et).map (·.zero)=some (some (.int .i64 0))) (hR:R (.int .i64 (wQ l k)) σ):AO P o ρ σ R S:=by
 refine AO.of_same hR fun w m ev hr hc=>?_; have h1:=hr x (by simp [ho,Op.operands]); have h2:=hr y (by simp [ho,Op.operands]); rw [hx] at h1; rw [hy] at h2; simp only [dK] at h1 h2; obtain ⟨hb,hm⟩:=hc.each _ (List.mem_of_getElem? hi); obtain ⟨r,f1,f2⟩:=Od k l 0 0
 have hf:(Instr.findKey kt (.string ⟨k.toArray⟩) (nC 0 l)).run P w=.ok r w:=by
  simp [Instr.findKey,run_underlying hk,f1]
 have z1:(zeroValue et).run P w=.ok (.int .i64 0) w:=by
  cases hi:P.info? et with
  | none=>rw [hi] at hz; cases hz
  | some inf=>
   rw [hi] at hz; simp only [Option.map_some,Option.some.injEq] at hz; simp [zeroValue,run_typeInfo hi,hz]
 refine ⟨.int .i64 (wQ l k),?_,by simp only [dK]⟩; have hg:(getObj b).run P w=.ok (.map (nC 0 l).toArray l.length) w:=run_getObj_map hb; simp only [execOp,ho,Instr.lookup,h1,h2,Sem.run_bind,run_underlying ht,Result.andThen_ok,hg,Sem.run_pure,FD hk,List.toList_toArray,hf]; rcases f2 with ⟨f3,f4,_⟩ | ⟨q,v,f3,f4,_⟩
 ·
  subst f3; simp [z1,f4]
 ·
  subst f3; simp [f4]
theorem AO.LJ {t kt et:TypeId} {x y z:Operand} {l:List (Str × Int)} {k:Str} {n:Int} {b i:Nat} (ho:o.op=.mapUpdate t x y z) (hi:σ[i]?=some (.obj b (xE l))) (hx:ρ x=.val (.map (some b))) (hy:ρ y=.str k) (hv:ρ z=.int .i64 n)
  (ht:P.underlying t=some (.map kt et)) (hk:P.underlying kt=some .string) (hR:R .undef (σ.set i (.obj b (xE (xQ l k n))))):AO P o ρ σ R S:=by
 intro w m a K QC hr hc hK _; have h1:=hr x (by simp [ho,Op.operands]); have h2:=hr y (by simp [ho,Op.operands]); have h3:=hr z (by simp [ho,Op.operands]); rw [hx] at h1; rw [hy] at h2; rw [hv] at h3; simp only [dK] at h1 h2 h3; obtain ⟨hb,hm⟩:=hc.each _ (List.mem_of_getElem? hi)
 have hblt:b < w.heap.size:=by
  rcases Nat.lt_or_ge b w.heap.size with h | h
  · exact h
  · simp [Array.getElem?_eq_none h] at hb
 let w':World:={w with heap:=w.heap.setIfInBounds b (xE (xQ l k n))}; have hb':w'.heap[b]?=some (xE (xQ l k n)):=by simp [w',hblt]
 obtain ⟨k1,k2⟩:=Conc.write (w':=w') (r':=.obj b (xE (xQ l k n))) hc hi rfl rfl hm ⟨hb',hm⟩ ⟨rfl,rfl,rfl⟩ (by simp [w']) (fun j hj=>by simp [w',Array.getElem?_setIfInBounds_ne (Ne.symm hj)]); obtain ⟨r,f1,f2⟩:=Od k l 0 0
 have hf:(Instr.findKey kt (.string ⟨k.toArray⟩) (nC 0 l)).run P w=.ok r w:=by
  simp [Instr.findKey,run_underlying hk,f1]
 have hg:(getObj b).run P w=.ok (.map (nC 0 l).toArray l.length) w:=run_getObj_map hb; have hst:=run_setObj_map (P:=P) (w:=w) (b:=b) (c:=l.length) (es:=(nC 0 l).toArray) hb
 have hrun:(execOp a.eval o).run P w=.ok .skip w':=by
  simp only [execOp,ho,Instr.mapUpdate,h1,h2,h3,Sem.run_bind,run_underlying ht,Result.andThen_ok,hg,FD hk,List.toList_toArray,hf]; rcases f2 with ⟨f3,_,f5⟩ | ⟨q,v,f3,_,⟨e,g1,g2⟩,f6⟩
  ·
   subst f3
   have e1:xE (xQ l k n)=.map ((nC 0 l).toArray.push {key:=.string ⟨k.toArray⟩,val:=.int .i64 n,born:=l.length}) (l.length + 1):=by
    unfold xE; rw [(f5 n).1,(f5 n).2]; simp
   simp [hst,w',e1]
  ·
   subst f3
   have e1:xE (xQ l k n)=.map ((nC 0 l).toArray.modify q (fun e=>{e with key:=.string ⟨k.toArray⟩,val:=.int .i64 n})) l.length:=by
    unfold xE; rw [(f6 n).1,(f6 n).2]; simp
   have g3:((nC 0 l).toArray[q]?)=some e:=by simpa using g1
   simp [Instr.keyThatStays,Instr.sameBits,Yr,g1,g2,hst,w',e1]
 unfold Oper.wp; rw [hrun]; exact hK _ _ _ _ _ hR trivial k1 k2
theorem AO.Rp {α:Type} {t n b off:Nat} {x i:Operand} {j:Int} {L:List α} {c:α} (h:idx L j=some c) (ho:o.op=.indexAddr t x i) (ha:Bq P t=some (n,1)) (hx:ρ x=.val (.pointer (some ⟨b,off,none⟩))) (hi:ρ i=.int .i64 j)
  (hL:L.length=n) (hR:R (.val (.pointer (some ⟨b,off + j.toNat,none⟩))) σ):AO P o ρ σ R S:=by
 obtain ⟨h0,h1⟩:=vX h
 have h2:j.toNat < n:=by
  rcases Nat.lt_or_ge j.toNat L.length with h3 | h3
  · omega
  · rw [List.getElem?_eq_none h3] at h1; cases h1
 exact AO.Tf ho ha hx hi h0 h2 (by rw [Nat.mul_one]; exact hR)
theorem AO.Z4 {α:Type} {t:TypeId} {x:Operand} {cs:List PV} {b i k:Nat} {j:Int} {L:List α} {c:α} (f:α→PV) (h:idx L j=some c) (ho:o.op=.load t x) (hx:ρ x=.val (.pointer (some ⟨b,0 + j.toNat,none⟩))) (hi:σ[i]?=some (bf.box b cs))
  (ht:iD P t=some (false,k)) (hcs:cs=L.map f) (hR:R (f c) σ):AO P o ρ σ R S:=by
 obtain ⟨h0,h1⟩:=vX h; refine AO.Yg ho hx hi ht ?_ hR; rw [hcs,Nat.zero_add,List.getElem?_map,h1]; rfl
end
end Go.Abs
namespace Go.Abs
variable [iJ]
open Go Go.Ft
section
variable {P : Program}
theorem Qi {Q:Exit→Act→List Frame→World→Prop} {id n:Nat} {ops:Array Oper} {o:Oper} {v:Value} {a:Act} {cs cs':List Frame} {w:World}
  (hn:ops.size=n + 1) (h0:ops[0]?=some o) (hg:o.guard=none) (hop:(execOp a.eval o).run P w=.ok .recover w)
  (hrec:recoverD cs=some (v,cs')∨(recoverD cs=none∧v=.nilIface∧cs'=cs))
  (h:wpOps P ops (fun e a' w'=>Q e a' cs' w') (List.range' 1 n) (a.put o.dst v) w):(Code.region id ops false).wpS P Q a cs w:=by
 intro b k hb hro; have hw:Region.wanted o (yielded ops a.tmps)=true:=by simp [Region.wanted,hg]
 have hr:List.range ops.size=0 :: List.range' 1 n:=by rw [hn,List.range_eq_range',List.range'_succ]
 have hst:=stepG_op (P:=P) (b:=b) (a:=a) (k:=k) (cs:=cs) (w:=w) (rest:=List.range' 1 n) h0 hw
 have hfin:∀ v,(b.at a (.inRegion ops (0 :: List.range' 1 n) :: k)).finish v=b.at (a.put o.dst v) (.inRegion ops (List.range' 1 n) :: k):=by
  intro v; rw [Frame.finish_at,h0]; rfl
 have hk:(b.at a (.inRegion ops (0 :: List.range' 1 n) :: k)).kind=.deferred:=hb; have htr:=tryRecover_deferred hk cs; obtain ⟨e,a',w',hq,harr⟩:=wp_ops (P:=P) (Q:=fun e a' w'=>Q e a' cs' w') _ _ _ h b k cs'; refine ⟨e,a',cs',w',hq,.of_steps (.one step_region) (.of_steps (.one ?_) harr)⟩; rw [hr]; refine step_lone_go ?_; rw [hst,←hfin]; simp only [Frame.at] at htr ⊢; rcases hrec with hrec | ⟨hrec,rfl,rfl⟩
 · simp [stepG.apply,hop,htr,hrec]
 · simp [stepG.apply,hop,htr,hrec]
def MI :Option Value→FrameMode
 | none=>.returning
 | some v=>.panicking [{v,recovered:=false}]
def DI :Option Value→FrameMode
 | none=>.returning
 | some v=>.panicking [{v,recovered:=true}]
def isRecover (o:Oper):Bool:=
 match o.op with
 | .call c=>(match c.callee with | .builtin .recover=>c.args.isEmpty | _=>false)
 | _=>false
theorem Wt {o:Oper} (h:isRecover o=true) (ev:Operand→Value) (w:World):(execOp ev o).run P w=.ok .recover w:=by
 unfold isRecover at h; split at h
 ·
  rename_i c hc; split at h
  ·
   rename_i kZ; simp [execOp,hc,resolve,kZ,invoke,builtin]
  · cases h
 · cases h
def QD (R:List bf→Prop):Post
 | .normal,_,s,d | .ret,_,s,d=>d=[]∧R s
 | _,_,_,_=>False
theorem CD.rec {g:FuncId} {fn:Func} {args:List PV} {σ:List bf} {id nt t:Nat} {ops:List Oper} {o:Oper} {X:Code} {env:Env} (ts:List Nat) {p:PV} {R:List bf→Prop}
  (hf:P.funcs[g]?=some fn) (hb:fn.body=some (.seq (.region id (o :: ops).toArray false) X)) (hn:fn.ntmps=nt) (hl:Nat.ble args.length nt=true) (hrs:fn.results.toList=[]) (NY:settle ts (Cr 0 args)=some env)
  (hg:o.guard=none) (ho:isRecover o=true) (hd:o.dst=some t) (ht:Nat.blt t nt=true)
  (h:AR P nt (o :: ops).toArray ops ((t,p) :: env) σ [] (AX.then (fun e s d=>AW P nt X e s d (QD R)) (QD R)))
  (w:World) (m:ko) (vs:List Value) (q:Option Value) (hq:match q with | none=>p=.val .nilIface | some v=>dK w m p v) (hc:Conc w m σ) (hv:bD w m args vs):
  CallsD P g vs.toArray (MI q) w fun e u' w'=>e=.returned (.tuple #[])∧u'=DI q∧∃ σ' m',R σ'∧Conc w' m' σ'∧Trans w m σ w' m' σ':=by
 have hl:=Nat.le_of_ble_eq_true hl; have ht:=Nat.le_of_ble_eq_true ht; have hvl:=hv.length_eq; refine callsD_of_wpS hf hb fun c₀ cs hu=>wpS_seq ?_
 have hrec:∃ v cs',(recoverD (c₀ :: cs)=some (v,cs')∨(recoverD (c₀ :: cs)=none∧v=.nilIface∧cs'=c₀ :: cs))∧dK w m p v∧cs'={c₀ with mode:=DI q} :: cs:=by
  cases q with
  | none=>
   refine ⟨.nilIface,c₀ :: cs,.inr ⟨by simp [recoverD,hu,MI],rfl,rfl⟩,?_,?_⟩
   · simp only at hq; subst hq; simp only [dK]
   · simp only [DI]; rw [show FrameMode.returning=c₀.mode from hu.symm]
  | some v=>exact ⟨v,_,.inl (by simp [recoverD,hu,MI]; rfl),hq,rfl⟩
 obtain ⟨v,cs',h1,h2,h3⟩:=hrec; refine Qi (o:=o) (n:=ops.length) (by simp) (by simp) hg (Wt ho _ _) h1 ?_
 have uI:uZ w m nt ((t,p) :: env) σ [] (({tmps:=vs.toArray ++ Array.replicate (fn.ntmps - vs.toArray.size) Go.undef,defers:=[]}:Act).put o.dst v):=by
  have he:=Dh (List.replicate (fn.ntmps - vs.toArray.size) Go.undef) [] hv; have e0:vs.toArray ++ Array.replicate (fn.ntmps - vs.toArray.size) Go.undef=([] ++ vs ++ List.replicate (fn.ntmps - vs.toArray.size) Go.undef:List Value).toArray:=by simp
  rw [←e0] at he; have he:=Eu.settle NY he; have h0:uZ w m nt env σ [] ({tmps:=vs.toArray ++ Array.replicate (fn.ntmps - vs.toArray.size) Go.undef,defers:=[]}:Act):=⟨by simp [hvl,hn]; omega,rfl,he,hc⟩; exact uZ.put h0 hd ht h2 hc (Le.refl _ _)
 have key:∀ QQ a w,wpList P (o :: ops).toArray QQ ops a w→wpOps P (o :: ops).toArray QQ (List.range' 1 ops.length) a w:=fun QQ a w h=>by
  rw [wpOps_eq_wpList ops 1 (fun j=>by simp [Nat.add_comm 1 j])]; exact h
 refine key _ _ _ (h w m _ _ uI ?_)
 have hfin:∀ (e:Env) (s:List bf) (d:List Deferred) (a':Act) (w':World) (m':ko),uZ w' m' nt e s d a'→Trans w m σ w' m' s→d=[]→R s→
   a'.defers=[]∧∃ u',cs'={c₀ with mode:=u'} :: cs∧∃ z,(results fn a'.tmps).run P w'=.ok z w'∧Ending.returned z=.returned (.tuple #[])∧u'=DI q∧∃ σ' m',R σ'∧Conc w' m' σ'∧Trans w m σ w' m' σ':=by
  intro e s d a' w' m' hs ht hd hR; refine ⟨by rw [hs.ds,hd],DI q,h3,.tuple #[],?_,rfl,rfl,s,m',hR,hs.lK,ht⟩; unfold results; rw [Array.mapM_eq_mapM_toList,hrs]; simp
 intro x ex e1 s1 d1 a1 w1 m1 hq1 hx hs1 ht1; cases x with
 | normal=>
  cases hx; refine wpS_of_wp (hq1 w1 m1 a1 _ hs1 ?_); intro x ex e2 s2 d2 a2 w2 m2 hq2 hx hs2 ht2; cases x with
  | normal=>cases hx; exact hfin e2 s2 d2 a2 w2 m2 hs2 (ht1.trans ht2) hq2.1 hq2.2
  | ret=>cases hx; exact hfin e2 s2 d2 a2 w2 m2 hs2 (ht1.trans ht2) hq2.1 hq2.2
  | exit id=>exact hq2.elim
  | panic p=>exact hq2.elim
 | ret=>cases hx; exact hfin e1 s1 d1 a1 w1 m1 hs1 ht1 hq1.1 hq1.2
 | exit id=>exact hq1.elim
 | panic p=>exact hq1.elim
end
end Go.Abs
namespace Go.Abs
variable [iJ]
open Go
def hide (D:Nat→Bool):Env→Env
 | []=>[]
 | (t,p) :: r=>bif D t then hide D r else (t,p) :: hide D r
theorem wm (D:Nat→Bool) (t:Nat):∀ E:Env,(hide D E).get t=if D t=true then .undef else E.get t
 | []=>by simp [hide,Env.get]
 | (u,p) :: r=>by
  unfold hide; cases hu:D u with
  | true=>
   simp only [cond_true,Env.get]; rw [wm D t r]; by_cases e:u=t
   · subst e; simp [hu]
   · rw [uo e]; rfl
  | false=>
   simp only [cond_false,Env.get]; by_cases e:u=t
   · subst e; simp [hu]
   · rw [uo e]; simp only [cond_false]; exact wm D t r
def readsOf (ops:List Oper) (o:Oper):List Nat:=
 (o.op.operands.toList.filterMap fun | .tmp t=>some t | _=>none) ++
 (match o.guard with
  | some (g,_)=>(match ops[g]? with | some og=>(match og.dst with | some t=>[t] | none=>[]) | none=>[])
  | none=>[])
def Aa (L:List Oper) (i:Nat):List Nat:=match L[i]? with | some o=>UD L i (jO o) | none=>[]
def RF (o:Oper):List Nat:=match o.dst with | some t=>[t] | none=>[]
def KD (l:List Nat) (x:Nat):Bool:=l.any fun y=>Nat.beq y x
def E_ (L:List Oper) (k k2:Nat):Bool:=
 (List.range L.length).all fun i=>match L[i]? with
  | none=>true
  | some o=>((jO o).all fun x=>Nat.blt x i) &&
   if Nat.blt i k then
    ((List.range k2).all fun j=>Nat.beq i j || (match L[j]? with
     | none=>true
     | some oj=>match oj.dst with
      | none=>true
      | some t=>!KD (RF o) t && (!KD (readsOf L o) t || (Nat.blt j k && KD (jO o) j)))) &&
    (match o.dst with | some t=>!KD (readsOf L o) t | none=>true)
   else if Nat.blt i k2 then (List.range k).all fun j=>(match L[j]? with
     | none=>true
     | some oj=>match oj.dst with
      | none=>true
      | some t=>!KD (readsOf L o) t || KD (Aa L i) j)
   else if Nat.beq i k2 then (List.range k2).all fun j=>KD (Aa L k2) j
   else (jO o).any fun x=>Nat.beq (x + 1) i
structure VX (L:List Oper) (k k2:Nat):Prop where
 before:∀ i o,L[i]?=some o→∀ j∈jO o,j < i
 apart:∀ i o j oj t,i < k→L[i]?=some o→j < k2→L[j]?=some oj→i≠j→oj.dst=some t→o.dst≠some t∧(t∈readsOf L o→j < k∧j∈jO o)
 self:∀ i o t,i < k→L[i]?=some o→o.dst=some t→t∉readsOf L o
 mid:∀ i o j oj t,k≤i→i < k2→L[i]?=some o→j < k→L[j]?=some oj→oj.dst=some t→t∈readsOf L o→j∈Aa L i
 adP:∀ o,L[k2]?=some o→∀ j,j < k2→j∈Aa L k2
 tails:∀ i o,k2 < i→L[i]?=some o→∃ j∈jO o,j + 1=i
theorem Ay {L:List Oper} {k k2:Nat} (hkk:k≤k2) (h:E_ L k k2=true):VX L k k2:=by
 unfold E_ at h; rw [List.all_eq_true] at h
 have h1:∀ i o,L[i]?=some o→((jO o).all fun x=>Nat.blt x i)=true∧_:=fun i o ho=>by
  have hi:i < L.length:=by
   rcases Nat.lt_or_ge i L.length with h' | h'
   · exact h'
   · simp [List.getElem?_eq_none h'] at ho
  have:=h i (by simpa using hi); rw [ho] at this; simpa only [Bool.and_eq_true] using this
 have hn:∀ i k,¬ i < k→¬ Nat.blt i k=true:=fun i k h hh=>h (pK.1 hh); refine ⟨fun i o ho j hj=>?_,fun i o j oj t hi ho hj hoj hne ht=>?_,fun i o t hi ho ht=>?_,fun i o j oj t hk hi ho hj hoj ht hm=>?_,fun o ho j hj=>?_,fun i o hi ho=>?_⟩
 ·
  have:=(h1 i o ho).1; rw [List.all_eq_true] at this; exact pK.1 (this j hj)
 ·
  have:=(h1 i o ho).2; rw [if_pos (pK.2 hi),Bool.and_eq_true,List.all_eq_true] at this; have:=this.1 j (by simpa using hj); rw [uo hne,Bool.false_or,hoj] at this; simp only [ht,Bool.and_eq_true,Bool.or_eq_true,Bool.not_eq_true'] at this; obtain ⟨t1,t2⟩:=this; refine ⟨fun e=>?_,fun hm=>?_⟩
  ·
   unfold RF at t1; rw [e] at t1; simp [KD] at t1
  ·
   rcases t2 with t2 | ⟨t2,t3⟩
   ·
    unfold KD at t2; rw [any_beq.2 hm] at t2; cases t2
   · exact ⟨pK.1 t2,any_beq.1 t3⟩
 ·
  have:=(h1 i o ho).2; rw [if_pos (pK.2 hi),Bool.and_eq_true] at this; have:=this.2; simp only [ht,Bool.not_eq_true'] at this; intro hm; unfold KD at this; rw [any_beq.2 hm] at this; cases this
 ·
  have:=(h1 i o ho).2; rw [if_neg (hn _ _ (by omega)),if_pos (pK.2 hi),List.all_eq_true] at this; have:=this j (by simpa using hj); rw [hoj] at this; simp only [ht,Bool.or_eq_true,Bool.not_eq_true'] at this; rcases this with t2 | t2
  ·
   unfold KD at t2; rw [any_beq.2 hm] at t2; cases t2
  · exact any_beq.1 t2
 ·
  have:=(h1 k2 o ho).2; rw [if_neg (hn _ _ (by omega)),if_neg (hn _ _ (by omega)),if_pos (Nat.beq_refl k2),List.all_eq_true] at this; exact any_beq.1 (this j (by simpa using hj))
 ·
  have:=(h1 i o ho).2; rw [if_neg (hn _ _ (by omega)),if_neg (hn _ _ (by omega)),if_neg (fun hh=>by have:=Nat.eq_of_beq_eq_true hh; omega),List.any_eq_true] at this; obtain ⟨x,hx,hxi⟩:=this; exact ⟨x,hx,Nat.eq_of_beq_eq_true hxi⟩
theorem AO.frameT {P:Program} {o:Oper} {ρ:Operand→PV} {σ τ:List bf} {R S:PV→List bf→Prop} (h:AO P o ρ σ R S):AO P o ρ (σ ++ τ) (fun p s=>∃ s0,s=s0 ++ τ∧R p s0) (fun p s=>∃ s0,s=s0 ++ τ∧S p s0):=by
 intro w m a K QC hr hc hK hS; refine h w m a K QC hr hc.left (fun p σ' v w' m' h1 h2 h3 h4=>?_) (fun p σ' v w' m' h1 h2 h3 h4=>?_)
 ·
  obtain ⟨k1,k2⟩:=Conc.frame hc h3 h4; exact hK p _ v w' m' ⟨σ',rfl,h1⟩ h2 k1 k2
 ·
  obtain ⟨k1,k2⟩:=Conc.frame hc h3 h4; exact hS p _ v w' m' ⟨σ',rfl,h1⟩ h2 k1 k2
theorem AO.Rb {P:Program} {o:Oper} {ρ:Operand→PV} {σ:List bf} {R S R' S':PV→List bf→Prop} (h:AO P o ρ σ R S) (hR:∀ p s,R p s→R' p s) (hS:∀ p s,S p s→S' p s):AO P o ρ σ R' S':=
 fun w m a K QC hr hc h1 h2=>h w m a K QC hr hc (fun p s v w' m' k=>h1 p s v w' m' (hR p s k)) (fun p s v w' m' k=>h2 p s v w' m' (hS p s k))
theorem AO.abH {P:Program} {o:Oper} {ρ:Operand→PV} {σ τ:List bf} {R S:PV→List bf→Prop} (hp:τ.Perm σ) (h:AO P o ρ σ R S):AO P o ρ τ R S:=
 fun w m a K QC hr hc h1 h2=>h w m a K QC hr (hc.perm hp) (fun p s v w' m' k1 k2 k3 k4=>h1 p s v w' m' k1 k2 k3 (k4.perm hp.symm (.refl _))) (fun p s v w' m' k1 k2 k3 k4=>h2 p s v w' m' k1 k2 k3 (k4.perm hp.symm (.refl _)))
theorem Cb.frameT {P:Program} {all:Array Oper} {env:Env} {σ τ:List bf} {o:Oper} {p:PV} (h:Cb P all env σ o p):Cb P all env (σ ++ τ) o p:=by
 have key:∀ o',AF P o' env.ev σ p→AF P o' env.ev (σ ++ τ) p:=fun o' h=>by
  refine AO.Rb (AO.frameT (τ:=τ) h) (fun p' s=>?_) (fun p' s=>?_)
  · rintro ⟨s0,rfl,rfl,rfl⟩; exact ⟨rfl,rfl⟩
  · rintro ⟨s0,rfl,h⟩; exact h
 rcases h with ⟨hg,h⟩ | ⟨j,want,oj,u,h1,h2,h3,h⟩
 · exact .inl ⟨hg,key _ h⟩
 ·
  refine .inr ⟨j,want,oj,u,h1,h2,h3,?_⟩; rcases h with ⟨h5,h⟩ | h
  · exact .inl ⟨h5,key _ h⟩
  · exact .inr h
theorem Cb.VD {P:Program} {all:Array Oper} {env env':Env} {σ:List bf} {o:Oper} {p:PV} {L:List Oper} (hall:all=L.toArray) (h:Cb P all env σ o p) (he:∀ t∈readsOf L o,env'.get t=env.get t):Cb P all env' σ o p:=by
 subst hall
 have hop:∀ x∈o.op.operands,env'.ev x=env.ev x:=fun x hx=>Jo fun t ht=>he t (by
  subst ht; unfold readsOf
  exact List.mem_append.2 (.inl (List.mem_filterMap.2 ⟨.tmp t,by simpa using hx,rfl⟩)))
 rcases h with ⟨hg,h⟩ | ⟨j,want,oj,u,hg,hj,hu,h⟩
 · exact .inl ⟨hg,AO.congr h hop⟩
 ·
  have hu':env'.get u=env.get u:=by
   rw [he u]; unfold readsOf; refine List.mem_append.2 (.inr ?_); rw [hg]; simp only; rw [show L[j]?=some oj from by simpa using hj]; simp [hu]
  refine .inr ⟨j,want,oj,u,hg,hj,hu,?_⟩; rw [hu']; rcases h with ⟨h1,h2⟩ | h
  · exact .inl ⟨h1,AO.congr h2 hop⟩
  · exact .inr h
def I6 (dst:Option Tmp) (p:PV) (e:Env):Env:=match dst with | some t=>(t,p) :: e | none=>e
theorem zV {dst:Option Tmp} {p:PV} {e:Env} {t:Nat} (h:dst≠some t):(I6 dst p e).get t=e.get t:=by
 cases dst with
 | none=>rfl
 | some u=>
  have:u≠t:=fun hh=>h (by rw [hh]); simp only [I6,Env.get,uo this,cond_false]
section
variable {P : Program} {n : Nat} {ds : List Deferred} {L : List Oper} {k k2 : Nat}
theorem YC (k0:Nat) (hk0:∀ i q,k≤i→i < k2→q < k0→q∈Aa L i) (hk:k≤k2) (hk2:k2≤L.length) (ho:VX L k k2) {d:Nat→Nat} (hd:∀ i o,i < k→L[i]?=some o→o.dst=some (d i)∧d i < n) {σ1:List bf} {Q:Post}
  (I:(Nat→Bool)→Env→List bf→Prop) (hI:∀ S S' e σ,(∀ i,k≤i→i < k2→S i=S' i)→I S e σ→I S' e σ)
  (hT:∀ S e σ2 i o,I S e σ2→k≤i→i < k2→S i=false→(∀ j∈jO o,k≤j→S j=true)→L[i]?=some o→o.guard=none∧(∀ t,o.dst=some t→t < n)∧
   AO P o e.ev σ2 (fun p vE=>I (fun j=>if i=j then true else S j) (I6 o.dst p e) vE) (fun p vE=>Q (.panic p) [] (σ1 ++ vE) ds))
  (hend:∀ S e σ2,(∀ i,k≤i→i < k2→S i=true)→I S e σ2→AR P n L.toArray (L.drop k2) e (σ1 ++ σ2) ds Q)
  {QC:Exit→Act→World→Prop}:∀ (fuel:Nat) (listed:Array Bool) (a:Act) (w:World) (m:ko) (E:Env) (σ2:List bf),listed.size=L.length→listed.toList.count false≤fuel→
   (∀ j,k2≤j→j < L.length→listed.getD j true=false)→(∀ i o,L[i]?=some o→listed.getD i true=true→∀ j∈jO o,listed.getD j true=true)→
   (∀ i o,i < k→L[i]?=some o→listed.getD i true=false→Cb P L.toArray E (if i < k0 then σ1 ++ σ2 else σ1) o (E.get (d i)))→I (fun i=>listed.getD i true) E σ2→
   uZ w m n (hide (fun t=>(List.range k).any fun i=>!listed.getD i true && Nat.beq (d i) t) E) (σ1 ++ σ2) ds a→Acc n Q w m (σ1 ++ σ2) QC→wpAny P .any L.toArray QC fuel listed a w:=by
 have hidden:∀ (listed:Array Bool) (t:Nat),((List.range k).any fun i=>!listed.getD i true && Nat.beq (d i) t)=true↔∃ i,i < k∧listed.getD i true=false∧d i=t:=by
  intro listed t; rw [List.any_eq_true]; constructor
  ·
   rintro ⟨i,hi,h⟩; simp only [Bool.and_eq_true,Bool.not_eq_true'] at h; exact ⟨i,by simpa using hi,h.1,Nat.eq_of_beq_eq_true h.2⟩
  ·
   rintro ⟨i,hi,h1,h2⟩; exact ⟨i,by simpa using hi,by simp [h1,h2]⟩
 have done:∀ (fuel:Nat) (listed:Array Bool) (a:Act) (w:World) (m:ko) (E:Env) (σ2:List bf),listed.size=L.length→listed.toList.count false≤fuel→
   (∀ j,k2≤j→j < L.length→listed.getD j true=false)→(∀ j,j < k2→listed.getD j true=true)→I (fun i=>listed.getD i true) E σ2→
   uZ w m n (hide (fun t=>(List.range k).any fun i=>!listed.getD i true && Nat.beq (d i) t) E) (σ1 ++ σ2) ds a→Acc n Q w m (σ1 ++ σ2) QC→wpAny P .any L.toArray QC fuel listed a w:=by
  intro fuel listed a w m E σ2 hsz hcnt hun hall hi hs ha
  have hl:∀ j,j < L.length→(listed.getD j true=true↔j < k2):=by
   intro j hj; rcases Nat.lt_or_ge j k2 with h | h
   · simp [hall j h,h]
   · simp [hun j h hj]; omega
  refine XT (k:=k2) ho.before ho.tails fuel k2 listed a w (Nat.le_refl _) hk2 hsz hl ?_ ?_
  ·
   have hc:(listed.toList.drop k2).count false=L.length - k2:=by
    have:listed.toList.drop k2=List.replicate (L.length - k2) false:=by
     apply List.ext_getElem
     · simp [hsz]
     ·
      intro j h1 h2; simp at h1 h2 ⊢; have h3:=hun (k2 + j) (by omega) (by omega); have h4:k2 + j < listed.size:=by omega
      simpa [Array.getD,h4] using h3
    rw [this]; simp
   have:(listed.toList.drop k2).count false≤listed.toList.count false:=List.Sublist.count_le _ (List.drop_sublist _ _); omega
  ·
   refine hend _ E σ2 (fun i _ hi=>hall i hi) hi w m a QC (hs.congr fun t=>.inr ?_) ha; rw [wm]; rw [if_neg]; rw [hidden]; rintro ⟨i,h1,h2,_⟩; rw [hall i (by omega)] at h2; cases h2
 intro fuel
 induction fuel with
 | zero=>
  intro listed a w m E σ2 hsz hcnt hun ab0 hfa hi hs ha; refine done 0 listed a w m E σ2 hsz hcnt hun (fun j hj=>?_) hi hs ha; have h0:listed.toList.count false=0:=by omega
  rw [List.count_eq_zero] at h0; have hj':j < listed.size:=by omega
  cases e:listed.getD j true with
  | true=>rfl
  | false=>
   exfalso; apply h0; have:listed[j]=false:=by simpa [Array.getD,hj'] using e
   rw [←this]; simp
 | succ fuel ih=>
  intro listed a w m E σ2 hsz hcnt hun ab0 hfa hi hs ha; by_cases hall:∀ j,j < k2→listed.getD j true=true
  · exact done (fuel + 1) listed a w m E σ2 hsz hcnt hun hall hi hs ha
  ·
   have hex:∃ i,i < k2∧listed.getD i true=false∧∀ j,j < i→listed.getD j true=true:=by
    have key:∀ c,(∀ j,j < c→j < k2→listed.getD j true=true)∨∃ i,i < k2∧listed.getD i true=false∧∀ j,j < i→listed.getD j true=true:=by
     intro c
     induction c with
     | zero=>exact .inl fun j hj=>by omega
     | succ c ihc=>
      rcases ihc with h | h
      ·
       by_cases hc:c < k2∧listed.getD c true=false
       · exact .inr ⟨c,hc.1,hc.2,fun j hj=>h j hj (by omega)⟩
       ·
        refine .inl fun j hj hjk=>?_; by_cases e:j=c
        ·
         subst e; cases e:listed.getD j true with
         | true=>rfl
         | false=>exact absurd ⟨hjk,e⟩ hc
        · exact h j (by omega) hjk
      · exact .inr h
    rcases key k2 with h | h
    · exact absurd (fun j hj=>h j hj hj) hall
    · exact h
   have ab2:∀ j b,j < L.length→listed.getD j b=listed.getD j true:=by
    intro j b hj; have:j < listed.size:=by omega
    simp [Array.getD,this]
   refine ⟨fun h0=>?_,fun i hi'=>?_⟩
   ·
    exfalso; obtain ⟨i,hik,hif,hlow⟩:=hex; have VZ:i < L.length:=by omega
    have:i∈Region.ready .any L.toArray listed:=by
     refine mem_ready.2 ⟨by simpa using VZ,hif,L[i],by simp [VZ],fun e he hb=>?_⟩; have hj:=ho.before i _ (List.getElem?_eq_getElem VZ) e.on (Ke.2 ⟨e,he,hb,rfl⟩); rw [ab2 _ _ (by omega)]; exact hlow _ hj
    rw [h0] at this; cases this
   ·
    obtain ⟨h1,h2,o,h3,h4⟩:=mem_ready.1 hi'; have VZ:i < L.length:=by simpa using h1
    have hoi:L[i]?=some o:=by simpa using h3
    have hpred:∀ j∈jO o,listed.getD j true=true:=by
     intro j hj; obtain ⟨e,he,hb,hon⟩:=Ke.1 hj; have h5:=h4 e he hb; rw [hon,ab2 _ _ (by have:=ho.before i o hoi j hj; omega)] at h5; exact h5
    have hdn:∀ j∈Aa L i,listed.getD j true=true:=by
     intro j hj; unfold Aa at hj; rw [hoi] at hj; exact M8 (k:=i) (listed:=fun j=>listed.getD j true=true) (fun q oq _ hq hl=>ab0 q oq hq hl) i (jO o) (Nat.le_refl _) hpred j hj
    have hik:i < k2:=by
     rcases Nat.lt_or_ge i k2 with h | h
     · exact h
     ·
      exfalso; obtain ⟨q,hqk,hqf,_⟩:=hex; rcases Nat.lt_or_ge k2 i with h' | h'
      ·
       obtain ⟨j,hj,hji⟩:=ho.tails i o h' hoi; have h6:=hpred j hj; rw [hun j (by omega) (by omega)] at h6; cases h6
      ·
       have hik:i=k2:=by omega
       subst hik; have h6:=hdn q (ho.adP o hoi q hqk); rw [hqf] at h6; cases h6
    have hset:∀ j,(listed.setIfInBounds i true).getD j true=if i=j then true else listed.getD j true:=Xc (by omega)
    have ad6:(listed.setIfInBounds i true).toList.count false≤fuel:=by
     have hil:listed.toList[i]?=some false:=by
      have hi':i < listed.size:=by omega
      have:listed[i]=false:=by simpa [Array.getD,hi'] using h2
      simp [hi',this]
     have:=count_set hil; rw [Array.toList_setIfInBounds]; omega
    have hun':∀ j,k2≤j→j < L.length→(listed.setIfInBounds i true).getD j true=false:=by
     intro j hkj hj; rw [hset,if_neg (by omega)]; exact hun j hkj hj
    have abZ:∀ q oq,L[q]?=some oq→(listed.setIfInBounds i true).getD q true=true→∀ j∈jO oq,(listed.setIfInBounds i true).getD j true=true:=by
     intro q oq hoq hl j hj; rw [hset] at hl ⊢; by_cases e:i=j
     · simp [e]
     ·
      simp only [e,if_false]; by_cases e2:i=q
      ·
       subst e2; rw [hoi] at hoq; cases hoq; exact hpred j hj
      ·
       simp only [e2,if_false] at hl; exact ab0 q oq hoq hl j hj
    have hget:∀ t∈readsOf L o,(hide (fun t=>(List.range k).any fun i=>!listed.getD i true && Nat.beq (d i) t) E).get t=E.get t:=by
     intro t ht; rw [wm,if_neg]; rw [hidden]; rintro ⟨j,hjk,hjf,hjt⟩; have hoj:L[j]?=some L[j]:=List.getElem?_eq_getElem (by omega); have hdj:=(hd j _ hjk hoj).1; rw [hjt] at hdj; rcases Nat.lt_or_ge i k with h | h
     ·
      by_cases e:i=j
      ·
       subst e; have e9:=Option.some.inj (hoi.symm.trans hoj); rw [←e9] at hdj; exact ho.self i o t h hoi hdj ht
      ·
       have:=hpred j ((ho.apart i o j _ t h hoi (by omega) hoj e hdj).2 ht).2; rw [hjf] at this; cases this
     ·
      have:=hdn j (ho.mid i o j _ t h hik hoi hjk hoj hdj ht); rw [hjf] at this; cases this
    rcases Nat.lt_or_ge i k with hlt | hge
    ·
     obtain ⟨hdo,aiu⟩:=hd i o hlt hoi; have hev:=hfa i o hlt hoi h2
     have ait:Cb P L.toArray E (σ1 ++ σ2) o (E.get (d i)):=by
      split at hev
      · exact hev
      · exact Cb.frameT hev
     refine XR (t:=d i) h3 hdo aiu (Cb.VD rfl ait hget) hs fun a' w' m' hs' Yi=>?_; refine ih _ a' w' m' E σ2 (by simpa using hsz) ad6 hun' abZ ?_ ?_ ?_ (ha.step Yi)
     ·
      intro q oq hq hoq hl; rw [hset] at hl; by_cases e:i=q
      · simp [e] at hl
      ·
       simp only [e,if_false] at hl; exact hfa q oq hq hoq hl
     ·
      refine hI _ _ _ _ (fun j hj _=>?_) hi; rw [hset,if_neg (by omega)]
     ·
      refine hs'.congr fun t=>?_; rw [wm]; split
      · exact .inl rfl
      ·
       rename_i hh; right; simp only [Env.get]; by_cases e:d i=t
       · subst e; simp
       ·
        rw [uo e,cond_false,wm,if_neg]; intro hh'; apply hh; rw [hidden] at hh' ⊢; obtain ⟨j,h5,h6,h7⟩:=hh'; refine ⟨j,h5,?_,h7⟩; rw [hset,if_neg (fun hij=>e (by rw [hij]; exact h7))]; exact h6
    ·
     obtain ⟨hg,hdt,hao⟩:=hT _ E σ2 i o hi hge hik h2 (fun j hj _=>hpred j hj) hoi; unfold wpOp; rw [h3]; simp only; rw [if_pos (by simp [Region.wanted,hg])]; left; have hao':=AO.abH (σ:=σ2 ++ σ1) (τ:=σ1 ++ σ2) List.perm_append_comm (AO.frameT (τ:=σ1) hao); refine hao' w m a _ QC (fun x hx=>?_) hs.lK ?_ ?_
     ·
      have h9:=hs.env.ev x
      have:(hide (fun t=>(List.range k).any fun i=>!listed.getD i true && Nat.beq (d i) t) E).ev x=E.ev x:=Jo fun t ht=>hget t (by
       subst ht; unfold readsOf
       exact List.mem_append.2 (.inl (List.mem_filterMap.2 ⟨.tmp t,by simpa using hx,rfl⟩)))
      rw [this] at h9; exact h9
     ·
      rintro p σ' v w' m' ⟨vE,rfl,hi2⟩ hv hc htr; have hc':=hc.perm (τ:=σ1 ++ vE) List.perm_append_comm; have Yi:=htr.perm (.refl _) (List.perm_append_comm (l₁:=vE) (l₂:=σ1))
      have hne:∀ q oq,q < k→L[q]?=some oq→∀ t,o.dst=some t→oq.dst≠some t∧t∉readsOf L oq:=by
       intro q oq hq hoq t ht; obtain ⟨e1,e2⟩:=ho.apart q oq i o t hq hoq hik hoi (by omega) ht; exact ⟨e1,fun hm=>by have:=(e2 hm).1; omega⟩
      refine ih _ _ w' m' (I6 o.dst p E) vE (by simpa using hsz) ad6 hun' abZ ?_ ?_ ?_ (ha.step Yi)
      ·
       intro q oq hq hoq hl; rw [hset,if_neg (by omega)] at hl; have h8:=hfa q oq hq hoq hl
       have hq0:¬ q < k0:=fun hh=>by
        have:=hdn q (hk0 i q hge hik hh); rw [hl] at this; cases this
       rw [if_neg hq0] at h8 ⊢; have e1:(I6 o.dst p E).get (d q)=E.get (d q):=zV fun hh=>(hne q oq hq hoq _ hh).1 (hd q oq hq hoq).1; rw [e1]; refine Cb.VD rfl h8 fun t ht=>zV fun hh=>(hne q oq hq hoq _ hh).2 ht
      ·
       refine hI _ _ _ _ (fun j _ _=>?_) hi2; rw [hset]
      ·
       have hput:uZ w' m' n (I6 o.dst p (hide (fun t=>(List.range k).any fun i=>!listed.getD i true && Nat.beq (d i) t) E)) (σ1 ++ vE) ds (a.put o.dst v):=by
        cases e:o.dst with
        | none=>exact hs.WC rfl hc' htr.le
        | some t=>exact hs.put rfl (hdt t e) hv hc' htr.le
       refine hput.congr fun t=>?_; rw [wm]; split
       · exact .inl rfl
       ·
        rename_i hh; right; cases e:o.dst with
        | none=>
         simp only [I6]; rw [wm,if_neg]; intro hh'; apply hh; rw [hidden] at hh' ⊢; obtain ⟨j,h5,h6,h7⟩:=hh'; refine ⟨j,h5,?_,h7⟩; rw [hset,if_neg (by omega)]; exact h6
        | some u=>
         simp only [I6,Env.get]; by_cases e2:u=t
         · subst e2; simp
         ·
          rw [uo e2,cond_false,cond_false,wm,if_neg]; intro hh'; apply hh; rw [hidden] at hh' ⊢; obtain ⟨j,h5,h6,h7⟩:=hh'; refine ⟨j,h5,?_,h7⟩; rw [hset,if_neg (by omega)]; exact h6
     ·
      rintro p σ' v w' m' ⟨vE,rfl,hq⟩ hv hc htr; have hc':=hc.perm (τ:=σ1 ++ vE) List.perm_append_comm; have Yi:=htr.perm (.refl _) (List.perm_append_comm (l₁:=vE) (l₂:=σ1)); exact ha (.panic p) _ [] _ ds a w' m' hq ⟨v,rfl,hv⟩ ⟨hs.size,hs.ds,fun t=>by simp [Env.get,dK],hc'⟩ Yi
def TF (P:Program) (n:Nat) (ds:List Deferred) (Q:Post) (σ1:List bf):List Oper→Env→List bf→(Env→List bf→Prop)→Prop
 | [],e,σ2,K=>K e σ2
 | o :: r,e,σ2,K=>o.guard=none∧(∀ t,o.dst=some t→t < n)∧∃ e2,Less e2 e∧AO P o e2.ev σ2 (fun p vE=>TF P n ds Q σ1 r (I6 o.dst p e2) vE K) (fun p vE=>Q (.panic p) [] (σ1 ++ vE) ds)
theorem TF.less {Q:Post} {σ1:List bf} {K:Env→List bf→Prop} (hK:∀ e e' s,Less e' e→K e' s→K e s):∀ {l:List Oper} {e e':Env} {σ2:List bf},Less e' e→TF P n ds Q σ1 l e' σ2 K→TF P n ds Q σ1 l e σ2 K
 | [],e,e',s,h,k=>hK e e' s h k
 | o :: r,e,e',s,h,⟨h1,h2,e2,h3,h4⟩=>⟨h1,h2,e2,h3.trans h,h4⟩
def VF (L:List Oper) (k k2:Nat):Bool:=
 (List.range L.length).all fun i=>!(Nat.blt k i && Nat.blt i k2) || (match L[i]? with | some o=>(jO o).any fun x=>Nat.beq (x + 1) i | none=>true)
theorem aak (h:VF L k k2=true) {i:Nat} {o:Oper} (h1:k < i) (h2:i < k2) (ho:L[i]?=some o):∃ j∈jO o,j + 1=i:=by
 unfold VF at h; rw [List.all_eq_true] at h
 have hi:i < L.length:=by
  rcases Nat.lt_or_ge i L.length with h' | h'
  · exact h'
  · simp [List.getElem?_eq_none h'] at ho
 have:=h i (by simpa using hi); rw [ho,pK.2 h1,pK.2 h2] at this; simp only [Bool.and_self,Bool.not_true,Bool.false_or] at this; rw [List.any_eq_true] at this; obtain ⟨x,hx,hxi⟩:=this; exact ⟨x,hx,Nat.eq_of_beq_eq_true hxi⟩
def Vx (L:List Oper) (k0 k k2:Nat):Bool:=
 (List.range k2).all fun i=>Nat.blt i k || (List.range k0).all fun q=>KD (Aa L i) q
theorem aaf {k0:Nat} (h:Vx L k0 k k2=true):∀ i q,k≤i→i < k2→q < k0→q∈Aa L i:=by
 intro i q h1 h2 h3; unfold Vx at h; rw [List.all_eq_true] at h; have:=h i (by simpa using h2)
 have hb:Nat.blt i k=false:=by
  cases e:Nat.blt i k with
  | false=>rfl
  | true=>have:=pK.1 e; omega
 rw [hb,Bool.false_or,List.all_eq_true] at this; exact any_beq.1 (this q (by simpa using h3))
theorem Cb.abH {all:Array Oper} {env:Env} {σ τ:List bf} {o:Oper} {p:PV} (hp:τ.Perm σ) (h:Cb P all env σ o p):Cb P all env τ o p:=by
 have key:∀ o',AF P o' env.ev σ p→AF P o' env.ev τ p:=fun o' h w m a K QC hr hc h1 h2=>by
  refine h w m a K QC hr (hc.perm hp) (fun p s v w' m' k1 k2 k3 k4=>?_) (fun p s v w' m' k1 k2 k3 k4=>k1.elim); obtain ⟨rfl,rfl⟩:=k1; exact h1 _ _ v w' m' ⟨rfl,rfl⟩ k2 (k3.perm hp.symm) (k4.perm hp.symm hp.symm)
 rcases h with ⟨hg,h⟩ | ⟨j,want,oj,u,h1,h2,h3,h⟩
 · exact .inl ⟨hg,key _ h⟩
 ·
  refine .inr ⟨j,want,oj,u,h1,h2,h3,?_⟩; rcases h with ⟨h5,h⟩ | h
  · exact .inl ⟨h5,key _ h⟩
  · exact .inr h
theorem afD {env:Env} {σ σ1:List bf} {k0:Nat} {K:Env→Prop} (hk0:k0≤k) (hk:k≤L.length) (h:Ev P n L.toArray σ env (L.take k0) fun env'=>Ev P n L.toArray σ1 env' ((L.drop k0).take (k - k0)) K):
  ∃ (d:Nat→Nat) (p:Nat→PV),(∀ i o,i < k→L[i]?=some o→o.dst=some (d i)∧d i < n∧Cb P L.toArray (uL (fun _=>true) d p env i) (if i < k0 then σ else σ1) o (p i))∧K (uL (fun _=>true) d p env k):=by
 obtain ⟨d1,p1,h1,h2⟩:=Ev.facts h; rw [List.length_take,Nat.min_eq_left (by omega)] at h2; obtain ⟨d2,p2,h3,h4⟩:=Ev.facts h2; have hl:((L.drop k0).take (k - k0)).length=k - k0:=by simp; omega
 rw [hl] at h4
 have e1:∀ j,j≤k0→uL (fun _=>true) (fun i=>if i < k0 then d1 i else d2 (i - k0)) (fun i=>if i < k0 then p1 i else p2 (i - k0)) env j=uL (fun _=>true) d1 p1 env j:=by
  intro j
  induction j with
  | zero=>intro _; rfl
  | succ j ih=>intro hj; simp only [uL,if_true]; rw [ih (by omega),if_pos (by omega),if_pos (by omega)]
 have e2:∀ j,uL (fun _=>true) (fun i=>if i < k0 then d1 i else d2 (i - k0)) (fun i=>if i < k0 then p1 i else p2 (i - k0)) env (k0 + j)=uL (fun _=>true) d2 p2 (uL (fun _=>true) d1 p1 env k0) j:=by
  intro j
  induction j with
  | zero=>exact e1 k0 (Nat.le_refl _)
  | succ j ih=>rw [←Nat.add_assoc]; simp only [uL,if_true]; rw [ih,if_neg (by omega),if_neg (by omega),Nat.add_sub_cancel_left]
 refine ⟨fun i=>if i < k0 then d1 i else d2 (i - k0),fun i=>if i < k0 then p1 i else p2 (i - k0),fun i o hi hoi=>?_,?_⟩
 ·
  by_cases h:i < k0
  ·
   have:=h1 i o (by rw [List.getElem?_take_of_lt h]; exact hoi); rw [e1 i (by omega)]; simp only [if_pos h]; exact this
  ·
   obtain ⟨j,rfl⟩:∃ j,i=k0 + j:=⟨i - k0,by omega⟩; have:=h3 j o (by rw [List.getElem?_take_of_lt (by omega),List.getElem?_drop]; exact hoi); rw [e2 j]; simp only [if_neg h,Nat.add_sub_cancel_left]; exact this
 ·
  have:=e2 (k - k0); rw [show k0 + (k - k0)=k from by omega] at this; rw [this]; exact h4
def AD (P:Program) (n:Nat) (L:List Oper) (env:Env) (σ:List bf) (ds:List Deferred) (Q:Post):Prop:=
 ∀ w m a QC,uZ w m n env σ ds a→Acc n Q w m σ QC→wpAny P .any L.toArray QC L.toArray.size (Array.replicate L.toArray.size false) a {w with drawn:=w.drawn + 1}
theorem AW.ofD {env:Env} {σ:List bf} {Q:Post} {id:Nat} (hm:P.follows .mixedOrders=true) (h:AD P n L env σ ds Q):AW P n (.region id L.toArray true) env σ ds Q:=
 fun w m a QC hs ha=>wp_region_any hm (h w m a QC hs ha)
theorem AD.Xj {env:Env} {σ:List bf} {Q:Post} (k0 k k2:Nat) (σ1 σ2:List bf) (J:(Nat→Bool)→Env→List bf→Prop) (ho:VX L k k2) (hea:∀ i q,k≤i→i < k2→q < k0→q∈Aa L i) (hk0:k0≤k) (hk:k≤k2) (hk2:k2≤L.length)
  (hperm:σ.Perm (σ1 ++ σ2))
  (h:Ev P n L.toArray σ env (L.take k0) fun env'=>Ev P n L.toArray σ1 env' ((L.drop k0).take (k - k0)) fun env'=>J (fun i=>Nat.blt i k) env' σ2)
  (hI:∀ S S' e s,(∀ i,k≤i→i < k2→S i=S' i)→J S e s→J S' e s)
  (hT:∀ S e σ2 i o,J S e σ2→k≤i→i < k2→S i=false→(∀ j∈jO o,k≤j→S j=true)→L[i]?=some o→o.guard=none∧(∀ t,o.dst=some t→t < n)∧
   AO P o e.ev σ2 (fun p vE=>J (fun j=>if i=j then true else S j) (I6 o.dst p e) vE) (fun p vE=>Q (.panic p) [] (σ1 ++ vE) ds))
  (hend:∀ S e σ2,(∀ i,k≤i→i < k2→S i=true)→J S e σ2→AR P n L.toArray (L.drop k2) e (σ1 ++ σ2) ds Q):
  AD P n L env σ ds Q:=by
 intro w m a QC hs ha; obtain ⟨d,p,h1,h2⟩:=afD hk0 (by omega) h; have MZ:Trans w m σ {w with drawn:=w.drawn + 1} m σ:=⟨rfl,rfl,rfl,Nat.le_refl _,fun _ _ h=>⟨h,rfl⟩,fun _ _ _=>⟨rfl,fun _ h=>h⟩,fun _ h=>.inl h,fun _=>Nat.le_succ _⟩; have hc':Conc {w with drawn:=w.drawn + 1} m σ:=⟨fun r hr=>bf.uf (hs.lK.each r hr) MZ.le fun _ _=>⟨rfl,fun _ h=>h⟩,hs.lK.apart,hs.lK.wf,iJ.mono MZ.le hs.lK.uK⟩; have Yi:Trans w m σ {w with drawn:=w.drawn + 1} m (σ1 ++ σ2):=MZ.perm (.refl _) hperm
 have hd:∀ i o,i < k→L[i]?=some o→o.dst=some (d i)∧d i < n:=fun i o hi hoi=>by
  have:=h1 i o hi hoi; exact ⟨this.1,this.2.1⟩
 refine YC k0 hea (ds:=ds) (d:=d) (σ1:=σ1) (Q:=Q) hk hk2 ho hd J hI hT hend _ _ a _ m (uL (fun _=>true) d p env k) σ2 (by simp) ?_ ?_ ?_ ?_ ?_ ?_ (ha.step Yi)
 · simp
 ·
  intro j _ hj; simp [Array.getD,hj]
 ·
  intro i o hoi hl
  have VZ:i < L.length:=by
   rcases Nat.lt_or_ge i L.length with h | h
   · exact h
   · simp [List.getElem?_eq_none h] at hoi
  simp [Array.getD,VZ] at hl
 ·
  intro i o hi hoi _; obtain ⟨f1,f2,f3⟩:=h1 i o hi hoi
  have hother:∀ t,(o.dst=some t∨t∈readsOf L o)→∀ j,(i≤j∧t∈readsOf L o∨i + 1≤j)→j < k→d j≠t:=by
   intro t ht j hj hjk hdj; have hoj:L[j]?=some L[j]:=List.getElem?_eq_getElem (by omega); have e1:=(hd j _ hjk hoj).1; rw [hdj] at e1; by_cases e:i=j
   ·
    subst e; have e9:=Option.some.inj (hoi.symm.trans hoj); rw [←e9] at e1; rcases hj with ⟨_,hj⟩ | hj
    · exact ho.self i o t hi hoi e1 hj
    · omega
   ·
    obtain ⟨e2,e3⟩:=ho.apart i o j _ t hi hoi (by omega) hoj e e1; rcases ht with ht | ht
    · exact e2 ht
    ·
     have:=ho.before i o hoi j (e3 ht).2; omega
  have afF:(uL (fun _=>true) d p env k).get (d i)=p i:=by
   rw [jD (i:=i + 1) (by omega) fun j h4 h5 _=>hother (d i) (.inl f1) j (.inr h4) h5]; simp [uL,Env.get]
  rw [afF]
  have f4:Cb P L.toArray (uL (fun _=>true) d p env i) (if i < k0 then σ1 ++ σ2 else σ1) o (p i):=by
   split
   ·
    rename_i hh; rw [if_pos hh] at f3; exact Cb.abH hperm.symm f3
   ·
    rename_i hh; rw [if_neg hh] at f3; exact f3
  refine Cb.VD rfl f4 fun t ht=>?_; exact jD (by omega) fun j h4 h5 _=>hother t (.inr ht) j (.inl ⟨h4,ht⟩) h5
 ·
  refine hI _ _ _ _ (fun i hi hi2=>?_) h2; have VZ:i < L.length:=by omega
  have hb:Nat.blt i k=false:=by
   cases e:Nat.blt i k with
   | false=>rfl
   | true=>have:=pK.1 e; omega
  rw [hb]; simp [Array.getD,VZ]
 ·
  refine ⟨hs.size,hs.ds,fun t=>?_,hc'.perm hperm⟩; rw [wm]; split
  · simp [dK]
  ·
   rename_i hh; rw [jD (i:=0) (Nat.zero_le _)]
   · exact hs.env.mono MZ.le t
   ·
    intro j _ hj _ hdj; apply hh; rw [List.any_eq_true]; have hjL:j < L.length:=by omega
    exact ⟨j,by simpa using hj,by simp [Array.getD,hjL,hdj]⟩
def Yc (L:List Oper) (k:Nat):Bool:=
 E_ L 0 k && (List.range k).all fun i=>match L[i]? with
  | none=>false
  | some o=>o.guard.isNone && (List.range k).all fun j=>Nat.beq i j || (match L[j]? with
   | none=>true
   | some oj=>match oj.dst with
    | none=>true
    | some t=>!KD (RF o ++ readsOf L o) t || (if Nat.blt j i then KD (jO o) j else KD (jO oj) i))
theorem wo {S T:Nat→Bool} {d:Nat→Nat} {p:Nat→PV} {RD:Env} {t:Nat}:∀ {k:Nat},(∀ j,j < k→d j=t→S j=T j)→(uL S d p RD k).get t=(uL T d p RD k).get t
 | 0,_=>rfl
 | k + 1,h=>by
  have ih:=wo (k:=k) (S:=S) (T:=T) (d:=d) (p:=p) (RD:=RD) (t:=t) fun j hj=>h j (by omega); simp only [uL]; by_cases e:d k=t
  ·
   rw [h k (by omega) e]; split
   · simp [Env.get,e]
   · exact ih
  · cases hs:S k <;> cases ht:T k <;> simp [Env.get,uo e] <;> exact ih
theorem AD.ahE {env:Env} {σ:List bf} {Q:Post} (k:Nat) (ho:Yc L k=true) (hk:k≤L.length)
  (h:Ev P n L.toArray σ env (L.take k) fun env'=>AR P n L.toArray (L.drop k) env' σ ds Q):AD P n L env σ ds Q:=by
 unfold Yc at ho; rw [Bool.and_eq_true,List.all_eq_true] at ho; obtain ⟨ho,hw⟩:=ho; obtain ⟨d,p,h1,h2⟩:=Ev.facts h; rw [List.length_take,Nat.min_eq_left hk] at h2
 have f:∀ i o,i < k→L[i]?=some o→o.guard=none∧o.dst=some (d i)∧d i < n∧AF P o (uL (fun _=>true) d p env i).ev σ (p i)∧∀ j oj,j < k→L[j]?=some oj→i≠j→d j∈RF o ++ readsOf L o→(j < i→j∈jO o)∧(i < j→i∈jO oj):=fun i o hi hoi=>by
  have hw:=hw i (by simpa using hi); rw [hoi] at hw; simp only [Bool.and_eq_true,List.all_eq_true] at hw; have hg:o.guard=none:=by simpa using hw.1
  obtain ⟨q1,q2,q3⟩:=h1 i o (by rw [List.getElem?_take_of_lt hi]; exact hoi); refine ⟨hg,q1,q2,?_,fun j oj hj hoj hij hm=>?_⟩
  ·
   rcases q3 with ⟨_,q3⟩ | ⟨_,_,_,_,q4,_⟩
   · exact q3
   · rw [hg] at q4; cases q4
  ·
   have:=hw.2 j (by simpa using hj); have hd:=(h1 j oj (by rw [List.getElem?_take_of_lt hj]; exact hoj)).1; unfold KD at this; rw [uo hij,Bool.false_or,hoj] at this; simp only [hd,any_beq.2 hm,Bool.not_true,Bool.false_or] at this; split at this
   ·
    rename_i hb; exact ⟨fun _=>any_beq.1 this,fun hh=>by have:=pK.1 hb; omega⟩
   ·
    rename_i hb; exact ⟨fun hh=>absurd (pK.2 hh) hb,fun _=>any_beq.1 this⟩
 refine AD.Xj 0 0 k [] σ (fun S e s=>s=σ∧(∀ j o,j < k→L[j]?=some o→S j=true→∀ q∈jO o,S q=true)∧∀ u,e.get u=(uL S d p env k).get u) (Ay (Nat.zero_le _) ho) (fun _ _ _ _ _=>by omega) (Nat.le_refl _) (Nat.zero_le _) hk (by simp) (Ev.nil (Ev.nil ?_)) ?_ ?_ ?_
 ·
  refine ⟨rfl,fun j o _ _ h=>(by cases h),fun u=>?_⟩; rw [jD (i:=0) (Nat.zero_le _) fun j _ _ h=>by cases h]; rfl
 ·
  rintro S S' e s hS ⟨g1,g2,g3⟩; refine ⟨g1,fun j o hj hoj h q hq=>?_,fun u=>(g3 u).trans (wo fun j hj _=>hS j (Nat.zero_le _) hj)⟩; have:=(Ay (Nat.zero_le _) ho).before j o hoj q hq; rw [←hS q (Nat.zero_le _) (by omega)]; exact g2 j o hj hoj ((hS j (Nat.zero_le _) hj).trans h) q hq
 ·
  rintro S e s i o ⟨rfl,g2,g3⟩ _ hi Yk hpr hoi; obtain ⟨q0,q1,q2,q3,q4⟩:=f i o hi hoi
  have late:∀ j u,u∈RF o ++ readsOf L o→i + 1≤j→j < k→S j=true→d j≠u:=fun j u hu hij hj hSj hd=>by
   have hoj:L[j]?=some L[j]:=List.getElem?_eq_getElem (by omega); have:=g2 j _ hj hoj hSj i ((q4 j _ hj hoj (by omega) (by rw [hd]; exact hu)).2 (by omega)); rw [Yk] at this; cases this
  refine ⟨q0,fun t ht=>by rw [q1] at ht; cases ht; exact q2,AO.Rb (AO.congr q3 fun x hx=>Jo fun u hu=>?_) ?_ fun _ _ h=>h.elim⟩
  ·
   have hr:u∈RF o ++ readsOf L o:=by
    subst hu; unfold readsOf; exact List.mem_append_right _ (List.mem_append.2 (.inl (List.mem_filterMap.2 ⟨.tmp u,by simpa using hx,rfl⟩)))
   rw [g3,jD (i:=i) (by omega) fun j h4 h5 h6=>?_]
   ·
    refine wo fun j hj hd=>?_; have hoj:L[j]?=some L[j]:=List.getElem?_eq_getElem (by omega); exact hpr j ((q4 j _ (by omega) hoj (by omega) (by rw [hd]; exact hr)).1 hj) (Nat.zero_le _)
   ·
    by_cases e:i=j
    · subst e; rw [Yk] at h6; cases h6
    · exact late j u hr (by omega) h5 h6
  ·
   rintro p' s' ⟨rfl,rfl⟩; refine ⟨rfl,fun j oj hj hoj h q hq=>?_,fun u=>?_⟩
   ·
    simp only at h ⊢; split
    · rfl
    ·
     split at h
     ·
      rename_i e; subst e; have:=Option.some.inj (hoi.symm.trans hoj); subst this; exact hpr q hq (Nat.zero_le _)
     · exact g2 j oj hj hoj h q hq
   ·
    rw [q1]; simp only [I6,Env.get]; by_cases e:d i=u
    ·
     subst e; rw [Nat.beq_refl,cond_true,jD (i:=i + 1) (by omega) fun j h4 h5 h6=>?_]
     · simp [uL,Env.get]
     ·
      rw [if_neg (by omega)] at h6; exact late j _ (List.mem_append_left _ (by unfold RF; rw [q1]; simp)) h4 h5 h6
    ·
     rw [uo e,cond_false,g3]; refine wo fun j _ hd=>?_; rw [if_neg (show ¬ i=j from fun h=>e (by rw [h]; exact hd))]
 ·
  rintro S e s hS ⟨rfl,_,g3⟩; exact AR.less (fun u=>.inr ((wo fun j hj _=>(hS j (Nat.zero_le _) hj).symm).trans (g3 u).symm)) h2
def Y1 (L:List Oper) (k:Nat):Bool:=E_ L k k || Yc L k
theorem AD.draw {env:Env} {σ:List bf} {Q:Post} (k:Nat) (ho:Y1 L k=true) (hk:Nat.ble k L.length=true)
  (h:Ev P n L.toArray σ env (L.take k) fun env'=>AR P n L.toArray (L.drop k) env' σ ds Q):AD P n L env σ ds Q:=by
 rcases Bool.or_eq_true_iff.1 ho with ho | ho
 ·
  exact AD.Xj k k k σ [] (fun _ e s=>s=[]∧AR P n L.toArray (L.drop k) e σ ds Q) (Ay (Nat.le_refl k) ho) (fun _ _ _ _ _=>by omega) (Nat.le_refl k) (Nat.le_refl k) (Nat.le_of_ble_eq_true hk) (by simp)
   (Ev.Uo (fun e h=>by rw [Nat.sub_self,List.take_zero]; exact Ev.nil ⟨rfl,h⟩) h) (fun _ _ _ _ _ h=>h) (fun _ _ _ _ _ _ _ _=>by omega) fun _ e s _ ⟨h1,h2⟩=>by rw [h1,List.append_nil]; exact h2
 · exact AD.ahE k ho (Nat.le_of_ble_eq_true hk) h
theorem AW.draw {env:Env} {σ:List bf} {Q:Post} {id:Nat} (k:Nat) (hm:P.follows .mixedOrders=true) (ho:Y1 L k=true) (hk:Nat.ble k L.length=true)
  (h:Ev P n L.toArray σ env (L.take k) fun env'=>AR P n L.toArray (L.drop k) env' σ ds Q):AW P n (.region id L.toArray true) env σ ds Q:=AW.ofD hm (AD.draw k ho hk h)
theorem AW.Xi {env:Env} {σ:List bf} {Q:Post} {id:Nat} (k0 k k2:Nat) (σ1 σ2:List bf) (hm:P.follows .mixedOrders=true) (ho:E_ L k k2=true) (hch:VF L k k2=true) (hea:Vx L k0 k k2=true) (hk0:Nat.ble k0 k=true) (hk:Nat.ble k k2=true) (hk2:Nat.ble k2 L.length=true)
  (hperm:σ.Perm (σ1 ++ σ2))
  (h:Ev P n L.toArray σ env (L.take k0) fun env'=>Ev P n L.toArray σ1 env' ((L.drop k0).take (k - k0)) fun env'=>TF P n ds Q σ1 ((L.drop k).take (k2 - k)) env' σ2 fun e σ2=>AR P n L.toArray (L.drop k2) e (σ1 ++ σ2) ds Q):
  AW P n (.region id L.toArray true) env σ ds Q:=by
 have hk:k≤k2:=Nat.le_of_ble_eq_true hk; have hk2:k2≤L.length:=Nat.le_of_ble_eq_true hk2; let T1:=(L.drop k).take (k2 - k)
 have hT1:∀ j,k≤j→j < k2→T1[j - k]?=L[j]?:=fun j h1 h2=>by
  simp only [T1]; rw [List.getElem?_take_of_lt (by omega),List.getElem?_drop]; congr 1; omega
 have ajw:T1.length=k2 - k:=by simp [T1]; omega
 refine AW.ofD hm (AD.Xj k0 k k2 σ1 σ2
  (fun S e σ2=>∃ j,j≤k2 - k∧(∀ i,k≤i→i < k2→(S i=true↔i < k + j))∧TF P n ds Q (σ1) (T1.drop j) e σ2 fun e σ2=>AR P n L.toArray (L.drop k2) e (σ1 ++ σ2) ds Q)
  (Ay hk ho) (aaf hea) (Nat.le_of_ble_eq_true hk0) hk hk2 hperm (Ev.Uo (fun e=>Ev.Uo fun e h2=>⟨0,by omega,fun i hi hi2=>by rw [pK]; omega,by rw [List.drop_zero]; exact h2⟩) h) ?_ ?_ ?_)
 ·
  rintro S S' e s hS ⟨j,h3,h4,h5⟩; exact ⟨j,h3,fun i hi hi2=>by rw [←hS i hi hi2]; exact h4 i hi hi2,h5⟩
 ·
  rintro S e s i o ⟨j,h3,h4,h5⟩ hki hi2 Yk hpr hoi
  have hij:i=k + j∨k + j < i:=by
   have:=(h4 i hki hi2); rw [Yk] at this; have:¬ i < k + j:=fun hh=>by have:=this.2 hh; cases this
   omega
  have hjlt:j < k2 - k:=by omega
  have hdrop:T1.drop j=L[k + j]'(by omega) :: T1.drop (j + 1):=by
   rw [List.drop_eq_getElem_cons (by omega)]; congr 1; have:=hT1 (k + j) (by omega) (by omega); rw [show k + j - k=j from by omega,List.getElem?_eq_getElem (by omega),List.getElem?_eq_getElem (by omega)] at this; exact Option.some.inj this
  rw [hdrop] at h5
  have aiq:i=k + j:=by
   rcases hij with h | h
   · exact h
   ·
    exfalso; obtain ⟨q,hq,hqi⟩:=aak hch (by omega) hi2 hoi; have:=(h4 q (by omega) (by omega)).1 (hpr q hq (by omega)); omega
  subst aiq; have e9:L[k + j]'(by omega)=o:=Option.some.inj ((List.getElem?_eq_getElem (by omega)).symm.trans hoi); rw [e9] at h5; obtain ⟨g1,g2,e2,g3,g4⟩:=h5; refine ⟨g1,g2,AO.less g3 (AO.Rb g4 (fun p s hp=>?_) fun p s hp=>hp)⟩; refine ⟨j + 1,by omega,fun q hq hq2=>?_,TF.less (K:=fun e σ2=>AR P n L.toArray (L.drop k2) e (σ1 ++ σ2) ds Q) (fun _ _ _ h' k'=>AR.less h' k') ?_ hp⟩
  ·
   by_cases e:k + j=q
   · simp [e]; omega
   ·
    simp only [e,if_false]; rw [h4 q hq hq2]; omega
  ·
   cases o.dst with
   | none=>exact g3
   | some t=>exact g3.cons t p
 ·
  rintro S e s hS ⟨j,h3,h4,h5⟩
  have:j=k2 - k:=by
   rcases Nat.lt_or_ge j (k2 - k) with h | h
   ·
    have:=(h4 (k + j) (by omega) (by omega)).1 (hS _ (by omega) (by omega)); omega
   · omega
  subst this; rw [List.drop_eq_nil_of_le (by omega)] at h5; exact h5
theorem WH {σ:List bf} {i:Nat} {r:bf} (hi0:σ[i]?=some r):σ.Perm (σ.eraseIdx i ++ [r]):=by
 induction σ generalizing i with
 | nil=>simp at hi0
 | cons x xs ih=>
  cases i with
  | zero=>
   simp at hi0; subst hi0; simpa using (List.perm_append_comm (l₁:=[x]) (l₂:=xs))
  | succ i=>
   simp at hi0; simpa using (ih hi0).cons x
theorem AW.Xk {env:Env} {σ:List bf} {Q:Post} {id:Nat} (k0 k k2 i0:Nat) {r:bf} (hm:P.follows .mixedOrders=true) (ho:E_ L k k2=true) (hch:VF L k k2=true) (hea:Vx L k0 k k2=true) (hk0:Nat.ble k0 k=true) (hk:Nat.ble k k2=true) (hk2:Nat.ble k2 L.length=true)
  (hi0:σ[i0]?=some r)
  (h:Ev P n L.toArray σ env (L.take k0) fun env'=>Ev P n L.toArray (σ.eraseIdx i0) env' ((L.drop k0).take (k - k0)) fun env'=>TF P n ds Q (σ.eraseIdx i0) ((L.drop k).take (k2 - k)) env' [r] fun e σ2=>AR P n L.toArray (L.drop k2) e (σ.eraseIdx i0 ++ σ2) ds Q):
  AW P n (.region id L.toArray true) env σ ds Q:=
 AW.Xi k0 k k2 (σ.eraseIdx i0) [r] hm ho hch hea hk0 hk hk2 (WH hi0) h
def VY :Nat→(List Nat→Prop)→Prop
 | 0,K=>K []
 | m + 1,K=>∀ b,VY m fun bs=>K (b :: bs)
theorem VY.at {K:List Nat→Prop}:∀ {m:Nat},VY m K→∀ bs:List Nat,bs.length=m→K bs
 | 0,h,[],_=>h
 | m + 1,h,b :: bs,hl=>VY.at (K:=fun bs=>K (b :: bs)) (h b) bs (by simpa using hl)
def ptrTo (b:Nat):PV:=.val (.pointer (some ⟨b,0,none⟩))
def Tn :List Nat→List Nat→Env→Env
 | t :: ts,b :: bs,e=>Tn ts bs ((t,.val (.pointer (some ⟨b,0,none⟩))) :: e)
 | _,_,e=>e
def aa_ (cs:List PV):List Nat→List bf→List bf
 | b :: bs,σ=>aa_ cs bs (.box b cs :: σ)
 | [],σ=>σ
theorem Uf (cs:List PV):∀ (bs:List Nat) (σ:List bf),(aa_ cs bs σ).Perm (σ ++ bs.map fun b=>.box b cs)
 | [],σ=>by simp [aa_]
 | b :: bs,σ=>by
  refine (Uf cs bs _).trans ?_; simp only [List.map_cons,List.cons_append]; exact List.perm_middle.symm
theorem GD {t:Nat}:∀ (ts bs:List Nat) (e:Env),t∉ts→(Tn ts bs e).get t=e.get t
 | [],[],_,_=>rfl
 | [],_ :: _,_,_=>rfl
 | _ :: _,[],_,_=>rfl
 | u :: ts,b :: bs,e,h=>by
  simp only [List.mem_cons,not_or] at h; simp only [Tn]; rw [GD ts bs _ h.2]; simp only [Env.get]; rw [uo (fun hh=>h.1 hh.symm)]; rfl
theorem OZ {t b:Nat}:∀ (ts bs:List Nat) (e:Env) (j:Nat),ts.Nodup→ts[j]?=some t→bs[j]?=some b→(Tn ts bs e).get t=ptrTo b
 | [],_,_,j,_,h,_=>by simp at h
 | _ :: _,[],_,j,_,_,h=>by simp at h
 | u :: ts,b' :: bs,e,0,hn,h1,h2=>by
  simp only [List.nodup_cons] at hn; simp at h1 h2; subst h1 h2; simp only [Tn]; rw [GD ts bs _ hn.1]; simp [Env.get,ptrTo]
 | u :: ts,b' :: bs,e,j + 1,hn,h1,h2=>by
  simp only [List.nodup_cons] at hn; exact OZ ts bs _ j hn.2 (by simpa using h1) (by simpa using h2)
def Sw (L:List Oper) (e k:Nat) (ts:List Nat):Bool:=
 (List.range ts.length).all fun j=>match L[k + j]?,ts[j]? with
  | some o,some t=>(match o.op with | .alloc e'=>Nat.beq e' e | _=>false) && (match o.dst with | some u=>Nat.beq u t | none=>false) && (match o.guard with | none=>true | some _=>false)
  | _,_=>false
theorem XF {L:List Oper} {e k:Nat} {ts:List Nat} (h:Sw L e k ts=true) {j:Nat} (hj:j < ts.length):∃ o t,L[k + j]?=some o∧ts[j]?=some t∧o.op=.alloc e∧o.dst=some t∧o.guard=none:=by
 unfold Sw at h; rw [List.all_eq_true] at h; have:=h j (by simpa using hj); split at this
 ·
  rename_i o t h1 h2; simp only [Bool.and_eq_true] at this; obtain ⟨⟨a1,a2⟩,a3⟩:=this; refine ⟨o,t,h1,h2,?_,?_,?_⟩
  ·
   split at a1
   · rename_i e' he; rw [he,Nat.eq_of_beq_eq_true a1]
   · cases a1
  ·
   split at a2
   · rename_i u hu; rw [hu,Nat.eq_of_beq_eq_true a2]
   · cases a2
  ·
   split at a3
   · assumption
   · cases a3
 · cases this
theorem AW.ab9 {env:Env} {σ:List bf} {Q:Post} {id:Nat} (k e:Nat) (ts:List Nat) {cs:List PV} (hm:P.follows .mixedOrders=true) (ho:E_ L k (k + ts.length)=true) (hk2:Nat.ble (k + ts.length) L.length=true)
  (hz:lW P e=some cs) (hal:Sw L e k ts=true) (hts:(ts.all fun t=>Nat.blt t n)=true) (hnd:ts.Nodup)
  (h:Ev P n L.toArray σ env (L.take k) fun env'=>VY ts.length fun bs=>AR P n L.toArray (L.drop (k + ts.length)) (Tn ts bs env') (aa_ cs bs σ) ds Q):
  AW P n (.region id L.toArray true) env σ ds Q:=by
 intro w m a QC hs ha; have hk2:k + ts.length≤L.length:=Nat.le_of_ble_eq_true hk2; have ho:=Ay (by omega) ho; obtain ⟨d,p,h1,h2⟩:=Ev.facts h; rw [List.length_take,Nat.min_eq_left (by omega)] at h2; have MZ:Trans w m σ {w with drawn:=w.drawn + 1} m σ:=⟨rfl,rfl,rfl,Nat.le_refl _,fun _ _ h=>⟨h,rfl⟩,fun _ _ _=>⟨rfl,fun _ h=>h⟩,fun _ h=>.inl h,fun _=>Nat.le_succ _⟩; have hc':Conc {w with drawn:=w.drawn + 1} m σ:=⟨fun r hr=>bf.uf (hs.lK.each r hr) MZ.le fun _ _=>⟨rfl,fun _ h=>h⟩,hs.lK.apart,hs.lK.wf,iJ.mono MZ.le hs.lK.uK⟩
 have hd:∀ i o,i < k→L[i]?=some o→o.dst=some (d i)∧d i < n:=fun i o hi hoi=>by
  have:=h1 i o (by rw [List.getElem?_take_of_lt hi]; exact hoi); exact ⟨this.1,this.2.1⟩
 refine wp_region_any hm ?_; generalize hE:uL (fun _=>true) d p env k=E0 at h2
 refine YC 0 (fun _ _ _ _ h=>by omega) (ds:=ds) (d:=d) (σ1:=σ) (Q:=Q) (k:=k) (k2:=k + ts.length) (by omega) hk2 ho hd
  (fun S e' σ2=>∃ b:Nat→Nat,(∀ t,(∀ j,j < ts.length→ts[j]?=some t→S (k + j)=false)→e'.get t=E0.get t)∧(∀ j t,ts[j]?=some t→S (k + j)=true→e'.get t=ptrTo (b j))∧
   σ2.Perm (((List.range ts.length).filter fun j=>S (k + j)).map fun j=>.box (b j) cs))
  ?_ ?_ ?_ _ _ a _ m E0 [] (by simp) ?_ ?_ ?_ ?_ ?_ ?_ (by rw [List.append_nil]; exact ha.step MZ)
 ·
  rintro S S' e' s hS ⟨b,h3,h4,h5⟩; have hSS:∀ j,j < ts.length→S (k + j)=S' (k + j):=fun j hj=>hS _ (by omega) (by omega)
  have hlt:∀ j t,ts[j]?=some t→j < ts.length:=fun j t hjt=>by
   rcases Nat.lt_or_ge j ts.length with h | h
   · exact h
   · simp [List.getElem?_eq_none h] at hjt
  refine ⟨b,fun t ht=>h3 t fun j hj hjt=>by rw [hSS j hj]; exact ht j hj hjt,fun j t hjt hj=>h4 j t hjt (by rw [hSS j (hlt j t hjt)]; exact hj),?_⟩; rw [List.filter_congr (q:=fun j=>S (k + j)) (fun j hj=>(hSS j (by simpa using hj)).symm)]; exact h5
 ·
  rintro S e' s i o ⟨b,h3,h4,h5⟩ hki hi2 Yk _ hoi; obtain ⟨j,rfl⟩:∃ j,i=k + j:=⟨i - k,by omega⟩; have hj:j < ts.length:=by omega
  obtain ⟨o',t,e1,e2,e3,e4,e5⟩:=XF hal hj; rw [hoi] at e1; cases e1; refine ⟨e5,fun u hu=>?_,AO.aC e3 hz fun b0=>?_⟩
  ·
   rw [e4] at hu; cases hu; rw [List.all_eq_true] at hts; exact pK.1 (hts t (List.mem_of_getElem? e2))
  ·
   have hinj:∀ q,ts[q]?=some t→q=j:=fun q hq=>by
    have hq':q < ts.length:=by
     rcases Nat.lt_or_ge q ts.length with h | h
     · exact h
     · simp [List.getElem?_eq_none h] at hq
    exact (List.getElem?_inj hq' hnd).1 (by rw [hq,e2])
   refine ⟨fun q=>if q=j then b0 else b q,fun u hu=>?_,fun q u hq hSq=>?_,?_⟩
   ·
    have hne:t≠u:=fun hh=>by
     subst hh; have:=hu j hj e2; simp at this
    rw [zV (by rw [e4]; intro hh; exact hne (Option.some.inj hh))]; refine h3 u fun q hq hqu=>?_; have:=hu q hq hqu; simp only at this; split at this
    · cases this
    · exact this
   ·
    by_cases e:q=j
    ·
     subst e; rw [e2] at hq; cases hq; simp [e4,I6,Env.get,ptrTo]
    ·
     have hne:t≠u:=fun hh=>by subst hh; exact e (hinj q hq)
     rw [zV (by rw [e4]; intro hh; exact hne (Option.some.inj hh))]; simp only [if_neg e]; refine h4 q u hq ?_; have ahw:(if k + j=k + q then true else S (k + q))=true:=hSq; rw [if_neg (by omega)] at ahw; exact ahw
   ·
    refine (h5.cons _).trans ?_
    have hsplit:((List.range ts.length).filter fun q=>if k + j=k + q then true else S (k + q)).Perm (j :: (List.range ts.length).filter fun q=>S (k + q)):=by
     have hjm:j∈(List.range ts.length).filter fun q=>if k + j=k + q then true else S (k + q):=by simp [hj]
     refine (List.perm_cons_erase hjm).trans (List.Perm.cons _ ?_); rw [List.Nodup.erase_eq_filter (List.nodup_range.sublist List.filter_sublist),List.filter_filter]; refine List.Perm.of_eq (List.filter_congr fun q hq=>?_); by_cases e:j=q
     · subst e; simp [Yk]
     · simp [e,Ne.symm e,bne]
    refine List.Perm.trans ?_ (hsplit.map _).symm; simp only [List.map_cons,if_true]; refine List.Perm.cons _ (List.Perm.of_eq (List.map_congr_left fun q hq=>?_))
    have:q≠j:=fun e=>by
     subst e; simp [Yk] at hq
    simp [this]
 ·
  rintro S e' s hS ⟨b,h3,h4,h5⟩; have hbl:((List.range ts.length).map b).length=ts.length:=by simp
  have h6:=h2.at ((List.range ts.length).map b) hbl; have hall:((List.range ts.length).filter fun j=>S (k + j))=List.range ts.length:=List.filter_eq_self.2 fun j hj=>hS _ (by omega) (by simp at hj; omega); rw [hall] at h5
  have hperm:(σ ++ s).Perm (aa_ cs ((List.range ts.length).map b) σ):=by
   refine List.Perm.trans ?_ (Uf cs _ σ).symm; rw [List.map_map]; exact List.Perm.append_left _ h5
  intro w1 m1 a1 QC1 hs1 ha1; refine h6 w1 m1 a1 QC1 ?_ (ha1.step ((Trans.refl w1 m1 (σ ++ s)).perm (.refl _) hperm)); refine ⟨hs1.size,hs1.ds,fun t=>?_,hs1.lK.perm hperm⟩; have h7:=hs1.env t; by_cases hm:t∈ts
  ·
   obtain ⟨j,hj,hjt⟩:=List.mem_iff_getElem.1 hm; have ahm:ts[j]?=some t:=by rw [List.getElem?_eq_getElem hj,hjt]
   rw [OZ ts _ E0 j hnd ahm (b:=b j) (by simp [hj]),←h4 j t ahm (hS _ (by omega) (by omega))]; exact h7
  ·
   rw [GD ts _ E0 hm,←h3 t fun j hj hjt=>(hm (List.mem_of_getElem? hjt)).elim]; exact h7
 · simp
 ·
  intro j _ hj; simp [Array.getD,hj]
 ·
  intro i o hoi hl
  have VZ:i < L.length:=by
   rcases Nat.lt_or_ge i L.length with h | h
   · exact h
   · simp [List.getElem?_eq_none h] at hoi
  simp [Array.getD,VZ] at hl
 ·
  intro i o hi hoi _; subst hE; obtain ⟨f1,f2,f3⟩:=h1 i o (by rw [List.getElem?_take_of_lt hi]; exact hoi)
  have hother:∀ t,(o.dst=some t∨t∈readsOf L o)→∀ j,(i≤j∧t∈readsOf L o∨i + 1≤j)→j < k→d j≠t:=by
   intro t ht j hj hjk hdj; have hoj:L[j]?=some L[j]:=List.getElem?_eq_getElem (by omega); have e1:=(hd j _ hjk hoj).1; rw [hdj] at e1; by_cases e:i=j
   ·
    subst e; have e9:=Option.some.inj (hoi.symm.trans hoj); rw [←e9] at e1; rcases hj with ⟨_,hj⟩ | hj
    · exact ho.self i o t hi hoi e1 hj
    · omega
   ·
    obtain ⟨e2,e3⟩:=ho.apart i o j _ t hi hoi (by omega) hoj e e1; rcases ht with ht | ht
    · exact e2 ht
    ·
     have:=ho.before i o hoi j (e3 ht).2; omega
  have afF:(uL (fun _=>true) d p env k).get (d i)=p i:=by
   rw [jD (i:=i + 1) (by omega) fun j h4 h5 _=>hother (d i) (.inl f1) j (.inr h4) h5]; simp [uL,Env.get]
  rw [afF]; refine Cb.VD rfl f3 fun t ht=>?_; exact jD (by omega) fun j h4 h5 _=>hother t (.inr ht) j (.inl ⟨h4,ht⟩) h5
 ·
  refine ⟨fun _=>0,fun t _=>rfl,fun j t hj hS=>?_,?_⟩
  ·
   have hjl:j < ts.length:=by
    rcases Nat.lt_or_ge j ts.length with h | h
    · exact h
    · simp [List.getElem?_eq_none h] at hj
   have VZ:k + j < L.length:=by omega
   simp [Array.getD,VZ] at hS
  ·
   rw [List.filter_eq_nil_iff.2]
   · simp
   ·
    intro j hj; have VZ:k + j < L.length:=by simp at hj; omega
    simp [Array.getD,VZ]
 ·
  refine ⟨hs.size,hs.ds,fun t=>?_,by rw [List.append_nil]; exact hc'⟩; subst hE; rw [wm]; split
  · simp [dK]
  ·
   rename_i hh; rw [jD (i:=0) (Nat.zero_le _)]
   · exact hs.env.mono MZ.le t
   ·
    intro j _ hj _ hdj; apply hh; rw [List.any_eq_true]; have hjL:j < L.length:=by omega
    exact ⟨j,by simpa using hj,by simp [Array.getD,hjL,hdj]⟩
section
variable {Q : Post} {σ1 σ2 : List bf} {K : Env → List bf → Prop} {o : Oper} {r : List Oper} {e : Env}
theorem TF.nil (h:K e σ2):TF P n ds Q σ1 [] e σ2 K:=h
theorem TF.step {t:Nat} (hg:o.guard=none) (hd:o.dst=some t) (ht:Nat.blt t n=true) (h:AO P o e.ev σ2 (fun p vE=>TF P n ds Q σ1 r ((t,p) :: e) vE K) (fun p vE=>Q (.panic p) [] (σ1 ++ vE) ds)):TF P n ds Q σ1 (o :: r) e σ2 K:=
 ⟨hg,fun u hu=>by rw [hd] at hu; cases hu; exact pK.1 ht,e,Less.refl e,by rw [hd]; exact h⟩
theorem TF.bF (hg:o.guard=none) (hd:o.dst=none) (h:AO P o e.ev σ2 (fun _ vE=>TF P n ds Q σ1 r e vE K) (fun p vE=>Q (.panic p) [] (σ1 ++ vE) ds)):TF P n ds Q σ1 (o :: r) e σ2 K:=
 ⟨hg,fun u hu=>absurd (hd.symm.trans hu) (by simp),e,Less.refl e,by rw [hd]; exact h⟩
theorem Less.Tn :∀ (ts bs:List Nat) {e e':Env},Less e' e→Less (Abs.Tn ts bs e') (Abs.Tn ts bs e)
 | [],[],_,_,h=>h
 | [],_ :: _,_,_,h=>h
 | _ :: _,[],_,_,h=>h
 | t :: ts,b :: bs,_,_,h=>Less.Tn ts bs (h.cons t _)
theorem VY.mono {K K':List Nat→Prop}:∀ {m:Nat},(∀ bs,K bs→K' bs)→VY m K→VY m K'
 | 0,h,k=>h _ k
 | _ + 1,h,k=>fun b=>VY.mono (fun bs=>h (b :: bs)) (k b)
end
end
end Go.Abs
