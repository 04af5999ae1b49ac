/- Proved here: how a functional text stands for a walk of the given code. -/
import Derived.Test.YtggpjlegajicnaaGreatDoorCzWords
import Derived.Test.YtggpjlegajicnaaGreatDoorCzA1
import Derived.Lib.Builder
import Derived.Lib.UnsafeStr
import Derived.Laws.Externs
import Derived.Laws.Pointers
import Derived.WalkSmall
import Derived.WideLaws
import Derived.Recover
import Derived.RangeFuncRecord
import Derived.RangeFuncIn
import Derived.OrdersIn
import Derived.TacticsIn
import Derived.Shelf.SlSortCmp.NoneTotal
import Derived.Shelf.Slices.CompactS
import Derived.Shelf.Strings.Search3
import Derived.Shelf.Strings.Split
import Derived.Shelf.Strings.OnBuilder
import Derived.Shelf.Strconv.Itoa3
import Derived.Shelf.Strconv.AtoiAll
import Derived.Lib.LaidTab
import Derived.Stop.LaidErr
import Derived.Lib.ItoaNum
import Derived.Shelf.Vars
set_option linter.unusedVariables false
set_option linter.unusedSimpArgs false
set_option linter.unusedSectionVars false
namespace Go.Abs
variable [iw]
open Go Go.Ft
def wR (s:List UInt8):List PV:=[.str s]
def FQ (n:Int):List PV:=[.int .i64 n]
section
variable {P : Program} {o : Oper} {ρ : Operand → PV} {σ : List bg} {R S : PV → List bg → Prop} {α : Type}
theorem AO.gM {t:TypeId} {x i:Operand} {s:List UInt8} {k:IntKind} {n:Int} {c:UInt8} (hv:idx s n=some c) (ho:o.op=.index t x i) (hs:P.underlying t=some .string) (hx:ρ x=.str s) (hi:ρ i=.int k n)
  (hR:R (.int .u8 (c.toNat:Int)) σ):AO P o ρ σ R S:=
 AO.ac6 ho hs hx hi (FR hv).1 (FR hv).2 hR
theorem AO.aJ {t:TypeId} {x i:Operand} {L:List (List PV)} {k:IntKind} {n:Int} {sz:Nat} {e:List PV} {f:α→List PV} {l:List α} {a:α} (hv:idx l n=some a) (ho:o.op=.indexAddr t x i) (hx:(ρ x).els=some L) (hL:L=l.map f) (hi:ρ i=.int k n) (hs:elemSize P t=some sz)
  (he:f a=e) (hl:e.length=sz) (hR:R (.ref e) σ):AO P o ρ σ R S:=
 AO.indexAddr ho hx hi hs (FR hv).1 (by rw [hL,List.getElem?_map,(FR hv).2,←he]; rfl) hl hR
theorem AO.aM {x:Operand} {t:TypeId} {L:List (List PV)} {sz:Nat} {c:Call} {f:α→List PV} {l:List α} (ho:o.op=.call c) (lW:c.callee=.builtin .len) (hargs:c.args=#[x]) (hty:c.argTypes=#[t]) (hs:elemSize P t=some sz) (hx:(ρ x).els=some L) (hL:L=l.map f)
  (hR:R (.int .i64 (l.length:Int)) σ):AO P o ρ σ R S:=
 AO.ac1 ho lW hargs hty hs hx (by rw [hL,List.length_map]; exact hR)
def OC (ρ:Operand→PV) (o:Option Operand) (a d:Int):Prop:=
 match o with
 | some y=>∃ k,ρ y=.int k a
 | none=>a=d
theorem G7 {o:Option Operand} {a:Int} {d:Nat} (h:OC ρ o a d) (h0:0≤a):bound ρ o a.toNat d:=by
 unfold OC at h; unfold bound; cases o with
 | none=>simp only at h ⊢; omega
 | some y=>obtain ⟨k,h⟩:=h; exact ⟨k,by rw [h]; congr 1; omega⟩
theorem AO.wS {t:TypeId} {x:Operand} {lo hi:Option Operand} {s r:List UInt8} {a b:Int} (hv:sl s a b=some r) (ho:o.op=.slice t x lo hi none) (hu:P.underlying t=some .string) (hx:ρ x=.str s)
  (hlo:OC ρ lo a (0:Nat)) (hhi:OC ρ hi b (s.length:Nat)) (hR:R (.str r) σ):AO P o ρ σ R S:=by
 obtain ⟨h0,h1,h2,rfl⟩:=abt hv; exact AO.acF ho hu hx (G7 hlo h0) (G7 hhi (by omega)) (by omega) (by omega) hR
theorem AO.ag9 {t:TypeId} {x:Operand} {lo hi:Option Operand} {L Lr:List (List PV)} {sz:Nat} {a b:Int} {f:α→List PV} {l r:List α} (hv:sl l a b=some r) (ho:o.op=.slice t x lo hi none) (hs:elemSize P t=some sz) (hx:(ρ x).els=some L)
  (hL:L=l.map f) (hr:r.map f=Lr) (fl:∀ x,(f x).length=sz) (hlo:OC ρ lo a (0:Nat)) (hhi:OC ρ hi b (l.length:Nat)) (hR:R (.list Lr) σ):AO P o ρ σ R S:=by
 obtain ⟨h0,h1,h2,rfl⟩:=abt hv; refine AO.ZU (a:=a.toNat) (b:=b.toNat) ho hs hx ?_ (G7 hlo h0) ?_ (by omega) (by rw [hL,List.length_map]; omega) ?_
 ·
  intro e he; rw [hL,List.mem_map] at he; obtain ⟨y,_,rfl⟩:=he; exact fl y
 ·
  have:=G7 (d:=l.length) hhi (by omega); rw [hL,List.length_map]; exact this
 · rw [hL,←List.map_take,←List.map_drop,hr]; exact hR
theorem agc :xX≤maxLen:=by decide
theorem AO.iC {c:Call} {s x:Operand} {t tx e sz bytes:Nat} {v:Value} {L L2 Lr:List (List PV)} {i:Nat} {f:α→List PV} {l m r:List α} (hv:app l m=some r) (ho:o.op=.call c) (lW:c.callee=.builtin .append) (hargs:c.args=#[s,x]) (hty:c.argTypes=#[t,tx])
  (hs:ρ s=.own v L) (hx:(ρ x).els=some L2) (hi:σ[i]?=some (bg.row v L.length sz e)) (hf:iZ P t e sz bytes) (htx:elemSize P tx=some sz)
  (hL:L=l.map f) (hL2:L2=m.map f) (hr:r.map f=Lr) (fl:∀ x,(f x).length=sz) (fo:∀ x,(f x).all PV.one=true) (hb:Nat.ble bytes 32768=true)
  (hR:∀ v' σ',Fj σ i (.row v' Lr.length sz e)=some σ'→R (.own v' Lr) σ'):AO P o ρ σ R S:=by
 obtain ⟨h1,rfl⟩:=Gi hv; have hb:=Nat.le_of_ble_eq_true hb; have hlim:l.length + m.length≤4294967296:=h1; have hmul:(l.length + m.length) * bytes≤4294967296 * 32768:=Nat.mul_le_mul hlim hb; have hLr:L ++ L2=Lr:=by rw [hL,hL2,←List.map_append,hr]
 have e1:L.length=l.length:=by rw [hL,List.length_map]
 have e2:L2.length=m.length:=by rw [hL2,List.length_map]
 refine AO.append ho lW hargs hty hs hx hi hf htx rfl ?_ ?_ ?_ ?_ ?_ ?_
 · intro y hy; rw [hL,List.mem_map] at hy; obtain ⟨z,_,rfl⟩:=hy; exact fl z
 · intro y hy; rw [hL2,List.mem_map] at hy; obtain ⟨z,_,rfl⟩:=hy; exact fl z
 · intro y hy; rw [hL2,List.mem_map] at hy; obtain ⟨z,_,rfl⟩:=hy; exact fo z
 · rw [e1,e2]; exact Nat.le_trans h1 agc
 · rw [e1,e2]; omega
 ·
  intro v' σ' h; rw [hLr]; exact hR v' σ' (by rw [←hLr,List.length_append]; exact h)
theorem AO.R3 {t u:TypeId} {x y:Operand} {a b r:List UInt8} (hv:app a b=some r) (ho:o.op=.binOp .add t x y u) (hx:ρ x=.str a) (hy:ρ y=.str b)
  (hR:R (.str r) σ):AO P o ρ σ R S:=by
 obtain ⟨h1,rfl⟩:=Gi hv; have:a.length + b.length≤4294967296:=h1; exact AO.concat ho hx hy (by omega) hR
theorem AO.aX {t e sz bytes len:Nat} {parts:Array (Nat × Operand)} {cells:List PV} {L:List (List PV)} (Lr:List (List PV)) (ho:o.op=.buildSlice t len parts) (hs:iZ P t e sz bytes) (hle:Nat.ble (len * sz) 16777216=true)
  (hf:Dt (fun i=>some (i * sz,sz)) (List.replicate (len * sz) .undef) (parts.toList.map fun x=>(x.1,(ρ x.2).weak))=some cells) (hl:GZ sz len cells=some L) (hr:L=Lr) (hR:R (.list Lr) σ):AO P o ρ σ R S:=
 AO.buildSlice ho hs hle hf hl (by rw [hr]; exact hR)
theorem AO.nK {t e sz bytes len:Nat} {parts:Array (Nat × Operand)} {cells:List PV} {L:List (List PV)} (Lr:List (List PV)) (ho:o.op=.buildSlice t len parts) (hs:iZ P t e sz bytes) (hle:Nat.ble (len * sz) 16777216=true)
  (hf:Dt (fun i=>some (i * sz,sz)) (List.replicate (len * sz) .undef) (parts.toList.map fun x=>(x.1,(ρ x.2).weak))=some cells) (hl:GZ sz len cells=some L) (hlen:Nat.ble len 16777216=true) (hr:L=Lr) (hR:∀ v,R (.own v Lr) (.row v Lr.length sz e :: σ)):AO P o ρ σ R S:=by
 refine AO.Sz ho hs hle hf hl hlen fun v=>?_; have:=hR v; rw [←hr] at this; rw [←(Ki hl).1]; exact this
theorem AO.kI {x:Operand} (ho:o.op=.assign x) (hx:ρ x=.own (.slice none 0 0) []) (hR:R (.list []) σ):AO P o ρ σ R S:=by
 refine AO.of_same hR fun w m ev hr _=>?_; have h1:=hr x (by simp [ho,Op.operands]); rw [hx] at h1; exact ⟨ev x,by simp [execOp,ho],h1.weak⟩
theorem AO.afM {src dst:TypeId} {x:Operand} {d:TypeDesc} {k:IntKind} {n:Int} (ho:o.op=.convert src dst x) (hs:P.underlying src=some d) (hd:P.underlying dst=some (.int .u8)) (hx:ρ x=.int k n)
  (hR:R (.int .u8 ((Ft.byteOf n).toNat:Int)) σ):AO P o ρ σ R S:=
 AO.Jz ho hs hd hx (by rw [←Ft.byteOf_toNat]; exact hR)
theorem AO.ai2 {t u:TypeId} {x y:Operand} {p q:Int} (a b:UInt8) (ho:o.op=.binOp .sub t x y u) (hx:ρ x=.int .u8 p) (hy:ρ y=.int .u8 q) (ha:p=(a.toNat:Int)) (hb:q=(b.toNat:Int))
  (hR:R (.int .u8 ((a - b).toNat:Int)) σ):AO P o ρ σ R S:=by
 refine AO.U_ (p:=.int .u8 (IntKind.u8.wrap (p - q))) (by simp only [pev,ho,hx,hy]; rfl) ?_ hR; rw [ha,hb]; congr 1; have h1:=a.toNat_lt; have h2:=b.toNat_lt; simp [IntKind.wrap,IntKind.bits,IntKind.signed,UInt8.toNat_sub]; omega
theorem AO.u8_quo {t u:TypeId} {x y:Operand} {p q:Int} (a b:UInt8) (ho:o.op=.binOp .quo t x y u) (hx:ρ x=.int .u8 p) (hy:ρ y=.int .u8 q) (ha:p=(a.toNat:Int)) (hb:q=(b.toNat:Int)) (h0:q≠0)
  (hR:R (.int .u8 ((a / b).toNat:Int)) σ):AO P o ρ σ R S:=by
 have e:IntKind.u8.wrap (p.tdiv q)=((a / b).toNat:Int):=by
  have h1:=a.toNat_lt; rw [ha,hb]; rw [←Int.ofNat_tdiv]; have h2:=Nat.div_le_self a.toNat b.toNat; rw [UInt8.toNat_div]; generalize a.toNat / b.toNat=z at *; simp [IntKind.wrap,IntKind.bits,IntKind.signed]; omega
 exact AO.quo ho hx hy h0 (by rw [e]; exact hR)
theorem AO.ai3 {t u:TypeId} {x y:Operand} {p q:Int} (a b:UInt8) (ho:o.op=.binOp .rem t x y u) (hx:ρ x=.int .u8 p) (hy:ρ y=.int .u8 q) (ha:p=(a.toNat:Int)) (hb:q=(b.toNat:Int)) (h0:q≠0)
  (hR:R (.int .u8 ((a % b).toNat:Int)) σ):AO P o ρ σ R S:=by
 have e:p.tmod q=((a % b).toNat:Int):=by
  rw [ha,hb]; rw [←Int.ofNat_tmod]; simp [UInt8.toNat_mod]
 exact AO.rem ho hx hy h0 (by rw [e]; exact hR)
theorem AO.amD {t u:TypeId} {x y:Operand} {k:IntKind} {a b:Int} (hv:chk (!(b == 0))=some ()) (ho:o.op=.binOp .quo t x y u) (hx:ρ x=.int k a) (hy:ρ y=.int k b)
  (hR:R (.int k (k.wrap (a.tdiv b))) σ):AO P o ρ σ R S:=
 AO.quo ho hx hy (by have:=YN hv; simpa using this) hR
theorem AO.amC {t u:TypeId} {x y:Operand} {k:IntKind} {a b:Int} (hv:chk (!(b == 0))=some ()) (ho:o.op=.binOp .rem t x y u) (hx:ρ x=.int k a) (hy:ρ y=.int k b)
  (hR:R (.int k (a.tmod b)) σ):AO P o ρ σ R S:=
 AO.rem ho hx hy (by have:=YN hv; simpa using this) hR
end
section
variable {P : Program} {n : Nat} {env : Env} {σ : List bg} {ds : List Deferred} {Q : Post} {all : Array Oper} {l : List Oper}
theorem AW.drop1 {c:Code} {r:bg} (h:AW P n c env σ ds Q):AW P n c env (r :: σ) ds Q:=AW.drop σ (List.sublist_cons_self r σ) h
theorem AR.drop1 {r:bg} (h:AR P n all l env σ ds Q):AR P n all l env (r :: σ) ds Q:=
 fun w m a QC zB ha=>h w m a QC ⟨zB.size,zB.ds,zB.env,zB.jD.sub (List.sublist_cons_self r σ)⟩ (ha.step (Trans.sub (Trans.refl w m (r :: σ)) (List.sublist_cons_self r σ)))
def Less (e' e:Env):Prop:=∀ t,e'.get t=.undef∨e'.get t=e.get t
theorem Less.settle {ps:List Nat} {e e':Env} (h:Abs.settle ps e=some e'):Less e' e:=Lp h
theorem Less.refl (e:Env):Less e e:=fun _=>.inr rfl
theorem Less.cons {e e':Env} (h:Less e' e) (t:Nat) (p:PV):Less ((t,p) :: e') ((t,p) :: e):=by
 intro u; simp only [Env.get]; cases Nat.beq t u with
 | true=>exact .inr rfl
 | false=>exact h u
theorem Less.ev {e e':Env} (h:Less e' e) (x:Operand):e'.ev x=.undef∨e'.ev x=e.ev x:=by
 cases x with
 | tmp t=>exact h t
 | const v=>exact .inr rfl
 | global g=>exact .inr rfl
 | func f=>exact .inr rfl
theorem AO.less {o:Oper} {e e':Env} (h:Less e' e) {R S:PV→List bg→Prop} (k:AO P o e'.ev σ R S):AO P o e.ev σ R S:=by
 intro w m a K QC hr hc h1 h2; refine k w m a K QC (fun x hx=>?_) hc h1 h2; rcases h.ev x with h' | h'
 · rw [h']; simp [dG]
 · rw [h']; exact hr x hx
theorem Less.known {e e':Env} (h:Less e' e) {t:Nat} {p:PV} (hp:e'.get t=p) (hn:p≠.undef):e.get t=p:=by
 rcases h t with h' | h'
 · rw [h'] at hp; exact absurd hp.symm hn
 · rw [←h']; exact hp
theorem sS.less {o:Oper} {e e':Env} (h:Less e' e) {p:PV} (k:sS P all e' σ o p):sS P all e σ o p:=by
 rcases k with ⟨hg,k⟩ | ⟨j,want,oj,u,h1,h2,h3,k⟩
 · exact .inl ⟨hg,AO.less h k⟩
 ·
  refine .inr ⟨j,want,oj,u,h1,h2,h3,?_⟩; rcases k with ⟨h5,k⟩ | ⟨h5 | h5,k⟩
  · exact .inl ⟨h.known h5 (by simp),AO.less h k⟩
  · exact .inr ⟨.inl (h.known h5 (by simp)),k⟩
  · exact .inr ⟨.inr (h.known h5 (by simp)),k⟩
theorem qI.less {w:World} {m:jM} {e e':Env} {a:Act} (h:Less e' e) (hs:qI w m n e σ ds a):qI w m n e' σ ds a:=
 ⟨hs.size,hs.ds,fun t=>by
  rcases h t with h' | h'
  · rw [h']; simp [dG]
  · rw [h']; exact hs.env t,hs.jD⟩
theorem AR.less {e e':Env} (h:Less e' e) (k:AR P n all l e' σ ds Q):AR P n all l e σ ds Q:=
 fun w m a QC hs ha=>k w m a QC (hs.less h) ha
theorem Ev.less {K:Env→Prop} (hK:∀ e e',Less e' e→K e'→K e):∀ {l:List Oper} {e e':Env},Less e' e→Ev P n all σ e' l K→Ev P n all σ e l K
 | [],e,e',h,k=>hK e e' h k
 | o :: rest,e,e',h,k=>by
  obtain ⟨t,p,h1,h2,h3,h4⟩:=k; exact ⟨t,p,h1,h2,sS.less h h3,Ev.less hK (h.cons t p) h4⟩
theorem Ev.append {K:Env→Prop}:∀ {l l':List Oper} {e:Env},Ev P n all σ e l (fun e=>Ev P n all σ e l' K)→Ev P n all σ e (l ++ l') K
 | [],_,_,h=>h
 | _ :: _,_,_,h=>by
  obtain ⟨t,p,h1,h2,h3,h4⟩:=h; exact ⟨t,p,h1,h2,h3,Ev.append h4⟩
theorem Ev.aiu {K K':Env→Prop} (hK:∀ e,K e→K' e):∀ {l:List Oper} {e:Env},Ev P n all σ e l K→Ev P n all σ e l K'
 | [],e,h=>hK e h
 | _ :: _,_,h=>by
  obtain ⟨t,p,h1,h2,h3,h4⟩:=h; exact ⟨t,p,h1,h2,h3,Ev.aiu hK h4⟩
theorem Less.trans {a b c:Env} (h:Less a b) (k:Less b c):Less a c:=by
 intro t; rcases h t with h' | h'
 · exact .inl h'
 ·
  rcases k t with k' | k'
  · exact .inl (h'.trans k')
  · exact .inr (h'.trans k')
theorem Ev.cZ {K:Env→Prop} (hK:∀ e e',Less e' e→K e'→K e) (k g t:Nat) (want:Bool) (keep:List Nat) {b:Bool} (p:PV) {env':Env} (_hb:env.get g=.bool b) (_hk:settle keep env=some env')
  (h1:b=want→Ev P n all σ env (l.take k) fun e=>Less ((t,p) :: env') e)
  (h2:b=!want→Ev P n all σ env (l.take k) fun e=>Less ((t,p) :: env') e)
  (h3:Ev P n all σ ((t,p) :: env') (l.drop k) K):Ev P n all σ env l K:=by
 have key:(Ev P n all σ env (l.take k) fun e=>Less ((t,p) :: env') e)→Ev P n all σ env l K:=by
  intro h; rw [←List.take_append_drop k l]; refine Ev.append (Ev.aiu (fun e he=>?_) h); exact Ev.less hK he h3
 cases b with
 | true=>cases want with
  | true=>exact key (h1 rfl)
  | false=>exact key (h2 rfl)
 | false=>cases want with
  | true=>exact key (h2 rfl)
  | false=>exact key (h1 rfl)
theorem Ev.or1 {K:Env→Prop} (hK:∀ e e',Less e' e→K e'→K e) (k g t:Nat) (keep:List Nat) {b:Bool} (x:Bool) {env':Env} (hb:env.get g=.bool b) (hk:settle keep env=some env')
  (h1:b=false→Ev P n all σ env (l.take k) fun e=>Less ((t,.bool x) :: env') e)
  (h2:b=true→Ev P n all σ env (l.take k) fun e=>Less ((t,.bool true) :: env') e)
  (h3:Ev P n all σ ((t,.bool (b || x)) :: env') (l.drop k) K):Ev P n all σ env l K:=by
 cases b with
 | true=>exact Ev.cZ hK k g t false keep (.bool true) hb hk (fun h=>by cases h) (fun _=>h2 rfl) h3
 | false=>exact Ev.cZ hK k g t false keep (.bool x) hb hk (fun _=>h1 rfl) (fun h=>by cases h) h3
theorem hKA {L2:List Oper} (e e':Env) (h:Less e' e) (k:AR P n all L2 e' σ ds Q):AR P n all L2 e σ ds Q:=AR.less h k
theorem r9 {X:Env} (e e':Env) (h:Less e' e) (k:Less X e'):Less X e:=k.trans h
theorem AR.cZ (k g t:Nat) (want:Bool) (keep:List Nat) {b:Bool} (x:Bool) {env':Env}
  (hb:env.get g=.bool b) (hk:settle keep env=some env')
  (h1:b=want→AR P n all (l.take k) env σ ds fun ax e s d=>ax=.normal∧e=(t,.bool x) :: env'∧s=σ∧d=ds)
  (h2:b=!want→AR P n all (l.take k) env σ ds fun ax e s d=>ax=.normal∧e=(t,.bool x) :: env'∧s=σ∧d=ds)
  (h3:AR P n all (l.drop k) ((t,.bool x) :: env') σ ds Q):AR P n all l env σ ds Q:=
 AR.join k g t want keep (x:=x) (y:=x) hb hk h1 h2 (by cases (b == want) <;> exact h3)
end
section
variable {P : Program} {n : Nat} {env : Env} {σ : List bg} {ds : List Deferred} {Q : Post}
theorem AW.aj1 {A0:Type} {c:Code} (E:A0→Env) (T:A0→List bg) (I:Nat→A0→Prop) (k0:Nat) (x0:A0) (h0:env=E x0) (h1:σ=T x0) (h2:I k0 x0)
  (z:∀ x0,I 0 x0→False)
  (round:∀ k x0,I (k + 1) x0→AW P n c (E x0) (T x0) ds (AX.then (fun e s d=>∃ y0,e=E y0∧s=T y0∧d=ds∧I k y0) Q)):AW P n (.loop c) env σ ds Q:=by
 refine AW.loop (α:=Nat × (A0)) (fun q=>E (q.2)) (fun q=>T (q.2)) (fun q=>I q.1 (q.2)) (fun q=>q.1) (k0,(x0)) h0 h1 h2 ?_; rintro ⟨k,q⟩ hI; cases k with
 | zero=>exact (z _ hI).elim
 | succ k=>
  refine (round k (q) hI).mono fun x e s d hx=>?_; cases x with
  | normal=>obtain ⟨y0,h3,h4,h5,h6⟩:=hx; exact ⟨(k,(y0)),h3,h4,h5,h6,Nat.lt_succ_self k⟩
  | exit id=>exact hx
  | ret=>exact hx
  | panic p=>exact hx
theorem AW.aj0 {A0:Type} {A1:Type} {c:Code} (E:A0→A1→Env) (T:A0→A1→List bg) (I:Nat→A0→A1→Prop) (k0:Nat) (x0:A0) (x1:A1) (h0:env=E x0 x1) (h1:σ=T x0 x1) (h2:I k0 x0 x1)
  (z:∀ x0 x1,I 0 x0 x1→False)
  (round:∀ k x0 x1,I (k + 1) x0 x1→AW P n c (E x0 x1) (T x0 x1) ds (AX.then (fun e s d=>∃ y0 y1,e=E y0 y1∧s=T y0 y1∧d=ds∧I k y0 y1) Q)):AW P n (.loop c) env σ ds Q:=by
 refine AW.loop (α:=Nat × (A0 × A1)) (fun q=>E (q.2.1) (q.2.2)) (fun q=>T (q.2.1) (q.2.2)) (fun q=>I q.1 (q.2.1) (q.2.2)) (fun q=>q.1) (k0,(x0,x1)) h0 h1 h2 ?_; rintro ⟨k,q⟩ hI; cases k with
 | zero=>exact (z _ _ hI).elim
 | succ k=>
  refine (round k (q.1) (q.2) hI).mono fun x e s d hx=>?_; cases x with
  | normal=>obtain ⟨y0,y1,h3,h4,h5,h6⟩:=hx; exact ⟨(k,(y0,y1)),h3,h4,h5,h6,Nat.lt_succ_self k⟩
  | exit id=>exact hx
  | ret=>exact hx
  | panic p=>exact hx
theorem AW.ajZ {A0:Type} {A1:Type} {A2:Type} {c:Code} (E:A0→A1→A2→Env) (T:A0→A1→A2→List bg) (I:Nat→A0→A1→A2→Prop) (k0:Nat) (x0:A0) (x1:A1) (x2:A2) (h0:env=E x0 x1 x2) (h1:σ=T x0 x1 x2) (h2:I k0 x0 x1 x2)
  (z:∀ x0 x1 x2,I 0 x0 x1 x2→False)
  (round:∀ k x0 x1 x2,I (k + 1) x0 x1 x2→AW P n c (E x0 x1 x2) (T x0 x1 x2) ds (AX.then (fun e s d=>∃ y0 y1 y2,e=E y0 y1 y2∧s=T y0 y1 y2∧d=ds∧I k y0 y1 y2) Q)):AW P n (.loop c) env σ ds Q:=by
 refine AW.loop (α:=Nat × (A0 × A1 × A2)) (fun q=>E (q.2.1) (q.2.2.1) (q.2.2.2)) (fun q=>T (q.2.1) (q.2.2.1) (q.2.2.2)) (fun q=>I q.1 (q.2.1) (q.2.2.1) (q.2.2.2)) (fun q=>q.1) (k0,(x0,x1,x2)) h0 h1 h2 ?_; rintro ⟨k,q⟩ hI; cases k with
 | zero=>exact (z _ _ _ hI).elim
 | succ k=>
  refine (round k (q.1) (q.2.1) (q.2.2) hI).mono fun x e s d hx=>?_; cases x with
  | normal=>obtain ⟨y0,y1,y2,h3,h4,h5,h6⟩:=hx; exact ⟨(k,(y0,y1,y2)),h3,h4,h5,h6,Nat.lt_succ_self k⟩
  | exit id=>exact hx
  | ret=>exact hx
  | panic p=>exact hx
end
end Go.Abs
namespace Go.Abs
variable [iw]
open Go Go.Ft
section
variable {P : Program} {o : Oper} {ρ : Operand → PV} {σ : List bg} {R S : PV → List bg → Prop}
theorem Kl {w:World} {m:jM} {σ:List bg} (hc:Conc w m σ) (ob:Obj):
  Conc (w.alloc ob) (fun b off=>m b off∨(b=w.heap.size∧False)) (.obj w.heap.size ob :: σ):=by
 have hc':=uR hc ob (fun _=>False); refine ⟨fun r hr=>?_,?_,hc'.wf,hc'.uq⟩
 ·
  rcases List.mem_cons.1 hr with rfl | hr
  ·
   refine ⟨heap_alloc_new w _,fun off ho=>?_⟩; rcases ho with ho | ⟨_,ho⟩
   · have:=hc.wf _ off ho; omega
   · exact ho
  · exact hc'.each r hr
 ·
  simp only [lX,List.flatMap_cons,bg.fp,List.singleton_append,List.nodup_cons]; refine ⟨fun hm=>?_,hc.apart⟩; have:=hc.RB _ hm; omega
theorem AO.acP {t:TypeId} {x:Operand} {s:List UInt8} (ho:o.op=.range t x) (hu:P.underlying t=some .string) (hx:ρ x=.str s)
  (hR:∀ b,R (.val (.pointer (some ⟨b,0,none⟩))) (.obj b (.stringIter ⟨s.toArray⟩ 0) :: σ)):AO P o ρ σ R S:=by
 refine AO.of_run' fun w m ev hr hc=>?_; have h1:=hr x (by simp [ho,Op.operands]); rw [hx] at h1; simp only [dG] at h1; have:=Kl hc (.stringIter ⟨s.toArray⟩ 0); refine ⟨_,_,.pointer (some ⟨w.heap.size,0,none⟩),_,_,hR w.heap.size,?_,by simp [dG],this,lM hc _ _ fun b hb=>?_⟩
 · simp [execOp,ho,Instr.range,run_underlying hu,h1,go_sem]
 ·
  simp [lX,bg.fp] at hb ⊢; rcases hb with hb | hb
  · exact .inr hb
  · exact .inl hb
theorem KC {w:World} {b:Nat} {s:ByteArray} {pos:Nat} (h:w.heap[b]?=some (.stringIter s pos)):(getObj b).run P w=.ok (.stringIter s pos) w:=by simp [getObj,Sem.run,h]
theorem AO.afa {x:Operand} {s:List UInt8} {b pos i:Nat} (ho:o.op=.next x true) (hx:ρ x=.val (.pointer (some ⟨b,0,none⟩))) (hi:σ[i]?=some (bg.obj b (.stringIter ⟨s.toArray⟩ pos)))
  (hlt:decide (pos < s.length)=true) (hR:R (.tuple [.bool true,.int .i64 (pos:Int),.int .i32 ((dec s pos).1:Int)]) (σ.set i (.obj b (.stringIter ⟨s.toArray⟩ (pos + (dec s pos).2))))):AO P o ρ σ R S:=by
 have hlt:=of_decide_eq_true hlt; refine AO.of_run' fun w m ev hr hc=>?_; have h1:=hr x (by simp [ho,Op.operands]); rw [hx] at h1; simp only [dG] at h1; obtain ⟨hb,hm⟩:=hc.each _ (List.mem_of_getElem? hi)
 have hblt:b < w.heap.size:=by
  rcases Nat.lt_or_ge b w.heap.size with h | h
  · exact h
  · simp [Array.getElem?_eq_none h] at hb
 let w':World:={w with heap:=w.heap.setIfInBounds b (.stringIter ⟨s.toArray⟩ (pos + (dec s pos).2))}; have hb':w'.heap[b]?=some (.stringIter ⟨s.toArray⟩ (pos + (dec s pos).2)):=by simp [w',hblt]
 obtain ⟨k1,k2⟩:=Conc.write (w':=w') (r':=.obj b (.stringIter ⟨s.toArray⟩ (pos + (dec s pos).2))) hc hi rfl rfl hm ⟨hb',hm⟩ ⟨rfl,rfl,rfl⟩ (by simp [w']) (fun k hk=>by simp [w',Array.getElem?_setIfInBounds_ne (Ne.symm hk)]); refine ⟨_,_,.tuple #[.bool true,.int .i64 (pos:Int),.int .i32 ((dec s pos).1:Int)],w',m,hR,?_,?_,k1,k2⟩
 ·
  have hsz:pos < (ByteArray.mk s.toArray).size:=by simpa [ByteArray.size] using hlt
  simp [execOp,ho,Instr.next,h1,KC hb,hsz,setObj,Sem.run,hb,w',dec,goInt,Instr.next]
 ·
  simp only [dG]; exact ⟨_,rfl,aZ.cons rfl (aZ.cons rfl (aZ.cons rfl aZ.nil))⟩
theorem AO.acX {x:Operand} {s:List UInt8} {b pos i:Nat} (ho:o.op=.next x true) (hx:ρ x=.val (.pointer (some ⟨b,0,none⟩))) (hi:σ[i]?=some (bg.obj b (.stringIter ⟨s.toArray⟩ pos)))
  (hge:decide (pos < s.length)=false) (hR:R (.tuple [.bool false]) σ):AO P o ρ σ R S:=by
 have hge:=of_decide_eq_false hge; refine AO.of_same hR fun w m ev hr hc=>?_; have h1:=hr x (by simp [ho,Op.operands]); rw [hx] at h1; simp only [dG] at h1; obtain ⟨hb,hm⟩:=hc.each _ (List.mem_of_getElem? hi); refine ⟨.tuple #[.bool false],?_,?_⟩
 ·
  have hsz:¬ pos < (ByteArray.mk s.toArray).size:=by simpa [ByteArray.size] using hge
  simp [execOp,ho,Instr.next,h1,KC hb,hsz]
 ·
  simp only [dG]; exact ⟨_,rfl,aZ.cons rfl aZ.nil⟩
theorem Conc.xV {w:World} {m:jM} {σ:List bg} (h:Conc w m σ) {i b:Nat} {ty:TypeId} {cs:List PV} (hi:σ[i]?=some (bg.xV b ty cs)):
  ∃ vs:List Value,w.heap[b]?=some (.cells vs.toArray ty (0,0))∧aZ w m cs vs∧∀ off,¬ m b off:=h.each _ (List.mem_of_getElem? hi)
theorem AO.xM {t:TypeId} {x:Operand} {cs:List PV} {b off i:Nat} {ty:TypeId} {ag:Bool} {k:Nat} {p:PV} (ho:o.op=.load t x) (hx:ρ x=.val (.pointer (some ⟨b,off,none⟩))) (hi:σ[i]?=some (bg.xV b ty cs))
  (ht:jo P t=some (ag,k)) {cs':List PV} (hd:Dx off cs=some cs') (hp:yS ag k cs'=some p) (hR:R p σ):AO P o ρ σ R S:=by
 obtain ⟨rfl,_⟩:=Dw hd; refine AO.of_same hR fun w m ev hr hc=>?_; have h:=hr x (by simp [ho,Op.operands]); rw [hx] at h; simp only [dG] at h; obtain ⟨vs,g1,g2,_⟩:=hc.xV hi
 obtain ⟨v,h5,h6⟩:=yB ht hp (g2.drop off) (b:=b) (off:=off) fun i v hv=>by
  rw [cell_of_row w b (off + i) vs.toArray ty (0,0) g1]; simpa [List.getElem?_drop] using hv
 exact ⟨v,by simp [execOp,ho,Instr.loadAt,h,Instr.sureAddr,h5],h6⟩
theorem AO.K7 {t:TypeId} {x y:Operand} {cs new cs':List PV} {b off i:Nat} {ty:TypeId} {ag:Bool} {k:Nat} {σ':List bg} (ho:o.op=.store t x y) (hx:ρ x=.val (.pointer (some ⟨b,off,none⟩))) (hi:σ[i]?=some (bg.xV b ty cs))
  (ht:jo P t=some (ag,k)) (hnew:(ρ y).BO=some new) (hone:new.all PV.one=true) (hk:Nat.beq new.length k=true) (hput:VL cs off new=some cs') (hset:Fj σ i (.xV b ty cs')=some σ') (hR:R .undef σ'):AO P o ρ σ R S:=by
 obtain ⟨hnew,hok⟩:=CS hnew; have hnew:=hnew.symm; have hk:=Nat.eq_of_beq_eq_true hk; obtain ⟨rfl,hfit⟩:=MN hput; have hset:=P5 hset; subst hset; intro w m a K QC hr hc hK _; have h:=hr x (by simp [ho,Op.operands]); have hy:=hr y (by simp [ho,Op.operands]); rw [hx] at h; simp only [dG] at h; obtain ⟨vs,g1,g2,g3⟩:=hc.xV hi; have hyl:=hy.cells hok; rw [hnew] at hyl; have hl:=hyl.length_eq; have hl2:=g2.length_eq; have hst:=run_storeCells_at P b off ty (a.eval y).cells.toList 0 vs.toArray w g1 (by simp at hl ⊢; omega) (hyl.oneCell hone); obtain ⟨_,hsz⟩:=CJ ht w; have hsize:(a.eval y).cells.size=k:=by rw [←Array.length_toList,hl,hk]
 have hrun:(execOp a.eval o).run P w=.ok .skip (w.setRow b (vs.take off ++ ((a.eval y).cells.toList ++ vs.drop (off + (a.eval y).cells.toList.length))).toArray):=by
  simp only [execOp,ho,Instr.storeAt,h,Instr.sureAddr,storeVar,Sem.run_bind,Sem.run_pure,Result.andThen_ok,hsz,hsize,ne_eq,not_true_eq_false,if_false]; rw [hst]; simp
 have hl':aZ w m (putCells cs off new) (vs.take off ++ ((a.eval y).cells.toList ++ vs.drop (off + (a.eval y).cells.toList.length))):=by
  unfold putCells; refine (g2.take off).append (hyl.append ?_); rw [hl]; exact g2.drop _
 have hrow:=setRow_heap w b vs.toArray (vs.take off ++ ((a.eval y).cells.toList ++ vs.drop (off + (a.eval y).cells.toList.length))).toArray ty (0,0) g1; have hother:∀ k,k≠b→(w.setRow b (vs.take off ++ ((a.eval y).cells.toList ++ vs.drop (off + (a.eval y).cells.toList.length))).toArray).heap[k]?=w.heap[k]?:=fun k hk=>setRow_other w b k _ hk
 have hle:Le w m (w.setRow b (vs.take off ++ ((a.eval y).cells.toList ++ vs.drop (off + (a.eval y).cells.toList.length))).toArray) m:=by
  intro c off hco; refine ⟨hco,World.cell?_of_block (w:=w) (hother c ?_)⟩; intro e; subst e; exact g3 off hco
 obtain ⟨k1,k2⟩:=Conc.write (r':=.xV b ty (putCells cs off new)) hc hi rfl rfl g3 ⟨_,hrow,aZ.mono hle _ _ hl',g3⟩ ⟨rfl,rfl,rfl⟩ (by simp [World.setRow]) hother; unfold Oper.wp; rw [hrun]; exact hK .undef _ _ _ m hR trivial k1 k2
theorem Ol {w:World} {m:jM} {r:bg} {τ:List bg} (h:r.holds w m) (hn:r.fp.Nodup) (hd:∀ b∈r.fp,b∉lX τ) (hc:Conc w m τ):Conc w m (r :: τ):=by
 refine ⟨fun x hx=>?_,?_,hc.wf,hc.uq⟩
 ·
  rcases List.mem_cons.1 hx with rfl | hx
  · exact h
  · exact hc.each x hx
 ·
  have e:lX (r :: τ)=r.fp ++ lX τ:=by simp [lX]
  rw [e,List.nodup_append]; exact ⟨hn,hc.apart,fun a ha b hb hab=>hd a ha (hab ▸ hb)⟩
theorem AO.Vj {e eu:TypeId} {cs:List PV} (ho:o.op=.alloc e) (hz:nI P e=some cs) (hcs:cs=[.val (.pointer none),.own (.slice none 0 0) []])
  (hR:∀ b,R (.val (.pointer (some ⟨b,0,none⟩))) (.NC b (.slice none 0 0) e eu [] :: σ)):AO P o ρ σ R S:=by
 refine AO.of_run' fun w m ev hr hc=>?_; obtain ⟨z,h1,h2⟩:=IK hz w
 have hz':z.cells.toList=[.pointer none,.slice none 0 0]:=by
  have:=h2 m; rw [hcs] at this; simp only [aZ,dG] at this; obtain ⟨v,vs,e1,rfl,v2,vs2,rfl,⟨rfl,_⟩,rfl⟩:=this; exact e1
 have amU:z.cells=#[.pointer none,.slice none 0 0]:=by rw [←Array.toArray_toList (xs:=z.cells),hz']
 have hc':=uR hc (.cells z.cells e) (fun _=>False)
 have hnew:Conc (w.alloc (.cells z.cells e)) (fun b off=>m b off∨(b=w.heap.size∧False)) (.NC w.heap.size (.slice none 0 0) e eu [] :: σ):=by
  refine Ol ⟨⟨.pointer none,.inl rfl,?_⟩,fun off ho=>?_,rfl,⟨rfl,.inl ⟨rfl,rfl⟩⟩,fun g hg=>by cases hg⟩ (by simp [bg.fp,Value.ownBlock]) (fun b hb hm=>?_) hc'
  · rw [heap_alloc_new w _,amU]
  ·
   rcases ho with ho | ⟨_,ho⟩
   · have:=hc.wf _ off ho; omega
   · exact ho
  ·
   simp [bg.fp,Value.ownBlock] at hb; subst hb; have:=hc.RB _ hm; omega
 refine ⟨_,_,.pointer (some ⟨w.heap.size,0,none⟩),_,_,hR w.heap.size,?_,by simp [dG],hnew,lM hc _ _ fun b hb=>?_⟩
 · simp [execOp,ho,Instr.alloc,newVar,newRow,h1,go_sem]
 ·
  simp [lX,bg.fp,Value.ownBlock] at hb ⊢; rcases hb with hb | hb
  · exact .inr hb
  · exact .inl hb
theorem Conc.X8 {w:World} {m:jM} {b:Nat} {v:Value} {ty e:TypeId} {bs:List UInt8} {τ:List bg} (hc:Conc w m (.NC b v ty e bs :: τ)):
  ∃ p m',(p=Value.pointer none∨p=.pointer (some ⟨b,0,none⟩))∧roomy v=true∧Conc w m' (.xV b ty [.val p,.own v (bs.map uM)] :: .row v bs.length 1 e :: τ)∧
   Trans w m (.NC b v ty e bs :: τ) w m' (.xV b ty [.val p,.own v (bs.map uM)] :: .row v bs.length 1 e :: τ):=by
 obtain ⟨⟨p,hp,hb⟩,hmb,hroom,hrow,V6⟩:=hc.each _ List.mem_cons_self; have hap:=hc.apart; have adg:lX (.NC b v ty e bs :: τ)=b :: (v.ownBlock.toList ++ lX τ):=by simp [lX,bg.fp]
 rw [adg,List.nodup_cons,List.nodup_append] at hap; have hbn:v.ownBlock≠some b:=fun h=>hap.1 (by simp [h]); have hle:Le w m w (fun c off=>m c off∨(v.ownBlock=some c∧off < bs.length * 1)):=fun c off h=>⟨.inl h,rfl⟩; have hc2:Conc w m τ:=Conc.sub hc (List.sublist_cons_self _ _)
 have hτ:Conc w (fun c off=>m c off∨(v.ownBlock=some c∧off < bs.length * 1)) τ:=by
  refine ⟨fun r hr=>bg.qC (hc2.each r hr) hle fun c hcf=>⟨rfl,fun off h=>?_⟩,hc2.apart,fun c off h=>?_,iw.mono hle hc.uq⟩
  ·
   rcases h with h | ⟨h,_⟩
   · exact h
   · exact absurd rfl (hap.2.2.2 c (by simp [h]) c (by simp only [lX,List.mem_flatMap]; exact ⟨r,hr,hcf⟩))
  ·
   rcases h with h | ⟨h,_⟩
   · exact hc.wf c off h
   · exact hrow.block_lt h
 have hrep:dG w (fun c off=>m c off∨(v.ownBlock=some c∧off < bs.length * 1)) (.own v (bs.map uM)) v:=by
  simp only [dG]; refine ⟨trivial,?_⟩; rcases hrow.2 with ⟨rfl,hn⟩ | ⟨g,cap,cur,fz,rfl,hg,hfz,hnc,hcm,hcs,htake⟩
  · exact ⟨none,0,by simp [hn],by simp [hn],.inl (by simpa using List.eq_nil_of_length_eq_zero hn)⟩
  ·
   refine ⟨some ⟨g,0,none⟩,cap,by simp,by simp; omega,.inr ⟨g,0,1,rfl,qF.2 ⟨Gh bs,oH.2 ⟨bs.map fun c=>.int .u8 (c.toNat:Int),?_,fun j u hj=>⟨.inr ⟨rfl,?_⟩,?_⟩⟩⟩⟩⟩
   · rw [LX]; exact (Gt bs _).2 rfl
   ·
    have:=(List.getElem?_eq_some_iff.1 hj).1; simp at this; omega
   ·
    have hlt:j < bs.length * 1:=by have:=(List.getElem?_eq_some_iff.1 hj).1; simp at this; omega
    rw [Nat.zero_add,hrow.cell (b:=g) rfl hlt]; exact hj
 have am4:∀ c∈(bg.row v bs.length 1 e).fp,c∉lX τ:=fun c hcf=>hap.2.2.2 c hcf c |> fun h=>fun hm=>h hm rfl
 have alR:Conc w (fun c off=>m c off∨(v.ownBlock=some c∧off < bs.length * 1)) (.row v bs.length 1 e :: τ):=by
  refine Ol ⟨_,hrow,fun c hcv off h=>?_⟩ (by cases h:v.ownBlock <;> simp [bg.fp,h]) am4 hτ; rcases h with h | h
  · exact V6 c hcv off h
  · exact h.2
 refine ⟨p,_,hp,hroom,Ol ⟨[p,v],hb,aZ.cons (by simp [dG]) (aZ.cons hrep aZ.nil),fun off h=>?_⟩ (by simp [bg.fp]) (fun c hcf=>?_) alR,⟨rfl,rfl,rfl,Nat.le_refl _,hle,fun c _ hn=>⟨rfl,fun off h=>?_⟩,fun c hcf=>.inl ?_,fun _=>Nat.le_refl _⟩⟩
 ·
  rcases h with h | ⟨h,_⟩
  · exact hmb off h
  · exact hbn h
 ·
  simp only [bg.fp,List.mem_singleton] at hcf; subst hcf; have:lX (.row v bs.length 1 e :: τ)=v.ownBlock.toList ++ lX τ:=by simp [lX,bg.fp]
  rw [this]; exact hap.1
 ·
  rcases h with h | ⟨h,_⟩
  · exact h
  · exact absurd (by rw [adg]; simp [h]) hn
 ·
  have:lX (.xV b ty [.val p,.own v (bs.map uM)] :: .row v bs.length 1 e :: τ)=b :: (v.ownBlock.toList ++ lX τ):=by simp [lX,bg.fp]
  rw [this] at hcf; rw [adg]; exact hcf
theorem X6 {w:World} {m:jM} {v:Value} {n sz:Nat} {e:TypeId} {xs:List Value} {l:List (List PV)} (hrow:vZ w e sz v n xs) (hn:l.length=n) (hsz:∀ x∈l,x.length=sz) (hl:dG w m (.own v l) v):aZ w m l.flatten xs:=by
 simp only [dG] at hl; obtain ⟨_,a,cap,h1,h2,h3⟩:=hl; rcases h3 with h3 | ⟨b,off,sz',rfl,h4⟩
 ·
  subst h3; have:xs=[]:=List.eq_nil_of_length_eq_zero (by rw [hrow.1]; simp at hn; simp [←hn]); subst this; simpa using aZ.nil
 ·
  obtain ⟨vs,k1,k2⟩:=oH.1 (qF.1 h4).2
  have hvx:vs=xs:=by
   rcases hrow.2 with ⟨rfl,_⟩ | ⟨g,cap0,cur,fz,rfl,hg1,_,_,_,_,htake⟩
   · cases h1
   ·
    cases h1
    have hvl:vs.length=xs.length:=by
     rw [k1.length_eq,hrow.1]
     have:∀ (l:List (List PV)),(∀ x∈l,x.length=sz)→l.flatten.length=l.length * sz:=by
      intro l
      induction l with
      | nil=>simp
      | cons e es ih=>
       intro h; have h0:=h e (by simp); have:=ih fun x hx=>h x (by simp [hx]); simp only [List.flatten_cons,List.length_append,List.length_cons,this,h0,Nat.add_mul]; omega
     rw [this l hsz]
    apply List.ext_getElem hvl; intro j h1 h2; have h5:=(k2 j vs[j] (by simp [h1])).2; rw [Nat.zero_add,vZ.cell hrow (b:=b) rfl (by rw [←hrow.1]; exact h2)] at h5; simpa [h2] using h5.symm
  subst hvx; exact k1
theorem Conc.ado {w:World} {m:jM} {b:Nat} {v p:Value} {ty e:TypeId} {bs:List UInt8} {τ:List bg} (hp:p=Value.pointer none∨p=.pointer (some ⟨b,0,none⟩)) (hroom:roomy v=true)
  (hc:Conc w m (.xV b ty [.val p,.own v (bs.map uM)] :: .row v bs.length 1 e :: τ)):
  Conc w m (.NC b v ty e bs :: τ)∧Trans w m (.xV b ty [.val p,.own v (bs.map uM)] :: .row v bs.length 1 e :: τ) w m (.NC b v ty e bs :: τ):=by
 obtain ⟨vs,hb,hrep,hmb⟩:=hc.each _ List.mem_cons_self; obtain ⟨xs,hrow,V6⟩:=hc.each (.row v bs.length 1 e) (by simp); have adg:lX (.xV b ty [.val p,.own v (bs.map uM)] :: .row v bs.length 1 e :: τ)=lX (.NC b v ty e bs :: τ):=by simp [lX,bg.fp]
 simp only [aZ] at hrep; obtain ⟨v1,vs1,rfl,h1,v2,vs2,rfl,h2,rfl⟩:=hrep; simp only [dG] at h1; subst h1; have h2':=h2; simp only [dG] at h2'; obtain ⟨rfl,_⟩:=h2'; have hx:=X6 hrow (by simp) (Gh bs) h2; rw [LX] at hx; have hx:=(Gt bs xs).1 hx; subst hx; refine ⟨⟨fun r hr=>?_,by rw [←adg]; exact hc.apart,hc.wf,hc.uq⟩,⟨rfl,rfl,rfl,Nat.le_refl _,Le.refl _ _,fun _ _ _=>⟨rfl,fun _ h=>h⟩,fun c hcf=>.inl (by rw [adg]; exact hcf),fun _=>Nat.le_refl _⟩⟩; rcases List.mem_cons.1 hr with rfl | hr
 · exact ⟨⟨_,hp,hb⟩,hmb,hroom,hrow,V6⟩
 · exact hc.each r (by simp [hr])
theorem AC.NC {P:Program} {f:FuncId} {args:List PV} {b:Nat} {v:Value} {ty e:TypeId} {bs:List UInt8} {R:eD→List bg→Prop}
  (h:∀ p,(p=Value.pointer Option.none∨p=.pointer (some ⟨b,0,Option.none⟩))→roomy v=true→AC P f args [.xV b ty [.val p,.own v (bs.map uM)],.row v bs.length 1 e] fun out σ'=>
   ∃ p' v' bs',σ'=[.xV b ty [.val p',.own v' (bs'.map uM)],.row v' bs'.length 1 e]∧(p'=Value.pointer Option.none∨p'=.pointer (some ⟨b,0,Option.none⟩))∧roomy v'=true∧R out [.NC b v' ty e bs']):
  AC P f args [.NC b v ty e bs] R:=by
 intro w m vs hc hv; obtain ⟨p,m',hp,hroom,hc',ht⟩:=hc.X8; refine (h p hp hroom w m' vs hc' (aZ.mono ht.le _ _ hv)).mono fun en w' ⟨out,σ',m'',⟨p',v',bs',hσ,hp',hroom',hR⟩,hout,hc'',ht'⟩=>?_; subst hσ; obtain ⟨k1,k2⟩:=hc''.ado hp' hroom'; exact ⟨out,_,m'',hR,hout,k1,(ht.trans ht').trans k2⟩
end
end Go.Abs
namespace Go.Abs
variable [iw]
open Go Go.Ft
section
variable {P : Program} {o : Oper} {ρ : Operand → PV} {σ : List bg} {R S : PV → List bg → Prop}
theorem AO.abw {t u te:TypeId} {x y:Operand} {q:Option Addr} (ho:o.op=.binOp .eql t x y u) (hu:P.underlying t=some (.pointer te)) (hx:ρ x=.val (.pointer q)) (hy:ρ y=.val (.pointer none))
  (hR:R (.bool q.isNone) σ):AO P o ρ σ R S:=by
 refine AO.of_same hR fun w m ev hr _=>?_; have h1:=hr x (by simp [ho,Op.operands]); have h2:=hr y (by simp [ho,Op.operands]); rw [hx] at h1; rw [hy] at h2; simp only [dG] at h1 h2; refine ⟨.bool q.isNone,?_,by simp only [dG]⟩; have e1:binOp .eql t (.pointer q) (.pointer none)=(do pure (.bool (←Op.equal t (.pointer q) (.pointer none)))):=rfl
 have e2:(Op.equal t (.pointer q) (.pointer none)).run P w=.ok q.isNone w:=by
  show (Op.equalIn (9999 + 1) t (.pointer q) (.pointer none)).run P w=_; generalize 9999=d; unfold Op.equalIn; simp only [Sem.run_bind,run_underlying hu,Result.andThen_ok]; cases q <;> simp
 simp only [execOp,ho,h1,h2,e1,Sem.run_bind,Sem.run_pure]; simp [eqGuard,e2]
theorem AO.VN {t u te:TypeId} {x y:Operand} {a:Addr} {j:TypeInfo} (ho:o.op=.binOp .neq t x y u) (hu:P.underlying t=some (.pointer te)) (hte:P.info? te=some j) (hx:ρ x=.val (.pointer (some a))) (hy:ρ y=.val (.pointer (some a)))
  (hR:R (.bool false) σ):AO P o ρ σ R S:=by
 refine AO.of_same hR fun w m ev hr _=>?_; have h1:=hr x (by simp [ho,Op.operands]); have h2:=hr y (by simp [ho,Op.operands]); rw [hx] at h1; rw [hy] at h2; simp only [dG] at h1 h2; refine ⟨.bool false,?_,by simp only [dG]⟩; have e2:=Lib.run_neq_ptr_same w a hu hte; simp only [execOp,ho,h1,h2,Sem.run_bind]; simp [eqGuard,e2]
theorem sized {t n:Nat} (h:(P.info? t).map (·.size)=some n) (hn:(n != 0)=true):∃ j,P.info? t=some j∧(j.size != 0)=true:=by
 cases e:P.info? t with
 | none=>rw [e] at h; cases h
 | some j=>
  rw [e] at h; simp only [Option.map_some,Option.some.injEq] at h; exact ⟨j,rfl,by rw [h]; exact hn⟩
theorem AO.acv {src dst t e:TypeId} {x:Operand} {b i n:Nat} {cs:List PV} {j:TypeInfo} (ho:o.op=.convert src dst x) (hs:P.underlying src=some (.pointer t)) (hd:P.underlying dst=some .unsafePointer) (ht:P.info? t=some j) (hj:(j.size != 0)=true)
  (hx:ρ x=.val (.pointer (some ⟨b,0,none⟩))) (hi:σ[i]?=some (bg.xV b e cs)) (hn:cs.length=n + 1) (hR:R (.val (.pointer (some ⟨b,0,none⟩))) σ):AO P o ρ σ R S:=by
 refine AO.of_same hR fun w m ev hr hc=>?_; have h1:=hr x (by simp [ho,Op.operands]); rw [hx] at h1; simp only [dG] at h1; obtain ⟨vs,g1,g2,_⟩:=hc.xV hi; have hsh:w.shape? b=some (e,vs.length):=by simp [World.shape?,g1]
 have hl:=g2.length_eq; refine ⟨.pointer (some ⟨b,0,none⟩),?_,by simp only [dG]⟩; have:=Lib.run_to_unsafe w ⟨b,0,none⟩ hs hd ht (by simpa using hj) hsh (by show 0 < vs.length; omega); simp [execOp,ho,h1,this]
theorem AO.Yy {src dst u e:TypeId} {x:Operand} {b i n:Nat} {cs:List PV} {j:TypeInfo} (ho:o.op=.convert src dst x) (hs:P.underlying src=some .unsafePointer) (hd:P.underlying dst=some (.pointer u)) (hu:P.info? u=some j)
  (hx:ρ x=.val (.pointer (some ⟨b,0,none⟩))) (hi:σ[i]?=some (bg.xV b e cs)) (hn:cs.length=n) (hlies:liesAt P P.depth e (n / P.cellsOf e) 0 u 1=true) (hR:R (.val (.pointer (some ⟨b,0,none⟩))) σ):AO P o ρ σ R S:=by
 refine AO.of_same hR fun w m ev hr hc=>?_; have h1:=hr x (by simp [ho,Op.operands]); rw [hx] at h1; simp only [dG] at h1; obtain ⟨vs,g1,g2,_⟩:=hc.xV hi; have hsh:w.shape? b=some (e,n):=by simp [World.shape?,g1,←hn,g2.length_eq]
 refine ⟨.pointer (some ⟨b,0,none⟩),?_,by simp only [dG]⟩; have:=Lib.run_from_unsafe w ⟨b,0,none⟩ hs hd hu hsh hlies; simp [execOp,ho,h1,this]
theorem AO.ae_ {c:Call} {x R4:Operand} {f:FuncId} {fn:Func} {p:PV} (ho:o.op=.call c) (lW:c.callee=.value R4) (hf:ρ R4=.fn f []) (hargs:c.args=#[x])
  (h1:P.funcs[f]?=some fn) (h2:(fn.name == "runtime.NumGoroutine")=false) (h3:fn.body.isNone=true) (h4:Extern.findNext fn=none) (h5:Extern.find fn=some Extern.AbiNoEscape.same) (hx:ρ x=p)
  (hR:R p σ):AO P o ρ σ R S:=by
 refine AO.of_same hR fun w m ev hr _=>?_; have hv:=hr x (by simp [ho,Op.operands,Call.operands,lW,hargs]); have hc:=hr R4 (by simp [ho,Op.operands,Call.operands,lW,hargs]); rw [hf] at hc; simp only [dG,aZ] at hc; obtain ⟨cs,hc,rfl⟩:=hc; rw [hx] at hv; refine ⟨ev x,?_,hv⟩; have:=run_callFunc_extern (P:=P) h1 h2 h3 h4 h5 #[ev x] w; rw [Lib.run_noEscape] at this; simp only [Result.andThen] at this; unfold execOp; simp only [ho,resolve,lW,hc,hargs,Deferred.ofValue,invoke,Sem.run_bind,Sem.run_pure,Result.andThen_ok]; simp [this]
def X0 :Value→Option Addr
 | .slice a _ _=>a
 | _=>none
theorem AO.sliceData {c:Call} {x:Operand} {v:Value} {l:List (List PV)} (ho:o.op=.call c) (lW:c.callee=.builtin .unsafeSliceData) (hargs:c.args=#[x]) (hx:ρ x=.own v l) (hroom:roomy v=true)
  (hR:R (.val (.pointer (X0 v))) σ):AO P o ρ σ R S:=by
 refine AO.of_same hR fun w m ev hr _=>?_; have h1:=hr x (by simp [ho,Op.operands,Call.operands,lW,hargs]); rw [hx] at h1; simp only [dG] at h1; obtain ⟨h1,a,cap,h2,_⟩:=h1; have h3:v=.slice a l.length cap:=h1 ▸ h2; subst h3; refine ⟨.pointer a,?_,by simp only [dG,X0]⟩; cases a with
 | none=>simp [execOp,ho,resolve,lW,hargs,invoke,builtin,h1,Lib.run_unsafeSliceData_nil]
 | some a=>
  have hc:cap≠0:=by simpa [roomy] using hroom
  simp [execOp,ho,resolve,lW,hargs,invoke,builtin,h1,Lib.run_unsafeSliceData_row _ _ _ _ _ _ hc]
theorem AO.unsafeString {c:Call} {x y:Operand} {pt it e eu:TypeId} {b:Nat} {v p:Value} {bs:List UInt8} (ho:o.op=.call c) (lW:c.callee=.builtin .unsafeString) (hargs:c.args=#[x,y]) (hty:c.argTypes=#[pt,it])
  (hp:P.underlying pt=some (.pointer eu)) (hce:P.cellsOf eu=1) (hσ:σ=[.xV b e [.val p,.own v (bs.map uM)],.row v bs.length 1 eu]) (hx:ρ x=.val (.pointer (X0 v))) (hy:ρ y=.int .i64 bs.length)
  (hR:R (.str bs) []):AO P o ρ σ R S:=by
 subst hσ; refine AO.of_run' fun w m ev hr hc=>?_; have h1:=hr x (by simp [ho,Op.operands,Call.operands,lW,hargs]); have h2:=hr y (by simp [ho,Op.operands,Call.operands,lW,hargs]); rw [hx] at h1; rw [hy] at h2; simp only [dG] at h1 h2; obtain ⟨vs,g1,g2,_⟩:=hc.each (.xV b e [.val p,.own v (bs.map uM)]) (by simp); obtain ⟨xs,hrow,V6⟩:=hc.each (.row v bs.length 1 eu) (by simp); simp only [aZ] at g2; obtain ⟨v1,vs1,rfl,g3,v2,vs2,rfl,g4,rfl⟩:=g2; have hvv:v2=v:=by simp only [dG] at g4; exact g4.1
 rw [hvv] at g4; have hxs:=X6 hrow (by simp) (Gh bs) g4; rw [LX] at hxs; have hxs:=(Gt bs xs).1 hxs; subst hxs
 have ex:∀ r,(Builtin.unsafeString_ #[pt,it] o.type #[.pointer (X0 v),.int .i64 bs.length]).run P w=r→(execOp ev o).run P w=r.andThen fun v w'=>.ok (.value v) w':=by
  intro r hr'; simp [execOp,ho,resolve,lW,hargs,hty,invoke,builtin,h1,h2]; rw [←hr']
 have fin:∀ w',w'.os=w.os→w'.tape=w.tape→w'.output=w.output→w'.heap.size=w.heap.size→w'.drawn=w.drawn→(∀ k a,(w'.cell? ⟨k,a,none⟩)=w.cell? ⟨k,a,none⟩)→(∀ k,v.ownBlock≠some k→w'.heap[k]?=w.heap[k]?)→
   Conc w' m []∧Trans w m [.xV b e [.val p,.own v (bs.map uM)],.row v bs.length 1 eu] w' m []:=by
  intro w' e1 e2 e3 e4 ed e5 e6; refine ⟨⟨by simp,by simp [lX],fun c off h=>by rw [e4]; exact hc.wf c off h,iw.mono (fun c off h=>⟨h,e5 c off⟩) hc.uq⟩,⟨e1,e2,e3,by omega,fun c off h=>⟨h,e5 c off⟩,fun c hcl hn=>⟨e6 c fun h=>hn ?_,fun _ h=>h⟩,by simp [lX],fun _=>Nat.le_of_eq ed.symm⟩⟩; simp [lX,bg.fp,h]
 by_cases h0:bs=[]
 ·
  subst h0; have hrun:=Lib.run_unsafeString_none (P:=P) w pt it o.type (X0 v); obtain ⟨k1,k2⟩:=fin w rfl rfl rfl rfl rfl (fun _ _=>rfl) (fun _ _=>rfl); exact ⟨.str [],[],.string .empty,w,m,hR,by rw [ex _ (by simpa using hrun)]; rfl,by simp only [dG]; rfl,k1,k2⟩
 ·
  rcases hrow.2 with ⟨_,hn⟩ | ⟨g,cap,cur,fz,rfl,hg,hfz,hnc,hcm,hcs,htake⟩
  · exact absurd (List.eq_nil_of_length_eq_zero hn) h0
  ·
   have hsh:w.shape? g=some (eu,cur.size):=by simp [World.shape?,hg]
   have hrun:=Lib.run_unsafeString_row (P:=P) w pt it o.type eu hp hce g cur.size hsh bs h0 (by omega) (by unfold maxLen at hcm; omega) (fun j x hj=>by
    rw [Addr.add_lit,Nat.zero_add,hrow.cell (b:=g) rfl (by have:=(List.getElem?_eq_some_iff.1 hj).1; omega)]
    simp [hj])
   have hz:bs.length≠0:=by simpa using h0
   have hsame:∀ k,k≠g→(w.freeze ⟨g,0,none⟩ bs.length).heap[k]?=w.heap[k]?:=by
    intro k hk; simp [World.freeze,hz,Array.getElem?_modify,Ne.symm hk]
   have hcell:∀ k a,(w.freeze ⟨g,0,none⟩ bs.length).cell? ⟨k,a,none⟩=w.cell? ⟨k,a,none⟩:=by
    intro k a; by_cases hk:k=g
    ·
     subst hk; simp [World.cell?,World.freeze,hz,Array.getElem?_modify,hg]
    · simp only [World.cell?,hsame k hk]
   obtain ⟨k1,k2⟩:=fin (w.freeze ⟨g,0,none⟩ bs.length) (by simp [World.freeze,hz]) (by simp [World.freeze,hz]) (by simp [World.freeze,hz]) (by simp [World.freeze,hz]) (by simp [World.freeze,hz]) hcell (fun k hk=>hsame k fun e=>hk (by subst e; rfl)); refine ⟨.str bs,[],.string ⟨bs.toArray⟩,_,m,hR,?_,by simp only [dG],k1,k2⟩; rw [ex _ hrun]; rfl
theorem AC.ahS {P:Program} {f:FuncId} {args:List PV} {b:Nat} {v:Value} {ty e:TypeId} {bs:List UInt8} {R:eD→List bg→Prop}
  (h:∀ p,roomy v=true→AC P f args [.xV b ty [.val p,.own v (bs.map uM)],.row v bs.length 1 e] R):AC P f args [.NC b v ty e bs] R:=by
 intro w m vs hc hv; obtain ⟨p,m',_,hroom,hc',ht⟩:=hc.X8; refine (h p hroom w m' vs hc' (aZ.mono ht.le _ _ hv)).mono fun en w' ⟨out,σ',m'',hR,hout,hc'',ht'⟩=>?_; exact ⟨out,_,m'',hR,hout,hc'',ht.trans ht'⟩
theorem AO.Vh {c:Call} {s x:Operand} {t tx e:TypeId} {v:Value} {i:Nat} {l m r:List UInt8} (hv:app l m=some r) (ho:o.op=.call c) (lW:c.callee=.builtin .append) (hargs:c.args=#[s,x]) (hty:c.argTypes=#[t,tx])
  (hs:ρ s=.own v (l.map uM)) (hx:Ny P 1 tx (ρ x) (m.map uM)) (hi:σ[i]?=some (bg.row v l.length 1 e)) (hf:iZ P t e 1 1)
  (hR:∀ v' σ',Fj σ i (.row v' r.length 1 e)=some σ'→(roomy v=true→roomy v'=true)→R (.own v' (r.map uM)) σ'):AO P o ρ σ R S:=by
 obtain ⟨h1,rfl⟩:=Gi hv; have hlim:l.length + m.length≤4294967296:=h1; refine AO.ab_ ho lW hargs hty hs hx hi hf (by simp) (Gh l) (Gh m) (by simp only [List.length_map]; exact Nat.le_trans h1 agc) (by simp only [List.length_map]; omega) ?_; intro v' σ' h h'; rw [←List.map_append]; exact hR v' σ' (by simpa using h) h'
theorem AC.one {P:Program} {f:FuncId} {args:List PV} {σ:List bg} {R:eD→List bg→Prop} {r:bg} (i:Nat) (hi:σ[i]?=some r)
  (h:AC P f args [r] fun out σ'=>∃ r',σ'=[r']∧R out (σ.set i r')):AC P f args σ R:=by
 intro w m vs hc hv; have hc1:=hc.perm (Bb hi r).1; refine (h w m vs hc1.left hv).mono fun en w' ⟨out,σ',m',⟨r',hσ,hR⟩,hout,hc',ht⟩=>?_; subst hσ; obtain ⟨f1,f2⟩:=Conc.frame hc1 hc' ht; obtain ⟨p1,p2⟩:=Bb hi r'; exact ⟨out,_,m',hR,hout,f1.perm p2.symm,f2.perm p1.symm p2.symm⟩
theorem AC.abC {P:Program} {f:FuncId} {args:List PV} {σ:List bg} {R:eD→List bg→Prop} {r:bg} (i:Nat) (hi:σ[i]?=some r)
  (h:AC P f args [r] fun out σ'=>R out (σ.eraseIdx i)):AC P f args σ R:=by
 intro w m vs hc hv; have hp:=(Bb hi r).1; have hc1:=hc.perm hp; refine (h w m vs hc1.left hv).mono fun en w' ⟨out,σ',m',hR,hout,hc',ht⟩=>?_; obtain ⟨f1,f2⟩:=Conc.frame hc1 hc' ht; exact ⟨out,_,m',hR,hout,f1.sub (List.sublist_append_right _ _),(f2.perm hp.symm (List.Perm.refl _)).sub (List.sublist_append_right _ _)⟩
end
end Go.Abs
namespace Go.Abs
variable [iw]
open Go Go.Ft
structure Facts where
 ti:List (Nat × Bool × Nat)
 fo:List (Nat × Nat × Nat)
 fd:List (Nat × Nat × Nat × Bool × Nat)
 str:List Nat
def Lu :List (Nat × Bool × Nat)→Nat→Option (Bool × Nat)
 | [],_=>none
 | (t,x) :: r,u=>bif Nat.beq t u then some x else Lu r u
def Wi :List (Nat × Nat × Nat)→Nat→Nat→Option Nat
 | [],_,_=>none
 | (t,f,x) :: r,u,g=>bif (Nat.beq t u && Nat.beq f g) then some x else Wi r u g
def Wj :List (Nat × Nat × Nat × Bool × Nat)→Nat→Nat→Option (Nat × Bool × Nat)
 | [],_,_=>none
 | (t,f,x) :: r,u,g=>bif (Nat.beq t u && Nat.beq f g) then some x else Wj r u g
def fdB (P:Program) (t f:Nat) (off:Nat) (ag:Bool) (k:Nat):Bool:=
 match P.underlying t with
 | some (.struct fs)=>match fs[f]? with
  | some fl=>Nat.beq fl.offset off && (match jo P fl.type with | some (a,n)=>(a == ag) && Nat.beq n k | none=>false)
  | none=>false
 | _=>false
def Gq (P:Program) (t:Nat):Bool:=match P.underlying t with | some .string=>true | _=>false
def Facts.okB (F:Facts) (P:Program):Bool:=
 (F.ti.all fun x=>match jo P x.1 with | some (a,n)=>(a == x.2.1) && Nat.beq n x.2.2 | none=>false) &&
 (F.fo.all fun x=>match Bg P x.1 x.2.1 with | some n=>Nat.beq n x.2.2 | none=>false) &&
 (F.fd.all fun x=>fdB P x.1 x.2.1 x.2.2.1 x.2.2.2.1 x.2.2.2.2) &&
 (F.str.all fun t=>Gq P t)
section
variable {P : Program} {F : Facts}
theorem Facts.agN (h:F.okB P=true) {t:Nat} {x:Bool × Nat} (hf:Lu F.ti t=some x):jo P t=some x:=by
 simp only [Facts.okB,Bool.and_eq_true] at h; have h:=h.1.1.1; revert hf h; generalize F.ti=l
 induction l with
 | nil=>intro hf _; cases hf
 | cons y l ih=>
  obtain ⟨u,a,n⟩:=y; intro hf h; simp only [List.all_cons,Bool.and_eq_true] at h; unfold Lu at hf; cases e:Nat.beq u t with
  | true=>
   rw [e] at hf; simp only [cond_true,Option.some.injEq] at hf; subst hf; have:=Nat.eq_of_beq_eq_true e; subst this; have h1:=h.1; split at h1
   ·
    rename_i a' n' ht; simp only [Bool.and_eq_true,beq_iff_eq] at h1; rw [ht,h1.1,Nat.eq_of_beq_eq_true h1.2]
   · cases h1
  | false=>rw [e] at hf; exact ih hf h.2
theorem Facts.al8 (h:F.okB P=true) {t f x:Nat} (hf:Wi F.fo t f=some x):Bg P t f=some x:=by
 simp only [Facts.okB,Bool.and_eq_true] at h; have h:=h.1.1.2; revert hf h; generalize F.fo=l
 induction l with
 | nil=>intro hf _; cases hf
 | cons y l ih=>
  obtain ⟨u,g,n⟩:=y; intro hf h; simp only [List.all_cons,Bool.and_eq_true] at h; unfold Wi at hf; cases e:(Nat.beq u t && Nat.beq g f) with
  | true=>
   rw [e] at hf; simp only [cond_true,Option.some.injEq] at hf; subst hf; simp only [Bool.and_eq_true] at e; have e1:=Nat.eq_of_beq_eq_true e.1; have e2:=Nat.eq_of_beq_eq_true e.2; subst e1 e2; have h1:=h.1; split at h1
   ·
    rename_i n' ht; rw [ht,Nat.eq_of_beq_eq_true h1]
   · cases h1
  | false=>rw [e] at hf; exact ih hf h.2
theorem Facts.anr (h:F.okB P=true) {t f off k:Nat} {ag:Bool} (hf:Wj F.fd t f=some (off,ag,k)):fdB P t f off ag k=true:=by
 simp only [Facts.okB,Bool.and_eq_true] at h; have h:=h.1.2; revert hf h; generalize F.fd=l
 induction l with
 | nil=>intro hf _; cases hf
 | cons y l ih=>
  obtain ⟨u,g,n⟩:=y; intro hf h; simp only [List.all_cons,Bool.and_eq_true] at h; unfold Wj at hf; cases e:(Nat.beq u t && Nat.beq g f) with
  | true=>
   rw [e] at hf; simp only [cond_true,Option.some.injEq] at hf; subst hf; simp only [Bool.and_eq_true] at e; have e1:=Nat.eq_of_beq_eq_true e.1; have e2:=Nat.eq_of_beq_eq_true e.2; subst e1 e2; exact h.1
  | false=>rw [e] at hf; exact ih hf h.2
theorem afC {t f off k:Nat} {ag:Bool} (h:fdB P t f off ag k=true):∃ fs fl,P.underlying t=some (.struct fs)∧fs[f]?=some fl∧fl.offset=off∧jo P fl.type=some (ag,k):=by
 unfold fdB at h; split at h
 ·
  rename_i fs hu; split at h
  ·
   rename_i fl hfl; simp only [Bool.and_eq_true] at h; refine ⟨fs,fl,hu,hfl,Nat.eq_of_beq_eq_true h.1,?_⟩; have h2:=h.2; split at h2
   ·
    rename_i a n ht; simp only [Bool.and_eq_true,beq_iff_eq] at h2; rw [ht,h2.1,Nat.eq_of_beq_eq_true h2.2]
   · cases h2
  · cases h
 · cases h
end
def acS (F:Facts) (ρ:Operand→PV):Op→Option PV
 | .nilCheck x=>bif (ρ x).notNil then (ρ x).force else none
 | .fieldAddr s x f=>match Wi F.fo s f with
  | some off=>match ρ x with
   | .ref cs=>match Dx off cs with
    | some r=>some (.ref r)
    | none=>none
   | .val (.pointer (some ⟨b,k,none⟩))=>some (.val (.pointer (some ⟨b,k + off,none⟩)))
   | _=>none
  | none=>none
 | .load t x=>match Lu F.ti t with
  | some (ag,k)=>match ρ x with
   | .ref cs=>yS ag k cs
   | _=>none
  | none=>none
 | .field t x f=>match Wj F.fd t f with
  | some (off,ag,k)=>match ρ x with
   | .agg cs=>match Dx off cs with
    | some r=>yS ag k r
    | none=>none
   | _=>none
  | none=>none
 | op=>pev ρ op
theorem Df {P:Program} {F:Facts} (hF:F.okB P=true) {o:Oper} {ρ:Operand→PV} {σ:List bg} {R S:PV→List bg→Prop} {p:PV} (h:acS F ρ o.op=some p) (hR:R p σ):AO P o ρ σ R S:=by
 unfold acS at h; split at h
 ·
  rename_i x ho; cases e:(ρ x).notNil with
  | false=>rw [e] at h; cases h
  | true=>
   rw [e] at h; simp only [cond_true] at h; rw [←PV.force_eq h] at hR; exact AO.nilCheck ho e hR
 ·
  rename_i s x f ho; split at h
  ·
   rename_i off hoff; split at h
   ·
    rename_i cs hx; split at h
    ·
     rename_i r hr; simp only [Option.some.injEq] at h; subst h; exact AO.TA ho hx (Facts.al8 hF hoff) hr hR
    · cases h
   ·
    rename_i b k hx; simp only [Option.some.injEq] at h; subst h; exact AO.jK ho hx (Facts.al8 hF hoff) hR
   · cases h
  · cases h
 ·
  rename_i t x ho; split at h
  ·
   rename_i ag k hti; split at h
   ·
    rename_i cs hx; exact AO.Rf ho hx (Facts.agN hF hti) h hR
   · cases h
  · cases h
 ·
  rename_i t x f ho; split at h
  ·
   rename_i off ag k hfd; obtain ⟨fs,fl,h1,h2,h3,h4⟩:=afC (Facts.anr hF hfd); split at h
   ·
    rename_i cs hx; split at h
    ·
     rename_i r hr; exact AO.field ho h1 h2 h3 h4 hx hr h hR
    · cases h
   · cases h
  · cases h
 · exact AO.calc' h hR
def Ew (all:Array Oper) (env:Env):Option (Nat × Bool)→Option Bool
 | none=>some true
 | some (j,want)=>match all[j]? with
  | some oj=>match oj.dst with
   | some u=>match env.get u with
    | .bool true=>some want
    | .bool false=>some (!want)
    | .val (.tuple ⟨[]⟩)=>some false
    | _=>none
   | none=>none
  | none=>none
theorem rQ {all:Array Oper} {env:Env} {j:Nat} {want r:Bool} (h:Ew all env (some (j,want))=some r):
  ∃ oj u,all[j]?=some oj∧oj.dst=some u∧((r=true∧env.get u=.bool want)∨(r=false∧(env.get u=.bool (!want)∨env.get u=.val Go.undef))):=by
 unfold Ew at h; simp only at h; cases h1:all[j]? with
 | none=>rw [h1] at h; cases h
 | some oj=>
  rw [h1] at h; simp only at h; cases h2:oj.dst with
  | none=>rw [h2] at h; cases h
  | some u=>
   rw [h2] at h; simp only at h; refine ⟨oj,u,rfl,h2,?_⟩; split at h
   ·
    rename_i he; simp only [Option.some.injEq] at h; subst h; cases want with
    | true=>exact .inl ⟨rfl,he⟩
    | false=>exact .inr ⟨rfl,.inl he⟩
   ·
    rename_i he; simp only [Option.some.injEq] at h; subst h; cases want with
    | true=>exact .inr ⟨rfl,.inl he⟩
    | false=>exact .inl ⟨rfl,he⟩
   ·
    rename_i he; simp only [Option.some.injEq] at h; subst h; exact .inr ⟨rfl,.inr he⟩
   · cases h
def Pp (F:Facts) (all:Array Oper) (n:Nat):Nat→List Oper→Env→Option (Env × List Oper)
 | 0,l,env=>some (env,l)
 | _ + 1,[],_=>none
 | k + 1,o :: rest,env=>match o.dst with
  | some t=>bif Nat.blt t n then (match Ew all env o.guard with
   | some true=>match acS F env.ev o.op with
    | some p=>Pp F all n k rest ((t,p) :: env)
    | none=>none
   | some false=>Pp F all n k rest ((t,.val Go.undef) :: env)
   | none=>none) else none
  | none=>none
section
variable {P : Program} {n : Nat} {σ : List bg} {ds : List Deferred} {Q : Post} {all : Array Oper} {F : Facts}
theorem AR.cs (hF:F.okB P=true):∀ (k:Nat) {l l':List Oper} {env env':Env},Pp F all n k l env=some (env',l')→AR P n all l' env' σ ds Q→AR P n all l env σ ds Q
 | 0,l,l',env,env',h,hr=>by simp only [Pp,Option.some.injEq,Prod.mk.injEq] at h; obtain ⟨rfl,rfl⟩:=h; exact hr
 | k + 1,[],l',env,env',h,hr=>by simp [Pp] at h
 | k + 1,o :: rest,l',env,env',h,hr=>by
  unfold Pp at h; cases hd:o.dst with
  | none=>rw [hd] at h; cases h
  | some t=>
   rw [hd] at h; simp only at h; cases ht:Nat.blt t n with
   | false=>rw [ht] at h; cases h
   | true=>
    rw [ht] at h; simp only [cond_true] at h; cases hg:Ew all env o.guard with
    | none=>rw [hg] at h; cases h
    | some r=>
     rw [hg] at h; cases r with
     | true=>
      simp only at h; cases hp:acS F env.ev o.op with
      | none=>rw [hp] at h; cases h
      | some p=>
       rw [hp] at h; have ih:=AR.cs hF k h hr; cases hgo:o.guard with
       | none=>exact AR.step hgo hd ht (Df hF hp ih)
       | some jw=>
        obtain ⟨j,want⟩:=jw; rw [hgo] at hg; obtain ⟨oj,u,h1,h2,h3⟩:=rQ hg; rcases h3 with ⟨_,h3⟩ | ⟨h3,_⟩
        ·
         refine AR.run (b:=want) hgo h1 h2 h3 hd ht rfl ?_; exact AR.step rfl hd ht (Df hF hp ih)
        · cases h3
     | false=>
      simp only at h; have ih:=AR.cs hF k h hr; cases hgo:o.guard with
      | none=>rw [hgo] at hg; cases hg
      | some jw=>
       obtain ⟨j,want⟩:=jw; rw [hgo] at hg; obtain ⟨oj,u,h1,h2,h3⟩:=rQ hg; rcases h3 with ⟨h3,_⟩ | ⟨_,h3 | h3⟩
       · cases h3
       · exact AR.skip hgo h1 h2 h3 hd ht rfl ih
       · exact AR.abu hgo h1 h2 h3 hd ht ih
theorem Ev.cs {K:Env→Prop} (hF:F.okB P=true):∀ (k:Nat) {l l':List Oper} {env env':Env},Pp F all n k l env=some (env',l')→Ev P n all σ env' l' K→Ev P n all σ env l K
 | 0,l,l',env,env',h,hr=>by simp only [Pp,Option.some.injEq,Prod.mk.injEq] at h; obtain ⟨rfl,rfl⟩:=h; exact hr
 | k + 1,[],l',env,env',h,hr=>by simp [Pp] at h
 | k + 1,o :: rest,l',env,env',h,hr=>by
  unfold Pp at h; cases hd:o.dst with
  | none=>rw [hd] at h; cases h
  | some t=>
   rw [hd] at h; simp only at h; cases ht:Nat.blt t n with
   | false=>rw [ht] at h; cases h
   | true=>
    rw [ht] at h; simp only [cond_true] at h; cases hg:Ew all env o.guard with
    | none=>rw [hg] at h; cases h
    | some r=>
     rw [hg] at h; cases r with
     | true=>
      simp only at h; cases hp:acS F env.ev o.op with
      | none=>rw [hp] at h; cases h
      | some p=>
       rw [hp] at h; have ih:=Ev.cs hF k h hr; cases hgo:o.guard with
       | none=>exact Ev.cons hgo hd ht (Df hF hp ⟨rfl,rfl⟩) ih
       | some jw=>
        obtain ⟨j,want⟩:=jw; rw [hgo] at hg; obtain ⟨oj,u,h1,h2,h3⟩:=rQ hg; rcases h3 with ⟨_,h3⟩ | ⟨h3,_⟩
        · exact Ev.run (b:=want) hgo h1 h2 h3 hd ht rfl (Df hF hp ⟨rfl,rfl⟩) ih
        · cases h3
     | false=>
      simp only at h; have ih:=Ev.cs hF k h hr; cases hgo:o.guard with
      | none=>rw [hgo] at hg; cases hg
      | some jw=>
       obtain ⟨j,want⟩:=jw; rw [hgo] at hg; obtain ⟨oj,u,h1,h2,h3⟩:=rQ hg; rcases h3 with ⟨h3,_⟩ | ⟨_,h3 | h3⟩
       · cases h3
       · exact Ev.skip hgo h1 h2 h3 hd ht rfl ih
       · exact Ev.abu hgo h1 h2 h3 hd ht ih
theorem AR.is {l:List Oper} {env:Env} {b want:Bool} (u:Nat) (h:b=want) (hu:env.get u=.bool b) (hr:AR P n all l ((u,.bool want) :: env) σ ds Q):AR P n all l env σ ds Q:=by
 subst h; refine AR.less ?_ hr; intro t; simp only [Env.get]; cases e:Nat.beq u t with
 | false=>exact .inr rfl
 | true=>rw [←Nat.eq_of_beq_eq_true e]; exact .inr hu.symm
theorem Ev.is {K:Env→Prop} (hK:∀ e e',Less e' e→K e'→K e) {l:List Oper} {env:Env} {b want:Bool} (u:Nat) (h:b=want) (hu:env.get u=.bool b) (hr:Ev P n all σ ((u,.bool want) :: env) l K):Ev P n all σ env l K:=by
 subst h; refine Ev.less hK ?_ hr; intro t; simp only [Env.get]; cases e:Nat.beq u t with
 | false=>exact .inr rfl
 | true=>rw [←Nat.eq_of_beq_eq_true e]; exact .inr hu.symm
theorem AR.go {t j u:Nat} {want:Bool} {oj o:Oper} {rest:List Oper} {env:Env} (hg:o.guard=some (j,want)) (hj:all[j]?=some oj) (hu:oj.dst=some u) (hb:env.get u=.bool want) (hd:o.dst=some t) (ht:Nat.blt t n=true)
  (h:AO P {o with guard:=none} env.ev σ (fun p σ'=>AR P n all rest ((t,p) :: env) σ' ds Q) (fun p σ'=>Q (.panic p) env σ' ds)):AR P n all (o :: rest) env σ ds Q:=
 AR.run hg hj hu hb hd ht rfl (AR.step rfl hd ht h)
end
end Go.Abs
namespace Go.Abs
variable [iw]
open Go Go.Ft
inductive Fr where
 | sq (c:Code)
 | bl (id:Nat)
 | lp (R:Env→List bg→List Deferred→Prop)
def den (P:Program) (n:Nat):List Fr→Post→Post
 | [],Q=>Q
 | .sq c :: k,Q=>AX.then (fun e s d=>AW P n c e s d (den P n k Q)) (den P n k Q)
 | .bl id :: k,Q=>AX.inBlock id (den P n k Q)
 | .lp R :: k,Q=>AX.then R (den P n k Q)
inductive St where
 | w (c:Code) (k:List Fr) (e:Env) (s:List bg)
 | r (all:Array Oper) (l:List Oper) (k:List Fr) (e:Env) (s:List bg)
 | x (ax:AX) (k:List Fr) (e:Env) (s:List bg)
def St.ok (P:Program) (n:Nat) (ds:List Deferred) (Q:Post):St→Prop
 | .w c k e s=>AW P n c e s ds (den P n k Q)
 | .r all l k e s=>AR P n all l e s ds (den P n k Q)
 | .x ax k e s=>den P n k Q ax e s ds
structure FB where
 f:Facts
 zp:List (Nat × List PV)
 pl:List (Nat × List (Nat × Nat))
def YD {α:Type}:List (Nat × α)→Nat→Option α
 | [],_=>none
 | (t,x) :: r,u=>bif Nat.beq t u then some x else YD r u
theorem RH {α:Type} {g:Nat→Option α}:∀ {l:List (Nat × α)} {t:Nat} {x:α},l.map (fun y=>g y.1)=l.map (fun y=>some y.2)→YD l t=some x→g t=some x
 | [],t,x,_,h=>by cases h
 | (u,y) :: l,t,x,h0,h=>by
  simp only [List.map_cons,List.cons.injEq] at h0; unfold YD at h; cases e:Nat.beq u t with
  | true=>
   rw [e] at h; simp only [cond_true,Option.some.injEq] at h; rw [←Nat.eq_of_beq_eq_true e,←h]; exact h0.1
  | false=>rw [e] at h; exact RH h0.2 h
structure FB.Ok (F:FB) (P:Program):Prop where
 f:F.f.okB P=true
 zp:F.zp.map (fun x=>nI P x.1)=F.zp.map (fun x=>some x.2)
 pl:F.pl.map (fun x=>yw P x.1)=F.pl.map (fun x=>some x.2)
def opX (F:FB) (s:List bg) (ρ:Operand→PV) (ix A B:List Nat):Op→Option (PV × List Nat × List Nat × List Nat)
 | .load t x=>match Lu F.f.ti t with
  | some (ag,k)=>match ρ x with
   | .ref cs=>match yS ag k cs with
    | some p=>some (p,ix,A,B)
    | none=>none
   | .val (.pointer (some ⟨b,off,none⟩))=>match ix with
    | i :: ix'=>match s[i]? with
     | some (.box b' cs)=>match Dx off cs with
      | some cs'=>match yS ag k cs' with
       | some p=>some (p,ix',b :: A,b' :: B)
       | none=>none
      | none=>none
     | _=>none
    | []=>none
   | _=>none
  | none=>none
 | .box _ x=>match (ρ x).BO with
  | some cs=>match Iw cs with
   | some cs'=>some (.ref cs',ix,A,B)
   | none=>none
  | none=>none
 | .build t parts=>match YD F.zp t with
  | some zc=>match YD F.pl t with
   | some pl=>match Dt (fun i=>pl[i]?) zc (parts.toList.map fun x=>(x.1,ρ x.2)) with
    | some cs=>some (.agg cs,ix,A,B)
    | none=>none
   | none=>none
  | none=>none
 | op=>match acS F.f ρ op with
  | some p=>some (p,ix,A,B)
  | none=>none
def stX (F:FB) (s:List bg) (ρ:Operand→PV) (ix A B:List Nat):Op→Option (List bg × List Nat × List Nat × List Nat)
 | .store t x y=>match Lu F.f.ti t with
  | some (_,k)=>match ρ x with
   | .val (.pointer (some ⟨b,off,none⟩))=>match ix with
    | i :: ix'=>match s[i]? with
     | some (.box b' cs)=>match (ρ y).BO with
      | some new=>bif (new.all PV.one && Nat.beq new.length k) then (match VL cs off new with
       | some cs'=>match Fj s i (.box b cs') with
        | some s'=>some (s',ix',b :: A,b' :: B)
        | none=>none
       | none=>none) else none
      | none=>none
     | _=>none
    | []=>none
   | _=>none
  | none=>none
 | _=>none
def run (F:FB) (n:Nat) (fl:Nat):Nat→Nat→List Nat→List Nat→List Nat→St→Option (List Nat × List Nat × St)
 | 0,_,_,_,_,_=>none
 | f + 1,b,ix,A,B,.w c k e s=>match c with
  | .seq c d=>run F n fl f b ix A B (.w c (.sq d :: k) e s)
  | .block id c=>bif Nat.beq fl 2 && Nat.beq b 0 then some (A,B,.w (.block id c) k e s) else run F n fl f b ix A B (.w c (.bl id :: k) e s)
  | .region _ all false=>run F n fl f b ix A B (.r all all.toList k e s)
  | .skip=>bif Nat.beq fl 2 && Nat.beq b 0 then some (A,B,.w .skip k e s) else run F n fl f b ix A B (.x .normal k e s)
  | .label _=>run F n fl f b ix A B (.x .normal k e s)
  | .exit id=>bif Nat.beq fl 2 && Nat.beq b 0 then some (A,B,.w (.exit id) k e s) else run F n fl f b ix A B (.x (.exit id) k e s)
  | .ret=>bif Nat.beq fl 2 && Nat.beq b 0 then some (A,B,.w .ret k e s) else run F n fl f b ix A B (.x .ret k e s)
  | c=>bif Nat.beq b 0 then some (A,B,.w c k e s) else none
 | f + 1,b,ix,A,B,.r all l k e s=>match l with
  | []=>bif Nat.beq fl 1 && Nat.beq b 0 then some (A,B,.r all [] k e s) else run F n fl f b ix A B (.x .normal k e s)
  | o :: rest=>match b with
   | 0=>some (A,B,.r all (o :: rest) k e s)
   | b + 1=>match o.dst with
    | some t=>bif Nat.blt t n then (match Ew all e o.guard with
     | some true=>match opX F s e.ev ix A B o.op with
      | some (p,ix',A',B')=>run F n fl f b ix' A' B' (.r all rest k ((t,p) :: e) s)
      | none=>none
     | some false=>run F n fl f b ix A B (.r all rest k ((t,.val Go.undef) :: e) s)
     | none=>none) else none
    | none=>match o.guard with
     | none=>match stX F s e.ev ix A B o.op with
      | some (s',ix',A',B')=>run F n fl f b ix' A' B' (.r all rest k e s')
      | none=>none
     | some _=>none
 | f + 1,b,ix,A,B,.x ax k e s=>match k with
  | []=>bif Nat.beq b 0 then some (A,B,.x ax [] e s) else none
  | .sq d :: k=>match ax with
   | .normal=>run F n fl f b ix A B (.w d k e s)
   | ax=>run F n fl f b ix A B (.x ax k e s)
  | .bl id :: k=>match ax with
   | .exit i=>bif Nat.beq i id then run F n fl f b ix A B (.x .normal k e s) else run F n fl f b ix A B (.x (.exit i) k e s)
   | ax=>run F n fl f b ix A B (.x ax k e s)
  | .lp R :: k=>match ax with
   | .normal=>bif Nat.beq b 0 then some (A,B,.x .normal (.lp R :: k) e s) else none
   | ax=>run F n fl f b ix A B (.x ax k e s)
section
variable {P : Program} {F : FB} {n : Nat} {ds : List Deferred} {Q : Post}
theorem UL (hF:F.Ok P) {o:Oper} {ρ:Operand→PV} {s:List bg} {ix A B ix' A' B':List Nat} {p:PV} (h:opX F s ρ ix A B o.op=some (p,ix',A',B')):
  (A'=B'→A=B)∧(A'=B'→∀ {R S:PV→List bg→Prop},R p s→AO P o ρ s R S):=by
 unfold opX at h; split at h
 ·
  rename_i t x ho; split at h
  ·
   rename_i ag k hti; have hti:=Facts.agN hF.f hti; split at h
   ·
    rename_i cs hx; split at h
    ·
     rename_i q hq; simp only [Option.some.injEq,Prod.mk.injEq] at h; obtain ⟨rfl,rfl,rfl,rfl⟩:=h; exact ⟨id,fun _ {_ _} hR=>AO.Rf ho hx hti hq hR⟩
    · cases h
   ·
    rename_i b off hx; split at h
    ·
     rename_i i ix1; split at h
     ·
      rename_i b' cs hi; split at h
      ·
       rename_i cs' hd; split at h
       ·
        rename_i q hq; simp only [Option.some.injEq,Prod.mk.injEq] at h; obtain ⟨rfl,rfl,rfl,rfl⟩:=h; refine ⟨fun h=>(List.cons.inj h).2,fun hab {_ _} hR=>?_⟩; obtain ⟨rfl,_⟩:=List.cons.inj hab; exact AO.aP ho hx hi hti hd hq hR
       · cases h
      · cases h
     · cases h
    · cases h
   · cases h
  · cases h
 ·
  rename_i t x ho; split at h
  ·
   rename_i cs hcs; split at h
   ·
    rename_i cs' hwk; simp only [Option.some.injEq,Prod.mk.injEq] at h; obtain ⟨rfl,rfl,rfl,rfl⟩:=h; exact ⟨id,fun _ {_ _} hR=>AO.Kj ho hcs hwk hR⟩
   · cases h
  · cases h
 ·
  rename_i t parts ho; split at h
  ·
   rename_i zc hz; split at h
   ·
    rename_i pl hpl; split at h
    ·
     rename_i cs hf; simp only [Option.some.injEq,Prod.mk.injEq] at h; obtain ⟨rfl,rfl,rfl,rfl⟩:=h; exact ⟨id,fun _ {_ _} hR=>AO.build ho (RH hF.zp hz) (RH hF.pl hpl) hf hR⟩
    · cases h
   · cases h
  · cases h
 ·
  split at h
  ·
   rename_i q hq; simp only [Option.some.injEq,Prod.mk.injEq] at h; obtain ⟨rfl,rfl,rfl,rfl⟩:=h; exact ⟨id,fun _ {_ _} hR=>Df hF.f hq hR⟩
  · cases h
theorem acA (hF:F.Ok P) {o:Oper} {ρ:Operand→PV} {s s':List bg} {ix A B ix' A' B':List Nat} (h:stX F s ρ ix A B o.op=some (s',ix',A',B')):
  (A'=B'→A=B)∧(A'=B'→∀ {R S:PV→List bg→Prop},R .undef s'→AO P o ρ s R S):=by
 unfold stX at h; split at h
 ·
  rename_i t x y ho; split at h
  ·
   rename_i ag k hti; have hti:=Facts.agN hF.f hti; split at h
   ·
    rename_i b off hx; split at h
    ·
     rename_i i ix1; split at h
     ·
      rename_i b' cs hi; split at h
      ·
       rename_i new hnew; cases hb:(new.all PV.one && Nat.beq new.length k) with
       | false=>rw [hb] at h; cases h
       | true=>
        rw [hb] at h; simp only [cond_true] at h; simp only [Bool.and_eq_true] at hb; split at h
        ·
         rename_i cs' hput; split at h
         ·
          rename_i s1 hset; simp only [Option.some.injEq,Prod.mk.injEq] at h; obtain ⟨rfl,rfl,rfl,rfl⟩:=h; refine ⟨fun h=>(List.cons.inj h).2,fun hab {_ _} hR=>?_⟩; obtain ⟨rfl,_⟩:=List.cons.inj hab; exact AO.cO ho hx hi hti hnew hb.1 hb.2 hput hset hR
         · cases h
        · cases h
      · cases h
     · cases h
    · cases h
   · cases h
  · cases h
 · cases h
theorem AR.nil' {all:Array Oper} {env:Env} {σ:List bg} (h:Q .normal env σ ds):AR P n all [] env σ ds Q:=
 fun w m a _ zB ha=>ha .normal .normal _ _ _ a w m h rfl zB (Trans.refl ..)
theorem gJ (hF:F.Ok P) {fl:Nat} {A' B':List Nat} {st':St} (hr:st'.ok P n ds Q) (hab:A'=B'):∀ (f b:Nat) (ix A B:List Nat) (st:St),run F n fl f b ix A B st=some (A',B',st')→A=B∧st.ok P n ds Q
 | 0,b,ix,A,B,st,h=>by cases h
 | f + 1,b,ix,A,B,.w c k e s,h=>by
  have fin:∀ c,(bif Nat.beq b 0 then some (A,B,St.w c k e s) else none)=some (A',B',st')→A=B∧(St.w c k e s).ok P n ds Q:=by
   intro c h; cases eb:Nat.beq b 0 with
   | false=>rw [eb] at h; cases h
   | true=>
    rw [eb] at h; simp only [cond_true,Option.some.injEq,Prod.mk.injEq] at h; obtain ⟨rfl,rfl,rfl⟩:=h; exact ⟨hab,hr⟩
  cases c with
  | seq c d=>have ih:=gJ hF hr hab f _ _ _ _ _ h; exact ⟨ih.1,AW.seq ih.2⟩
  | block id c=>
   have h:(bif Nat.beq fl 2 && Nat.beq b 0 then some (A,B,St.w (.block id c) k e s) else run F n fl f b ix A B (.w c (.bl id :: k) e s))=some (A',B',st'):=h; cases hfl:Nat.beq fl 2 && Nat.beq b 0 with
   | true=>
    rw [hfl] at h; simp only [cond_true,Option.some.injEq,Prod.mk.injEq] at h; obtain ⟨rfl,rfl,rfl⟩:=h; exact ⟨hab,hr⟩
   | false=>rw [hfl] at h; have ih:=gJ hF hr hab f _ _ _ _ _ h; exact ⟨ih.1,AW.block ih.2⟩
  | region id all g=>
   cases g with
   | false=>
    have ih:=gJ hF hr hab f _ _ _ _ _ h; have:AW P n (.region id all.toList.toArray false) e s ds (den P n k Q):=AW.region (by simpa only [St.ok,Array.toArray_toList] using ih.2); exact ⟨ih.1,by simpa only [St.ok,Array.toArray_toList] using this⟩
   | true=>exact fin _ h
  | skip=>
   have h:(bif Nat.beq fl 2 && Nat.beq b 0 then some (A,B,St.w (.skip) k e s) else run F n fl f b ix A B (.x .normal k e s))=some (A',B',st'):=h; cases hfl:Nat.beq fl 2 && Nat.beq b 0 with
   | true=>
    rw [hfl] at h; simp only [cond_true,Option.some.injEq,Prod.mk.injEq] at h; obtain ⟨rfl,rfl,rfl⟩:=h; exact ⟨hab,hr⟩
   | false=>rw [hfl] at h; have ih:=gJ hF hr hab f _ _ _ _ _ h; exact ⟨ih.1,AW.skip ih.2⟩
  | label l=>have ih:=gJ hF hr hab f _ _ _ _ _ h; exact ⟨ih.1,AW.label ih.2⟩
  | exit id=>
   have h:(bif Nat.beq fl 2 && Nat.beq b 0 then some (A,B,St.w (.exit id) k e s) else run F n fl f b ix A B (.x (.exit id) k e s))=some (A',B',st'):=h; cases hfl:Nat.beq fl 2 && Nat.beq b 0 with
   | true=>
    rw [hfl] at h; simp only [cond_true,Option.some.injEq,Prod.mk.injEq] at h; obtain ⟨rfl,rfl,rfl⟩:=h; exact ⟨hab,hr⟩
   | false=>rw [hfl] at h; have ih:=gJ hF hr hab f _ _ _ _ _ h; exact ⟨ih.1,AW.exit ih.2⟩
  | ret=>
   have h:(bif Nat.beq fl 2 && Nat.beq b 0 then some (A,B,St.w (.ret) k e s) else run F n fl f b ix A B (.x .ret k e s))=some (A',B',st'):=h; cases hfl:Nat.beq fl 2 && Nat.beq b 0 with
   | true=>
    rw [hfl] at h; simp only [cond_true,Option.some.injEq,Prod.mk.injEq] at h; obtain ⟨rfl,rfl,rfl⟩:=h; exact ⟨hab,hr⟩
   | false=>rw [hfl] at h; have ih:=gJ hF hr hab f _ _ _ _ _ h; exact ⟨ih.1,AW.ret ih.2⟩
  | _=>exact fin _ h
 | f + 1,b,ix,A,B,.r all l k e s,h=>by
  cases l with
  | nil=>
   have h:(bif Nat.beq fl 1 && Nat.beq b 0 then some (A,B,St.r all [] k e s) else run F n fl f b ix A B (.x .normal k e s))=some (A',B',st'):=h; cases hfl:Nat.beq fl 1 && Nat.beq b 0 with
   | true=>
    rw [hfl] at h; simp only [cond_true,Option.some.injEq,Prod.mk.injEq] at h; obtain ⟨rfl,rfl,rfl⟩:=h; exact ⟨hab,hr⟩
   | false=>
    rw [hfl] at h; have ih:=gJ hF hr hab f _ _ _ _ _ h; exact ⟨ih.1,AR.nil' ih.2⟩
  | cons o rest=>
   cases b with
   | zero=>
    simp only [run,Option.some.injEq,Prod.mk.injEq] at h; obtain ⟨rfl,rfl,rfl⟩:=h; exact ⟨hab,hr⟩
   | succ b=>
    simp only [run] at h; cases hd:o.dst with
    | some t=>
     rw [hd] at h; simp only at h; cases ht:Nat.blt t n with
     | false=>rw [ht] at h; cases h
     | true=>
      rw [ht] at h; simp only [cond_true] at h; cases hg:Ew all e o.guard with
      | none=>rw [hg] at h; cases h
      | some r=>
       rw [hg] at h; cases r with
       | true=>
        simp only at h; split at h
        ·
         rename_i p ix1 A1 B1 hp; have ih:=gJ hF hr hab f _ _ _ _ _ h; have hs:=UL hF hp; refine ⟨hs.1 ih.1,?_⟩; have h2:=ih.2; simp only [St.ok] at h2 ⊢; cases hgo:o.guard with
         | none=>exact AR.step hgo hd ht (hs.2 ih.1 h2)
         | some jw=>
          obtain ⟨j,want⟩:=jw; rw [hgo] at hg; obtain ⟨oj,u,h1,h2',h3⟩:=rQ hg; rcases h3 with ⟨_,h3⟩ | ⟨h3,_⟩
          ·
           refine AR.run (b:=want) hgo h1 h2' h3 hd ht rfl ?_; exact AR.step rfl hd ht ((UL (o:={o with guard:=none}) hF hp).2 ih.1 h2)
          · cases h3
        · cases h
       | false=>
        simp only at h; have ih:=gJ hF hr hab f _ _ _ _ _ h; refine ⟨ih.1,?_⟩; cases hgo:o.guard with
        | none=>rw [hgo] at hg; cases hg
        | some jw=>
         obtain ⟨j,want⟩:=jw; rw [hgo] at hg; obtain ⟨oj,u,h1,h2,h3⟩:=rQ hg; rcases h3 with ⟨h3,_⟩ | ⟨_,h3 | h3⟩
         · cases h3
         · exact AR.skip hgo h1 h2 h3 hd ht rfl ih.2
         · exact AR.abu hgo h1 h2 h3 hd ht ih.2
    | none=>
     rw [hd] at h; simp only at h; cases hg:o.guard with
     | some x=>rw [hg] at h; cases h
     | none=>
      rw [hg] at h; simp only at h; split at h
      ·
       rename_i s1 ix1 A1 B1 hp; have ih:=gJ hF hr hab f _ _ _ _ _ h; have hs:=acA hF hp; exact ⟨hs.1 ih.1,AR.bQ hg hd (hs.2 ih.1 ih.2)⟩
      · cases h
 | f + 1,b,ix,A,B,.x ax k e s,h=>by
  cases k with
  | nil=>
   simp only [run] at h; cases eb:Nat.beq b 0 with
   | false=>rw [eb] at h; cases h
   | true=>
    rw [eb] at h; simp only [cond_true,Option.some.injEq,Prod.mk.injEq] at h; obtain ⟨rfl,rfl,rfl⟩:=h; exact ⟨hab,hr⟩
  | cons fr k=>
   cases fr with
   | sq d=>cases ax <;> (simp only [run] at h; have ih:=gJ hF hr hab f _ _ _ _ _ h; exact ih)
   | bl id=>
    cases ax with
    | exit i=>
     simp only [run] at h; simp only [St.ok,den,AX.inBlock]; cases eb:Nat.beq i id with
     | false=>rw [eb] at h; have ih:=gJ hF hr hab f _ _ _ _ _ h; exact ih
     | true=>rw [eb] at h; have ih:=gJ hF hr hab f _ _ _ _ _ h; exact ih
    | _=>simp only [run] at h; have ih:=gJ hF hr hab f _ _ _ _ _ h; exact ih
   | lp R=>
    cases ax with
    | normal=>
     simp only [run] at h; cases eb:Nat.beq b 0 with
     | false=>rw [eb] at h; cases h
     | true=>
      rw [eb] at h; simp only [cond_true,Option.some.injEq,Prod.mk.injEq] at h; obtain ⟨rfl,rfl,rfl⟩:=h; exact ⟨hab,hr⟩
    | _=>simp only [run] at h; have ih:=gJ hF hr hab f _ _ _ _ _ h; exact ih
end
end Go.Abs
namespace Go.Abs
variable [iw]
open Go Go.Ft
def afi :List Nat→Nat→Bool
 | [],_=>false
 | x :: r,y=>bif Nat.beq x y then true else afi r y
theorem Yi {p:Nat→Bool}:∀ {l:List Nat} {x:Nat},l.all p=true→afi l x=true→p x=true
 | [],_,_,h=>by cases h
 | y :: r,x,h0,h=>by
  simp only [List.all_cons,Bool.and_eq_true] at h0; unfold afi at h; cases e:Nat.beq y x with
  | true=>rw [←Nat.eq_of_beq_eq_true e]; exact h0.1
  | false=>rw [e] at h; exact Yi h0.2 h
class FK (P:Program) where
 F:FB
 ok:F.Ok P
 pf:List Nat
 pk:pf.all (aV P)=true
def keysOf (e:Env):List Nat:=e.map Prod.fst
def ahK (n:Nat) (o:Oper):Option Nat:=
 match o.guard with
 | none=>match o.dst with
  | some t=>bif Nat.blt t n then some t else none
  | none=>none
 | some _=>none
theorem Wv {n t:Nat} {o:Oper} (h:ahK n o=some t):o.guard=none∧o.dst=some t∧Nat.blt t n=true:=by
 unfold ahK at h; split at h
 ·
  rename_i hg; split at h
  ·
   rename_i u hd; cases e:Nat.blt u n with
   | true=>rw [e] at h; simp only [cond_true,Option.some.injEq] at h; subst h; exact ⟨hg,hd,e⟩
   | false=>rw [e] at h; cases h
  · cases h
 · cases h
def aiL (pf:List Nat) (n:Nat) (e:Env) (o:Oper):Option (Nat × Call × FuncId × List PV):=
 match ahK n o with
 | some t=>match o.op with
  | .call c=>match c.callee with
   | .value R4=>match e.ev R4 with
    | .fn f caps=>bif afi pf f then some (t,c,f,caps) else none
    | _=>none
   | _=>none
  | _=>none
 | none=>none
def goO (n:Nat) (all:Array Oper) (e:Env) (o:Oper):Option Nat:=
 match o.guard,Ew all e o.guard with
 | some _,some true=>match o.dst with
  | some t=>bif Nat.blt t n then some t else none
  | none=>none
 | _,_=>none
def acK (e:Env):List ResultVar→Option (List PV)
 | []=>some []
 | .tmp t :: rs=>match (e.get t).force with
  | some p=>match acK e rs with
   | some ps=>some (p :: ps)
   | none=>none
  | none=>none
 | _=>none
theorem VG {P:Program} {e:Env} {s:List bg}:∀ {rs:List ResultVar} {ps:List PV},acK e rs=some ps→G8 P e s rs ps
 | [],ps,h=>by simp only [acK,Option.some.injEq] at h; exact h.symm
 | .tmp t :: rs,ps,h=>by
  unfold acK at h; split at h
  ·
   rename_i p hp; split at h
   ·
    rename_i qs hq; simp only [Option.some.injEq] at h; subst h; exact ⟨p,qs,rfl,hp,VG hq⟩
   · cases h
  · cases h
 | .cell a t :: rs,ps,h=>by cases h
def ZX (F:FB) (e:Env) (s:List bg):List Nat→List ResultVar→Option (List Nat × List Nat × List PV)
 | _,[]=>some ([],[],[])
 | ix,.tmp t :: rs=>match (e.get t).force with
  | some p=>match ZX F e s ix rs with
   | some (A,B,ps)=>some (A,B,p :: ps)
   | none=>none
  | none=>none
 | i :: ix,.cell a t :: rs=>match e.get a with
  | .val (.pointer (some ⟨b,0,none⟩))=>match s[i]? with
   | some (.box b' cs)=>match Lu F.f.ti t with
    | some (ag,k)=>match yS ag k cs with
     | some p=>match ZX F e s ix rs with
      | some (A,B,ps)=>some (b :: A,b' :: B,p :: ps)
      | none=>none
     | none=>none
    | none=>none
   | _=>none
  | _=>none
 | [],.cell _ _ :: _=>none
theorem VH {P:Program} {F:FB} (hF:F.Ok P) {e:Env} {s:List bg}:∀ {rs:List ResultVar} {ix A B:List Nat} {ps:List PV},ZX F e s ix rs=some (A,B,ps)→A=B→G8 P e s rs ps
 | [],ix,A,B,ps,h,_=>by cases ix <;> (simp only [ZX,Option.some.injEq,Prod.mk.injEq] at h; exact h.2.2.symm)
 | .tmp t :: rs,ix,A,B,ps,h,hab=>by
  have h:(match (e.get t).force with
   | some p=>match ZX F e s ix rs with
    | some (A,B,ps)=>some (A,B,p :: ps)
    | none=>none
   | none=>none)=some (A,B,ps):=by cases ix <;> exact h
  split at h
  ·
   rename_i p hp; split at h
   ·
    rename_i A1 B1 qs hq; simp only [Option.some.injEq,Prod.mk.injEq] at h; obtain ⟨rfl,rfl,rfl⟩:=h; exact ⟨p,qs,rfl,hp,VH hF hq hab⟩
   · cases h
  · cases h
 | .cell a t :: rs,[],A,B,ps,h,hab=>by cases h
 | .cell a t :: rs,i :: ix,A,B,ps,h,hab=>by
  unfold ZX at h; split at h
  ·
   rename_i b hb; split at h
   ·
    rename_i b' cs hi; split at h
    ·
     rename_i ag k ht; split at h
     ·
      rename_i p hp; split at h
      ·
       rename_i A1 B1 qs hq; simp only [Option.some.injEq,Prod.mk.injEq] at h; obtain ⟨rfl,rfl,rfl⟩:=h; simp only [List.cons.injEq] at hab; obtain ⟨rfl,hab⟩:=hab; exact ⟨p,qs,rfl,⟨b,cs,i,ag,k,hb,hi,Facts.agN hF.f ht,hp⟩,VH hF hq hab⟩
      · cases h
     · cases h
    · cases h
   · cases h
  · cases h
def grp (F:FB) (all:Array Oper) (n k:Nat) (l:List Oper) (e:Env) (ks:List Nat):Option Env:=
 match Pp F.f all n k (l.take k) e with
 | some (e',[])=>settle ks e'
 | _=>none
section
variable {P : Program} {n : Nat} {env : Env} {σ : List bg} {ds : List Deferred} {Q : Post}
theorem ak8 {c:Code} {Q':Post} (h:AW P n c env σ ds Q') (hq:∀ x e s d,Q' x e s d→∃ e',Less e' e∧Q x e' s d):AW P n c env σ ds Q:=
 fun w m a QC hs ha=>h w m a QC hs fun x ex e1 s1 d1 a1 w1 m1 h1 hx hs1 ht=>let ⟨e',hl,hq'⟩:=hq _ _ _ _ h1; ha x ex e' s1 d1 a1 w1 m1 hq' hx (qI.less hl hs1) ht
theorem Yl {α:Type} {c:Code} (E:α→Env) (T:α→List bg) (I:α→Prop) (μ:α→Nat) (x0:α) (h0:settle (keysOf (E x0)) env=some (E x0)) (h1:σ=T x0) (h2:I x0)
  (round:∀ x,I x→AW P n c (E x) (T x) ds (AX.then (fun e s d=>∃ y,settle (keysOf (E y)) e=some (E y)∧s=T y∧d=ds∧I y∧μ y < μ x) Q)):AW P n (.loop c) env σ ds Q:=by
 refine AW.settle _ h0 (AW.loop E T I μ x0 rfl h1 h2 fun x hx=>ak8 (round x hx) ?_); intro ax e s d h; cases ax with
 | normal=>obtain ⟨y,h3,h4,h5,h6⟩:=h; exact ⟨E y,Less.settle h3,y,rfl,h4,h5,h6⟩
 | exit id=>exact ⟨e,Less.refl e,h⟩
 | ret=>exact ⟨e,Less.refl e,h⟩
 | panic p=>exact ⟨e,Less.refl e,h⟩
theorem MS {c:Code} {k:List Fr} {R R':Env→List bg→List Deferred→Prop} (h:AW P n c env σ ds (den P n (.lp R :: k) Q)) (hr:∀ e s d,R e s d→R' e s d):AW P n c env σ ds (AX.then R' (den P n k Q)):=by
 refine h.mono fun ax e s d hq=>?_; cases ax with
 | normal=>exact hr _ _ _ hq
 | exit id=>exact hq
 | ret=>exact hq
 | panic p=>exact hq
theorem E_ {A0:Type} {c:Code} {k:List Fr} (E:A0→Env) (T:A0→List bg) (I:Nat→A0→Prop) (k0:Nat) (x0:A0) (h0:settle (keysOf (E x0)) env=some (E x0)) (h1:σ=T x0) (h2:I k0 x0)
  (z:∀ x0,I 0 x0→False)
  (round:∀ j x0,I (j + 1) x0→AW P n c (E x0) (T x0) ds (den P n (.lp (fun e s d=>∃ y0,settle (keysOf (E y0)) e=some (E y0)∧s=T y0∧d=ds∧I j y0) :: k) Q)):AW P n (.loop c) env σ ds (den P n k Q):=by
 refine Yl (α:=Nat × (A0)) (fun q=>E (q.2)) (fun q=>T (q.2)) (fun q=>I q.1 (q.2)) (fun q=>q.1) (k0,(x0)) h0 h1 h2 ?_; rintro ⟨j,q⟩ hI; cases j with
 | zero=>exact (z _ hI).elim
 | succ j=>exact MS (round j (q) hI) fun e s d ⟨y0,h3,h4,h5,h6⟩=>⟨(j,(y0)),h3,h4,h5,h6,Nat.lt_succ_self j⟩
theorem Zn {A0:Type} {A1:Type} {c:Code} {k:List Fr} (E:A0→A1→Env) (T:A0→A1→List bg) (I:Nat→A0→A1→Prop) (k0:Nat) (x0:A0) (x1:A1) (h0:settle (keysOf (E x0 x1)) env=some (E x0 x1)) (h1:σ=T x0 x1) (h2:I k0 x0 x1)
  (z:∀ x0 x1,I 0 x0 x1→False)
  (round:∀ j x0 x1,I (j + 1) x0 x1→AW P n c (E x0 x1) (T x0 x1) ds (den P n (.lp (fun e s d=>∃ y0 y1,settle (keysOf (E y0 y1)) e=some (E y0 y1)∧s=T y0 y1∧d=ds∧I j y0 y1) :: k) Q)):AW P n (.loop c) env σ ds (den P n k Q):=by
 refine Yl (α:=Nat × (A0 × A1)) (fun q=>E (q.2.1) (q.2.2)) (fun q=>T (q.2.1) (q.2.2)) (fun q=>I q.1 (q.2.1) (q.2.2)) (fun q=>q.1) (k0,(x0,x1)) h0 h1 h2 ?_; rintro ⟨j,q⟩ hI; cases j with
 | zero=>exact (z _ _ hI).elim
 | succ j=>exact MS (round j (q.1) (q.2) hI) fun e s d ⟨y0,y1,h3,h4,h5,h6⟩=>⟨(j,(y0,y1)),h3,h4,h5,h6,Nat.lt_succ_self j⟩
theorem LK3 {A0:Type} {A1:Type} {A2:Type} {c:Code} {k:List Fr} (E:A0→A1→A2→Env) (T:A0→A1→A2→List bg) (I:Nat→A0→A1→A2→Prop) (k0:Nat) (x0:A0) (x1:A1) (x2:A2) (h0:settle (keysOf (E x0 x1 x2)) env=some (E x0 x1 x2)) (h1:σ=T x0 x1 x2) (h2:I k0 x0 x1 x2)
  (z:∀ x0 x1 x2,I 0 x0 x1 x2→False)
  (round:∀ j x0 x1 x2,I (j + 1) x0 x1 x2→AW P n c (E x0 x1 x2) (T x0 x1 x2) ds (den P n (.lp (fun e s d=>∃ y0 y1 y2,settle (keysOf (E y0 y1 y2)) e=some (E y0 y1 y2)∧s=T y0 y1 y2∧d=ds∧I j y0 y1 y2) :: k) Q)):AW P n (.loop c) env σ ds (den P n k Q):=by
 refine Yl (α:=Nat × (A0 × A1 × A2)) (fun q=>E (q.2.1) (q.2.2.1) (q.2.2.2)) (fun q=>T (q.2.1) (q.2.2.1) (q.2.2.2)) (fun q=>I q.1 (q.2.1) (q.2.2.1) (q.2.2.2)) (fun q=>q.1) (k0,(x0,x1,x2)) h0 h1 h2 ?_; rintro ⟨j,q⟩ hI; cases j with
 | zero=>exact (z _ _ _ hI).elim
 | succ j=>exact MS (round j (q.1) (q.2.1) (q.2.2) hI) fun e s d ⟨y0,y1,y2,h3,h4,h5,h6⟩=>⟨(j,(y0,y1,y2)),h3,h4,h5,h6,Nat.lt_succ_self j⟩
theorem LK4 {A0:Type} {A1:Type} {A2:Type} {A3:Type} {c:Code} {k:List Fr} (E:A0→A1→A2→A3→Env) (T:A0→A1→A2→A3→List bg) (I:Nat→A0→A1→A2→A3→Prop) (k0:Nat) (x0:A0) (x1:A1) (x2:A2) (x3:A3) (h0:settle (keysOf (E x0 x1 x2 x3)) env=some (E x0 x1 x2 x3)) (h1:σ=T x0 x1 x2 x3) (h2:I k0 x0 x1 x2 x3)
  (z:∀ x0 x1 x2 x3,I 0 x0 x1 x2 x3→False)
  (round:∀ j x0 x1 x2 x3,I (j + 1) x0 x1 x2 x3→AW P n c (E x0 x1 x2 x3) (T x0 x1 x2 x3) ds (den P n (.lp (fun e s d=>∃ y0 y1 y2 y3,settle (keysOf (E y0 y1 y2 y3)) e=some (E y0 y1 y2 y3)∧s=T y0 y1 y2 y3∧d=ds∧I j y0 y1 y2 y3) :: k) Q)):AW P n (.loop c) env σ ds (den P n k Q):=by
 refine Yl (α:=Nat × (A0 × A1 × A2 × A3)) (fun q=>E (q.2.1) (q.2.2.1) (q.2.2.2.1) (q.2.2.2.2)) (fun q=>T (q.2.1) (q.2.2.1) (q.2.2.2.1) (q.2.2.2.2)) (fun q=>I q.1 (q.2.1) (q.2.2.1) (q.2.2.2.1) (q.2.2.2.2)) (fun q=>q.1) (k0,(x0,x1,x2,x3)) h0 h1 h2 ?_; rintro ⟨j,q⟩ hI; cases j with
 | zero=>exact (z _ _ _ _ hI).elim
 | succ j=>exact MS (round j (q.1) (q.2.1) (q.2.2.1) (q.2.2.2) hI) fun e s d ⟨y0,y1,y2,y3,h3,h4,h5,h6⟩=>⟨(j,(y0,y1,y2,y3)),h3,h4,h5,h6,Nat.lt_succ_self j⟩
theorem LK5 {A0:Type} {A1:Type} {A2:Type} {A3:Type} {A4:Type} {c:Code} {k:List Fr} (E:A0→A1→A2→A3→A4→Env) (T:A0→A1→A2→A3→A4→List bg) (I:Nat→A0→A1→A2→A3→A4→Prop) (k0:Nat) (x0:A0) (x1:A1) (x2:A2) (x3:A3) (x4:A4) (h0:settle (keysOf (E x0 x1 x2 x3 x4)) env=some (E x0 x1 x2 x3 x4)) (h1:σ=T x0 x1 x2 x3 x4) (h2:I k0 x0 x1 x2 x3 x4)
  (z:∀ x0 x1 x2 x3 x4,I 0 x0 x1 x2 x3 x4→False)
  (round:∀ j x0 x1 x2 x3 x4,I (j + 1) x0 x1 x2 x3 x4→AW P n c (E x0 x1 x2 x3 x4) (T x0 x1 x2 x3 x4) ds (den P n (.lp (fun e s d=>∃ y0 y1 y2 y3 y4,settle (keysOf (E y0 y1 y2 y3 y4)) e=some (E y0 y1 y2 y3 y4)∧s=T y0 y1 y2 y3 y4∧d=ds∧I j y0 y1 y2 y3 y4) :: k) Q)):AW P n (.loop c) env σ ds (den P n k Q):=by
 refine Yl (α:=Nat × (A0 × A1 × A2 × A3 × A4)) (fun q=>E (q.2.1) (q.2.2.1) (q.2.2.2.1) (q.2.2.2.2.1) (q.2.2.2.2.2)) (fun q=>T (q.2.1) (q.2.2.1) (q.2.2.2.1) (q.2.2.2.2.1) (q.2.2.2.2.2)) (fun q=>I q.1 (q.2.1) (q.2.2.1) (q.2.2.2.1) (q.2.2.2.2.1) (q.2.2.2.2.2)) (fun q=>q.1) (k0,(x0,x1,x2,x3,x4)) h0 h1 h2 ?_; rintro ⟨j,q⟩ hI; cases j with
 | zero=>exact (z _ _ _ _ _ hI).elim
 | succ j=>exact MS (round j (q.1) (q.2.1) (q.2.2.1) (q.2.2.2.1) (q.2.2.2.2) hI) fun e s d ⟨y0,y1,y2,y3,y4,h3,h4,h5,h6⟩=>⟨(j,(y0,y1,y2,y3,y4)),h3,h4,h5,h6,Nat.lt_succ_self j⟩
theorem C {α:Type} {b:Bool} {x y:Option α} {r:Option α} {c:Operand} {X Y:Code} (hf:(if b=true then x else y)=r) (hc:env.ev c=.bool b) (ht:b=true→x=r→AW P n X env σ ds Q) (he:b=false→y=r→AW P n Y env σ ds Q):AW P n (.cond c X Y) env σ ds Q:=
 AW.cond hc (fun h=>ht h (jN h hf)) fun h=>he h (jA h hf)
section
variable {all : Array Oper} {rest l : List Oper} {o : Oper}
theorem AS {t:Nat} (h0:ahK n o=some t) (h:AO P o env.ev σ (fun p σ'=>AR P n all rest ((t,p) :: env) σ' ds Q) (fun p σ'=>Q (.panic p) env σ' ds)):AR P n all (o :: rest) env σ ds Q:=
 AR.step (Wv h0).1 (Wv h0).2.1 (Wv h0).2.2 h
theorem CL [K:FK P] {t:Nat} {c:Call} {f:FuncId} {caps:List PV} (h0:aiL K.pf n env o=some (t,c,f,caps))
  (h:AC P f ((c.args.toList.map env.ev).map PV.weak ++ caps) σ fun out σ'=>match out with | .ret p=>AR P n all rest ((t,p) :: env) σ' ds Q | .panic p=>Q (.panic p) env σ' ds):AR P n all (o :: rest) env σ ds Q:=by
 unfold aiL at h0; split at h0
 ·
  rename_i t' ht; split at h0
  ·
   rename_i c' ho; split at h0
   ·
    rename_i R4 lW; split at h0
    ·
     rename_i f' anR hf; cases hm:afi K.pf f' with
     | false=>rw [hm] at h0; cases h0
     | true=>
      rw [hm] at h0; simp only [cond_true,Option.some.injEq,Prod.mk.injEq] at h0; obtain ⟨rfl,rfl,rfl,rfl⟩:=h0; exact AS ht (AO.call ho R4 lW hf (Yi K.pk hm) h)
    · cases h0
   · cases h0
  · cases h0
 · cases h0
theorem GO {t:Nat} (h0:goO n all env o=some t) (h:AO P {o with guard:=none} env.ev σ (fun p σ'=>AR P n all rest ((t,p) :: env) σ' ds Q) (fun p σ'=>Q (.panic p) env σ' ds)):AR P n all (o :: rest) env σ ds Q:=by
 unfold goO at h0; split at h0
 ·
  rename_i jw hg hgd; split at h0
  ·
   rename_i u hd; cases e:Nat.blt u n with
   | false=>rw [e] at h0; cases h0
   | true=>
    rw [e] at h0; simp only [cond_true,Option.some.injEq] at h0; subst h0; obtain ⟨j,want⟩:=jw; rw [hg] at hgd; obtain ⟨oj,u',g1,g2,g3⟩:=rQ hgd; rcases g3 with ⟨_,g3⟩ | ⟨g3,_⟩
    · exact AR.go hg g1 g2 g3 hd e h
    · cases g3
  · cases h0
 · cases h0
theorem V8 [K:FK P] {k:Nat} {e e':Env} {ks:List Nat} (h:grp K.F all n k l e ks=some e'):AR P n all (l.take k) e σ ds fun ax e s d=>ax=.normal∧e=e'∧s=σ∧d=ds:=by
 unfold grp at h; split at h
 ·
  rename_i e1 hp; exact AR.cs K.ok.f k hp (AR.nil ks h ⟨rfl,rfl,rfl,rfl⟩)
 · cases h
theorem An [K:FK P] (k g t:Nat) (keep:List Nat) (x:Bool) {b:Bool} {env':Env} (hb:env.get g=.bool b) (hk:settle keep env=some env')
  (h1:grp K.F all n k l ((g,.bool true) :: env) (t :: keep)=some ((t,.bool x) :: env')) (h2:grp K.F all n k l ((g,.bool false) :: env) (t :: keep)=some ((t,.bool false) :: env'))
  (h3:AR P n all (l.drop k) ((t,.bool (b && x)) :: env') σ ds Q):AR P n all l env σ ds Q:=
 AR.and k g t keep hb hk (fun h=>AR.is g h hb (V8 h1)) (fun h=>AR.is g h hb (V8 h2)) h3
theorem On [K:FK P] (k g t:Nat) (keep:List Nat) (x:Bool) {b:Bool} {env':Env} (hb:env.get g=.bool b) (hk:settle keep env=some env')
  (h1:grp K.F all n k l ((g,.bool false) :: env) (t :: keep)=some ((t,.bool x) :: env')) (h2:grp K.F all n k l ((g,.bool true) :: env) (t :: keep)=some ((t,.bool true) :: env'))
  (h3:AR P n all (l.drop k) ((t,.bool (b || x)) :: env') σ ds Q):AR P n all l env σ ds Q:=
 AR.or k g t keep hb hk (fun h=>AR.is g h hb (V8 h1)) (fun h=>AR.is g h hb (V8 h2)) h3
end
section
variable [K : FK P] {c c' : Code} {all all' : Array Oper} {l l' : List Oper} {k k' : List Fr} {e e' : Env} {s s' : List bg} {ax ax' : AX} {A B : List Nat}
theorem Ww (b:Nat) (ix:List Nat) (h:run K.F n 0 999 b ix [] [] (.w c k e s)=some (A,B,.w c' k' e' s')) (hab:A=B) (hr:AW P n c' e' s' ds (den P n k' Q)):AW P n c e s ds (den P n k Q):=(gJ K.ok (st':=.w c' k' e' s') hr hab _ _ _ _ _ _ h).2
theorem V (b:Nat) (h:run K.F n 0 999 b [] [] [] (.w c k e s)=some ([],[],.w c' k' e' s')) (hr:AW P n c' e' s' ds (den P n k' Q)):AW P n c e s ds (den P n k Q):=Ww b [] h rfl hr
theorem Wr (b:Nat) (ix:List Nat) (h:run K.F n 0 999 b ix [] [] (.w c k e s)=some (A,B,.r all' l' k' e' s')) (hab:A=B) (hr:AR P n all' l' e' s' ds (den P n k' Q)):AW P n c e s ds (den P n k Q):=(gJ K.ok (st':=.r all' l' k' e' s') hr hab _ _ _ _ _ _ h).2
theorem W (b:Nat) (h:run K.F n 0 999 b [] [] [] (.w c k e s)=some ([],[],.r all' l' k' e' s')) (hr:AR P n all' l' e' s' ds (den P n k' Q)):AW P n c e s ds (den P n k Q):=Wr b [] h rfl hr
theorem Wx (b:Nat) (ix:List Nat) (h:run K.F n 0 999 b ix [] [] (.w c k e s)=some (A,B,.x ax' k' e' s')) (hab:A=B) (hr:den P n k' Q ax' e' s' ds):AW P n c e s ds (den P n k Q):=(gJ K.ok (st':=.x ax' k' e' s') hr hab _ _ _ _ _ _ h).2
theorem M (b:Nat) (h:run K.F n 0 999 b [] [] [] (.w c k e s)=some ([],[],.x ax' k' e' s')) (hr:den P n k' Q ax' e' s' ds):AW P n c e s ds (den P n k Q):=Wx b [] h rfl hr
theorem Wn0 (b:Nat) (h:run K.F n 1 999 b [] [] [] (.w c k e s)=some ([],[],.r all' [] k' e' s')) (hr:AR P n all' [] e' s' ds (den P n k' Q)):AW P n c e s ds (den P n k Q):=(gJ K.ok (st':=.r all' [] k' e' s') hr rfl _ _ _ _ _ _ h).2
theorem Rw (b:Nat) (ix:List Nat) (h:run K.F n 0 999 b ix [] [] (.r all l k e s)=some (A,B,.w c' k' e' s')) (hab:A=B) (hr:AW P n c' e' s' ds (den P n k' Q)):AR P n all l e s ds (den P n k Q):=(gJ K.ok (st':=.w c' k' e' s') hr hab _ _ _ _ _ _ h).2
theorem J (b:Nat) (h:run K.F n 0 999 b [] [] [] (.r all l k e s)=some ([],[],.w c' k' e' s')) (hr:AW P n c' e' s' ds (den P n k' Q)):AR P n all l e s ds (den P n k Q):=Rw b [] h rfl hr
theorem Rr (b:Nat) (ix:List Nat) (h:run K.F n 0 999 b ix [] [] (.r all l k e s)=some (A,B,.r all' l' k' e' s')) (hab:A=B) (hr:AR P n all' l' e' s' ds (den P n k' Q)):AR P n all l e s ds (den P n k Q):=(gJ K.ok (st':=.r all' l' k' e' s') hr hab _ _ _ _ _ _ h).2
theorem U (b:Nat) (h:run K.F n 0 999 b [] [] [] (.r all l k e s)=some ([],[],.r all' l' k' e' s')) (hr:AR P n all' l' e' s' ds (den P n k' Q)):AR P n all l e s ds (den P n k Q):=Rr b [] h rfl hr
theorem Rx (b:Nat) (ix:List Nat) (h:run K.F n 0 999 b ix [] [] (.r all l k e s)=some (A,B,.x ax' k' e' s')) (hab:A=B) (hr:den P n k' Q ax' e' s' ds):AR P n all l e s ds (den P n k Q):=(gJ K.ok (st':=.x ax' k' e' s') hr hab _ _ _ _ _ _ h).2
theorem N (b:Nat) (h:run K.F n 0 999 b [] [] [] (.r all l k e s)=some ([],[],.x ax' k' e' s')) (hr:den P n k' Q ax' e' s' ds):AR P n all l e s ds (den P n k Q):=Rx b [] h rfl hr
theorem dY (b:Nat) (h:run K.F n 1 999 b [] [] [] (.r all l k e s)=some ([],[],.r all' [] k' e' s')) (hr:AR P n all' [] e' s' ds (den P n k' Q)):AR P n all l e s ds (den P n k Q):=(gJ K.ok (st':=.r all' [] k' e' s') hr rfl _ _ _ _ _ _ h).2
theorem Rn (b:Nat) (ix:List Nat) (h:run K.F n 1 999 b ix [] [] (.r all l k e s)=some (A,B,.r all' [] k' e' s')) (hab:A=B) (hr:AR P n all' [] e' s' ds (den P n k' Q)):AR P n all l e s ds (den P n k Q):=(gJ K.ok (st':=.r all' [] k' e' s') hr hab _ _ _ _ _ _ h).2
theorem Y {rs:List ResultVar} {R:eD→List bg→Prop} {ps:List PV} (h0:acK e rs=some ps) (h:R (.ret (l9 (ps.map PV.weak))) []):den P n [] (Vk P rs R) .ret e s []:=⟨rfl,ps,VG h0,[],List.nil_sublist _,h⟩
theorem ZN {rs:List ResultVar} {R:eD→List bg→Prop} {ps:List PV} (h0:acK e rs=some ps) (h:R (.ret (l9 (ps.map PV.weak))) []):den P n [] (Vk P rs R) .normal e s []:=⟨rfl,ps,VG h0,[],List.nil_sublist _,h⟩
theorem ZC {rs:List ResultVar} {R:eD→List bg→Prop} {ps:List PV} (ix:List Nat) (h0:ZX K.F e s ix rs=some (A,B,ps)) (hab:A=B) (h:R (.ret (l9 (ps.map PV.weak))) []):den P n [] (Vk P rs R) .ret e s []:=⟨rfl,ps,VH K.ok h0 hab,[],List.nil_sublist _,h⟩
end
end
end Go.Abs
namespace Go.Abs
universe u v
variable [iw]
open Go Go.Ft
section
variable {P : Program} {f : FuncId} {fn : Func} {c : Code} {args : List PV} {σ : List bg} {R : eD → List bg → Prop}
theorem BD (n:Nat) (rs:List ResultVar) (ts:List Nat) {env:Env} (hf:P.funcs[f]?=some fn) (hb:fn.body=some c) (hn:fn.ntmps=n) (hl:Nat.ble args.length n=true) (hrs:fn.results.toList=rs) (Ob:settle ts (BQ 0 args)=some env)
  (h:AW P n c env σ [] (den P n [] (Vk P rs R))):AC P f args σ R:=AC.vB n rs ts hf hb hn hl hrs Ob h
theorem BN (n:Nat) (rs:List ResultVar) (ts:List Nat) {env:Env} (hf:P.funcs[f]?=some fn) (hb:fn.body=some c) (hn:fn.ntmps=n) (hl:Nat.ble args.length n=true) (hrs:fn.results.toList=rs) (Ob:settle ts (BQ 0 args)=some env)
  (h:AW P n c env [] [] (den P n [] (Vk P rs fun o s=>R o (s ++ σ)))):AC P f args σ R:=AC.none (AC.vB n rs ts hf hb hn hl hrs Ob h)
end
theorem B1 {α ρ:Type} {x:Option α} {f:α→Option ρ} {r:ρ} {G:Prop} (h:au x f=some r) (k:∀ a,x=some a→f a=some r→G):G:=let ⟨a,h1,h2⟩:=Kk h; k a h1 h2
theorem BR {α:Type} {x:Option α} {r:α} {G:Prop} (h:x=some r) (k:∀ a,x=some a→some a=some r→G):G:=k r h rfl
section
variable {P : Program} {n : Nat} {env env' : Env} {σ : List bg} {ds : List Deferred} {Q : Post} {all : Array Oper} {l : List Oper}
theorem Is (g:Nat) {b v:Bool} (h:b=v) (hg:env.get g=.bool b) (hr:AR P n all l ((g,.bool v) :: env) σ ds (den P n [] Q)):AR P n all l env σ ds Q:=AR.is g h hg hr
theorem IT {α:Type} {x y r:Option α} (g:Nat) {b:Bool} (h:b=true) (hx:(if b=true then x else y)=r) (hg:env.get g=.bool b) (hr:x=r→AR P n all l ((g,.bool true) :: env) σ ds (den P n [] Q)):AR P n all l env σ ds (den P n [] Q):=Is g h hg (hr (jN h hx))
theorem IF {α:Type} {x y r:Option α} (g:Nat) {b:Bool} (h:b=false) (hx:(if b=true then x else y)=r) (hg:env.get g=.bool b) (hr:y=r→AR P n all l ((g,.bool false) :: env) σ ds (den P n [] Q)):AR P n all l env σ ds (den P n [] Q):=Is g h hg (hr (jA h hx))
theorem En (ks:List Nat) (h:settle ks env=some env'):AR P n all [] env σ ds (den P n [] fun ax e s d=>ax=.normal∧e=env'∧s=σ∧d=ds):=AR.nil ks h ⟨rfl,rfl,rfl,rfl⟩
end
theorem Z {α:Sort u} {a:α}:a=a:=rfl
theorem zg {α:Sort u} {β:Sort v} {a:α} {b:β}:a=a∧b=b:=⟨rfl,rfl⟩
theorem AW.sr {P:Program} {n:Nat} {env:Env} {σ:List bg} {ds:List Deferred} {Q:Post} {id:Nat} {l:List Oper} {d:Code} (h:AR P n l.toArray l env σ ds (AX.then (fun e s ds=>AW P n d e s ds Q) Q)):AW P n (.seq (.region id l.toArray false) d) env σ ds Q:=AW.seq (AW.region h)
end Go.Abs
namespace Go.Abs
variable [iw]
open Go
mutual
def qx {H:Type}:DataW H→Nat
 | .lit (.string bytes)=>bytes.length + 1
 | .lit _=>1
 | .nil=>1
 | .ptr d=>qx d + 1
 | .slice elems spare=>nU elems + nU spare + 1
 | .agg parts=>nU parts + 1
 | .iface _ d=>qx d + 1
 | .map entries=>zy entries + 1
 | .held _=>1
def nU {H:Type}:List (DataW H)→Nat
 | []=>0
 | d :: r=>qx d + nU r
def zy {H:Type}:List (Lit × DataW H)→Nat
 | []=>0
 | x :: r=>xw x + zy r
def xw {H:Type}:Lit × DataW H→Nat
 | (.string bytes,d)=>bytes.length + qx d + 1
 | (_,d)=>qx d + 1
end
inductive BG (P:Program):TypeId→List PV→Nat→Prop
 | bool {t:TypeId} {b:Bool}:P.underlying t=some .bool→BG P t [.bool b] 1
 | int {t:TypeId} {k:IntKind} {n:Int}:P.underlying t=some (.int k)→(Lit.int k n).wf=true→BG P t [.int k n] 1
 | str {t:TypeId} {s:List UInt8}:P.underlying t=some .string→BG P t [.str s] (s.length + 1)
 | slice {t e:TypeId} {l:List (List PV × Nat)}:P.underlying t=some (.slice e)→(∀ c∈l,BG P e c.1 c.2)→BG P t [.list (l.map (·.1))] ((l.map (·.2)).sum + 1)
 | struct {t:TypeId} {fs:Array Field} {ps:List (List PV × Nat)}:P.underlying t=some (.struct fs)→ps.length=fs.toList.length→(∀ x∈fs.toList.zip ps,BG P x.1.type x.2.1 x.2.2)→BG P t (ps.map (·.1)).flatten ((ps.map (·.2)).sum + 1)
 | array {t e:TypeId} {n:Nat} {ps:List (List PV × Nat)}:P.underlying t=some (.array n e)→ps.length=n→(∀ c∈ps,BG P e c.1 c.2)→BG P t (ps.map (·.1)).flatten ((ps.map (·.2)).sum + 1)
theorem IC {H α:Type} {g:Nat→List PV × Nat}:∀ {n s:Nat} {es:List (DataW H × α)},n=es.length→(∀ i,i < n→∀ y,es[i]?=some y→(g (s + i)).2≤qx y.1)→
  ((((List.range' s n).map g).map (·.2))).sum≤nU (es.map (·.1))
 | 0,s,[],_,_=>by simp [nU]
 | n + 1,s,e :: es,hl,h=>by
  rw [List.range'_succ]; simp only [List.map_cons,List.sum_cons,nU]; have h0:=h 0 (by omega) e rfl
  have ih:=IC (g:=g) (n:=n) (s:=s + 1) (es:=es) (by simpa using hl) fun i hi y hy=>by
   have:=h (i + 1) (by omega) y (by simpa using hy)
   rwa [show s + 1 + i=s + (i + 1) from by omega]
  simp only [Nat.add_zero] at h0; omega
 | 0,s,e :: es,hl,_=>by simp at hl
 | n + 1,s,[],hl,_=>by simp at hl
theorem Mj {H α β:Type} {f:β→Option (DataW H × α)} {g:β→Nat}:∀ {l:List β} {xs:List (DataW H × α)},l.mapM f=some xs→(∀ b∈l,∀ y,f b=some y→g b≤qx y.1)→(l.map g).sum≤nU (xs.map (·.1))
 | [],xs,h,_=>by simp
 | b :: l,xs,h,hb=>by
  rw [List.mapM_cons] at h; cases e:f b with
  | none=>simp [e] at h
  | some y=>
   cases e2:l.mapM f with
   | none=>simp [e,e2] at h
   | some ys=>
    simp [e,e2] at h; subst h; have h0:=hb b List.mem_cons_self y e; have ih:=Mj (g:=g) e2 fun b' hb'=>hb b' (List.mem_cons_of_mem _ hb'); simp only [List.map_cons,List.sum_cons,nU]; omega
section
variable {P : Program} {w : World}
theorem acu {H:Type} {enc:TypeId × Value→H} {sp:Nat→Bool} {held:Bool} {S:List TypeId} (hS:∀ t,S.contains t=true→GA P S t=true):
  ∀ (fuel:Nat) (t:TypeId) (cs:List Value) (x:DataW H × List MemPlace),S.contains t=true→DataW.trod enc P w 0 sp held fuel t cs=some x→∃ ps N,aZ w (xA w) ps cs∧BG P t ps N∧N≤qx x.1:=by
 intro fuel
 induction fuel with
 | zero=>intro t cs x _ h; simp [DataW.trod] at h
 | succ fuel ih=>
  intro t cs x ht h; have hp:=hS t ht; unfold GA at hp; split at hp
  ·
   rename_i hu; unfold DataW.trod at h; rw [hu] at h; split at h <;> simp_all; rename_i b; subst h; exact ⟨[.bool b],aZ.cons (by simp only [dG]) aZ.nil,_,.bool hu,Nat.le_refl _⟩
  ·
   rename_i k hu; unfold DataW.trod at h; rw [hu] at h; split at h <;> simp_all; rename_i k1 k' n hk; obtain ⟨⟨rfl,hw⟩,rfl⟩:=h; exact ⟨[.int k' n],aZ.cons (by simp only [dG]) aZ.nil,_,.int hu hw,Nat.le_refl _⟩
  ·
   rename_i hu; unfold DataW.trod at h; rw [hu] at h; split at h <;> simp_all; rename_i b; obtain ⟨_,rfl⟩:=h; exact ⟨[.str b.data.toList],aZ.cons (by simp only [dG]) aZ.nil,_,.str hu,Nat.le_refl _⟩
  ·
   rename_i e hu; simp only [Bool.and_eq_true,decide_eq_true_eq] at hp; unfold DataW.trod at h; rw [hu] at h; split at h <;> first | (exfalso; simp_all; done) | skip
   ·
    cases h; exact ⟨[.list []],_,aZ.cons (by simp only [dG]; exact ⟨none,0,rfl,Nat.le_refl _,.inl trivial⟩) aZ.nil,.slice (l:=[]) hu (by simp),Nat.le_refl _⟩
   ·
    rename_i e' a len cap heq1; cases heq1; simp only at h; split at h
    ·
     rename_i hb; cases hm:(List.range len).mapM fun i=>(w.cells? 0 (a.add (i * P.cellsOf e)) (P.cellsOf e)).bind (DataW.trod enc P w 0 sp held fuel e) with
     | none=>rw [hm] at h; cases h
     | some elems=>
      rw [hm] at h; simp only [Option.bind_some] at h; obtain ⟨rest,_,hx⟩:=Option.map_eq_some_iff.1 h; subst hx; obtain ⟨_,hat⟩:=wC hm; have hlen:=(wC hm).1
      have hspot:0 < len→a=⟨a.block,a.off,none⟩∧a.block < w.heap.size:=by
       intro hpos; have h1:=hat 0 hpos; rw [List.getElem?_eq_getElem (by omega)] at h1; cases hcs:w.cells? 0 (a.add (0 * P.cellsOf e)) (P.cellsOf e) with
       | none=>rw [hcs] at h1; cases h1
       | some cs'=>
        simp only [World.cells?,Nat.zero_le,if_true] at hcs; obtain ⟨hl',hat'⟩:=wC hcs; have h0:=hat' 0 hp.1; rw [List.getElem?_eq_getElem (by omega)] at h0; have:=VB h0; simpa [Addr.add] using this
      have hone:∀ i,∃ ps:List PV × Nat,i < len→(ps.1.length=P.cellsOf e∧qy w (xA w) a.block (a.off + i * P.cellsOf e) ps.1∧BG P e ps.1 ps.2∧∀ y,elems[i]?=some y→ps.2≤qx y.1):=by
       intro i; rcases Nat.lt_or_ge i len with hi | hi
       ·
        have h1:=hat i hi; obtain ⟨hsp,hblk⟩:=hspot (by omega); rw [List.getElem?_eq_getElem (by omega)] at h1; cases hcs:w.cells? 0 (a.add (i * P.cellsOf e)) (P.cellsOf e) with
        | none=>rw [hcs] at h1; cases h1
        | some cs'=>
         rw [hcs] at h1; obtain ⟨ps,N,hr,hty,hN⟩:=ih e cs' _ hp.2 h1; simp only [World.cells?,Nat.zero_le,if_true] at hcs; obtain ⟨hl',hat'⟩:=wC hcs; refine ⟨(ps,N),fun _=>⟨by rw [←hr.length_eq,hl'],?_,hty,fun y hy=>?_⟩⟩
         case refine_2=>rw [List.getElem?_eq_getElem (by omega)] at hy; cases hy; exact hN
         refine QK hr (fun _=>hblk) fun j v hv=>?_
         have hj:j < P.cellsOf e:=by
          rw [←hl']; exact (List.getElem?_eq_some_iff.1 hv).1
         have:=hat' j hj; rw [hv,hsp,Addr.add_lit,Addr.add_lit] at this; exact this
       · exact ⟨([],0),fun h=>by omega⟩
      obtain ⟨g,hg⟩:=LC hone; refine ⟨[.list (((List.range' 0 len).map g).map (·.1))],_,aZ.cons ?_ aZ.nil,.slice hu fun c hc=>?_,?_⟩
      ·
       simp only [dG]; refine ⟨some a,cap,by simp,by simp; omega,?_⟩; rcases Nat.eq_zero_or_pos len with h0 | h0
       · subst h0; exact .inl rfl
       ·
        refine .inr ⟨a.block,a.off,P.cellsOf e,by rw [←(hspot h0).1],?_⟩; rw [List.map_map]; refine Mt len 0 a.off fun i hi=>?_; rw [Nat.zero_add]; exact ⟨(hg i hi).1,(hg i hi).2.1⟩
      ·
       obtain ⟨i,hi,rfl⟩:=List.mem_map.1 hc; simp at hi; exact (hg i hi).2.2.1
      ·
       have hsum:=IC (g:=g) (n:=len) (s:=0) (es:=elems) (by omega) fun i hi y hy=>(hg (0 + i) (by omega)).2.2.2 y (by simpa using hy); simp only [qx]; omega
    · cases h
  ·
   rename_i fs hu; simp only [Bool.and_eq_true] at hp; unfold DataW.trod at h; rw [hu] at h; split at h <;> first | (exfalso; simp_all; done) | skip
   rename_i cs _ _ fs' heq; cases heq; split at h
   ·
    rename_i hlen; cases hm:fs.toList.mapM fun f=>DataW.trod enc P w 0 sp held fuel f.type ((cs.drop f.offset).take (P.cellsOf f.type)) with
    | none=>rw [hm] at h; cases h
    | some xs=>
     obtain ⟨hxl,hat⟩:=mapM_at hm; rw [hm] at h; simp only [Option.map_some,Option.some.injEq] at h; subst h
     have hone:∀ f:Field,∃ ps:List PV × Nat,f∈fs.toList→aZ w (xA w) ps.1 ((cs.drop f.offset).take (P.cellsOf f.type))∧BG P f.type ps.1 ps.2∧∀ y,DataW.trod enc P w 0 sp held fuel f.type ((cs.drop f.offset).take (P.cellsOf f.type))=some y→ps.2≤qx y.1:=by
      intro f; by_cases hf:f∈fs.toList
      ·
       obtain ⟨i,hi⟩:=List.getElem?_of_mem hf; have h1:=hat i f hi; have hil:i < fs.toList.length:=(List.getElem?_eq_some_iff.1 hi).1; rw [List.getElem?_eq_getElem (by omega)] at h1; have hSf:S.contains f.type=true:=(List.all_eq_true.1 hp.2) f hf; obtain ⟨ps,N,h2,h3,h4⟩:=ih f.type _ _ hSf h1; exact ⟨(ps,N),fun _=>⟨h2,h3,fun y hy=>by rw [h1] at hy; cases hy; exact h4⟩⟩
      · exact ⟨([],0),fun h=>absurd h hf⟩
     obtain ⟨g,hg⟩:=LC hone; refine ⟨((fs.toList.map g).map (·.1)).flatten,_,?_,.struct hu (by simp) fun x hx=>?_,?_⟩
     ·
      rw [List.map_map]; have:=QJ (w:=w) (m:=xA w) (cs:=cs) (g:=fun f=>(g f).1) fs.toList 0 _ hp.1 hlen.symm fun f hf=>(hg f hf).1; simpa [Function.comp_def] using this
     ·
      obtain ⟨k1,k2⟩:=Qg g _ _ hx; rw [k2]; exact (hg _ k1).2.1
     ·
      have hsum:=Mj (g:=fun f=>(g f).2) hm fun f hf y hy=>(hg f hf).2.2 y hy; rw [List.map_map]; simp only [qx]; have:(fs.toList.map ((fun x=>x.2) ∘ g)).sum=(fs.toList.map fun f=>(g f).2).sum:=rfl; omega
   · cases h
  ·
   rename_i n e hu; simp only [Bool.and_eq_true,beq_iff_eq] at hp; unfold DataW.trod at h; rw [hu] at h; split at h <;> first | (exfalso; simp_all; done) | skip
   rename_i cs _ _ n' e' heq; cases heq; split at h
   ·
    rename_i hlen; cases hm:(List.range n).mapM fun i=>DataW.trod enc P w 0 sp held fuel e ((cs.drop (i * P.cellsOf e)).take (P.cellsOf e)) with
    | none=>rw [hm] at h; cases h
    | some xs=>
     obtain ⟨hxl,hat⟩:=wC hm; rw [hm] at h; simp only [Option.map_some,Option.some.injEq] at h; subst h
     have hone:∀ i,∃ ps:List PV × Nat,i < n→aZ w (xA w) ps.1 ((cs.drop (i * P.cellsOf e)).take (P.cellsOf e))∧BG P e ps.1 ps.2∧∀ y,xs[i]?=some y→ps.2≤qx y.1:=by
      intro i; rcases Nat.lt_or_ge i n with hi | hi
      ·
       have h1:=hat i hi; rw [List.getElem?_eq_getElem (by omega)] at h1; obtain ⟨ps,N,h2,h3,h4⟩:=ih e _ _ hp.2 h1; exact ⟨(ps,N),fun _=>⟨h2,h3,fun y hy=>by rw [List.getElem?_eq_getElem (by omega)] at hy; cases hy; exact h4⟩⟩
      · exact ⟨([],0),fun h=>by omega⟩
     obtain ⟨g,hg⟩:=LC hone; refine ⟨(((List.range' 0 n).map g).map (·.1)).flatten,_,?_,.array hu (by simp) fun c hc=>?_,?_⟩
     ·
      rw [List.map_map]; have:=UF (w:=w) (m:=xA w) (cs:=cs) (sz:=P.cellsOf e) (g:=fun i=>(g i).1) n 0 (by rw [hlen,hp.1,Nat.zero_add]) fun i hi=>(hg i (by omega)).1; simpa [Function.comp_def] using this
     ·
      obtain ⟨i,hi,rfl⟩:=List.mem_map.1 hc; simp at hi; exact (hg i hi).2.1
     ·
      have hsum:=IC (g:=g) (n:=n) (s:=0) (es:=xs) (by omega) fun i hi y hy=>(hg (0 + i) (by omega)).2.2 y (by simpa using hy); simp only [qx]; omega
   · cases h
  · cases hp
inductive WY (P:Program):TypeId→PV→Nat→Prop
 | one {t:TypeId} {p:PV} {N:Nat}:BG P t [p] N→(∀ fs,P.underlying t≠some (.struct fs))→(∀ n e,P.underlying t≠some (.array n e))→WY P t p N
 | agg {t:TypeId} {cs:List PV} {N:Nat}:BG P t cs N→((∃ fs,P.underlying t=some (.struct fs))∨∃ n e,P.underlying t=some (.array n e))→WY P t (.agg cs) N
def WZ (P:Program):List TypeId→List PV→Nat→Prop
 | [],ps,N=>ps=[]∧N=0
 | t :: ts,ps,N=>∃ p ps' A B,ps=p :: ps'∧N=A + B∧WY P t p A∧WZ P ts ps' B
theorem adI {H:Type} {enc:TypeId × Value→H} {sp:Nat→Bool} {held:Bool} {S:List TypeId} (hS:∀ t,S.contains t=true→GA P S t=true) {r:Reach} {b0:Nat} {t:TypeId} {v:Value} {d:DataW H} {ps:List MemPlace}
  (ht:S.contains t=true) (hv:Value.okWide P w r b0 t v) (h:DataW.Trod enc P w 0 sp held t v d ps):∃ p N,dG w (xA w) p v∧WY P t p N∧N≤qx d:=by
 obtain ⟨fuel,h⟩:=h; obtain ⟨qs,N,hr,hty,hN⟩:=acu hS fuel t _ _ ht h; have hp:=hS t ht; unfold GA at hp
 have hone:(∀ fs,P.underlying t≠some (.struct fs))→(∀ n e,P.underlying t≠some (.array n e))→v.cells.toList=[v]→∃ p N,dG w (xA w) p v∧WY P t p N∧N≤qx d:=by
  intro h1 h2 h3; rw [h3] at hr; obtain ⟨p,rfl,h4⟩:=aeD hr; exact ⟨p,N,h4,.one hty h1 h2,hN⟩
 unfold Value.okWide at hv; split at hp
 ·
  rename_i hu; rw [hu] at hv; refine hone (by simp [hu]) (by simp [hu]) ?_; cases v <;> simp_all [Cell.okWide,Cell.ok,Value.cells]
 ·
  rename_i hu; rw [hu] at hv; refine hone (by simp [hu]) (by simp [hu]) ?_; cases v <;> simp_all [Cell.okWide,Cell.ok,Value.cells]
 ·
  rename_i hu; rw [hu] at hv; refine hone (by simp [hu]) (by simp [hu]) ?_; cases v <;> simp_all [Cell.okWide,Cell.ok,Value.cells]
 ·
  rename_i hu; rw [hu] at hv; refine hone (by simp [hu]) (by simp [hu]) ?_; cases v <;> simp_all [Cell.okWide,Cell.ok,Value.cells]
 ·
  rename_i hu; rw [hu] at hv; obtain ⟨cs,rfl,_⟩:=hv; exact ⟨.agg qs,N,by simp only [dG]; exact ⟨cs.toList,rfl,hr⟩,.agg hty (.inl ⟨_,hu⟩),hN⟩
 ·
  rename_i hu; rw [hu] at hv; obtain ⟨cs,rfl,_⟩:=hv; exact ⟨.agg qs,N,by simp only [dG]; exact ⟨cs.toList,rfl,hr⟩,.agg hty (.inr ⟨_,_,hu⟩),hN⟩
 · cases hp
theorem Nw {H:Type} {enc:TypeId × Value→H} {sp:Nat→Bool} {held:Bool} {S:List TypeId} (hS:∀ t,S.contains t=true→GA P S t=true) {r:Reach} {b0:Nat}:
  ∀ (ts:List TypeId) (vs:List Value) (ds:List (DataW H)) (ps:List MemPlace),(∀ t∈ts,S.contains t=true)→(∀ (j:Nat) t v,ts[j]?=some t→vs[j]?=some v→Value.okWide P w r b0 t v)→
  DataW.TrodAll enc P w 0 sp held ts vs ds ps→ds.length=ts.length∧∃ qs N,aZ w (xA w) qs vs∧WZ P ts qs N∧N≤nU ds
 | [],[],[],_,_,_,_=>⟨rfl,[],0,aZ.nil,⟨rfl,rfl⟩,Nat.le_refl _⟩
 | t :: ts,v :: vs,d :: ds,ps,hts,hv,h=>by
  obtain ⟨p,q,h1,h2,_⟩:=h; obtain ⟨p1,N1,k1,k2,k3⟩:=adI hS (hts t List.mem_cons_self) (hv 0 t v rfl rfl) h1; obtain ⟨hl,qs,N2,k4,k5,k6⟩:=Nw hS ts vs ds q (fun x hx=>hts x (List.mem_cons_of_mem _ hx)) (fun j t' v' e1 e2=>hv (j + 1) t' v' (by simpa using e1) (by simpa using e2)) h2; exact ⟨by simp [hl],p1 :: qs,N1 + N2,aZ.cons k1 k4,⟨p1,qs,N1,N2,rfl,rfl,k2,k5⟩,by simp only [nU]; omega⟩
 | [],[],_ :: _,_,_,_,h=>h.elim
 | [],_ :: _,_,_,_,_,h=>by cases h
 | _ :: _,[],_,_,_,_,h=>by cases h
 | _ :: _,_ :: _,[],_,_,_,h=>h.elim
theorem ac2 {H:Type} {enc:TypeId × Value→H} {f:Func} {fid:FuncId} {s:ChangeSpec} {S:List TypeId} {tb:TypeId} (hS:(S.all fun t=>GA P S t)=true) (hts:∀ t∈f.params.toList,S.contains t=true)
  (hrd:∀ t∈f.params.toList,P.readableRec t=true∧t < P.types.size) (hl:laidOutB P=true) (hres:f.resultTypes=#[tb]) (al1:P.underlying tb=some .bool) (hvars:s.vars=[])
  (hspec:∀ ds:List (DataW H),ds.length=f.params.toList.length→s.fn H ds={results:=[.lit (.bool true)],args:=ds})
  {ds:List (DataW H)} (walk:∀ qs N,WZ P f.params.toList qs N→N≤nU ds→AC P fid qs [] fun out _=>out=.ret (.bool true))
  {W:World} {base:Nat} {args:Array Value} {gs:List (DataW H)} {before:List MemPlace} (hval:∀ (j:Nat) t v,f.params[j]?=some t→args[j]?=some v→Value.okWide P W .any base t v)
  (hW:DataW.Whole enc P f.params.toList s.vars false W args.toList ds gs before) (hG:iw.G W (xA W)):
  Calls P fid args W fun e W'=>∃ v,e=.returned v∧s.post enc P f false true false false W args v W':=by
 have hW':=hW; have hlt:=hW.lt; obtain ⟨p,q,hA,hV,rfl,hfz,hnd⟩:=hW; rw [hvars] at hV
 obtain ⟨rfl,rfl⟩:gs=[]∧q=[]:=by
  cases gs with
  | nil=>exact ⟨rfl,hV⟩
  | cons g gs=>exact hV.elim
 have hS':∀ t,S.contains t=true→GA P S t=true:=fun t ht=>List.all_eq_true.1 hS t (by simpa using ht); obtain ⟨hdl,qs,N,hr,hty,hN⟩:=Nw hS' f.params.toList args.toList ds p hts (fun j t v e1 e2=>hval j t v (by simpa using e1) (by simpa using e2)) hA; have al0:Conc W (xA W) []:=⟨fun r hr=>by simp at hr,by simp [lX],fun b _ h=>h,hG⟩; have hcall:=walk qs N hty hN W (xA W) args.toList al0 hr; rw [Array.toArray_toList] at hcall; refine hcall.mono ?_; rintro e W' ⟨out,σ',m',rfl,hout,_,htr⟩; simp only [G9] at hout; obtain ⟨v,rfl,hv⟩:=hout; simp only [dG] at hv; subst hv; have bel:Go.RowKit.Below W.heap.size W W':=⟨htr.os,htr.tape,htr.output,htr.size,fun k hk=>(htr.keep k hk (by simp [lX])).1⟩; refine ⟨_,rfl,ds,[],_,[],p,[],hW',?_,?_,?_,bel.frame _,fun h=>by cases h⟩
 ·
  rw [List.append_nil,hspec ds hdl,hres]; exact ⟨[],[],⟨1,by simp [DataW.trod,al1,Value.cells]⟩,rfl,rfl⟩
 ·
  rw [List.append_nil,hspec ds hdl]; exact KU hl bel _ _ _ _ hrd hA fun x hx=>hlt x (List.mem_append_left _ hx)
 ·
  rw [List.append_nil,hspec ds hdl,hvars]; rfl
theorem BG.ahA {t:TypeId} {k:IntKind} {c:List PV} {N:Nat} (h:BG P t c N) (hu:P.underlying t=some (.int k)):∃ n,c=[.int k n]∧(Lit.int k n).wf=true∧N=1:=by
 cases h with
 | int hu' hw=>rw [hu] at hu'; cases hu'; exact ⟨_,rfl,hw,rfl⟩
 | _ hu'=>rw [hu] at hu'; cases hu'
theorem BG.ab5 {t:TypeId} {c:List PV} {N:Nat} (h:BG P t c N) (hu:P.underlying t=some .bool):∃ b,c=[.bool b]∧N=1:=by
 cases h with
 | bool hu'=>exact ⟨_,rfl,rfl⟩
 | _ hu'=>rw [hu] at hu'; cases hu'
theorem BG.agX {t:TypeId} {c:List PV} {N:Nat} (h:BG P t c N) (hu:P.underlying t=some .string):∃ s,c=[.str s]∧N=s.length + 1:=by
 cases h with
 | str hu'=>exact ⟨_,rfl,rfl⟩
 | _ hu'=>rw [hu] at hu'; cases hu'
theorem BG.IJ {t e:TypeId} {c:List PV} {N:Nat} (h:BG P t c N) (hu:P.underlying t=some (.slice e)):∃ l:List (List PV × Nat),c=[.list (l.map (·.1))]∧N=(l.map (·.2)).sum + 1∧∀ x∈l,BG P e x.1 x.2:=by
 cases h with
 | slice hu' h'=>rw [hu] at hu'; cases hu'; exact ⟨_,rfl,rfl,h'⟩
 | _ hu'=>rw [hu] at hu'; cases hu'
theorem BG.PX {t:TypeId} {fs:Array Field} {c:List PV} {N:Nat} (h:BG P t c N) (hu:P.underlying t=some (.struct fs)):∃ ps:List (List PV × Nat),c=(ps.map (·.1)).flatten∧N=(ps.map (·.2)).sum + 1∧ps.length=fs.toList.length∧∀ x∈fs.toList.zip ps,BG P x.1.type x.2.1 x.2.2:=by
 cases h with
 | struct hu' h1 h2=>rw [hu] at hu'; cases hu'; exact ⟨_,rfl,rfl,h1,h2⟩
 | _ hu'=>rw [hu] at hu'; cases hu'
theorem WY.aac {t:TypeId} {p:PV} {N:Nat} (h:WY P t p N) (h1:∀ fs,P.underlying t≠some (.struct fs)) (h2:∀ n e,P.underlying t≠some (.array n e)):BG P t [p] N:=by
 cases h with
 | one h _ _=>exact h
 | agg h hor=>rcases hor with ⟨fs,hu⟩ | ⟨n,e,hu⟩; exact absurd hu (h1 _); exact absurd hu (h2 _ _)
theorem WY.ami {t:TypeId} {p:PV} {N:Nat} (h:WY P t p N) (hu:∃ fs,P.underlying t=some (.struct fs)):∃ cs,p=.agg cs∧BG P t cs N:=by
 cases h with
 | one _ h1 _=>obtain ⟨fs,hu⟩:=hu; exact absurd hu (h1 _)
 | agg h _=>exact ⟨_,rfl,h⟩
theorem aap :∀ {l:List (List PV × Nat)} {x:List PV × Nat},x∈l→x.2≤(l.map (·.2)).sum
 | [],x,h=>by cases h
 | y :: l,x,h=>by
  simp only [List.map_cons,List.sum_cons]; rcases List.mem_cons.1 h with rfl | h
  · omega
  · have:=aap h; omega
theorem FM {α:Type} {f:α→List PV} {μ:α→Nat}:∀ {l:List (List PV × Nat)},(∀ x∈l,∃ a,x.1=f a∧μ a≤x.2)→∃ EM:List α,l.map (·.1)=EM.map f∧(EM.map μ).sum≤(l.map (·.2)).sum
 | [],_=>⟨[],rfl,Nat.le_refl _⟩
 | x :: l,h=>by
  obtain ⟨a,h1,h2⟩:=h x List.mem_cons_self; obtain ⟨EM,h3,h4⟩:=FM fun y hy=>h y (List.mem_cons_of_mem _ hy); exact ⟨a :: EM,by simp [h1,h3],by simp only [List.map_cons,List.sum_cons]; omega⟩
end
end Go.Abs
namespace Go.Abs
variable [iw]
open Go Go.Ft
section
variable {P : Program} {o : Oper} {ρ : Operand → PV} {σ : List bg} {R S : PV → List bg → Prop}
def concrete (P:Program) (t:TypeId):Bool:=
 match P.underlying t with
 | some (.interface _)=>false
 | some _=>true
 | none=>false
theorem XP {t:TypeId} (h:concrete P t=true) (v:Value) (w:World):(Instr.makeInterface t v).run P w=.ok (.iface t v) w:=by
 unfold concrete at h; split at h
 · cases h
 ·
  rename_i d hd e; simp only [Instr.makeInterface,Sem.run_bind,run_underlying e,Result.andThen_ok]; cases d <;> simp_all
 · cases h
theorem AO.ahv {t:TypeId} {x:Operand} {p:PV} (ho:o.op=.makeInterface t x) (hu:concrete P t=true) (hx:(ρ x).force=some p) (hR:R (.iface t p) σ):AO P o ρ σ R S:=by
 have hx:=PV.force_eq hx; refine AO.of_same hR fun w m ev hr hc=>?_; have h:=hr x (by simp [ho,Op.operands]); rw [hx] at h; refine ⟨.iface t (ev x),?_,?_⟩
 · simp only [execOp,ho,Sem.run_bind,XP hu,Result.andThen_ok,Sem.run_pure]
 · simp only [dG]; exact ⟨_,rfl,h⟩
theorem AO.ajQ {x:Operand} {t:TypeId} {p:PV} (ho:o.op=.panic x) (hx:ρ x=.iface t p) (hS:S (.iface t p) σ):AO P o ρ σ R S:=by
 intro w m a K QC hr hc _ hP; have h:=hr x (by simp [ho,Op.operands]); rw [hx] at h; have h':=h; simp only [dG] at h; obtain ⟨v,hv,hp⟩:=h; unfold Oper.wp
 have hrun:(execOp a.eval o).run P w=.halt (.panic (.iface t v)) w:=by
  simp only [execOp,ho,hv,Sem.run_bind]; rw [run_panic_iface]; rfl
 rw [hrun]; rw [hv] at h'; exact hP _ σ _ w m hS h' hc (Trans.refl ..)
theorem AO.eqNil {op:BinOp} {t yt:TypeId} {x:Operand} {e:Option TypeId} {b:Bool} (ho:o.op=.binOp op t x (.const .nilIface) yt) (hu:P.underlying t=some (.interface (P.methodsAt t)))
  (hx:ρ x=.err e) (hb:(match op with | .eql=>some e.isNone | .neq=>some e.isSome | _=>none)=some b) (hR:R (.bool b) σ):AO P o ρ σ R S:=by
 intro w m a K QC hr hc hK _; have h:=hr x (by simp [ho,Op.operands]); rw [hx] at h
 have hrun:(execOp a.eval o).run P w=.ok (.value (.bool b)) w:=by
  have hev:a.eval (.const .nilIface)=.nilIface:=rfl; cases e with
  | none=>
   simp only [dG] at h; cases op <;> simp only [reduceCtorEq,Option.some.injEq] at hb <;> subst hb
   · simp only [execOp,ho,h,hev,Sem.run_bind,eqGuard_nil_constR,Sem.run_pure,Result.andThen_ok,run_eql_nil_nil w t hu]; rfl
   · simp only [execOp,ho,h,hev,Sem.run_bind,eqGuard_nil_constR,Sem.run_pure,Result.andThen_ok,run_neq_nil_nil w t hu]; rfl
  | some u=>
   simp only [dG] at h; obtain ⟨z,h⟩:=h; cases op <;> simp only [reduceCtorEq,Option.some.injEq] at hb <;> subst hb
   ·
    simp only [execOp,ho,h,hev,Sem.run_bind]; rw [show eqGuard .eql t x (.const .nilIface) (.iface u z) .nilIface=pure () from rfl]; simp only [Sem.run_pure,Result.andThen_ok,run_eql_held_nil w t u z hu]; rfl
   ·
    simp only [execOp,ho,h,hev,Sem.run_bind]; rw [show eqGuard .neq t x (.const .nilIface) (.iface u z) .nilIface=pure () from rfl]; simp only [Sem.run_pure,Result.andThen_ok,run_neq_held_nil w t u z hu]; rfl
 unfold Oper.wp; rw [hrun]; exact hK _ σ _ w m hR (by simp only [dG]) hc (Trans.refl ..)
end
end Go.Abs
namespace Go.Abs
variable [iw]
open Go Go.Ft
def lU :Nat→List (Str × Int)→List MapEntry
 | _,[]=>[]
 | i,(k,v) :: r=>{key:=.string ⟨k.toArray⟩,val:=.int .i64 v,born:=i} :: lU (i + 1) r
def vV (l:List (Str × Int)):Obj:=.map (lU 0 l).toArray l.length
theorem aaX (a b:List UInt8):((⟨a.toArray⟩:ByteArray) == ⟨b.toArray⟩)=(a == b):=by
 show (a.toArray == b.toArray)=(a == b); simp
theorem Oh (k:Str):∀ (l:List (Str × Int)) (i j:Nat),∃ r,Instr.findNow .string (.string ⟨k.toArray⟩) (lU i l) j=some r∧
  ((r=none∧nN l k=0∧∀ n,lU i (rz l k n)=lU i l ++ [{key:=.string ⟨k.toArray⟩,val:=.int .i64 n,born:=i + l.length}]∧(rz l k n).length=l.length + 1)∨
   ∃ q v,r=some (j + q,.int .i64 v)∧nN l k=v∧(∃ e,(lU i l)[q]?=some e∧e.key=.string ⟨k.toArray⟩)∧
    ∀ n,lU i (rz l k n)=(lU i l).modify q (fun e=>{e with key:=.string ⟨k.toArray⟩,val:=.int .i64 n})∧(rz l k n).length=l.length)
 | [],i,j=>⟨none,rfl,.inl ⟨rfl,rfl,fun n=>⟨by simp [rz,lU],rfl⟩⟩⟩
 | (k',v) :: l,i,j=>by
  simp only [lU,Instr.findNow,Instr.sameNow,nN,rz]; by_cases e:k=k'
  ·
   subst e; refine ⟨some (j,.int .i64 v),by rw [aaX,beq_self_eq_true],.inr ⟨0,v,rfl,by simp,⟨_,rfl,rfl⟩,fun n=>⟨by simp [lU],by simp⟩⟩⟩
  ·
   have hb:(k == k')=false:=beq_eq_false_iff_ne.2 e; have hb2:((⟨k.toArray⟩:ByteArray) == ⟨k'.toArray⟩)=false:=(aaX k k').trans hb; rw [hb2,hb]; obtain ⟨r,h1,h2⟩:=Oh k l (i + 1) (j + 1); refine ⟨r,h1,?_⟩; rcases h2 with ⟨h3,h4,h5⟩ | ⟨q,u,h3,h4,h5,h6⟩
   ·
    refine .inl ⟨h3,by simpa using h4,fun n=>⟨?_,?_⟩⟩
    ·
     simp only [Bool.false_eq_true,if_false,lU,(h5 n).1,List.cons_append,List.length_cons]; rw [show i + 1 + l.length=i + (l.length + 1) from by omega]
    · simp [(h5 n).2]
   ·
    refine .inr ⟨q + 1,u,by rw [h3]; congr 2; omega,by simpa using h4,by simpa using h5,fun n=>⟨?_,?_⟩⟩
    · simp only [Bool.false_eq_true,if_false,lU,(h6 n).1,List.modify_succ_cons]
    · simp [(h6 n).2]
section
variable {P : Program} {o : Oper} {ρ : Operand → PV} {σ : List bg} {R S : PV → List bg → Prop}
theorem AO.Rb {t:TypeId} (ho:o.op=.makeMap t none) (hR:∀ b,R (.val (.map (some b))) (.obj b (vV []) :: σ)):AO P o ρ σ R S:=by
 refine AO.of_run' fun w m ev hr hc=>?_; have:=Kl hc (vV []); refine ⟨_,_,.map (some w.heap.size),_,_,hR w.heap.size,?_,by simp [dG],this,lM hc _ _ fun b hb=>?_⟩
 · simp [execOp,ho,Instr.makeMap,go_sem,vV,lU]
 ·
  simp [lX,bg.fp] at hb ⊢; rcases hb with hb | hb
  · exact .inr hb
  · exact .inl hb
theorem Fp {t:TypeId} (h:P.underlying t=some .string) (b:Bool) (n:Nat) (k:ByteArray) (w:World):(Instr.checkKey b (n + 1) t (.string k)).run P w=.ok () w:=by
 simp [Instr.checkKey,run_underlying h]
theorem run_getObj_map {w:World} {b c:Nat} {es:Array MapEntry} (h:w.heap[b]?=some (.map es c)):(getObj b).run P w=.ok (.map es c) w:=by simp [getObj,Sem.run,h]
theorem run_setObj_map {w:World} {b c:Nat} {es:Array MapEntry} (h:w.heap[b]?=some (.map es c)) (o:Obj):(setObj b o).run P w=.ok () {w with heap:=w.heap.setIfInBounds b o}:=by simp [setObj,Sem.run,h]
theorem AO.Ka {t kt et:TypeId} {x y:Operand} {l:List (Str × Int)} {k:Str} {b i:Nat} (ho:o.op=.lookup t x y false) (hi:σ[i]?=some (.obj b (vV l))) (hx:ρ x=.val (.map (some b))) (hy:ρ y=.str k)
  (ht:P.underlying t=some (.map kt et)) (hk:P.underlying kt=some .string) (hz:(P.info? et).map (·.zero)=some (some (.int .i64 0))) (hR:R (.int .i64 (nN l k)) σ):AO P o ρ σ R S:=by
 refine AO.of_same hR fun w m ev hr hc=>?_; have h1:=hr x (by simp [ho,Op.operands]); have h2:=hr y (by simp [ho,Op.operands]); rw [hx] at h1; rw [hy] at h2; simp only [dG] at h1 h2; obtain ⟨hb,hm⟩:=hc.each _ (List.mem_of_getElem? hi); obtain ⟨r,f1,f2⟩:=Oh k l 0 0
 have hf:(Instr.findKey kt (.string ⟨k.toArray⟩) (lU 0 l)).run P w=.ok r w:=by
  simp [Instr.findKey,run_underlying hk,f1]
 have z1:(zeroValue et).run P w=.ok (.int .i64 0) w:=by
  cases hi:P.info? et with
  | none=>rw [hi] at hz; cases hz
  | some inf=>
   rw [hi] at hz; simp only [Option.map_some,Option.some.injEq] at hz; simp [zeroValue,run_typeInfo hi,hz]
 refine ⟨.int .i64 (nN l k),?_,by simp only [dG]⟩; have hg:(getObj b).run P w=.ok (.map (lU 0 l).toArray l.length) w:=run_getObj_map hb; simp only [execOp,ho,Instr.lookup,h1,h2,Sem.run_bind,run_underlying ht,Result.andThen_ok,hg,Sem.run_pure,Fp hk,List.toList_toArray,hf]; rcases f2 with ⟨f3,f4,_⟩ | ⟨q,v,f3,f4,_⟩
 ·
  subst f3; simp [z1,f4]
 ·
  subst f3; simp [f4]
theorem AO.Ld {t kt et:TypeId} {x y z:Operand} {l:List (Str × Int)} {k:Str} {n:Int} {b i:Nat} (ho:o.op=.mapUpdate t x y z) (hi:σ[i]?=some (.obj b (vV l))) (hx:ρ x=.val (.map (some b))) (hy:ρ y=.str k) (hv:ρ z=.int .i64 n)
  (ht:P.underlying t=some (.map kt et)) (hk:P.underlying kt=some .string) (hR:R .undef (σ.set i (.obj b (vV (rz l k n))))):AO P o ρ σ R S:=by
 intro w m a K QC hr hc hK _; have h1:=hr x (by simp [ho,Op.operands]); have h2:=hr y (by simp [ho,Op.operands]); have h3:=hr z (by simp [ho,Op.operands]); rw [hx] at h1; rw [hy] at h2; rw [hv] at h3; simp only [dG] at h1 h2 h3; obtain ⟨hb,hm⟩:=hc.each _ (List.mem_of_getElem? hi)
 have hblt:b < w.heap.size:=by
  rcases Nat.lt_or_ge b w.heap.size with h | h
  · exact h
  · simp [Array.getElem?_eq_none h] at hb
 let w':World:={w with heap:=w.heap.setIfInBounds b (vV (rz l k n))}; have hb':w'.heap[b]?=some (vV (rz l k n)):=by simp [w',hblt]
 obtain ⟨k1,k2⟩:=Conc.write (w':=w') (r':=.obj b (vV (rz l k n))) hc hi rfl rfl hm ⟨hb',hm⟩ ⟨rfl,rfl,rfl⟩ (by simp [w']) (fun j hj=>by simp [w',Array.getElem?_setIfInBounds_ne (Ne.symm hj)]); obtain ⟨r,f1,f2⟩:=Oh k l 0 0
 have hf:(Instr.findKey kt (.string ⟨k.toArray⟩) (lU 0 l)).run P w=.ok r w:=by
  simp [Instr.findKey,run_underlying hk,f1]
 have hg:(getObj b).run P w=.ok (.map (lU 0 l).toArray l.length) w:=run_getObj_map hb; have hst:=run_setObj_map (P:=P) (w:=w) (b:=b) (c:=l.length) (es:=(lU 0 l).toArray) hb
 have hrun:(execOp a.eval o).run P w=.ok .skip w':=by
  simp only [execOp,ho,Instr.mapUpdate,h1,h2,h3,Sem.run_bind,run_underlying ht,Result.andThen_ok,hg,Fp hk,List.toList_toArray,hf]; rcases f2 with ⟨f3,_,f5⟩ | ⟨q,v,f3,_,⟨e,g1,g2⟩,f6⟩
  ·
   subst f3
   have e1:vV (rz l k n)=.map ((lU 0 l).toArray.push {key:=.string ⟨k.toArray⟩,val:=.int .i64 n,born:=l.length}) (l.length + 1):=by
    unfold vV; rw [(f5 n).1,(f5 n).2]; simp
   simp [hst,w',e1]
  ·
   subst f3
   have e1:vV (rz l k n)=.map ((lU 0 l).toArray.modify q (fun e=>{e with key:=.string ⟨k.toArray⟩,val:=.int .i64 n})) l.length:=by
    unfold vV; rw [(f6 n).1,(f6 n).2]; simp
   have g3:((lU 0 l).toArray[q]?)=some e:=by simpa using g1
   simp [Instr.keyThatStays,Instr.sameBits,aaX,g1,g2,hst,w',e1]
 unfold Oper.wp; rw [hrun]; exact hK _ _ _ _ _ hR trivial k1 k2
theorem AO.Rq {α:Type} {t n b off:Nat} {x i:Operand} {j:Int} {L:List α} {c:α} (h:idx L j=some c) (ho:o.op=.indexAddr t x i) (ha:Aw P t=some (n,1)) (hx:ρ x=.val (.pointer (some ⟨b,off,none⟩))) (hi:ρ i=.int .i64 j)
  (hL:L.length=n) (hR:R (.val (.pointer (some ⟨b,off + j.toNat,none⟩))) σ):AO P o ρ σ R S:=by
 obtain ⟨h0,h1⟩:=FR h
 have h2:j.toNat < n:=by
  rcases Nat.lt_or_ge j.toNat L.length with h3 | h3
  · omega
  · rw [List.getElem?_eq_none h3] at h1; cases h1
 exact AO.Tq ho ha hx hi h0 h2 (by rw [Nat.mul_one]; exact hR)
theorem AO.ac0 {α:Type} {t:TypeId} {x:Operand} {cs:List PV} {b i k:Nat} {j:Int} {L:List α} {c:α} (f:α→PV) (h:idx L j=some c) (ho:o.op=.load t x) (hx:ρ x=.val (.pointer (some ⟨b,0 + j.toNat,none⟩))) (hi:σ[i]?=some (bg.box b cs))
  (ht:jo P t=some (false,k)) (hcs:cs=L.map f) (hR:R (f c) σ):AO P o ρ σ R S:=by
 obtain ⟨h0,h1⟩:=FR h; refine AO.aam ho hx hi ht ?_ hR; rw [hcs,Nat.zero_add,List.getElem?_map,h1]; rfl
end
end Go.Abs
namespace Go.Abs
variable [iw]
open Go Go.Ft
section
variable {P : Program}
theorem Ql {Q:Exit→Act→List Frame→World→Prop} {id n:Nat} {ops:Array Oper} {o:Oper} {v:Value} {a:Act} {cs cs':List Frame} {w:World}
  (hn:ops.size=n + 1) (h0:ops[0]?=some o) (hg:o.guard=none) (hop:(execOp a.eval o).run P w=.ok .recover w)
  (hrec:recoverD cs=some (v,cs')∨(recoverD cs=none∧v=.nilIface∧cs'=cs))
  (h:wpOps P ops (fun e a' w'=>Q e a' cs' w') (List.range' 1 n) (a.put o.dst v) w):(Code.region id ops false).wpS P Q a cs w:=by
 intro b k hb hro; have hw:Region.wanted o (yielded ops a.tmps)=true:=by simp [Region.wanted,hg]
 have hr:List.range ops.size=0 :: List.range' 1 n:=by rw [hn,List.range_eq_range',List.range'_succ]
 have hst:=stepG_op (P:=P) (b:=b) (a:=a) (k:=k) (cs:=cs) (w:=w) (rest:=List.range' 1 n) h0 hw
 have hfin:∀ v,(b.at a (.inRegion ops (0 :: List.range' 1 n) :: k)).finish v=b.at (a.put o.dst v) (.inRegion ops (List.range' 1 n) :: k):=by
  intro v; rw [Frame.finish_at,h0]; rfl
 have hk:(b.at a (.inRegion ops (0 :: List.range' 1 n) :: k)).kind=.deferred:=hb; have htr:=tryRecover_deferred hk cs; obtain ⟨e,a',w',hq,harr⟩:=wp_ops (P:=P) (Q:=fun e a' w'=>Q e a' cs' w') _ _ _ h b k cs'; refine ⟨e,a',cs',w',hq,.of_steps (.one step_region) (.of_steps (.one ?_) harr)⟩; rw [hr]; refine step_lone_go ?_; rw [hst,←hfin]; simp only [Frame.at] at htr ⊢; rcases hrec with hrec | ⟨hrec,rfl,rfl⟩
 · simp [stepG.apply,hop,htr,hrec]
 · simp [stepG.apply,hop,htr,hrec]
def Mv :Option Value→FrameMode
 | none=>.returning
 | some v=>.panicking [{v,recovered:=false}]
def C8 :Option Value→FrameMode
 | none=>.returning
 | some v=>.panicking [{v,recovered:=true}]
def isRecover (o:Oper):Bool:=
 match o.op with
 | .call c=>(match c.callee with | .builtin .recover=>c.args.isEmpty | _=>false)
 | _=>false
theorem XM {o:Oper} (h:isRecover o=true) (ev:Operand→Value) (w:World):(execOp ev o).run P w=.ok .recover w:=by
 unfold isRecover at h; split at h
 ·
  rename_i c hc; split at h
  ·
   rename_i lW; simp [execOp,hc,resolve,lW,invoke,builtin]
  · cases h
 · cases h
def QD (R:List bg→Prop):Post
 | .normal,_,s,d | .ret,_,s,d=>d=[]∧R s
 | _,_,_,_=>False
theorem CD.rec {g:FuncId} {fn:Func} {args:List PV} {σ:List bg} {id nt t:Nat} {ops:List Oper} {o:Oper} {X:Code} {env:Env} (ts:List Nat) {p:PV} {R:List bg→Prop}
  (hf:P.funcs[g]?=some fn) (hb:fn.body=some (.seq (.region id (o :: ops).toArray false) X)) (hn:fn.ntmps=nt) (hl:Nat.ble args.length nt=true) (hrs:fn.results.toList=[]) (Ob:settle ts (BQ 0 args)=some env)
  (hg:o.guard=none) (ho:isRecover o=true) (hd:o.dst=some t) (ht:Nat.blt t nt=true)
  (h:AR P nt (o :: ops).toArray ops ((t,p) :: env) σ [] (AX.then (fun e s d=>AW P nt X e s d (QD R)) (QD R)))
  (w:World) (m:jM) (vs:List Value) (q:Option Value) (hq:match q with | none=>p=.val .nilIface | some v=>dG w m p v) (hc:Conc w m σ) (hv:aZ w m args vs):
  CallsD P g vs.toArray (Mv q) w fun e u' w'=>e=.returned (.tuple #[])∧u'=C8 q∧∃ σ' m',R σ'∧Conc w' m' σ'∧Trans w m σ w' m' σ':=by
 have hl:=Nat.le_of_ble_eq_true hl; have ht:=Nat.le_of_ble_eq_true ht; have hvl:=hv.length_eq; refine callsD_of_wpS hf hb fun c₀ cs hu=>wpS_seq ?_
 have hrec:∃ v cs',(recoverD (c₀ :: cs)=some (v,cs')∨(recoverD (c₀ :: cs)=none∧v=.nilIface∧cs'=c₀ :: cs))∧dG w m p v∧cs'={c₀ with mode:=C8 q} :: cs:=by
  cases q with
  | none=>
   refine ⟨.nilIface,c₀ :: cs,.inr ⟨by simp [recoverD,hu,Mv],rfl,rfl⟩,?_,?_⟩
   · simp only at hq; subst hq; simp only [dG]
   · simp only [C8]; rw [show FrameMode.returning=c₀.mode from hu.symm]
  | some v=>exact ⟨v,_,.inl (by simp [recoverD,hu,Mv]; rfl),hq,rfl⟩
 obtain ⟨v,cs',h1,h2,h3⟩:=hrec; refine Ql (o:=o) (n:=ops.length) (by simp) (by simp) hg (XM ho _ _) h1 ?_
 have zB:qI w m nt ((t,p) :: env) σ [] (({tmps:=vs.toArray ++ Array.replicate (fn.ntmps - vs.toArray.size) Go.undef,defers:=[]}:Act).put o.dst v):=by
  have he:=CG (List.replicate (fn.ntmps - vs.toArray.size) Go.undef) [] hv; have e0:vs.toArray ++ Array.replicate (fn.ntmps - vs.toArray.size) Go.undef=([] ++ vs ++ List.replicate (fn.ntmps - vs.toArray.size) Go.undef:List Value).toArray:=by simp
  rw [←e0] at he; have he:=D8.settle Ob he; have h0:qI w m nt env σ [] ({tmps:=vs.toArray ++ Array.replicate (fn.ntmps - vs.toArray.size) Go.undef,defers:=[]}:Act):=⟨by simp [hvl,hn]; omega,rfl,he,hc⟩; exact qI.put h0 hd ht h2 hc (Le.refl _ _)
 have key:∀ QQ a w,wpList P (o :: ops).toArray QQ ops a w→wpOps P (o :: ops).toArray QQ (List.range' 1 ops.length) a w:=fun QQ a w h=>by
  rw [wpOps_eq_wpList ops 1 (fun j=>by simp [Nat.add_comm 1 j])]; exact h
 refine key _ _ _ (h w m _ _ zB ?_)
 have hfin:∀ (e:Env) (s:List bg) (d:List Deferred) (a':Act) (w':World) (m':jM),qI w' m' nt e s d a'→Trans w m σ w' m' s→d=[]→R s→
   a'.defers=[]∧∃ u',cs'={c₀ with mode:=u'} :: cs∧∃ z,(results fn a'.tmps).run P w'=.ok z w'∧Ending.returned z=.returned (.tuple #[])∧u'=C8 q∧∃ σ' m',R σ'∧Conc w' m' σ'∧Trans w m σ w' m' σ':=by
  intro e s d a' w' m' hs ht hd hR; refine ⟨by rw [hs.ds,hd],C8 q,h3,.tuple #[],?_,rfl,rfl,s,m',hR,hs.jD,ht⟩; unfold results; rw [Array.mapM_eq_mapM_toList,hrs]; simp
 intro x ex e1 s1 d1 a1 w1 m1 hq1 hx hs1 ht1; cases x with
 | normal=>
  cases hx; refine wpS_of_wp (hq1 w1 m1 a1 _ hs1 ?_); intro x ex e2 s2 d2 a2 w2 m2 hq2 hx hs2 ht2; cases x with
  | normal=>cases hx; exact hfin e2 s2 d2 a2 w2 m2 hs2 (ht1.trans ht2) hq2.1 hq2.2
  | ret=>cases hx; exact hfin e2 s2 d2 a2 w2 m2 hs2 (ht1.trans ht2) hq2.1 hq2.2
  | exit id=>exact hq2.elim
  | panic p=>exact hq2.elim
 | ret=>cases hx; exact hfin e1 s1 d1 a1 w1 m1 hs1 ht1 hq1.1 hq1.2
 | exit id=>exact hq1.elim
 | panic p=>exact hq1.elim
end
end Go.Abs
namespace Go.Abs
variable [iw]
open Go
def hide (D:Nat→Bool):Env→Env
 | []=>[]
 | (t,p) :: r=>bif D t then hide D r else (t,p) :: hide D r
theorem nQ (D:Nat→Bool) (t:Nat):∀ E:Env,(hide D E).get t=if D t=true then .undef else E.get t
 | []=>by simp [hide,Env.get]
 | (u,p) :: r=>by
  unfold hide; cases hu:D u with
  | true=>
   simp only [cond_true,Env.get]; rw [nQ D t r]; by_cases e:u=t
   · subst e; simp [hu]
   · rw [uP e]; rfl
  | false=>
   simp only [cond_false,Env.get]; by_cases e:u=t
   · subst e; simp [hu]
   · rw [uP e]; simp only [cond_false]; exact nQ D t r
def readsOf (ops:List Oper) (o:Oper):List Nat:=
 (o.op.operands.toList.filterMap fun | .tmp t=>some t | _=>none) ++
 (match o.guard with
  | some (g,_)=>(match ops[g]? with | some og=>(match og.dst with | some t=>[t] | none=>[]) | none=>[])
  | none=>[])
def zm (L:List Oper) (i:Nat):List Nat:=match L[i]? with | some o=>YI L i (fC o) | none=>[]
def aiH (o:Oper):List Nat:=match o.dst with | some t=>[t] | none=>[]
def Pw (l:List Nat) (x:Nat):Bool:=l.any fun y=>Nat.beq y x
def Jb (L:List Oper) (k k2:Nat):Bool:=
 (List.range L.length).all fun i=>match L[i]? with
  | none=>true
  | some o=>((fC o).all fun x=>Nat.blt x i) &&
   if Nat.blt i k then
    ((List.range k2).all fun j=>Nat.beq i j || (match L[j]? with
     | none=>true
     | some oj=>match oj.dst with
      | none=>true
      | some t=>!Pw (aiH o) t && (!Pw (readsOf L o) t || (Nat.blt j k && Pw (fC o) j)))) &&
    (match o.dst with | some t=>!Pw (readsOf L o) t | none=>true)
   else if Nat.blt i k2 then (List.range k).all fun j=>(match L[j]? with
     | none=>true
     | some oj=>match oj.dst with
      | none=>true
      | some t=>!Pw (readsOf L o) t || Pw (zm L i) j)
   else if Nat.beq i k2 then (List.range k2).all fun j=>Pw (zm L k2) j
   else (fC o).any fun x=>Nat.beq (x + 1) i
structure aa1 (L:List Oper) (k k2:Nat):Prop where
 before:∀ i o,L[i]?=some o→∀ j∈fC o,j < i
 apart:∀ i o j oj t,i < k→L[i]?=some o→j < k2→L[j]?=some oj→i≠j→oj.dst=some t→o.dst≠some t∧(t∈readsOf L o→j < k∧j∈fC o)
 self:∀ i o t,i < k→L[i]?=some o→o.dst=some t→t∉readsOf L o
 mid:∀ i o j oj t,k≤i→i < k2→L[i]?=some o→j < k→L[j]?=some oj→oj.dst=some t→t∈readsOf L o→j∈zm L i
 abl:∀ o,L[k2]?=some o→∀ j,j < k2→j∈zm L k2
 tails:∀ i o,k2 < i→L[i]?=some o→∃ j∈fC o,j + 1=i
theorem J8 {L:List Oper} {k k2:Nat} (hkk:k≤k2) (h:Jb L k k2=true):aa1 L k k2:=by
 unfold Jb at h; rw [List.all_eq_true] at h
 have h1:∀ i o,L[i]?=some o→((fC o).all fun x=>Nat.blt x i)=true∧_:=fun i o ho=>by
  have hi:i < L.length:=by
   rcases Nat.lt_or_ge i L.length with h' | h'
   · exact h'
   · simp [List.getElem?_eq_none h'] at ho
  have:=h i (by simpa using hi); rw [ho] at this; simpa only [Bool.and_eq_true] using this
 have hn:∀ i k,¬ i < k→¬ Nat.blt i k=true:=fun i k h hh=>h (nE.1 hh); refine ⟨fun i o ho j hj=>?_,fun i o j oj t hi ho hj hoj hne ht=>?_,fun i o t hi ho ht=>?_,fun i o j oj t hk hi ho hj hoj ht hm=>?_,fun o ho j hj=>?_,fun i o hi ho=>?_⟩
 ·
  have:=(h1 i o ho).1; rw [List.all_eq_true] at this; exact nE.1 (this j hj)
 ·
  have:=(h1 i o ho).2; rw [if_pos (nE.2 hi),Bool.and_eq_true,List.all_eq_true] at this; have:=this.1 j (by simpa using hj); rw [uP hne,Bool.false_or,hoj] at this; simp only [ht,Bool.and_eq_true,Bool.or_eq_true,Bool.not_eq_true'] at this; obtain ⟨t1,t2⟩:=this; refine ⟨fun e=>?_,fun hm=>?_⟩
  ·
   unfold aiH at t1; rw [e] at t1; simp [Pw] at t1
  ·
   rcases t2 with t2 | ⟨t2,t3⟩
   ·
    unfold Pw at t2; rw [any_beq.2 hm] at t2; cases t2
   · exact ⟨nE.1 t2,any_beq.1 t3⟩
 ·
  have:=(h1 i o ho).2; rw [if_pos (nE.2 hi),Bool.and_eq_true] at this; have:=this.2; simp only [ht,Bool.not_eq_true'] at this; intro hm; unfold Pw at this; rw [any_beq.2 hm] at this; cases this
 ·
  have:=(h1 i o ho).2; rw [if_neg (hn _ _ (by omega)),if_pos (nE.2 hi),List.all_eq_true] at this; have:=this j (by simpa using hj); rw [hoj] at this; simp only [ht,Bool.or_eq_true,Bool.not_eq_true'] at this; rcases this with t2 | t2
  ·
   unfold Pw at t2; rw [any_beq.2 hm] at t2; cases t2
  · exact any_beq.1 t2
 ·
  have:=(h1 k2 o ho).2; rw [if_neg (hn _ _ (by omega)),if_neg (hn _ _ (by omega)),if_pos (Nat.beq_refl k2),List.all_eq_true] at this; exact any_beq.1 (this j (by simpa using hj))
 ·
  have:=(h1 i o ho).2; rw [if_neg (hn _ _ (by omega)),if_neg (hn _ _ (by omega)),if_neg (fun hh=>by have:=Nat.eq_of_beq_eq_true hh; omega),List.any_eq_true] at this; obtain ⟨x,hx,hxi⟩:=this; exact ⟨x,hx,Nat.eq_of_beq_eq_true hxi⟩
theorem AO.frameT {P:Program} {o:Oper} {ρ:Operand→PV} {σ τ:List bg} {R S:PV→List bg→Prop} (h:AO P o ρ σ R S):AO P o ρ (σ ++ τ) (fun p s=>∃ s0,s=s0 ++ τ∧R p s0) (fun p s=>∃ s0,s=s0 ++ τ∧S p s0):=by
 intro w m a K QC hr hc hK hS; refine h w m a K QC hr hc.left (fun p σ' v w' m' h1 h2 h3 h4=>?_) (fun p σ' v w' m' h1 h2 h3 h4=>?_)
 ·
  obtain ⟨k1,k2⟩:=Conc.frame hc h3 h4; exact hK p _ v w' m' ⟨σ',rfl,h1⟩ h2 k1 k2
 ·
  obtain ⟨k1,k2⟩:=Conc.frame hc h3 h4; exact hS p _ v w' m' ⟨σ',rfl,h1⟩ h2 k1 k2
theorem AO.afg {P:Program} {o:Oper} {ρ:Operand→PV} {σ:List bg} {R S R' S':PV→List bg→Prop} (h:AO P o ρ σ R S) (hR:∀ p s,R p s→R' p s) (hS:∀ p s,S p s→S' p s):AO P o ρ σ R' S':=
 fun w m a K QC hr hc h1 h2=>h w m a K QC hr hc (fun p s v w' m' k=>h1 p s v w' m' (hR p s k)) (fun p s v w' m' k=>h2 p s v w' m' (hS p s k))
theorem AO.ae3 {P:Program} {o:Oper} {ρ:Operand→PV} {σ τ:List bg} {R S:PV→List bg→Prop} (hp:τ.Perm σ) (h:AO P o ρ σ R S):AO P o ρ τ R S:=
 fun w m a K QC hr hc h1 h2=>h w m a K QC hr (hc.perm hp) (fun p s v w' m' k1 k2 k3 k4=>h1 p s v w' m' k1 k2 k3 (k4.perm hp.symm (.refl _))) (fun p s v w' m' k1 k2 k3 k4=>h2 p s v w' m' k1 k2 k3 (k4.perm hp.symm (.refl _)))
theorem sS.frameT {P:Program} {all:Array Oper} {env:Env} {σ τ:List bg} {o:Oper} {p:PV} (h:sS P all env σ o p):sS P all env (σ ++ τ) o p:=by
 have key:∀ o',AF P o' env.ev σ p→AF P o' env.ev (σ ++ τ) p:=fun o' h=>by
  refine AO.afg (AO.frameT (τ:=τ) h) (fun p' s=>?_) (fun p' s=>?_)
  · rintro ⟨s0,rfl,rfl,rfl⟩; exact ⟨rfl,rfl⟩
  · rintro ⟨s0,rfl,h⟩; exact h
 rcases h with ⟨hg,h⟩ | ⟨j,want,oj,u,h1,h2,h3,h⟩
 · exact .inl ⟨hg,key _ h⟩
 ·
  refine .inr ⟨j,want,oj,u,h1,h2,h3,?_⟩; rcases h with ⟨h5,h⟩ | h
  · exact .inl ⟨h5,key _ h⟩
  · exact .inr h
theorem sS.LA {P:Program} {all:Array Oper} {env env':Env} {σ:List bg} {o:Oper} {p:PV} {L:List Oper} (hall:all=L.toArray) (h:sS P all env σ o p) (he:∀ t∈readsOf L o,env'.get t=env.get t):sS P all env' σ o p:=by
 subst hall
 have hop:∀ x∈o.op.operands,env'.ev x=env.ev x:=fun x hx=>Jt fun t ht=>he t (by
  subst ht; unfold readsOf
  exact List.mem_append.2 (.inl (List.mem_filterMap.2 ⟨.tmp t,by simpa using hx,rfl⟩)))
 rcases h with ⟨hg,h⟩ | ⟨j,want,oj,u,hg,hj,hu,h⟩
 · exact .inl ⟨hg,AO.congr h hop⟩
 ·
  have hu':env'.get u=env.get u:=by
   rw [he u]; unfold readsOf; refine List.mem_append.2 (.inr ?_); rw [hg]; simp only; rw [show L[j]?=some oj from by simpa using hj]; simp [hu]
  refine .inr ⟨j,want,oj,u,hg,hj,hu,?_⟩; rw [hu']; rcases h with ⟨h1,h2⟩ | h
  · exact .inl ⟨h1,AO.congr h2 hop⟩
  · exact .inr h
def Po (dst:Option Tmp) (p:PV) (e:Env):Env:=match dst with | some t=>(t,p) :: e | none=>e
theorem ze {dst:Option Tmp} {p:PV} {e:Env} {t:Nat} (h:dst≠some t):(Po dst p e).get t=e.get t:=by
 cases dst with
 | none=>rfl
 | some u=>
  have:u≠t:=fun hh=>h (by rw [hh]); simp only [Po,Env.get,uP this,cond_false]
section
variable {P : Program} {n : Nat} {ds : List Deferred} {L : List Oper} {k k2 : Nat}
theorem Vq (k0:Nat) (hk0:∀ i q,k≤i→i < k2→q < k0→q∈zm L i) (hk:k≤k2) (hk2:k2≤L.length) (ho:aa1 L k k2) {d:Nat→Nat} (hd:∀ i o,i < k→L[i]?=some o→o.dst=some (d i)∧d i < n) {σ1:List bg} {Q:Post}
  (I:(Nat→Bool)→Env→List bg→Prop) (hI:∀ S S' e σ,(∀ i,k≤i→i < k2→S i=S' i)→I S e σ→I S' e σ)
  (hT:∀ S e σ2 i o,I S e σ2→k≤i→i < k2→S i=false→(∀ j∈fC o,k≤j→S j=true)→L[i]?=some o→o.guard=none∧(∀ t,o.dst=some t→t < n)∧
   AO P o e.ev σ2 (fun p wQ=>I (fun j=>if i=j then true else S j) (Po o.dst p e) wQ) (fun p wQ=>Q (.panic p) [] (σ1 ++ wQ) ds))
  (hend:∀ S e σ2,(∀ i,k≤i→i < k2→S i=true)→I S e σ2→AR P n L.toArray (L.drop k2) e (σ1 ++ σ2) ds Q)
  {QC:Exit→Act→World→Prop}:∀ (fuel:Nat) (listed:Array Bool) (a:Act) (w:World) (m:jM) (E:Env) (σ2:List bg),listed.size=L.length→listed.toList.count false≤fuel→
   (∀ j,k2≤j→j < L.length→listed.getD j true=false)→(∀ i o,L[i]?=some o→listed.getD i true=true→∀ j∈fC o,listed.getD j true=true)→
   (∀ i o,i < k→L[i]?=some o→listed.getD i true=false→sS P L.toArray E (if i < k0 then σ1 ++ σ2 else σ1) o (E.get (d i)))→I (fun i=>listed.getD i true) E σ2→
   qI w m n (hide (fun t=>(List.range k).any fun i=>!listed.getD i true && Nat.beq (d i) t) E) (σ1 ++ σ2) ds a→Acc n Q w m (σ1 ++ σ2) QC→wpAny P .any L.toArray QC fuel listed a w:=by
 have hidden:∀ (listed:Array Bool) (t:Nat),((List.range k).any fun i=>!listed.getD i true && Nat.beq (d i) t)=true↔∃ i,i < k∧listed.getD i true=false∧d i=t:=by
  intro listed t; rw [List.any_eq_true]; constructor
  ·
   rintro ⟨i,hi,h⟩; simp only [Bool.and_eq_true,Bool.not_eq_true'] at h; exact ⟨i,by simpa using hi,h.1,Nat.eq_of_beq_eq_true h.2⟩
  ·
   rintro ⟨i,hi,h1,h2⟩; exact ⟨i,by simpa using hi,by simp [h1,h2]⟩
 have done:∀ (fuel:Nat) (listed:Array Bool) (a:Act) (w:World) (m:jM) (E:Env) (σ2:List bg),listed.size=L.length→listed.toList.count false≤fuel→
   (∀ j,k2≤j→j < L.length→listed.getD j true=false)→(∀ j,j < k2→listed.getD j true=true)→I (fun i=>listed.getD i true) E σ2→
   qI w m n (hide (fun t=>(List.range k).any fun i=>!listed.getD i true && Nat.beq (d i) t) E) (σ1 ++ σ2) ds a→Acc n Q w m (σ1 ++ σ2) QC→wpAny P .any L.toArray QC fuel listed a w:=by
  intro fuel listed a w m E σ2 hsz hcnt hun hall hi hs ha
  have hl:∀ j,j < L.length→(listed.getD j true=true↔j < k2):=by
   intro j hj; rcases Nat.lt_or_ge j k2 with h | h
   · simp [hall j h,h]
   · simp [hun j h hj]; omega
  refine Qm (k:=k2) ho.before ho.tails fuel k2 listed a w (Nat.le_refl _) hk2 hsz hl ?_ ?_
  ·
   have hc:(listed.toList.drop k2).count false=L.length - k2:=by
    have:listed.toList.drop k2=List.replicate (L.length - k2) false:=by
     apply List.ext_getElem
     · simp [hsz]
     ·
      intro j h1 h2; simp at h1 h2 ⊢; have h3:=hun (k2 + j) (by omega) (by omega); have h4:k2 + j < listed.size:=by omega
      simpa [Array.getD,h4] using h3
    rw [this]; simp
   have:(listed.toList.drop k2).count false≤listed.toList.count false:=List.Sublist.count_le _ (List.drop_sublist _ _); omega
  ·
   refine hend _ E σ2 (fun i _ hi=>hall i hi) hi w m a QC (hs.congr fun t=>.inr ?_) ha; rw [nQ]; rw [if_neg]; rw [hidden]; rintro ⟨i,h1,h2,_⟩; rw [hall i (by omega)] at h2; cases h2
 intro fuel
 induction fuel with
 | zero=>
  intro listed a w m E σ2 hsz hcnt hun FT hfa hi hs ha; refine done 0 listed a w m E σ2 hsz hcnt hun (fun j hj=>?_) hi hs ha; have h0:listed.toList.count false=0:=by omega
  rw [List.count_eq_zero] at h0; have hj':j < listed.size:=by omega
  cases e:listed.getD j true with
  | true=>rfl
  | false=>
   exfalso; apply h0; have:listed[j]=false:=by simpa [Array.getD,hj'] using e
   rw [←this]; simp
 | succ fuel ih=>
  intro listed a w m E σ2 hsz hcnt hun FT hfa hi hs ha; by_cases hall:∀ j,j < k2→listed.getD j true=true
  · exact done (fuel + 1) listed a w m E σ2 hsz hcnt hun hall hi hs ha
  ·
   have hex:∃ i,i < k2∧listed.getD i true=false∧∀ j,j < i→listed.getD j true=true:=by
    have key:∀ c,(∀ j,j < c→j < k2→listed.getD j true=true)∨∃ i,i < k2∧listed.getD i true=false∧∀ j,j < i→listed.getD j true=true:=by
     intro c
     induction c with
     | zero=>exact .inl fun j hj=>by omega
     | succ c ihc=>
      rcases ihc with h | h
      ·
       by_cases hc:c < k2∧listed.getD c true=false
       · exact .inr ⟨c,hc.1,hc.2,fun j hj=>h j hj (by omega)⟩
       ·
        refine .inl fun j hj hjk=>?_; by_cases e:j=c
        ·
         subst e; cases e:listed.getD j true with
         | true=>rfl
         | false=>exact absurd ⟨hjk,e⟩ hc
        · exact h j (by omega) hjk
      · exact .inr h
    rcases key k2 with h | h
    · exact absurd (fun j hj=>h j hj hj) hall
    · exact h
   have GU:∀ j b,j < L.length→listed.getD j b=listed.getD j true:=by
    intro j b hj; have:j < listed.size:=by omega
    simp [Array.getD,this]
   refine ⟨fun h0=>?_,fun i hi'=>?_⟩
   ·
    exfalso; obtain ⟨i,hik,hif,hlow⟩:=hex; have Im:i < L.length:=by omega
    have:i∈Region.ready .any L.toArray listed:=by
     refine mem_ready.2 ⟨by simpa using Im,hif,L[i],by simp [Im],fun e he hb=>?_⟩; have hj:=ho.before i _ (List.getElem?_eq_getElem Im) e.on (vC.2 ⟨e,he,hb,rfl⟩); rw [GU _ _ (by omega)]; exact hlow _ hj
    rw [h0] at this; cases this
   ·
    obtain ⟨h1,h2,o,h3,h4⟩:=mem_ready.1 hi'; have Im:i < L.length:=by simpa using h1
    have hoi:L[i]?=some o:=by simpa using h3
    have hpred:∀ j∈fC o,listed.getD j true=true:=by
     intro j hj; obtain ⟨e,he,hb,hon⟩:=vC.1 hj; have h5:=h4 e he hb; rw [hon,GU _ _ (by have:=ho.before i o hoi j hj; omega)] at h5; exact h5
    have hdn:∀ j∈zm L i,listed.getD j true=true:=by
     intro j hj; unfold zm at hj; rw [hoi] at hj; exact Cr (k:=i) (listed:=fun j=>listed.getD j true=true) (fun q oq _ hq hl=>FT q oq hq hl) i (fC o) (Nat.le_refl _) hpred j hj
    have hik:i < k2:=by
     rcases Nat.lt_or_ge i k2 with h | h
     · exact h
     ·
      exfalso; obtain ⟨q,hqk,hqf,_⟩:=hex; rcases Nat.lt_or_ge k2 i with h' | h'
      ·
       obtain ⟨j,hj,hji⟩:=ho.tails i o h' hoi; have h6:=hpred j hj; rw [hun j (by omega) (by omega)] at h6; cases h6
      ·
       have hik:i=k2:=by omega
       subst hik; have h6:=hdn q (ho.abl o hoi q hqk); rw [hqf] at h6; cases h6
    have hset:∀ j,(listed.setIfInBounds i true).getD j true=if i=j then true else listed.getD j true:=M5 (by omega)
    have abK:(listed.setIfInBounds i true).toList.count false≤fuel:=by
     have hil:listed.toList[i]?=some false:=by
      have hi':i < listed.size:=by omega
      have:listed[i]=false:=by simpa [Array.getD,hi'] using h2
      simp [hi',this]
     have:=count_set hil; rw [Array.toList_setIfInBounds]; omega
    have hun':∀ j,k2≤j→j < L.length→(listed.setIfInBounds i true).getD j true=false:=by
     intro j hkj hj; rw [hset,if_neg (by omega)]; exact hun j hkj hj
    have V7:∀ q oq,L[q]?=some oq→(listed.setIfInBounds i true).getD q true=true→∀ j∈fC oq,(listed.setIfInBounds i true).getD j true=true:=by
     intro q oq hoq hl j hj; rw [hset] at hl ⊢; by_cases e:i=j
     · simp [e]
     ·
      simp only [e,if_false]; by_cases e2:i=q
      ·
       subst e2; rw [hoi] at hoq; cases hoq; exact hpred j hj
      ·
       simp only [e2,if_false] at hl; exact FT q oq hoq hl j hj
    have hget:∀ t∈readsOf L o,(hide (fun t=>(List.range k).any fun i=>!listed.getD i true && Nat.beq (d i) t) E).get t=E.get t:=by
     intro t ht; rw [nQ,if_neg]; rw [hidden]; rintro ⟨j,hjk,hjf,hjt⟩; have hoj:L[j]?=some L[j]:=List.getElem?_eq_getElem (by omega); have hdj:=(hd j _ hjk hoj).1; rw [hjt] at hdj; rcases Nat.lt_or_ge i k with h | h
     ·
      by_cases e:i=j
      ·
       subst e; have e9:=Option.some.inj (hoi.symm.trans hoj); rw [←e9] at hdj; exact ho.self i o t h hoi hdj ht
      ·
       have:=hpred j ((ho.apart i o j _ t h hoi (by omega) hoj e hdj).2 ht).2; rw [hjf] at this; cases this
     ·
      have:=hdn j (ho.mid i o j _ t h hik hoi hjk hoj hdj ht); rw [hjf] at this; cases this
    rcases Nat.lt_or_ge i k with hlt | hge
    ·
     obtain ⟨hdo,akb⟩:=hd i o hlt hoi; have hev:=hfa i o hlt hoi h2
     have am6:sS P L.toArray E (σ1 ++ σ2) o (E.get (d i)):=by
      split at hev
      · exact hev
      · exact sS.frameT hev
     refine K3 (t:=d i) h3 hdo akb (sS.LA rfl am6 hget) hs fun a' w' m' hs' Oa=>?_; refine ih _ a' w' m' E σ2 (by simpa using hsz) abK hun' V7 ?_ ?_ ?_ (ha.step Oa)
     ·
      intro q oq hq hoq hl; rw [hset] at hl; by_cases e:i=q
      · simp [e] at hl
      ·
       simp only [e,if_false] at hl; exact hfa q oq hq hoq hl
     ·
      refine hI _ _ _ _ (fun j hj _=>?_) hi; rw [hset,if_neg (by omega)]
     ·
      refine hs'.congr fun t=>?_; rw [nQ]; split
      · exact .inl rfl
      ·
       rename_i hh; right; simp only [Env.get]; by_cases e:d i=t
       · subst e; simp
       ·
        rw [uP e,cond_false,nQ,if_neg]; intro hh'; apply hh; rw [hidden] at hh' ⊢; obtain ⟨j,h5,h6,h7⟩:=hh'; refine ⟨j,h5,?_,h7⟩; rw [hset,if_neg (fun hij=>e (by rw [hij]; exact h7))]; exact h6
    ·
     obtain ⟨hg,hdt,hao⟩:=hT _ E σ2 i o hi hge hik h2 (fun j hj _=>hpred j hj) hoi; unfold wpOp; rw [h3]; simp only; rw [if_pos (by simp [Region.wanted,hg])]; left; have hao':=AO.ae3 (σ:=σ2 ++ σ1) (τ:=σ1 ++ σ2) List.perm_append_comm (AO.frameT (τ:=σ1) hao); refine hao' w m a _ QC (fun x hx=>?_) hs.jD ?_ ?_
     ·
      have h9:=hs.env.ev x
      have:(hide (fun t=>(List.range k).any fun i=>!listed.getD i true && Nat.beq (d i) t) E).ev x=E.ev x:=Jt fun t ht=>hget t (by
       subst ht; unfold readsOf
       exact List.mem_append.2 (.inl (List.mem_filterMap.2 ⟨.tmp t,by simpa using hx,rfl⟩)))
      rw [this] at h9; exact h9
     ·
      rintro p σ' v w' m' ⟨wQ,rfl,hi2⟩ hv hc htr; have hc':=hc.perm (τ:=σ1 ++ wQ) List.perm_append_comm; have Oa:=htr.perm (.refl _) (List.perm_append_comm (l₁:=wQ) (l₂:=σ1))
      have hne:∀ q oq,q < k→L[q]?=some oq→∀ t,o.dst=some t→oq.dst≠some t∧t∉readsOf L oq:=by
       intro q oq hq hoq t ht; obtain ⟨e1,e2⟩:=ho.apart q oq i o t hq hoq hik hoi (by omega) ht; exact ⟨e1,fun hm=>by have:=(e2 hm).1; omega⟩
      refine ih _ _ w' m' (Po o.dst p E) wQ (by simpa using hsz) abK hun' V7 ?_ ?_ ?_ (ha.step Oa)
      ·
       intro q oq hq hoq hl; rw [hset,if_neg (by omega)] at hl; have h8:=hfa q oq hq hoq hl
       have hq0:¬ q < k0:=fun hh=>by
        have:=hdn q (hk0 i q hge hik hh); rw [hl] at this; cases this
       rw [if_neg hq0] at h8 ⊢; have e1:(Po o.dst p E).get (d q)=E.get (d q):=ze fun hh=>(hne q oq hq hoq _ hh).1 (hd q oq hq hoq).1; rw [e1]; refine sS.LA rfl h8 fun t ht=>ze fun hh=>(hne q oq hq hoq _ hh).2 ht
      ·
       refine hI _ _ _ _ (fun j _ _=>?_) hi2; rw [hset]
      ·
       have hput:qI w' m' n (Po o.dst p (hide (fun t=>(List.range k).any fun i=>!listed.getD i true && Nat.beq (d i) t) E)) (σ1 ++ wQ) ds (a.put o.dst v):=by
        cases e:o.dst with
        | none=>exact hs.XY rfl hc' htr.le
        | some t=>exact hs.put rfl (hdt t e) hv hc' htr.le
       refine hput.congr fun t=>?_; rw [nQ]; split
       · exact .inl rfl
       ·
        rename_i hh; right; cases e:o.dst with
        | none=>
         simp only [Po]; rw [nQ,if_neg]; intro hh'; apply hh; rw [hidden] at hh' ⊢; obtain ⟨j,h5,h6,h7⟩:=hh'; refine ⟨j,h5,?_,h7⟩; rw [hset,if_neg (by omega)]; exact h6
        | some u=>
         simp only [Po,Env.get]; by_cases e2:u=t
         · subst e2; simp
         ·
          rw [uP e2,cond_false,cond_false,nQ,if_neg]; intro hh'; apply hh; rw [hidden] at hh' ⊢; obtain ⟨j,h5,h6,h7⟩:=hh'; refine ⟨j,h5,?_,h7⟩; rw [hset,if_neg (by omega)]; exact h6
     ·
      rintro p σ' v w' m' ⟨wQ,rfl,hq⟩ hv hc htr; have hc':=hc.perm (τ:=σ1 ++ wQ) List.perm_append_comm; have Oa:=htr.perm (.refl _) (List.perm_append_comm (l₁:=wQ) (l₂:=σ1)); exact ha (.panic p) _ [] _ ds a w' m' hq ⟨v,rfl,hv⟩ ⟨hs.size,hs.ds,fun t=>by simp [Env.get,dG],hc'⟩ Oa
def TF (P:Program) (n:Nat) (ds:List Deferred) (Q:Post) (σ1:List bg):List Oper→Env→List bg→(Env→List bg→Prop)→Prop
 | [],e,σ2,K=>K e σ2
 | o :: r,e,σ2,K=>o.guard=none∧(∀ t,o.dst=some t→t < n)∧∃ e2,Less e2 e∧AO P o e2.ev σ2 (fun p wQ=>TF P n ds Q σ1 r (Po o.dst p e2) wQ K) (fun p wQ=>Q (.panic p) [] (σ1 ++ wQ) ds)
theorem TF.less {Q:Post} {σ1:List bg} {K:Env→List bg→Prop} (hK:∀ e e' s,Less e' e→K e' s→K e s):∀ {l:List Oper} {e e':Env} {σ2:List bg},Less e' e→TF P n ds Q σ1 l e' σ2 K→TF P n ds Q σ1 l e σ2 K
 | [],e,e',s,h,k=>hK e e' s h k
 | o :: r,e,e',s,h,⟨h1,h2,e2,h3,h4⟩=>⟨h1,h2,e2,h3.trans h,h4⟩
def WC (L:List Oper) (k k2:Nat):Bool:=
 (List.range L.length).all fun i=>!(Nat.blt k i && Nat.blt i k2) || (match L[i]? with | some o=>(fC o).any fun x=>Nat.beq (x + 1) i | none=>true)
theorem adq (h:WC L k k2=true) {i:Nat} {o:Oper} (h1:k < i) (h2:i < k2) (ho:L[i]?=some o):∃ j∈fC o,j + 1=i:=by
 unfold WC at h; rw [List.all_eq_true] at h
 have hi:i < L.length:=by
  rcases Nat.lt_or_ge i L.length with h' | h'
  · exact h'
  · simp [List.getElem?_eq_none h'] at ho
 have:=h i (by simpa using hi); rw [ho,nE.2 h1,nE.2 h2] at this; simp only [Bool.and_self,Bool.not_true,Bool.false_or] at this; rw [List.any_eq_true] at this; obtain ⟨x,hx,hxi⟩:=this; exact ⟨x,hx,Nat.eq_of_beq_eq_true hxi⟩
def Wt (L:List Oper) (k0 k k2:Nat):Bool:=
 (List.range k2).all fun i=>Nat.blt i k || (List.range k0).all fun q=>Pw (zm L i) q
theorem adh {k0:Nat} (h:Wt L k0 k k2=true):∀ i q,k≤i→i < k2→q < k0→q∈zm L i:=by
 intro i q h1 h2 h3; unfold Wt at h; rw [List.all_eq_true] at h; have:=h i (by simpa using h2)
 have hb:Nat.blt i k=false:=by
  cases e:Nat.blt i k with
  | false=>rfl
  | true=>have:=nE.1 e; omega
 rw [hb,Bool.false_or,List.all_eq_true] at this; exact any_beq.1 (this q (by simpa using h3))
theorem sS.ae3 {all:Array Oper} {env:Env} {σ τ:List bg} {o:Oper} {p:PV} (hp:τ.Perm σ) (h:sS P all env σ o p):sS P all env τ o p:=by
 have key:∀ o',AF P o' env.ev σ p→AF P o' env.ev τ p:=fun o' h w m a K QC hr hc h1 h2=>by
  refine h w m a K QC hr (hc.perm hp) (fun p s v w' m' k1 k2 k3 k4=>?_) (fun p s v w' m' k1 k2 k3 k4=>k1.elim); obtain ⟨rfl,rfl⟩:=k1; exact h1 _ _ v w' m' ⟨rfl,rfl⟩ k2 (k3.perm hp.symm) (k4.perm hp.symm hp.symm)
 rcases h with ⟨hg,h⟩ | ⟨j,want,oj,u,h1,h2,h3,h⟩
 · exact .inl ⟨hg,key _ h⟩
 ·
  refine .inr ⟨j,want,oj,u,h1,h2,h3,?_⟩; rcases h with ⟨h5,h⟩ | h
  · exact .inl ⟨h5,key _ h⟩
  · exact .inr h
theorem akh {env:Env} {σ σ1:List bg} {k0:Nat} {K:Env→Prop} (hk0:k0≤k) (hk:k≤L.length) (h:Ev P n L.toArray σ env (L.take k0) fun env'=>Ev P n L.toArray σ1 env' ((L.drop k0).take (k - k0)) K):
  ∃ (d:Nat→Nat) (p:Nat→PV),(∀ i o,i < k→L[i]?=some o→o.dst=some (d i)∧d i < n∧sS P L.toArray (lS (fun _=>true) d p env i) (if i < k0 then σ else σ1) o (p i))∧K (lS (fun _=>true) d p env k):=by
 obtain ⟨d1,p1,h1,h2⟩:=Ev.facts h; rw [List.length_take,Nat.min_eq_left (by omega)] at h2; obtain ⟨d2,p2,h3,h4⟩:=Ev.facts h2; have hl:((L.drop k0).take (k - k0)).length=k - k0:=by simp; omega
 rw [hl] at h4
 have e1:∀ j,j≤k0→lS (fun _=>true) (fun i=>if i < k0 then d1 i else d2 (i - k0)) (fun i=>if i < k0 then p1 i else p2 (i - k0)) env j=lS (fun _=>true) d1 p1 env j:=by
  intro j
  induction j with
  | zero=>intro _; rfl
  | succ j ih=>intro hj; simp only [lS,if_true]; rw [ih (by omega),if_pos (by omega),if_pos (by omega)]
 have e2:∀ j,lS (fun _=>true) (fun i=>if i < k0 then d1 i else d2 (i - k0)) (fun i=>if i < k0 then p1 i else p2 (i - k0)) env (k0 + j)=lS (fun _=>true) d2 p2 (lS (fun _=>true) d1 p1 env k0) j:=by
  intro j
  induction j with
  | zero=>exact e1 k0 (Nat.le_refl _)
  | succ j ih=>rw [←Nat.add_assoc]; simp only [lS,if_true]; rw [ih,if_neg (by omega),if_neg (by omega),Nat.add_sub_cancel_left]
 refine ⟨fun i=>if i < k0 then d1 i else d2 (i - k0),fun i=>if i < k0 then p1 i else p2 (i - k0),fun i o hi hoi=>?_,?_⟩
 ·
  by_cases h:i < k0
  ·
   have:=h1 i o (by rw [List.getElem?_take_of_lt h]; exact hoi); rw [e1 i (by omega)]; simp only [if_pos h]; exact this
  ·
   obtain ⟨j,rfl⟩:∃ j,i=k0 + j:=⟨i - k0,by omega⟩; have:=h3 j o (by rw [List.getElem?_take_of_lt (by omega),List.getElem?_drop]; exact hoi); rw [e2 j]; simp only [if_neg h,Nat.add_sub_cancel_left]; exact this
 ·
  have:=e2 (k - k0); rw [show k0 + (k - k0)=k from by omega] at this; rw [this]; exact h4
theorem AW.abY {env:Env} {σ:List bg} {Q:Post} {id:Nat} (k0 k k2:Nat) (σ1 σ2:List bg) (hm:P.follows .mixedOrders=true) (ho:Jb L k k2=true) (hch:WC L k k2=true) (hea:Wt L k0 k k2=true) (hk0:Nat.ble k0 k=true) (hk:Nat.ble k k2=true) (hk2:Nat.ble k2 L.length=true)
  (hperm:σ.Perm (σ1 ++ σ2))
  (h:Ev P n L.toArray σ env (L.take k0) fun env'=>Ev P n L.toArray σ1 env' ((L.drop k0).take (k - k0)) fun env'=>TF P n ds Q σ1 ((L.drop k).take (k2 - k)) env' σ2 fun e σ2=>AR P n L.toArray (L.drop k2) e (σ1 ++ σ2) ds Q):
  AW P n (.region id L.toArray true) env σ ds Q:=by
 intro w m a QC hs ha; have hk:k≤k2:=Nat.le_of_ble_eq_true hk; have hk2:k2≤L.length:=Nat.le_of_ble_eq_true hk2; have ho:=J8 hk ho; have hk0:k0≤k:=Nat.le_of_ble_eq_true hk0; obtain ⟨d,p,h1,h2⟩:=akh hk0 (by omega) h; have tq:Trans w m σ {w with drawn:=w.drawn + 1} m σ:=⟨rfl,rfl,rfl,Nat.le_refl _,fun _ _ h=>⟨h,rfl⟩,fun _ _ _=>⟨rfl,fun _ h=>h⟩,fun _ h=>.inl h,fun _=>Nat.le_succ _⟩; have hc':Conc {w with drawn:=w.drawn + 1} m σ:=⟨fun r hr=>bg.qC (hs.jD.each r hr) tq.le fun _ _=>⟨rfl,fun _ h=>h⟩,hs.jD.apart,hs.jD.wf,iw.mono tq.le hs.jD.uq⟩; have Oa:Trans w m σ {w with drawn:=w.drawn + 1} m (σ1 ++ σ2):=tq.perm (.refl _) hperm
 have hd:∀ i o,i < k→L[i]?=some o→o.dst=some (d i)∧d i < n:=fun i o hi hoi=>by
  have:=h1 i o hi hoi; exact ⟨this.1,this.2.1⟩
 refine wp_region_any hm ?_; let T1:=(L.drop k).take (k2 - k)
 have hT1:∀ j,k≤j→j < k2→T1[j - k]?=L[j]?:=fun j h1 h2=>by
  simp only [T1]; rw [List.getElem?_take_of_lt (by omega),List.getElem?_drop]; congr 1; omega
 have aod:T1.length=k2 - k:=by simp [T1]; omega
 refine Vq k0 (adh hea) (ds:=ds) (d:=d) (σ1:=σ1) (Q:=Q) hk hk2 ho hd
  (fun S e σ2=>∃ j,j≤k2 - k∧(∀ i,k≤i→i < k2→(S i=true↔i < k + j))∧TF P n ds Q (σ1) (T1.drop j) e σ2 fun e σ2=>AR P n L.toArray (L.drop k2) e (σ1 ++ σ2) ds Q)
  ?_ ?_ ?_ _ _ a _ m (lS (fun _=>true) d p env k) σ2 (by simp) ?_ ?_ ?_ ?_ ?_ ?_ (ha.step Oa)
 ·
  rintro S S' e s hS ⟨j,h3,h4,h5⟩; exact ⟨j,h3,fun i hi hi2=>by rw [←hS i hi hi2]; exact h4 i hi hi2,h5⟩
 ·
  rintro S e s i o ⟨j,h3,h4,h5⟩ hki hi2 hSi hpr hoi
  have hij:i=k + j∨k + j < i:=by
   have:=(h4 i hki hi2); rw [hSi] at this; have:¬ i < k + j:=fun hh=>by have:=this.2 hh; cases this
   omega
  have hjlt:j < k2 - k:=by omega
  have hdrop:T1.drop j=L[k + j]'(by omega) :: T1.drop (j + 1):=by
   rw [List.drop_eq_getElem_cons (by omega)]; congr 1; have:=hT1 (k + j) (by omega) (by omega); rw [show k + j - k=j from by omega,List.getElem?_eq_getElem (by omega),List.getElem?_eq_getElem (by omega)] at this; exact Option.some.inj this
  rw [hdrop] at h5
  have am3:i=k + j:=by
   rcases hij with h | h
   · exact h
   ·
    exfalso; obtain ⟨q,hq,hqi⟩:=adq hch (by omega) hi2 hoi; have:=(h4 q (by omega) (by omega)).1 (hpr q hq (by omega)); omega
  subst am3; have e9:L[k + j]'(by omega)=o:=Option.some.inj ((List.getElem?_eq_getElem (by omega)).symm.trans hoi); rw [e9] at h5; obtain ⟨g1,g2,e2,g3,g4⟩:=h5; refine ⟨g1,g2,AO.less g3 (AO.afg g4 (fun p s hp=>?_) fun p s hp=>hp)⟩; refine ⟨j + 1,by omega,fun q hq hq2=>?_,TF.less (K:=fun e σ2=>AR P n L.toArray (L.drop k2) e (σ1 ++ σ2) ds Q) (fun _ _ _ h' k'=>AR.less h' k') ?_ hp⟩
  ·
   by_cases e:k + j=q
   · simp [e]; omega
   ·
    simp only [e,if_false]; rw [h4 q hq hq2]; omega
  ·
   cases o.dst with
   | none=>exact g3
   | some t=>exact g3.cons t p
 ·
  rintro S e s hS ⟨j,h3,h4,h5⟩
  have:j=k2 - k:=by
   rcases Nat.lt_or_ge j (k2 - k) with h | h
   ·
    have:=(h4 (k + j) (by omega) (by omega)).1 (hS _ (by omega) (by omega)); omega
   · omega
  subst this; rw [List.drop_eq_nil_of_le (by omega)] at h5; exact h5
 · simp
 ·
  intro j _ hj; simp [Array.getD,hj]
 ·
  intro i o hoi hl
  have Im:i < L.length:=by
   rcases Nat.lt_or_ge i L.length with h | h
   · exact h
   · simp [List.getElem?_eq_none h] at hoi
  simp [Array.getD,Im] at hl
 ·
  intro i o hi hoi _; obtain ⟨f1,f2,f3⟩:=h1 i o hi hoi
  have hother:∀ t,(o.dst=some t∨t∈readsOf L o)→∀ j,(i≤j∧t∈readsOf L o∨i + 1≤j)→j < k→d j≠t:=by
   intro t ht j hj hjk hdj; have hoj:L[j]?=some L[j]:=List.getElem?_eq_getElem (by omega); have e1:=(hd j _ hjk hoj).1; rw [hdj] at e1; by_cases e:i=j
   ·
    subst e; have e9:=Option.some.inj (hoi.symm.trans hoj); rw [←e9] at e1; rcases hj with ⟨_,hj⟩ | hj
    · exact ho.self i o t hi hoi e1 hj
    · omega
   ·
    obtain ⟨e2,e3⟩:=ho.apart i o j _ t hi hoi (by omega) hoj e e1; rcases ht with ht | ht
    · exact e2 ht
    ·
     have:=ho.before i o hoi j (e3 ht).2; omega
  have aaA:(lS (fun _=>true) d p env k).get (d i)=p i:=by
   rw [eY (i:=i + 1) (by omega) fun j h4 h5 _=>hother (d i) (.inl f1) j (.inr h4) h5]; simp [lS,Env.get]
  rw [aaA]
  have f4:sS P L.toArray (lS (fun _=>true) d p env i) (if i < k0 then σ1 ++ σ2 else σ1) o (p i):=by
   split
   ·
    rename_i hh; rw [if_pos hh] at f3; exact sS.ae3 hperm.symm f3
   ·
    rename_i hh; rw [if_neg hh] at f3; exact f3
  refine sS.LA rfl f4 fun t ht=>?_; exact eY (by omega) fun j h4 h5 _=>hother t (.inr ht) j (.inl ⟨h4,ht⟩) h5
 ·
  refine ⟨0,by omega,fun i hi hi2=>?_,by rw [List.drop_zero]; exact h2⟩; have Im:i < L.length:=by omega
  simp [Array.getD,Im]; omega
 ·
  refine ⟨hs.size,hs.ds,fun t=>?_,hc'.perm hperm⟩; rw [nQ]; split
  · simp [dG]
  ·
   rename_i hh; rw [eY (i:=0) (Nat.zero_le _)]
   · exact hs.env.mono tq.le t
   ·
    intro j _ hj _ hdj; apply hh; rw [List.any_eq_true]; have hjL:j < L.length:=by omega
    exact ⟨j,by simpa using hj,by simp [Array.getD,hjL,hdj]⟩
theorem X5 {σ:List bg} {i:Nat} {r:bg} (hi0:σ[i]?=some r):σ.Perm (σ.eraseIdx i ++ [r]):=by
 induction σ generalizing i with
 | nil=>simp at hi0
 | cons x xs ih=>
  cases i with
  | zero=>
   simp at hi0; subst hi0; simpa using (List.perm_append_comm (l₁:=[x]) (l₂:=xs))
  | succ i=>
   simp at hi0; simpa using (ih hi0).cons x
theorem AW.zF {env:Env} {σ:List bg} {Q:Post} {id:Nat} (k0 k k2 i0:Nat) {r:bg} (hm:P.follows .mixedOrders=true) (ho:Jb L k k2=true) (hch:WC L k k2=true) (hea:Wt L k0 k k2=true) (hk0:Nat.ble k0 k=true) (hk:Nat.ble k k2=true) (hk2:Nat.ble k2 L.length=true)
  (hi0:σ[i0]?=some r)
  (h:Ev P n L.toArray σ env (L.take k0) fun env'=>Ev P n L.toArray (σ.eraseIdx i0) env' ((L.drop k0).take (k - k0)) fun env'=>TF P n ds Q (σ.eraseIdx i0) ((L.drop k).take (k2 - k)) env' [r] fun e σ2=>AR P n L.toArray (L.drop k2) e (σ.eraseIdx i0 ++ σ2) ds Q):
  AW P n (.region id L.toArray true) env σ ds Q:=
 AW.abY k0 k k2 (σ.eraseIdx i0) [r] hm ho hch hea hk0 hk hk2 (X5 hi0) h
def W9 :Nat→(List Nat→Prop)→Prop
 | 0,K=>K []
 | m + 1,K=>∀ b,W9 m fun bs=>K (b :: bs)
theorem W9.at {K:List Nat→Prop}:∀ {m:Nat},W9 m K→∀ bs:List Nat,bs.length=m→K bs
 | 0,h,[],_=>h
 | m + 1,h,b :: bs,hl=>W9.at (K:=fun bs=>K (b :: bs)) (h b) bs (by simpa using hl)
def ptrTo (b:Nat):PV:=.val (.pointer (some ⟨b,0,none⟩))
def TB :List Nat→List Nat→Env→Env
 | t :: ts,b :: bs,e=>TB ts bs ((t,.val (.pointer (some ⟨b,0,none⟩))) :: e)
 | _,_,e=>e
def aey (cs:List PV):List Nat→List bg→List bg
 | b :: bs,σ=>aey cs bs (.box b cs :: σ)
 | [],σ=>σ
theorem Uy (cs:List PV):∀ (bs:List Nat) (σ:List bg),(aey cs bs σ).Perm (σ ++ bs.map fun b=>.box b cs)
 | [],σ=>by simp [aey]
 | b :: bs,σ=>by
  refine (Uy cs bs _).trans ?_; simp only [List.map_cons,List.cons_append]; exact List.perm_middle.symm
theorem GR {t:Nat}:∀ (ts bs:List Nat) (e:Env),t∉ts→(TB ts bs e).get t=e.get t
 | [],[],_,_=>rfl
 | [],_ :: _,_,_=>rfl
 | _ :: _,[],_,_=>rfl
 | u :: ts,b :: bs,e,h=>by
  simp only [List.mem_cons,not_or] at h; simp only [TB]; rw [GR ts bs _ h.2]; simp only [Env.get]; rw [uP (fun hh=>h.1 hh.symm)]; rfl
theorem OZ {t b:Nat}:∀ (ts bs:List Nat) (e:Env) (j:Nat),ts.Nodup→ts[j]?=some t→bs[j]?=some b→(TB ts bs e).get t=ptrTo b
 | [],_,_,j,_,h,_=>by simp at h
 | _ :: _,[],_,j,_,_,h=>by simp at h
 | u :: ts,b' :: bs,e,0,hn,h1,h2=>by
  simp only [List.nodup_cons] at hn; simp at h1 h2; subst h1 h2; simp only [TB]; rw [GR ts bs _ hn.1]; simp [Env.get,ptrTo]
 | u :: ts,b' :: bs,e,j + 1,hn,h1,h2=>by
  simp only [List.nodup_cons] at hn; exact OZ ts bs _ j hn.2 (by simpa using h1) (by simpa using h2)
def SC (L:List Oper) (e k:Nat) (ts:List Nat):Bool:=
 (List.range ts.length).all fun j=>match L[k + j]?,ts[j]? with
  | some o,some t=>(match o.op with | .alloc e'=>Nat.beq e' e | _=>false) && (match o.dst with | some u=>Nat.beq u t | none=>false) && (match o.guard with | none=>true | some _=>false)
  | _,_=>false
theorem Zl {L:List Oper} {e k:Nat} {ts:List Nat} (h:SC L e k ts=true) {j:Nat} (hj:j < ts.length):∃ o t,L[k + j]?=some o∧ts[j]?=some t∧o.op=.alloc e∧o.dst=some t∧o.guard=none:=by
 unfold SC at h; rw [List.all_eq_true] at h; have:=h j (by simpa using hj); split at this
 ·
  rename_i o t h1 h2; simp only [Bool.and_eq_true] at this; obtain ⟨⟨a1,a2⟩,a3⟩:=this; refine ⟨o,t,h1,h2,?_,?_,?_⟩
  ·
   split at a1
   · rename_i e' he; rw [he,Nat.eq_of_beq_eq_true a1]
   · cases a1
  ·
   split at a2
   · rename_i u hu; rw [hu,Nat.eq_of_beq_eq_true a2]
   · cases a2
  ·
   split at a3
   · assumption
   · cases a3
 · cases this
theorem AW.amb {env:Env} {σ:List bg} {Q:Post} {id:Nat} (k e:Nat) (ts:List Nat) {cs:List PV} (hm:P.follows .mixedOrders=true) (ho:Jb L k (k + ts.length)=true) (hk2:Nat.ble (k + ts.length) L.length=true)
  (hz:nI P e=some cs) (hal:SC L e k ts=true) (hts:(ts.all fun t=>Nat.blt t n)=true) (hnd:ts.Nodup)
  (h:Ev P n L.toArray σ env (L.take k) fun env'=>W9 ts.length fun bs=>AR P n L.toArray (L.drop (k + ts.length)) (TB ts bs env') (aey cs bs σ) ds Q):
  AW P n (.region id L.toArray true) env σ ds Q:=by
 intro w m a QC hs ha; have hk2:k + ts.length≤L.length:=Nat.le_of_ble_eq_true hk2; have ho:=J8 (by omega) ho; obtain ⟨d,p,h1,h2⟩:=Ev.facts h; rw [List.length_take,Nat.min_eq_left (by omega)] at h2; have tq:Trans w m σ {w with drawn:=w.drawn + 1} m σ:=⟨rfl,rfl,rfl,Nat.le_refl _,fun _ _ h=>⟨h,rfl⟩,fun _ _ _=>⟨rfl,fun _ h=>h⟩,fun _ h=>.inl h,fun _=>Nat.le_succ _⟩; have hc':Conc {w with drawn:=w.drawn + 1} m σ:=⟨fun r hr=>bg.qC (hs.jD.each r hr) tq.le fun _ _=>⟨rfl,fun _ h=>h⟩,hs.jD.apart,hs.jD.wf,iw.mono tq.le hs.jD.uq⟩
 have hd:∀ i o,i < k→L[i]?=some o→o.dst=some (d i)∧d i < n:=fun i o hi hoi=>by
  have:=h1 i o (by rw [List.getElem?_take_of_lt hi]; exact hoi); exact ⟨this.1,this.2.1⟩
 refine wp_region_any hm ?_; generalize hE:lS (fun _=>true) d p env k=E0 at h2
 refine Vq 0 (fun _ _ _ _ h=>by omega) (ds:=ds) (d:=d) (σ1:=σ) (Q:=Q) (k:=k) (k2:=k + ts.length) (by omega) hk2 ho hd
  (fun S e' σ2=>∃ b:Nat→Nat,(∀ t,(∀ j,j < ts.length→ts[j]?=some t→S (k + j)=false)→e'.get t=E0.get t)∧(∀ j t,ts[j]?=some t→S (k + j)=true→e'.get t=ptrTo (b j))∧
   σ2.Perm (((List.range ts.length).filter fun j=>S (k + j)).map fun j=>.box (b j) cs))
  ?_ ?_ ?_ _ _ a _ m E0 [] (by simp) ?_ ?_ ?_ ?_ ?_ ?_ (by rw [List.append_nil]; exact ha.step tq)
 ·
  rintro S S' e' s hS ⟨b,h3,h4,h5⟩; have hSS:∀ j,j < ts.length→S (k + j)=S' (k + j):=fun j hj=>hS _ (by omega) (by omega)
  have hlt:∀ j t,ts[j]?=some t→j < ts.length:=fun j t hjt=>by
   rcases Nat.lt_or_ge j ts.length with h | h
   · exact h
   · simp [List.getElem?_eq_none h] at hjt
  refine ⟨b,fun t ht=>h3 t fun j hj hjt=>by rw [hSS j hj]; exact ht j hj hjt,fun j t hjt hj=>h4 j t hjt (by rw [hSS j (hlt j t hjt)]; exact hj),?_⟩; rw [List.filter_congr (q:=fun j=>S (k + j)) (fun j hj=>(hSS j (by simpa using hj)).symm)]; exact h5
 ·
  rintro S e' s i o ⟨b,h3,h4,h5⟩ hki hi2 hSi _ hoi; obtain ⟨j,rfl⟩:∃ j,i=k + j:=⟨i - k,by omega⟩; have hj:j < ts.length:=by omega
  obtain ⟨o',t,e1,e2,e3,e4,e5⟩:=Zl hal hj; rw [hoi] at e1; cases e1; refine ⟨e5,fun u hu=>?_,AO.aF e3 hz fun b0=>?_⟩
  ·
   rw [e4] at hu; cases hu; rw [List.all_eq_true] at hts; exact nE.1 (hts t (List.mem_of_getElem? e2))
  ·
   have hinj:∀ q,ts[q]?=some t→q=j:=fun q hq=>by
    have hq':q < ts.length:=by
     rcases Nat.lt_or_ge q ts.length with h | h
     · exact h
     · simp [List.getElem?_eq_none h] at hq
    exact (List.getElem?_inj hq' hnd).1 (by rw [hq,e2])
   refine ⟨fun q=>if q=j then b0 else b q,fun u hu=>?_,fun q u hq hSq=>?_,?_⟩
   ·
    have hne:t≠u:=fun hh=>by
     subst hh; have:=hu j hj e2; simp at this
    rw [ze (by rw [e4]; intro hh; exact hne (Option.some.inj hh))]; refine h3 u fun q hq hqu=>?_; have:=hu q hq hqu; simp only at this; split at this
    · cases this
    · exact this
   ·
    by_cases e:q=j
    ·
     subst e; rw [e2] at hq; cases hq; simp [e4,Po,Env.get,ptrTo]
    ·
     have hne:t≠u:=fun hh=>by subst hh; exact e (hinj q hq)
     rw [ze (by rw [e4]; intro hh; exact hne (Option.some.inj hh))]; simp only [if_neg e]; refine h4 q u hq ?_; have al2:(if k + j=k + q then true else S (k + q))=true:=hSq; rw [if_neg (by omega)] at al2; exact al2
   ·
    refine (h5.cons _).trans ?_
    have hsplit:((List.range ts.length).filter fun q=>if k + j=k + q then true else S (k + q)).Perm (j :: (List.range ts.length).filter fun q=>S (k + q)):=by
     have hjm:j∈(List.range ts.length).filter fun q=>if k + j=k + q then true else S (k + q):=by simp [hj]
     refine (List.perm_cons_erase hjm).trans (List.Perm.cons _ ?_); rw [List.Nodup.erase_eq_filter (List.nodup_range.sublist List.filter_sublist),List.filter_filter]; refine List.Perm.of_eq (List.filter_congr fun q hq=>?_); by_cases e:j=q
     · subst e; simp [hSi]
     · simp [e,Ne.symm e,bne]
    refine List.Perm.trans ?_ (hsplit.map _).symm; simp only [List.map_cons,if_true]; refine List.Perm.cons _ (List.Perm.of_eq (List.map_congr_left fun q hq=>?_))
    have:q≠j:=fun e=>by
     subst e; simp [hSi] at hq
    simp [this]
 ·
  rintro S e' s hS ⟨b,h3,h4,h5⟩; have hbl:((List.range ts.length).map b).length=ts.length:=by simp
  have h6:=h2.at ((List.range ts.length).map b) hbl; have hall:((List.range ts.length).filter fun j=>S (k + j))=List.range ts.length:=List.filter_eq_self.2 fun j hj=>hS _ (by omega) (by simp at hj; omega); rw [hall] at h5
  have hperm:(σ ++ s).Perm (aey cs ((List.range ts.length).map b) σ):=by
   refine List.Perm.trans ?_ (Uy cs _ σ).symm; rw [List.map_map]; exact List.Perm.append_left _ h5
  intro w1 m1 a1 QC1 hs1 ha1; refine h6 w1 m1 a1 QC1 ?_ (ha1.step ((Trans.refl w1 m1 (σ ++ s)).perm (.refl _) hperm)); refine ⟨hs1.size,hs1.ds,fun t=>?_,hs1.jD.perm hperm⟩; have h7:=hs1.env t; by_cases hm:t∈ts
  ·
   obtain ⟨j,hj,hjt⟩:=List.mem_iff_getElem.1 hm; have alV:ts[j]?=some t:=by rw [List.getElem?_eq_getElem hj,hjt]
   rw [OZ ts _ E0 j hnd alV (b:=b j) (by simp [hj]),←h4 j t alV (hS _ (by omega) (by omega))]; exact h7
  ·
   rw [GR ts _ E0 hm,←h3 t fun j hj hjt=>(hm (List.mem_of_getElem? hjt)).elim]; exact h7
 · simp
 ·
  intro j _ hj; simp [Array.getD,hj]
 ·
  intro i o hoi hl
  have Im:i < L.length:=by
   rcases Nat.lt_or_ge i L.length with h | h
   · exact h
   · simp [List.getElem?_eq_none h] at hoi
  simp [Array.getD,Im] at hl
 ·
  intro i o hi hoi _; subst hE; obtain ⟨f1,f2,f3⟩:=h1 i o (by rw [List.getElem?_take_of_lt hi]; exact hoi)
  have hother:∀ t,(o.dst=some t∨t∈readsOf L o)→∀ j,(i≤j∧t∈readsOf L o∨i + 1≤j)→j < k→d j≠t:=by
   intro t ht j hj hjk hdj; have hoj:L[j]?=some L[j]:=List.getElem?_eq_getElem (by omega); have e1:=(hd j _ hjk hoj).1; rw [hdj] at e1; by_cases e:i=j
   ·
    subst e; have e9:=Option.some.inj (hoi.symm.trans hoj); rw [←e9] at e1; rcases hj with ⟨_,hj⟩ | hj
    · exact ho.self i o t hi hoi e1 hj
    · omega
   ·
    obtain ⟨e2,e3⟩:=ho.apart i o j _ t hi hoi (by omega) hoj e e1; rcases ht with ht | ht
    · exact e2 ht
    ·
     have:=ho.before i o hoi j (e3 ht).2; omega
  have aaA:(lS (fun _=>true) d p env k).get (d i)=p i:=by
   rw [eY (i:=i + 1) (by omega) fun j h4 h5 _=>hother (d i) (.inl f1) j (.inr h4) h5]; simp [lS,Env.get]
  rw [aaA]; refine sS.LA rfl f3 fun t ht=>?_; exact eY (by omega) fun j h4 h5 _=>hother t (.inr ht) j (.inl ⟨h4,ht⟩) h5
 ·
  refine ⟨fun _=>0,fun t _=>rfl,fun j t hj hS=>?_,?_⟩
  ·
   have hjl:j < ts.length:=by
    rcases Nat.lt_or_ge j ts.length with h | h
    · exact h
    · simp [List.getElem?_eq_none h] at hj
   have Im:k + j < L.length:=by omega
   simp [Array.getD,Im] at hS
  ·
   rw [List.filter_eq_nil_iff.2]
   · simp
   ·
    intro j hj; have Im:k + j < L.length:=by simp at hj; omega
    simp [Array.getD,Im]
 ·
  refine ⟨hs.size,hs.ds,fun t=>?_,by rw [List.append_nil]; exact hc'⟩; subst hE; rw [nQ]; split
  · simp [dG]
  ·
   rename_i hh; rw [eY (i:=0) (Nat.zero_le _)]
   · exact hs.env.mono tq.le t
   ·
    intro j _ hj _ hdj; apply hh; rw [List.any_eq_true]; have hjL:j < L.length:=by omega
    exact ⟨j,by simpa using hj,by simp [Array.getD,hjL,hdj]⟩
section
variable {Q : Post} {σ1 σ2 : List bg} {K : Env → List bg → Prop} {o : Oper} {r : List Oper} {e : Env}
theorem TF.nil (h:K e σ2):TF P n ds Q σ1 [] e σ2 K:=h
theorem TF.step {t:Nat} (hg:o.guard=none) (hd:o.dst=some t) (ht:Nat.blt t n=true) (h:AO P o e.ev σ2 (fun p wQ=>TF P n ds Q σ1 r ((t,p) :: e) wQ K) (fun p wQ=>Q (.panic p) [] (σ1 ++ wQ) ds)):TF P n ds Q σ1 (o :: r) e σ2 K:=
 ⟨hg,fun u hu=>by rw [hd] at hu; cases hu; exact nE.1 ht,e,Less.refl e,by rw [hd]; exact h⟩
theorem TF.bQ (hg:o.guard=none) (hd:o.dst=none) (h:AO P o e.ev σ2 (fun _ wQ=>TF P n ds Q σ1 r e wQ K) (fun p wQ=>Q (.panic p) [] (σ1 ++ wQ) ds)):TF P n ds Q σ1 (o :: r) e σ2 K:=
 ⟨hg,fun u hu=>absurd (hd.symm.trans hu) (by simp),e,Less.refl e,by rw [hd]; exact h⟩
theorem Qa {L2 l:List Oper} {all:Array Oper} {Q':Post} (e e':Env) (h:Less e' e) (k:TF P n ds Q σ1 l e' σ2 (fun e s=>AR P n all L2 e (σ1 ++ s) ds Q')):TF P n ds Q σ1 l e σ2 (fun e s=>AR P n all L2 e (σ1 ++ s) ds Q'):=
 TF.less (K:=fun e s=>AR P n all L2 e (σ1 ++ s) ds Q') (fun _ _ _ h' k'=>AR.less h' k') h k
theorem hKE {l:List Oper} {all:Array Oper} {K:Env→Prop} (hK:∀ e e',Less e' e→K e'→K e) (e e':Env) (h:Less e' e) (k:Ev P n all σ1 e' l K):Ev P n all σ1 e l K:=Ev.less hK h k
theorem Less.TB :∀ (ts bs:List Nat) {e e':Env},Less e' e→Less (Abs.TB ts bs e') (Abs.TB ts bs e)
 | [],[],_,_,h=>h
 | [],_ :: _,_,_,h=>h
 | _ :: _,[],_,_,h=>h
 | t :: ts,b :: bs,_,_,h=>Less.TB ts bs (h.cons t _)
theorem W9.mono {K K':List Nat→Prop}:∀ {m:Nat},(∀ bs,K bs→K' bs)→W9 m K→W9 m K'
 | 0,h,k=>h _ k
 | _ + 1,h,k=>fun b=>W9.mono (fun bs=>h (b :: bs)) (k b)
end
end
end Go.Abs
namespace Go.Abs
variable [iw]
open Go
def FRo (r:Option Nat):Fence:={Fence.wide with round:=r}
def Er (o:Oper):Bool:=match o.op with | .defer _=>false | _=>true
theorem Q0 {o:Oper} (h:Er o=true):∀ c,o.op≠.defer c:=by
 intro c hc; unfold Er at h; rw [hc] at h; cases h
section
variable {P : Program} {n : Nat} {r : Option Nat} {env : Env} {σ : List bg} {ds : List Deferred} {Q : Post} {all : Array Oper} {rest : List Oper} {o : Oper}
theorem afT {f:FuncId} {args:Array Value} {w:World} {R:Ending→World→Prop} {n:Nat} (h:Calls P f args w R):CallsIn (FRo r) n P f args w R:=by
 have:=(callsIn_wide (n:=n)).2 h; exact this
theorem ahc {row:String} {args:Array Value} {w:World} {R:Value→World→Prop} {n:Nat} (h:Rows P row args w R):RowsIn (FRo r) n P row args w R:=
 fun c cs _=>let ⟨v,w',r,s⟩:=h c cs; ⟨v,w',r,stepsIn_wide.2 s⟩
theorem abz {a:Act} {w:World} {K:Act→World→Prop} {Q:Exit→Act→World→Prop} (hd:Er o=true) (h:o.wp P a w K Q):o.wpIn (FRo r) 0 P a w K Q:=by
 refine ⟨fun _ _=>trivial,?_⟩; rw [Oper.semAt_eq _ _ _ (Q0 hd)]; unfold Oper.wp at h; generalize (execOp a.eval o).run P w=x at h ⊢; cases x with
 | ok v w'=>
  cases v <;> simp only [Oper.upon,Oper.uponIn] at h ⊢ <;> first
   | exact h
   | exact ⟨fun hh=>by simp [FRo,Fence.wide] at hh,afT h⟩
   | exact ⟨fun hh=>by simp [FRo,Fence.wide] at hh,ahc h⟩
 | halt v w'=>cases v <;> simp only [Oper.upon,Oper.uponIn] at h ⊢ <;> exact h
theorem P9 {Q:Exit→Act→World→Prop} (hno:¬ LetsOut Q):∀ (l:List Oper) (a:Act) (w:World),(∀ o∈l,Er o=true)→wpList P all Q l a w→wpListIn (FRo r) 0 P all Q l a w
 | [],a,w,_,h=>h
 | o :: rest,a,w,hd,h=>by
  unfold wpList at h; unfold wpListIn; split
  ·
   rename_i hw; rw [if_pos hw] at h; rcases h with h | ⟨_,h⟩
   · exact Oper.wpIn_mono (fun a w h=>P9 hno rest a w (fun o ho=>hd o (by simp [ho])) h) (abz (hd o (by simp)) h)
   · exact (hno h).elim
  ·
   rename_i hw; rw [if_neg hw] at h; exact ⟨fun _ _=>trivial,P9 hno rest _ _ (fun o ho=>hd o (by simp [ho])) h⟩
def zC (P:Program) (r:Option Nat) (n:Nat) (c:Code) (env:Env) (σ:List bg) (ds:List Deferred) (Q:Post):Prop:=
 ∀ w m a QC,qI w m n env σ ds a→Acc n Q w m σ QC→c.wpIn (FRo r) 0 P QC a w
def UN (Q:Exit→Act→World→Prop):Exit→Act→World→Prop:=fun e a w=>e≠.outgrown∧Q e a w
theorem J_ (Q:Exit→Act→World→Prop):¬ LetsOut (UN Q):=fun ⟨_,_,h,_⟩=>h rfl
theorem Acc.UN {w:World} {m:jM} {QC:Exit→Act→World→Prop} (h:Acc n Q w m σ QC):Acc n Q w m σ (Abs.UN QC):=by
 intro x ex env' σ' ds' a' w' m' hq hx hs ht; refine ⟨?_,h x ex env' σ' ds' a' w' m' hq hx hs ht⟩; rintro rfl; cases x <;> simp [amk] at hx
theorem zC.region {id:Nat} {l:List Oper} (hd:(l.all Er)=true) (h:AR P n l.toArray l env σ ds Q):zC P r n (.region id l.toArray false) env σ ds Q:=by
 intro w m a QC hs ha; rw [List.all_eq_true] at hd; refine wpIn_mono (wpIn_region_lit (P9 (J_ QC) l a w hd (h w m a _ hs ha.UN))) fun e a w h=>h.2
theorem zC.skip (h:Q .normal env σ ds):zC P r n .skip env σ ds Q:=
 fun w m a _ hs ha=>wpIn_skip (ha .normal .normal env σ ds a w m h rfl hs (Trans.refl ..))
theorem zC.exit {id:Nat} (h:Q (.exit id) env σ ds):zC P r n (.exit id) env σ ds Q:=
 fun w m a _ hs ha=>wpIn_exit (ha (.exit id) (.exit id) env σ ds a w m h rfl hs (Trans.refl ..))
theorem zC.ret (h:Q .ret env σ ds):zC P r n .ret env σ ds Q:=
 fun w m a _ hs ha=>wpIn_ret (ha .ret .ret env σ ds a w m h rfl hs (Trans.refl ..))
theorem zC.seq {c d:Code} (h:zC P r n c env σ ds (AX.then (fun e s ds=>zC P r n d e s ds Q) Q)):zC P r n (.seq c d) env σ ds Q:=by
 intro w m a QC hs ha; refine wpIn_seq (h w m a _ hs ?_); intro x ex e1 σ1 d1 a1 w1 m1 hq hx hs1 ht; cases x with
 | normal=>cases hx; exact hq w1 m1 a1 QC hs1 (ha.step ht)
 | exit id=>cases hx; exact ha (.exit id) _ e1 σ1 d1 a1 w1 m1 hq rfl hs1 ht
 | ret=>cases hx; exact ha .ret _ e1 σ1 d1 a1 w1 m1 hq rfl hs1 ht
 | panic p=>obtain ⟨v,rfl,hv⟩:=hx; exact ha (.panic p) _ e1 σ1 d1 a1 w1 m1 hq ⟨v,rfl,hv⟩ hs1 ht
theorem zC.cond {c:Operand} {x y:Code} {b:Bool} (hc:env.ev c=.bool b) (ht:b=true→zC P r n x env σ ds Q) (hf:b=false→zC P r n y env σ ds Q):
  zC P r n (.cond c x y) env σ ds Q:=by
 intro w m a QC hs ha; have he:=hs.env.ev c; rw [hc] at he; simp only [dG] at he; exact wpIn_cond_split he (fun h=>ht h w m a QC hs ha) (fun h=>hf h w m a QC hs ha)
theorem zC.block {id:Nat} {c:Code} (h:zC P r n c env σ ds (AX.inBlock id Q)):zC P r n (.block id c) env σ ds Q:=by
 intro w m a QC hs ha; refine wpIn_block (h w m a _ hs ?_); intro x ex e1 σ1 d1 a1 w1 m1 hq hx hs1 ht; cases x with
 | normal=>cases hx; exact ha .normal _ e1 σ1 d1 a1 w1 m1 hq rfl hs1 ht
 | exit id'=>
  cases hx; simp only [Exit.inBlock]; simp only [AX.inBlock] at hq; by_cases e:id'=id
  ·
   subst e; simp only [Nat.beq_refl,cond_true] at hq; rw [if_pos rfl]; exact ha .normal _ e1 σ1 d1 a1 w1 m1 hq rfl hs1 ht
  ·
   have:Nat.beq id' id=false:=uP e; simp only [this,cond_false] at hq; rw [if_neg e]; exact ha (.exit id') _ e1 σ1 d1 a1 w1 m1 hq rfl hs1 ht
 | ret=>cases hx; exact ha .ret _ e1 σ1 d1 a1 w1 m1 hq rfl hs1 ht
 | panic p=>obtain ⟨v,rfl,hv⟩:=hx; exact ha (.panic p) _ e1 σ1 d1 a1 w1 m1 hq ⟨v,rfl,hv⟩ hs1 ht
theorem zC.mono {c:Code} {Q':Post} (h:zC P r n c env σ ds Q) (hq:∀ x e s d,Q x e s d→Q' x e s d):zC P r n c env σ ds Q':=
 fun w m a QC hs ha=>h w m a QC hs fun x ex env' σ' ds' a' w' m' h1 h2 h3 h4=>ha x ex env' σ' ds' a' w' m' (hq _ _ _ _ h1) h2 h3 h4
theorem zC.settle {c:Code} {env':Env} (ps:List Nat) (hs:Abs.settle ps env=some env') (h:zC P r n c env' σ ds Q):zC P r n c env σ ds Q:=
 fun w m a QC zB ha=>h w m a QC ⟨zB.size,zB.ds,zB.env.settle hs,zB.jD⟩ ha
theorem zC.frame {c:Code} {τ:List bg} (h:zC P r n c env σ ds Q):zC P r n c env (σ ++ τ) ds (fun x e s d=>∃ s0,s=s0 ++ τ∧Q x e s0 d):=by
 intro w m a QC hs ha; refine h w m a QC ⟨hs.size,hs.ds,hs.env,hs.jD.left⟩ fun x ex e' σ' ds' a' w' m' hq hx hs' ht=>?_; obtain ⟨k1,k2⟩:=Conc.frame hs.jD hs'.jD ht; exact ha x ex e' (σ' ++ τ) ds' a' w' m' ⟨σ',rfl,hq⟩ hx ⟨hs'.size,hs'.ds,hs'.env,k1⟩ k2
def ARI (P:Program) (r:Option Nat) (n:Nat) (all:Array Oper) (l:List Oper) (env:Env) (σ:List bg) (ds:List Deferred) (Q:Post):Prop:=
 ∀ w m a QC,qI w m n env σ ds a→Acc n Q w m σ QC→wpListIn (FRo r) 0 P all QC l a w
theorem ARI.of {l:List Oper} (hd:(l.all Er)=true) (h:AR P n all l env σ ds Q):ARI P r n all l env σ ds Q:=by
 intro w m a QC hs ha; rw [List.all_eq_true] at hd; have:=P9 (r:=r) (J_ QC) l a w hd (h w m a _ hs ha.UN)
 have key:∀ (l:List Oper) (a:Act) (w:World),wpListIn (FRo r) 0 P all (UN QC) l a w→wpListIn (FRo r) 0 P all QC l a w:=by
  intro l
  induction l with
  | nil=>intro a w h; exact h.2
  | cons o l ih=>
   intro a w h; unfold wpListIn at h ⊢; split
   ·
    rename_i hw; rw [if_pos hw] at h; refine ⟨h.1,?_⟩; have h2:=h.2; generalize (o.semAt (FRo r).round a.eval).run P w=x at h2 ⊢; cases x with
    | ok v w'=>
     cases v <;> simp only [Oper.uponIn] at h2 ⊢ <;> first
      | exact ih _ _ h2
      | exact ⟨h2.1,CallsIn.mono h2.2 fun e w'' he=>by
        cases e with
        | returned v=>exact ih _ _ he
        | panicked c=>exact he.2
        | outgrown=>exact (J_ QC he).elim⟩
      | exact ⟨h2.1,RowsIn.mono h2.2 fun v w'' he=>ih _ _ he⟩
      | exact ⟨h2.1,RoundIn.mono h2.2 fun e w'' he=>by
        cases e with
        | returned v=>exact ih _ _ he
        | panicked c=>exact he.2
        | outgrown=>exact (J_ QC he).elim⟩
    | halt v w'=>
     cases v <;> simp only [Oper.uponIn] at h2 ⊢ <;> exact h2.2
   ·
    rename_i hw; rw [if_neg hw] at h; exact ⟨h.1,ih _ _ h.2⟩
 exact key l a w this
theorem AW.ahe {id:Nat} {l:List Oper} (h:ARI P none n l.toArray l env σ ds Q):AW P n (.region id l.toArray false) env σ ds Q:=
 fun w m a QC hs ha=>wpIn_wide.1 (wpIn_region_lit (F:=FRo none) (n:=0) (h w m a QC hs ha))
theorem ARI.step {t:Nat} (hnd:Er o=true) (hg:o.guard=none) (hd:o.dst=some t) (ht:Nat.blt t n=true)
  (h:AO P o env.ev σ (fun p σ'=>ARI P r n all rest ((t,p) :: env) σ' ds Q) (fun p σ'=>Q (.panic p) env σ' ds)):
  ARI P r n all (o :: rest) env σ ds Q:=by
 intro w m a QC hs ha; have ht:t < n:=Nat.le_of_ble_eq_true ht; refine wpListIn_plain hg fun K hK=>abz hnd ?_; refine h w m a K QC (fun x _=>hs.env.ev x) hs.jD ?_ ?_
 ·
  intro p σ' v w' m' hr hv hc htr; exact hK _ _ (hr w' m' _ QC (hs.put hd ht hv hc htr.le) (ha.step htr))
 ·
  intro p σ' v w' m' hr hv hc htr; exact ha (.panic p) _ _ _ _ a w' m' hr ⟨v,rfl,hv⟩ ⟨hs.size,hs.ds,hs.env.mono htr.le,hc⟩ htr
def AY (P:Program) (l:Nat) (args:List PV) (σ:List bg) (R:eD→List bg→Prop):Prop:=
 ∀ w m vs,Conc w m σ→aZ w m args vs→∃ fn tmps assign body,(Instr.yield l vs.toArray).run P w=.ok (.round l fn tmps assign body) w∧
  RoundIn Fence.wide 0 P l fn tmps assign body w fun e w'=>∃ out σ' m',R out σ'∧G9 w' m' out e∧Conc w' m' σ'∧Trans w m σ w' m' σ'
theorem ARI.yield {t l:Nat} {c:Call} {σ':List bg} {p:PV} (hnd:Er o=true) (hg:o.guard=none) (hd:o.dst=some t) (ht:Nat.blt t n=true) (ho:o.op=.call c) (R4:Operand) (lW:c.callee=.value R4)
  (hf:env.ev R4=.val (.func (.yield l) #[] #[])) (h:AY P l ((c.args.toList.map env.ev).map PV.weak) σ (fun out s=>out=.ret p∧s=σ'))
  (hk:ARI P r n all rest ((t,p) :: env) σ' ds Q):ARI P r n all (o :: rest) env σ ds Q:=by
 intro w m a QC hs ha; have ht:t < n:=Nat.le_of_ble_eq_true ht; refine wpListIn_plain hg fun K hK=>⟨fun _ _=>trivial,?_⟩; rw [Oper.semAt_eq _ _ _ (Q0 hnd)]; have hcv:=hs.env.ev R4; rw [hf] at hcv; simp only [dG] at hcv; have hargs:aZ w m (c.args.toList.map env.ev) (c.args.toList.map a.eval):=aZ.map fun x _=>hs.env.ev x; obtain ⟨fn,tmps,assign,body,h1,h2⟩:=h w m _ hs.jD hargs.weak
 have hrun:(execOp a.eval o).run P w=.ok (.round l fn tmps assign body) w:=by
  unfold execOp; simp only [ho,resolve,lW,hcv,Deferred.ofValue,invoke,Sem.run_bind,Sem.run_pure,Result.andThen_ok]; rw [←h1]; congr 2; apply Array.ext'; simp
 rw [hrun]; simp only [Oper.uponIn]; refine ⟨fun hh=>by simp [FRo,Fence.wide] at hh,?_⟩; refine RoundIn.mono (show RoundIn (FRo r) (0 - 1) P l fn tmps assign body w _ from h2) ?_; rintro e w' ⟨out,s,m',⟨rfl,rfl⟩,⟨v,rfl,hv⟩,hc,htr⟩; exact hK _ _ (hk w' m' _ QC (hs.put hd ht hv hc htr.le) (ha.step htr))
end
def Vg :List Nat→List PV→Env→Env
 | t :: ts,p :: ps,e=>Vg ts ps ((t,p) :: e)
 | _,_,e=>e
theorem Ux {w:World} {m:jM} {n:Nat}:∀ {ts:List Nat} {ps:List PV} {vs:List Value} {env:Env} {tmps:Array Value},tmps.size=n→(∀ t∈ts,t < n)→aZ w m ps vs→D8 w m env tmps→
  D8 w m (Vg ts ps env) ((ts.zip vs).foldl (fun t (p,v)=>t.setIfInBounds p v) tmps)∧((ts.zip vs).foldl (fun t (p,v)=>t.setIfInBounds p v) tmps).size=n
 | [],_,_,_,_,hn,_,_,h=>by simpa [Vg] using ⟨h,hn⟩
 | t :: ts,[],vs,env,tmps,hn,_,hr,h=>by
  simp only [aZ] at hr; subst hr; simpa [Vg] using ⟨h,hn⟩
 | t :: ts,p :: ps,vs,env,tmps,hn,hlt,hr,h=>by
  simp only [aZ] at hr; obtain ⟨v,vs',rfl,h1,h2⟩:=hr; simp only [Vg,List.zip_cons_cons,List.foldl_cons]; refine Ux (by simpa using hn) (fun u hu=>hlt u (by simp [hu])) h2 ?_; exact h.put h1 (by rw [hn]; exact hlt t (by simp))
def codeOf :Option AX→Option Code
 | some .ret=>some .ret
 | some (.exit id)=>some (.exit id)
 | _=>none
def Jg (D:Nat):Deferred:={target:=.collected D,args:=#[]}
def IQ (fn:FuncId) (tmps:Array Value) (ps:Array Tmp) (assign body:Code) (D:Nat) (x:Option AX):Loop:=
 {state:=if (codeOf x).isNone then .ready else .done,pending:=codeOf x,fn,tmps,params:=ps,assign,body,defers:=D}
def roundEnd {β:Type} (T:β→List bg) (pend:β→Option AX) (b:Bool) (s':β):Post:=fun x _ σ d=>d=[]∧(T s').Sublist σ∧
 match x with
 | .normal=>b=true∧pend s'=none
 | .ret=>b=false∧pend s'=some .ret
 | .exit id=>b=false∧pend s'=some (.exit id)
 | .panic _=>False
theorem J2 {w:World} {m:jM} {σ:List bg} (hc:Conc w m σ) {i b:Nat} {o o':Obj} (hi:σ[i]?=some (.obj b o)):
  Conc (w.putObj b o') m (σ.set i (.obj b o'))∧Trans w m σ (w.putObj b o') m (σ.set i (.obj b o')):=by
 obtain ⟨hb,hm⟩:=hc.each _ (List.mem_of_getElem? hi)
 have hblt:b < w.heap.size:=by
  rcases Nat.lt_or_ge b w.heap.size with h | h
  · exact h
  · simp [Array.getElem?_eq_none h] at hb
 exact Conc.write (w':=w.putObj b o') (r':=.obj b o') hc hi rfl rfl hm ⟨World.putObj_heap_same hblt,hm⟩ ⟨rfl,rfl,rfl⟩ (by simp) (fun k hk=>World.putObj_heap_other hk)
section
variable {P : Program} {n : Nat} {env : Env} {σ : List bg} {ds : List Deferred} {Q : Post}
theorem AW.rangeFunc {β X:Type} {g:Operand} {ps:Array Tmp} {assign body:Code} {gf:Nat} {caps:List PV} (hg:env.ev g=.fn gf caps) (hp:aV P gf=true)
  (enc:X→List PV) (henc:∀ x,(enc x).length=ps.toList.length) (hps:∀ t∈ps.toList,t < n) (y:β→X→Option (Bool × β)) (T:β→List bg) (pend:β→Option AX) {s0 s1:β} (hσ:σ=T s0) (hs0:pend s0=none)
  (hit:∀ (l:Nat) (T':β→List bg),(∀ s x b s',y s x=some (b,s')→AY P l (enc x) (T' s) (fun out σ'=>out=.ret (.bool b)∧σ'=T' s'))→
   AC P gf (.val (.func (.yield l) #[] #[]) :: caps) (T' s0) (fun out σ'=>(∃ p,out=.ret p)∧σ'=T' s1))
  (round:∀ l s x b s',y s x=some (b,s')→pend s=none∧
   zC P (some l) n assign (Vg ps.toList (enc x) env) (T s) [] (fun ax e σ' d=>ax=.normal∧zC P (some l) n body e σ' d (roundEnd T pend b s')))
  (hq:∀ D,(match pend s1 with | none=>Q .normal env | some .ret=>Q .ret env | some (.exit id)=>Q (.exit id) env | some _=>fun _ _=>False) (T s1 ++ [bg.obj D (.deferred (some []))]) (Jg D :: ds)):
  AW P n (.rangeFunc g ps assign body) env σ ds Q:=by
 subst hσ; intro w m a QC hs ha; refine (wpIn_wide (n:=0)).1 (wpIn_rangeFunc fun fn _=>?_); have hge:=hs.env.ev g; rw [hg] at hge; simp only [dG] at hge; obtain ⟨cs,hcv,hcs⟩:=hge; have c1:=Kl hs.jD (.deferred (some []))
 have t1:=lM (σ':=bg.obj w.heap.size (.deferred (some [])) :: T s0) hs.jD (.deferred (some [])) (fun _=>False) (fun b hb=>by
  simp [lX,bg.fp] at hb ⊢; rcases hb with hb | hb
  · exact .inr hb
  · exact .inl hb)
 have c2:=Kl c1 (.loop (IQ fn a.tmps ps assign body w.heap.size none))
 have t2:=lM (σ':=.obj (w.alloc (.deferred (some []))).heap.size (.loop (IQ fn a.tmps ps assign body w.heap.size none)) :: bg.obj w.heap.size (.deferred (some [])) :: T s0) c1 (.loop (IQ fn a.tmps ps assign body w.heap.size none)) (fun _=>False) (fun b hb=>by
  simp [lX,bg.fp] at hb ⊢; rcases hb with hb | hb | hb
  · exact .inr hb
  · exact .inl (.inl hb)
  · exact .inl (.inr hb))
 have hsz:(w.alloc (.deferred (some []))).heap.size=w.heap.size + 1:=by simp
 rw [hsz] at c2 t2; generalize hW:(w.alloc (.deferred (some []))).alloc (.loop (IQ fn a.tmps ps assign body w.heap.size none))=W at c2 t2; generalize hM:(fun b off=>(m b off∨b=w.heap.size∧False)∨b=w.heap.size + 1∧False)=M at c2 t2; have tW:=t1.trans t2; let rec' (s:β):Loop:=IQ fn a.tmps ps assign body w.heap.size (pend s); let T' (s:β):List bg:=T s ++ [bg.obj (w.heap.size + 1) (.loop (rec' s)),bg.obj w.heap.size (.deferred (some [])),bg.since w m]
 have hT0:(T' s0).Perm (.obj (w.heap.size + 1) (.loop (IQ fn a.tmps ps assign body w.heap.size none)) :: bg.obj w.heap.size (.deferred (some [])) :: T s0 ++ [bg.since w m]):=by
  simp only [T',rec',hs0]; refine List.perm_append_comm.trans ?_; simp only [List.cons_append,List.nil_append]; refine List.Perm.cons _ (List.Perm.cons _ ?_); exact (List.perm_append_comm (l₁:=[bg.since w m]) (l₂:=T s0))
 have cT:Conc W M (T' s0):=by
  refine Conc.perm hT0.symm ?_; refine ⟨fun r hr=>?_,?_,c2.wf,c2.uq⟩
  ·
   rcases List.mem_append.1 hr with h | h
   · exact c2.each r h
   ·
    rw [List.mem_singleton] at h; subst h; exact tW.le
  ·
   have:=c2.apart; simpa [lX,bg.fp] using this
 have tT:Trans w m (T s0) W M (T' s0):=by
  refine Trans.perm (.refl _) hT0.symm ⟨tW.os,tW.tape,tW.output,tW.size,tW.le,tW.keep,fun b hb=>tW.fresh b ?_,tW.drawn⟩; simpa [lX,bg.fp] using hb
 refine ⟨w.heap.size + 1,[Jg w.heap.size],W,{target:=.fn (.func gf) cs.toArray,args:=#[.func (.yield (w.heap.size + 1)) #[] #[]]},W,gf,
  #[.func (.yield (w.heap.size + 1)) #[] #[]] ++ cs.toArray,W,?_,?_,fun _ _=>trivial,?_,fun hh=>by simp [Fence.wide] at hh,?_⟩
 · rw [←hW]; exact run_enterLoop_outer _ _ _ _ _
 ·
  simp only [resolve,hcv]; simp [go_sem]
 ·
  simp only [invoke]; rw [yC hp]
 ·
  refine callsIn_wide.2 ?_; have hac:=hit (w.heap.size + 1) T' ?_
  ·
   have hcs':aZ W M (.val (.func (.yield (w.heap.size + 1)) #[] #[]) :: caps) (.func (.yield (w.heap.size + 1)) #[] #[] :: cs):=aZ.cons (by simp [dG]) (aZ.mono tW.le _ _ hcs); have:=hac W M _ cT hcs'; rw [show (Value.func (.yield (w.heap.size + 1)) #[] #[] :: cs).toArray=#[.func (.yield (w.heap.size + 1)) #[] #[]] ++ cs.toArray from by apply Array.ext'; simp] at this; refine this.mono ?_; rintro e w' ⟨out,σ',m',⟨⟨p,rfl⟩,rfl⟩,⟨v,rfl,hv⟩,hc',ht'⟩; have hi:(T' s1)[(T s1).length]?=some (.obj (w.heap.size + 1) (.loop (rec' s1))):=by simp [T']
   obtain ⟨hb,_⟩:=hc'.each _ (List.mem_of_getElem? hi); obtain ⟨k1,k2⟩:=J2 (o':=.loop {rec' s1 with state:=.exhausted}) hc' hi
   have hsub:(T s1 ++ [bg.obj w.heap.size (.deferred (some []))]).Sublist ((T' s1).set (T s1).length (.obj (w.heap.size + 1) (.loop {rec' s1 with state:=.exhausted}))):=by
    simp only [T']; rw [List.set_append_right _ _ (Nat.le_refl _),Nat.sub_self]; refine List.Sublist.append (List.Sublist.refl _) ?_; simp only [List.set_cons_zero]; exact .cons _ (.cons_cons _ (.cons _ .slnil))
   have k3:=k1.sub hsub; have k4:=(tT.trans (ht'.trans k2)).sub hsub
   have hse:∀ todo,qI (w'.putObj (w.heap.size + 1) (.loop {rec' s1 with state:=.exhausted})) m' n env (T s1 ++ [bg.obj w.heap.size (.deferred (some []))]) (Jg w.heap.size :: ds) {a with defers:=todo}∨todo≠[Jg w.heap.size] ++ a.defers:=by
    intro todo; by_cases e:todo=[Jg w.heap.size] ++ a.defers
    ·
     subst e; exact .inl ⟨hs.size,by simp [hs.ds],hs.env.mono k4.le,k3⟩
    · exact .inr e
   have hse:=(hse ([Jg w.heap.size] ++ a.defers)).resolve_right (by simp); refine ⟨codeOf (pend s1),w'.putObj (w.heap.size + 1) (.loop {rec' s1 with state:=.exhausted}),?_,?_⟩
   ·
    have:=run_endLoop (P:=P) (w:=w') (l:=w.heap.size + 1) (r:=rec' s1) hb (by simp only [rec',IQ]; split <;> simp); exact this
   ·
    have hqD:=hq w.heap.size; cases hpe:pend s1 with
    | none=>
     rw [hpe] at hqD; exact ha .normal _ env _ _ _ _ m' hqD rfl hse k4
    | some x=>
     rw [hpe] at hqD; cases x with
     | ret=>exact wpIn_ret (ha .ret _ env _ _ _ _ m' hqD rfl hse k4)
     | exit id=>exact wpIn_exit (ha (.exit id) _ env _ _ _ _ m' hqD rfl hse k4)
     | normal=>exact hqD.elim
     | panic p=>exact hqD.elim
  ·
   
   intro s x b s' hy w1 m1 vs hc1 hv1; obtain ⟨amZ,aj9⟩:=round (w.heap.size + 1) s x b s' hy; have hi:(T' s)[(T s).length]?=some (.obj (w.heap.size + 1) (.loop (rec' s))):=by simp [T']
   obtain ⟨hb1,_⟩:=hc1.each _ (List.mem_of_getElem? hi); have aj7:Le w m w1 m1:=hc1.each (.since w m) (by simp [T']); have hvl:=hv1.length_eq
   have hsz':vs.toArray.size=(rec' s).params.size:=by
    simp only [rec',IQ,List.size_toArray]; rw [hvl,henc x]; simp
   have hyr:=run_yield (P:=P) hb1 hsz'; refine ⟨_,_,_,_,hyr,?_⟩; refine roundIn_of_wpIn trivial ?_
   have alM:((rec' s).params.zip vs.toArray).foldl (fun tmps (t,a)=>tmps.setIfInBounds t a) (rec' s).tmps=(ps.toList.zip vs).foldl (fun t (p,v)=>t.setIfInBounds p v) a.tmps:=by
    simp only [rec',IQ]; rw [←Array.foldl_toList,Array.toList_zip]
   obtain ⟨hb2,hb3⟩:=Ux (n:=n) (ts:=ps.toList) hs.size (fun t ht=>hps t ht) hv1 (hs.env.mono aj7); have hA:=zC.frame (τ:=[bg.obj (w.heap.size + 1) (.loop (rec' s)),bg.obj w.heap.size (.deferred (some [])),bg.since w m]) aj9; refine hA w1 m1 _ _ ⟨?_,rfl,?_,hc1⟩ ?_
   · rw [alM]; exact hb3
   · rw [alM]; exact hb2
   ·
    rintro ax ex e2 σ2 d2 a2 w2 m2 ⟨adP,rfl,rfl,hbody⟩ hx hs2 ht2; cases hx; have hi2:(adP ++ [bg.obj (w.heap.size + 1) (.loop (rec' s)),bg.obj w.heap.size (.deferred (some [])),bg.since w m])[adP.length]?=some (.obj (w.heap.size + 1) (.loop (rec' s))):=by simp
    obtain ⟨hb4,_⟩:=hs2.jD.each _ (List.mem_of_getElem? hi2); have aas:(rec' s).state=.ready:=by simp [rec',IQ,amZ,codeOf]
    refine ⟨_,run_beginRound hb4 aas,?_⟩; obtain ⟨k1,k2⟩:=J2 (o':=.loop {rec' s with state:=.busy}) hs2.jD hi2
    have hset:(adP ++ [bg.obj (w.heap.size + 1) (.loop (rec' s)),bg.obj w.heap.size (.deferred (some [])),bg.since w m]).set adP.length (.obj (w.heap.size + 1) (.loop {rec' s with state:=.busy}))=
      adP ++ [bg.obj (w.heap.size + 1) (.loop {rec' s with state:=.busy}),bg.obj w.heap.size (.deferred (some [])),bg.since w m]:=by
     rw [List.set_append_right _ _ (Nat.le_refl _),Nat.sub_self]; rfl
    rw [hset] at k1 k2; have hB:=zC.frame (τ:=[bg.obj (w.heap.size + 1) (.loop {rec' s with state:=.busy}),bg.obj w.heap.size (.deferred (some [])),bg.since w m]) hbody; refine hB _ m2 a2 _ ⟨hs2.size,hs2.ds,hs2.env.mono k2.le,k1⟩ ?_; rintro ax3 ex3 e3 σ3 d3 a3 w3 m3 ⟨aci,rfl,hd3,alP,hend⟩ hx3 hs3 ht3; have hi3:(aci ++ [bg.obj (w.heap.size + 1) (.loop {rec' s with state:=.busy}),bg.obj w.heap.size (.deferred (some [])),bg.since w m])[aci.length]?=some (.obj (w.heap.size + 1) (.loop {rec' s with state:=.busy})):=by simp
    obtain ⟨hb5,_⟩:=hs3.jD.each _ (List.mem_of_getElem? hi3)
    have fin:∀ jump:Option Code,jump=codeOf (pend s')→b=jump.isNone→∃ v w',(Instr.endRound (w.heap.size + 1) jump).run P w3=.ok v w'∧∃ out σ' m',(out=eD.ret (.bool b)∧σ'=T' s')∧G9 w' m' out (.returned v)∧Conc w' m' σ'∧Trans w1 m1 (T' s) w' m' σ':=by
     intro jump hj hbj; refine ⟨_,_,run_endRound jump hb5,.ret (.bool b),T' s',m3,⟨rfl,rfl⟩,⟨_,rfl,by simp [dG,hbj]⟩,?_⟩; obtain ⟨q1,q2⟩:=J2 (o':=.loop {rec' s with state:=if jump.isNone then .ready else .done,pending:=jump}) hs3.jD hi3
     have hrec:({rec' s with state:=if jump.isNone then .ready else .done,pending:=jump}:Loop)=rec' s':=by
      simp only [rec',IQ,hj]
     have alQ:(aci ++ [bg.obj (w.heap.size + 1) (.loop {rec' s with state:=.busy}),bg.obj w.heap.size (.deferred (some [])),bg.since w m]).set aci.length (.obj (w.heap.size + 1) (.loop {rec' s with state:=if jump.isNone then .ready else .done,pending:=jump}))=
       aci ++ [bg.obj (w.heap.size + 1) (.loop (rec' s')),bg.obj w.heap.size (.deferred (some [])),bg.since w m]:=by
      rw [List.set_append_right _ _ (Nat.le_refl _),Nat.sub_self,hrec]; rfl
     rw [alQ] at q1 q2; have hsub:(T' s').Sublist (aci ++ [bg.obj (w.heap.size + 1) (.loop (rec' s')),bg.obj w.heap.size (.deferred (some [])),bg.since w m]):=List.Sublist.append alP (List.Sublist.refl _); exact ⟨q1.sub hsub,(ht2.trans (k2.trans (ht3.trans q2))).sub hsub⟩
    cases ax3 with
    | normal=>
     cases hx3; obtain ⟨h5,h6⟩:=hend; exact fin none (by rw [h6]; rfl) (by rw [h5]; rfl)
    | ret=>
     cases hx3; obtain ⟨h5,h6⟩:=hend; exact fin (some .ret) (by rw [h6]; rfl) (by rw [h5]; rfl)
    | exit id=>
     cases hx3; obtain ⟨h5,h6⟩:=hend; exact fin (some (.exit id)) (by rw [h6]; rfl) (by rw [h5]; rfl)
    | panic p=>exact hend.elim
end
end Go.Abs
namespace Go.Abs
variable [iw]
open Go
theorem XO {P:Program} {fn:Func} {rs:List ResultVar} {env:Env} {σ:List bg} {w:World} {m:jM} {tmps:Array Value} {ps:List PV} (hrs:fn.results.toList=rs) (he:D8 w m env tmps) (hc:Conc w m σ) (h1:G8 P env σ rs ps):
  ∃ v,(results fn tmps).run P w=.ok v w∧dG w m (l9 (ps.map PV.weak)) v:=by
 obtain ⟨us,k1,k2⟩:=Ed he hc h1; have hl2:=k2.length_eq
 have hrun:(results fn tmps).run P w=.ok (if h:us.toArray.size=1 then us.toArray[0] else .tuple us.toArray) w:=by
  unfold results; rw [Array.mapM_eq_mapM_toList,hrs]; have k1':=k1; simp only [Sem.run_bind,Sem.run_map]
  erw [k1']
  rfl
 have k2:=k2.weak; have hl2:us.length=(ps.map PV.weak).length:=by simpa using hl2
 refine ⟨_,hrun,?_⟩; clear h1 hrun; generalize ps.map PV.weak=ps at k2 hl2 ⊢
 match ps,us,k2,hl2 with
 | [],us,k2,hl2=>
  simp only [aZ] at k2; subst k2; simp only [l9,dG]; exact ⟨[],by simp,aZ.nil⟩
 | [p],us,k2,hl2=>
  simp only [aZ] at k2; obtain ⟨v,vs',rfl,h3,rfl⟩:=k2; simpa [l9] using h3
 | p :: q :: ps,us,k2,hl2=>
  rw [dif_neg (by simp [hl2])]; simp only [l9,dG]; exact ⟨us,rfl,k2⟩
def akI (P:Program) (rs:List ResultVar) (R:eD→List bg→Prop):Post
 | .normal,e,s,d | .ret,e,s,d=>∃ D s1,d=[Jg D]∧s=s1 ++ [.obj D (.deferred (some []))]∧∃ ps,G8 P e s1 rs ps∧∃ s',s'.Sublist s1∧R (.ret (l9 (ps.map PV.weak))) s'
 | _,_,_,_=>False
theorem AC.KE {P:Program} {f:FuncId} {fn:Func} {c:Code} {args:List PV} {σ:List bg} {R:eD→List bg→Prop} (n:Nat) (rs:List ResultVar) (ts:List Nat) {env:Env}
  (hf:P.funcs[f]?=some fn) (hb:fn.body=some c) (hn:fn.ntmps=n) (hl:Nat.ble args.length n=true) (hrs:fn.results.toList=rs) (Ob:settle ts (BQ 0 args)=some env)
  (h:AW P n c env σ [] (akI P rs R)):AC P f args σ R:=by
 intro w m vs hc hv; have hl:args.length≤n:=Nat.le_of_ble_eq_true hl; have hvl:=hv.length_eq; refine callsIn_wide.1 (callsIn_of_wp_marks (n:=0) hf hb trivial (wpIn_wide.2 ?_)); refine h w m _ _ ⟨?_,rfl,?_,hc⟩ ?_
 · simp [hvl,hn]; omega
 ·
  have:=CG (List.replicate (fn.ntmps - vs.toArray.size) Go.undef) [] hv; rw [show vs.toArray ++ Array.replicate (fn.ntmps - vs.toArray.size) Go.undef=([] ++ vs ++ List.replicate (fn.ntmps - vs.toArray.size) Go.undef).toArray from by simp]; exact D8.settle Ob this
 ·
  intro x ex env' σ' ds' a' w' m' hq hx hs ht
  have hend:∀ D s1,ds'=[Jg D]→σ'=s1 ++ [.obj D (.deferred (some []))]→∀ ps s',G8 P env' s1 rs ps→s'.Sublist s1→R (.ret (l9 (ps.map PV.weak))) s'→
    LeavesInM Fence.wide 0 P fn a'.tmps (fun e w'=>∃ out σ' m',R out σ'∧G9 w' m' out e∧Conc w' m' σ'∧Trans w m σ w' m' σ') a'.defers .returning w':=by
   intro D s1 hd hs1 ps s' h1 hsub h2; subst hs1; rw [hs.ds,hd]; have hi:(s1 ++ [bg.obj D (.deferred (some []))])[s1.length]?=some (.obj D (.deferred (some []))):=by simp
   obtain ⟨hbD,_⟩:=hs.jD.each _ (List.mem_of_getElem? hi); obtain ⟨k1,k2⟩:=J2 (o':=.deferred Option.none) hs.jD hi
   have hset:(s1 ++ [bg.obj D (.deferred (some []))]).set s1.length (.obj D (.deferred Option.none))=s1 ++ [.obj D (.deferred Option.none)]:=by
    rw [List.set_append_right _ _ (Nat.le_refl _),Nat.sub_self]; rfl
   rw [hset] at k1 k2; refine ⟨by simp,.inl ⟨D,_,rfl,run_takeDeferred hbD,?_⟩⟩; have k3:=k1.left; obtain ⟨v,hv1,hv2⟩:=XO hrs (hs.env.mono k2.le) k3 h1; refine ⟨v,hv1,.ret _,s',m',h2,⟨v,rfl,hv2⟩,k3.sub hsub,?_⟩; exact (ht.trans k2).sub (hsub.trans (List.sublist_append_left _ _))
  cases x with
  | normal=>cases hx; obtain ⟨D,s1,hd,hs1,ps,h1,s',hsub,h2⟩:=hq; exact hend D s1 hd hs1 ps s' h1 hsub h2
  | ret=>cases hx; obtain ⟨D,s1,hd,hs1,ps,h1,s',hsub,h2⟩:=hq; exact hend D s1 hd hs1 ps s' h1 hsub h2
  | exit id=>exact hq.elim
  | panic p=>exact hq.elim
theorem aa_ {w:World} {m:jM}:∀ {vs cs:List Value},aZ w m (vs.map PV.val) cs→cs=vs
 | [],cs,h=>by simpa [aZ] using h
 | v :: vs,cs,h=>by
  simp only [List.map_cons,aZ,dG] at h; obtain ⟨u,us,rfl,h1,h2⟩:=h; rw [aa_ h2,h1]
theorem AR.defer {P:Program} {n:Nat} {env:Env} {σ:List bg} {ds:List Deferred} {Q:Post} {all:Array Oper} {rest:List Oper} {o:Oper} {c:Call} {R4:Operand} {g:FuncId} {vs:List Value}
  (hg:o.guard=Option.none) (hd:o.dst=Option.none) (ho:o.op=.defer c) (lW:c.callee=.value R4) (hargs:c.args=#[]) (hf:env.ev R4=.fn g (vs.map PV.val))
  (h:AR P n all rest env σ ({target:=.fn (.func g) vs.toArray,args:=#[]} :: ds) Q):AR P n all (o :: rest) env σ ds Q:=by
 intro w m a QC hs ha; refine wpList_plain hg fun K hK=>?_; have hcv:=hs.env.ev R4; rw [hf] at hcv; simp only [dG] at hcv; obtain ⟨cs,hcv,hcs⟩:=hcv; have hcs':=aa_ hcs; subst hcs'
 have hrun:(execOp a.eval o).run P w=.ok (.defer {target:=.fn (.func g) cs.toArray,args:=#[]}) w:=by
  unfold execOp; simp [ho,resolve,lW,hcv,hargs,Deferred.ofValue]
 unfold Oper.wp; rw [hrun]; refine hK _ _ (h w m _ QC ⟨?_,?_,?_,hs.jD⟩ ha)
 · rw [hd]; exact hs.size
 · rw [hd]; simp [Act.put,hs.ds]
 · rw [hd]; exact hs.env
def akH (P:Program) (rs:List ResultVar) (R:eD→List bg→Prop) (g:FuncId) (nt t:Nat) (ops:List Oper) (o:Oper) (X:Code) (vs:List Value) (aaz:Env):Post
 | .normal,e,s,d | .ret,e,s,d=>d=[{target:=.fn (.func g) vs.toArray,args:=#[]}]∧
   AR P nt (o :: ops).toArray ops ((t,.val .nilIface) :: aaz) s [] (AX.then (fun e' s d=>AW P nt X e' s d (QD fun s'=>∃ ps,G8 P e s' rs ps∧∃ s'',s''.Sublist s'∧R (.ret (l9 (ps.map PV.weak))) s'')) (QD fun s'=>∃ ps,G8 P e s' rs ps∧∃ s'',s''.Sublist s'∧R (.ret (l9 (ps.map PV.weak))) s''))
 | .panic p,e,s,d=>d=[{target:=.fn (.func g) vs.toArray,args:=#[]}]∧
   AR P nt (o :: ops).toArray ops ((t,p) :: aaz) s [] (AX.then (fun e' s d=>AW P nt X e' s d (QD fun s'=>∃ ps,G8 P e s' rs ps∧∃ s'',s''.Sublist s'∧R (.ret (l9 (ps.map PV.weak))) s'')) (QD fun s'=>∃ ps,G8 P e s' rs ps∧∃ s'',s''.Sublist s'∧R (.ret (l9 (ps.map PV.weak))) s''))
 | _,_,_,_=>False
theorem XT (w:World) (m:jM):∀ vs:List Value,aZ w m (vs.map PV.val) vs
 | []=>aZ.nil
 | v :: vs=>aZ.cons (by simp [dG]) (XT w m vs)
theorem AC.OX {P:Program} {f g:FuncId} {fn fd:Func} {c X:Code} {args:List PV} {σ:List bg} {R:eD→List bg→Prop} {id nt t:Nat} {ops:List Oper} {o:Oper} (n:Nat) (rs:List ResultVar) (ts td:List Nat) {env:Env}
  (hf:P.funcs[f]?=some fn) (hb:fn.body=some c) (hn:fn.ntmps=n) (hl:Nat.ble args.length n=true) (hrs:fn.results.toList=rs) (Ob:settle ts (BQ 0 args)=some env)
  (hfd:P.funcs[g]?=some fd) (hbd:fd.body=some (.seq (.region id (o :: ops).toArray false) X)) (hnd:fd.ntmps=nt) (hrsd:fd.results.toList=[])
  (hg:o.guard=Option.none) (ho:isRecover o=true) (hd:o.dst=some t) (ht:Nat.blt t nt=true) (hp:aV P g=true)
  (h:AW P n c env σ [] (fun x e s d=>∃ vs aaz,Nat.ble vs.length nt=true∧settle td (BQ 0 (vs.map PV.val))=some aaz∧akH P rs R g nt t ops o X vs aaz x e s d)):AC P f args σ R:=by
 intro w m us hc hv; have hl:args.length≤n:=Nat.le_of_ble_eq_true hl; have hvl:=hv.length_eq; refine calls_of_wp_defers hf hb ?_; refine h w m _ _ ⟨?_,rfl,?_,hc⟩ ?_
 · simp [hvl,hn]; omega
 ·
  have:=CG (List.replicate (fn.ntmps - us.toArray.size) Go.undef) [] hv; rw [show us.toArray ++ Array.replicate (fn.ntmps - us.toArray.size) Go.undef=([] ++ us ++ List.replicate (fn.ntmps - us.toArray.size) Go.undef).toArray from by simp]; exact D8.settle Ob this
 ·
  intro x ex env' σ' ds' a' w' m' hq hx hs htr; obtain ⟨vs,aaz,hvn,alW,hq⟩:=hq
  have key:∀ (q:Option Value) (p:PV),(match q with | Option.none=>p=.val .nilIface | some v=>dG w' m' p v)→ds'=[{target:=.fn (.func g) vs.toArray,args:=#[]}]→
    AR P nt (o :: ops).toArray ops ((t,p) :: aaz) σ' [] (AX.then (fun e' s d=>AW P nt X e' s d (QD fun s'=>∃ ps,G8 P env' s' rs ps∧∃ s'',s''.Sublist s'∧R (.ret (l9 (ps.map PV.weak))) s'')) (QD fun s'=>∃ ps,G8 P env' s' rs ps∧∃ s'',s''.Sublist s'∧R (.ret (l9 (ps.map PV.weak))) s''))→
    Leaves P fn a'.tmps (fun e w'=>∃ out σ' m',R out σ'∧G9 w' m' out e∧Conc w' m' σ'∧Trans w m σ w' m' σ') a'.defers (Mv q) w':=by
   intro q p hqp hds har; rw [hs.ds,hds]; refine leaves_cons (f:=g) (args:=vs.toArray) (by cases q <;> simp [Mv]) ?_ ?_
   ·
    simp only [invoke]; rw [yC hp]; simp
   ·
    refine CallsD.mono (CD.rec (args:=vs.map PV.val) td hfd hbd hnd (by simpa using hvn) hrsd alW hg ho hd ht har w' m' vs q hqp hs.jD (XT w' m' vs)) ?_; rintro e u' w2 ⟨rfl,rfl,σ2,m2,⟨ps,h1,s'',hsub,h2⟩,hc2,ht2⟩; obtain ⟨v,hv1,hv2⟩:=XO hrs (hs.env.mono ht2.le) hc2 h1; have hset:Go.settle (C8 q)=.returning:=by cases q <;> simp [C8,Go.settle]
    simp only [hset]; exact ⟨v,hv1,.ret _,s'',m2,h2,⟨v,rfl,hv2⟩,hc2.sub hsub,(htr.trans ht2).sub hsub⟩
  cases x with
  | normal=>cases hx; exact key Option.none _ rfl hq.1 hq.2
  | ret=>cases hx; exact key Option.none _ rfl hq.1 hq.2
  | exit id=>exact hq.elim
  | panic p=>
   obtain ⟨v,rfl,hv'⟩:=hx; exact key (some v) p hv' hq.1 hq.2
theorem Qo {w:World} {m:jM} {σ:List bg} {i b:Nat} {cs:List PV} (hi:σ[i]?=some (.box b cs)) (hc:Conc w m σ):Conc w m (σ.set i (.box b (cs.map PV.vN)))∧Trans w m σ w m (σ.set i (.box b (cs.map PV.vN))):=by
 have hf:lX (σ.set i (.box b (cs.map PV.vN)))=lX σ:=by
  clear hc
  induction σ generalizing i with
  | nil=>rfl
  | cons r σ ih=>
   cases i with
   | zero=>
    simp only [List.getElem?_cons_zero,Option.some.injEq] at hi; subst hi; simp [lX,bg.fp]
   | succ i=>
    simp only [List.getElem?_cons_succ] at hi; have:=ih hi; simp only [lX,List.set_cons_succ,List.flatMap_cons] at this ⊢; rw [this]
 refine ⟨⟨fun r hr=>?_,by rw [hf]; exact hc.apart,hc.wf,hc.uq⟩,⟨rfl,rfl,rfl,Nat.le_refl _,Le.refl _ _,fun _ _ _=>⟨rfl,fun _ h=>h⟩,fun x hx=>.inl (by rw [←hf]; exact hx),fun _=>Nat.le_refl _⟩⟩; rcases List.mem_or_eq_of_mem_set hr with h | h
 · exact hc.each r h
 ·
  subst h; obtain ⟨vs,ty,h1,h2,h3⟩:=hc.each _ (List.mem_of_getElem? hi); exact ⟨vs,ty,h1,h2.vN,h3⟩
section
variable {P : Program} {n : Nat} {env : Env} {σ : List bg} {ds : List Deferred} {Q : Post} {all : Array Oper} {l : List Oper}
theorem AR.adY (i:Nat) {b:Nat} {cs:List PV} (hi:σ[i]?=some (.box b cs)) (h:AR P n all l env (σ.set i (.box b (cs.map PV.vN))) ds Q):AR P n all l env σ ds Q:=by
 intro w m a QC hs ha; obtain ⟨k1,k2⟩:=Qo hi hs.jD; exact h w m a QC ⟨hs.size,hs.ds,hs.env,k1⟩ (ha.step k2)
theorem AW.adY {c:Code} (i:Nat) {b:Nat} {cs:List PV} (hi:σ[i]?=some (.box b cs)) (h:AW P n c env (σ.set i (.box b (cs.map PV.vN))) ds Q):AW P n c env σ ds Q:=by
 intro w m a QC hs ha; obtain ⟨k1,k2⟩:=Qo hi hs.jD; exact h w m a QC ⟨hs.size,hs.ds,hs.env,k1⟩ (ha.step k2)
end
section
variable {P : Program} {o : Oper} {ρ : Operand → PV} {σ : List bg} {R S : PV → List bg → Prop}
theorem AO.abk {x:Operand} {xt t:TypeId} {p:PV} (ho:o.op=.typeAssert x xt t true) (hx:ρ x=.iface t p) (hrun:∀ v w,(Instr.typeAssert (.iface t v) xt t true).run P w=.ok (.tuple #[v,.bool true]) w)
  (hR:R (.tuple [p,.bool true]) σ):AO P o ρ σ R S:=by
 refine AO.of_same hR fun w m ev hr hc=>?_; have h1:=hr x (by simp [ho,Op.operands]); rw [hx] at h1; simp only [dG] at h1; obtain ⟨v,h1,h2⟩:=h1; refine ⟨.tuple #[v,.bool true],?_,?_⟩
 · simp only [execOp,ho,h1,Sem.run_bind,hrun,Result.andThen_ok,Sem.run_pure]
 ·
  simp only [dG]; exact ⟨[v,.bool true],rfl,aZ.cons h2 (aZ.cons (by simp [dG]) aZ.nil)⟩
theorem AO.Xx {x:Operand} {xt t:TypeId} {p:PV} {z:Value} (ho:o.op=.typeAssert x xt t true) (hx:ρ x=.val .nilIface) (hrun:∀ w,(Instr.typeAssert .nilIface xt t true).run P w=.ok (.tuple #[z,.bool false]) w)
  (hz:∀ w m,dG w m p z) (hR:R (.tuple [p,.bool false]) σ):AO P o ρ σ R S:=by
 refine AO.of_same hR fun w m ev hr hc=>?_; have h1:=hr x (by simp [ho,Op.operands]); rw [hx] at h1; simp only [dG] at h1; refine ⟨.tuple #[z,.bool false],?_,?_⟩
 · simp only [execOp,ho,h1,Sem.run_bind,hrun,Result.andThen_ok,Sem.run_pure]
 ·
  simp only [dG]; exact ⟨[z,.bool false],rfl,aZ.cons (hz w m) (aZ.cons (by simp [dG]) aZ.nil)⟩
end
end Go.Abs
namespace Go.Abs
variable [iw]
open Go
section
variable {P : Program} {n : Nat} {all : Array Oper} {l : List Oper} {env : Env} {σ : List bg} {ds : List Deferred} {Q : Post} {c : Code}
def Lx :List bg→Nat→Option (List bg)
 | [],_=>none
 | _ :: σ,0=>some σ
 | r :: σ,i + 1=>match Lx σ i with
  | some σ'=>some (r :: σ')
  | none=>none
end
end Go.Abs
namespace Go.Abs
variable [iw]
open Go Go.Proofs Go.Sort Go.Lib Go.Shelf
theorem XQ {w:World} {m:jM}:∀ l:List (List UInt8),aZ w m (l.map PV.str) (l.map fun s=>Value.string ⟨s.toArray⟩)
 | []=>aZ.nil
 | s :: l=>aZ.cons (by simp [dG]) (XQ l)
@[reducible] def Yv :iw:={G:=fun _ _=>True,mono:=fun _ h=>h,D:=True}
theorem Trans.grown (hD:iw.D) {w w':World} {m m':jM} {σ':List bg} (h:Trans w m [] w' m' σ'):∃ q os,w'=Sort.grow (w.drewN q) os:=by
 refine ⟨w'.drawn - w.drawn,w'.heap.extract w.heap.size w'.heap.size,?_⟩; have h1:=h.os; have h2:=h.tape; have h3:=h.output; have h4:=h.drawn hD; have h5:=h.size; have h6:=h.keep; cases w'; cases w; simp only [World.drewN,Sort.grow] at *; subst h1 h2 h3; congr 1
 ·
  apply Array.ext_getElem?; intro k; rw [Array.getElem?_append]; split
  ·
   rename_i hk; exact (h6 k hk (by simp [lX])).1
  ·
   rename_i hk; rw [Array.getElem?_extract]; split
   · congr 1; omega
   · rw [Array.getElem?_eq_none (by omega)]
 · omega
abbrev K8 :Type:={s:List UInt8 // s.length < 4611686018427387904}
instance : Inhabited K8:=⟨⟨[],by decide⟩⟩
theorem Ml {w:World} {m:jM} {g:Nat} {α:Type} [Inhabited α] (enc:α→Value) (dk:Array α) (q:Nat) (os:Array Obj) (hm:∀ off,¬ m g off) (hwf:∀ b off,m b off→b < w.heap.size):
  Le w m (Sort.grow (putRow enc (Sort.ahead w q) g 0 dk) os) m∧w.heap.size≤(Sort.grow (putRow enc (Sort.ahead w q) g 0 dk) os).heap.size:=by
 refine ⟨fun b off hb=>⟨hb,?_⟩,by simp⟩; have hlt:=hwf b off hb; have hne:b≠g:=fun h=>hm off (h ▸ hb)
 have:(Sort.grow (putRow enc (Sort.ahead w q) g 0 dk) os).heap[b]?=w.heap[b]?:=by
  rw [heap_grow_old _ _ (by simpa using hlt)]; show (w.heap.modify g _)[b]?=_; rw [Array.getElem?_modify,if_neg (Ne.symm hne)]
 simp only [World.cell?,this]
end Go.Abs
namespace Go.Ft
open Go.Lib
end Go.Ft
namespace Go.Abs
variable [iw]
open Go Go.Proofs Go.Sort Go.Lib Go.Shelf
end Go.Abs
namespace Go.Abs
variable [iw]
open Go
section
variable {P : Program} {o : Oper} {ρ : Operand → PV} {σ : List bg} {R S : PV → List bg → Prop}
theorem QG (w:World) (t e:TypeId) (a:Option Addr) (l c:Nat) (h:P.underlying t=some (.slice e)):(binOp .eql t (.slice a l c) (.slice none 0 0)).run P w=.ok (.bool a.isNone) w:=by
 have h:∀ d:Nat,(Op.equalIn (d + 1) t (.slice a l c) (.slice none 0 0)).run P w=.ok a.isNone w:=fun d=>by
  cases a <;> simp [Op.equalIn,run_underlying h]
 simp only [binOp]; simp [Op.equal,Op.maxDepth,h 9999]
theorem AO.Co {t e yt:TypeId} {x:Operand} {l:List (List PV)} (ho:o.op=.binOp .eql t x (.const (.slice none 0 0)) yt) (hx:(ρ x).els=some l) (hu:P.underlying t=some (.slice e))
  (hR:∀ b:Bool,(b=true→l=[])→R (.bool b) σ):AO P o ρ σ R S:=by
 intro w m a K QC hr hc hK _; have hv:=hr x (by simp [ho,Op.operands]); obtain ⟨ad,cap,e1,e2,e3⟩:=hv.els hx; have hev:a.eval (.const (.slice none 0 0))=.slice none 0 0:=rfl
 have hrun:(execOp a.eval o).run P w=.ok (.value (.bool ad.isNone)) w:=by
  simp only [execOp,ho,hev,e1,Sem.run_bind]; rw [show eqGuard .eql t x (.const (.slice none 0 0)) (.slice ad l.length cap) (.slice none 0 0)=pure () from rfl]; simp only [Sem.run_pure,Result.andThen_ok,QG w t e ad l.length cap hu]
 unfold Oper.wp; rw [hrun]; refine hK (.bool ad.isNone) σ _ w m (hR _ fun h=>?_) (by simp only [dG]) hc (Trans.refl _ _ _); rcases e3 with rfl | ⟨bk,off,sz,rfl,_⟩
 · rfl
 · cases h
theorem AO.abx {x:Operand} {v:Value} {l:List (List PV)} (ho:o.op=.assign x) (hx:ρ x=.own v l) (hR:R (.val v) σ):AO P o ρ σ R S:=by
 refine AO.of_same hR fun w m ev hr _=>?_; have h1:=hr x (by simp [ho,Op.operands]); rw [hx] at h1; simp only [dG] at h1; exact ⟨ev x,by simp [execOp,ho],by simp only [dG]; exact h1.1⟩
end
theorem AW.ame {P:Program} {n:Nat} {c:Code} {env:Env} {σ:List bg} {ds:List Deferred} {Q:Post} (sz e:Nat) (h:AW P n c env (.buf (.slice none 0 0) 0 sz e [] :: σ) ds Q):AW P n c env σ ds Q:=by
 intro w m a QC hs ha
 have hc:Conc w m (.buf (.slice none 0 0) 0 sz e [] :: σ):=by
  refine ⟨fun r hr=>?_,by simpa [lX,bg.fp,Value.ownBlock] using hs.jD.apart,hs.jD.wf,hs.jD.uq⟩; rcases List.mem_cons.1 hr with rfl | hr
  · exact ⟨[],⟨by simp,.inl ⟨rfl,rfl⟩⟩,aZ.nil,fun b hb=>by cases hb⟩
  · exact hs.jD.each r hr
 exact h w m a QC ⟨hs.size,hs.ds,hs.env,hc⟩ (ha.step ⟨rfl,rfl,rfl,Nat.le_refl _,Le.refl _ _,fun b _ _=>⟨rfl,fun _ h=>h⟩,fun b hb=>.inl (by simpa [lX,bg.fp,Value.ownBlock] using hb),fun _=>Nat.le_refl _⟩)
theorem AR.freeze {P:Program} {k:Nat} {all:Array Oper} {lo:List Oper} {env:Env} {σ:List bg} {ds:List Deferred} {Q:Post} {v:Value} {n sz e:Nat} {cs:List PV} (t i:Nat) (l:List (List PV)) (ht:env.get t=.val v) (hi:σ[i]?=some (bg.buf v n sz e cs))
  (hl:l.flatten=cs) (hsz:∀ x∈l,x.length=sz) (hn:l.length=n) (h:AR P k all lo ((t,.own v l) :: env) (σ.set i (.row v n sz e)) ds Q):AR P k all lo env σ ds Q:=by
 intro w m a QC hs ha; obtain ⟨m',h1,h2,h3⟩:=hs.jD.freeze hi hl hsz hn; refine h w m' a QC ⟨hs.size,hs.ds,fun u=>?_,h2⟩ (ha.step h3); have hu:=hs.env u; simp only [Env.get]; cases hb:Nat.beq t u with
 | false=>exact dG.mono h3.le _ _ hu
 | true=>
  have:=Nat.eq_of_beq_eq_true hb; subst this; rw [ht] at hu; simp only [dG] at hu; rw [hu]; exact h1
end Go.Abs
namespace Go.Abs
variable [iw]
open Go
def CU :List Bool→List PV→List PV
 | true :: ms,c :: cs=>c.vN :: CU ms cs
 | false :: ms,c :: cs=>c :: CU ms cs
 | [],cs=>cs
 | _ :: _,[]=>[]
theorem aZ.CU {w:World} {m:jM}:∀ {ms:List Bool} {ps:List PV} {vs:List Value},aZ w m ps vs→aZ w m (Abs.CU ms ps) vs
 | [],_,_,h=>h
 | true :: ms,[],_,h=>h
 | false :: ms,[],_,h=>h
 | true :: ms,p :: ps,_,h=>by
  simp only [aZ] at h; obtain ⟨v,vs',rfl,h1,h2⟩:=h; exact aZ.cons h1.vN (aZ.CU h2)
 | false :: ms,p :: ps,_,h=>by
  simp only [aZ] at h; obtain ⟨v,vs',rfl,h1,h2⟩:=h; exact aZ.cons h1 (aZ.CU h2)
theorem Qn {w:World} {m:jM} {σ:List bg} {i b:Nat} {ms:List Bool} {cs:List PV} (hi:σ[i]?=some (.box b cs)) (hc:Conc w m σ):Conc w m (σ.set i (.box b (Abs.CU ms cs)))∧Trans w m σ w m (σ.set i (.box b (Abs.CU ms cs))):=by
 have hf:lX (σ.set i (.box b (Abs.CU ms cs)))=lX σ:=by
  clear hc
  induction σ generalizing i with
  | nil=>rfl
  | cons r σ ih=>
   cases i with
   | zero=>
    simp only [List.getElem?_cons_zero,Option.some.injEq] at hi; subst hi; simp [lX,bg.fp]
   | succ i=>
    simp only [List.getElem?_cons_succ] at hi; have:=ih hi; simp only [lX,List.set_cons_succ,List.flatMap_cons] at this ⊢; rw [this]
 refine ⟨⟨fun r hr=>?_,by rw [hf]; exact hc.apart,hc.wf,hc.uq⟩,⟨rfl,rfl,rfl,Nat.le_refl _,Le.refl _ _,fun _ _ _=>⟨rfl,fun _ h=>h⟩,fun x hx=>.inl (by rw [←hf]; exact hx),fun _=>Nat.le_refl _⟩⟩; rcases List.mem_or_eq_of_mem_set hr with h | h
 · exact hc.each r h
 ·
  subst h; obtain ⟨vs,ty,h1,h2,h3⟩:=hc.each _ (List.mem_of_getElem? hi); exact ⟨vs,ty,h1,h2.CU,h3⟩
section
variable {P : Program} {n : Nat} {env : Env} {σ : List bg} {ds : List Deferred} {Q : Post} {all : Array Oper} {l : List Oper}
theorem AR.CU (i:Nat) (ms:List Bool) {b:Nat} {cs:List PV} (hi:σ[i]?=some (.box b cs)) (h:AR P n all l env (σ.set i (.box b (Abs.CU ms cs))) ds Q):AR P n all l env σ ds Q:=by
 intro w m a QC hs ha; obtain ⟨k1,k2⟩:=Qn hi hs.jD; exact h w m a QC ⟨hs.size,hs.ds,hs.env,k1⟩ (ha.step k2)
theorem AW.CU {c:Code} (i:Nat) (ms:List Bool) {b:Nat} {cs:List PV} (hi:σ[i]?=some (.box b cs)) (h:AW P n c env (σ.set i (.box b (Abs.CU ms cs))) ds Q):AW P n c env σ ds Q:=by
 intro w m a QC hs ha; obtain ⟨k1,k2⟩:=Qn hi hs.jD; exact h w m a QC ⟨hs.size,hs.ds,hs.env,k1⟩ (ha.step k2)
end
end Go.Abs
namespace Go.Abs
variable [iw]
open Go
section
variable {P : Program} {n : Nat} {ds : List Deferred} {L : List Oper} {k : Nat}
theorem agC (hk:k≤L.length) (ho:aa1 L k k) {d:Nat→Nat} (hd:∀ i o,i < k→L[i]?=some o→o.dst=some (d i)∧d i < n) {σ:List bg} {Q:Post} {c:Nat} (hck:c < k)
  {QC:Exit→Act→World→Prop}:∀ (fuel:Nat) (listed:Array Bool) (a:Act) (w:World) (m:jM) (E:Env),listed.size=L.length→listed.toList.count false≤fuel→
   (∀ j,k≤j→j < L.length→listed.getD j true=false)→(∀ i o,L[i]?=some o→listed.getD i true=true→∀ j∈fC o,listed.getD j true=true)→listed.getD c true=false→
   (∀ i o,i < k→i≠c→L[i]?=some o→listed.getD i true=false→sS P L.toArray E σ o (E.get (d i)))→(∀ o,L[c]?=some o→o.guard=none∧AO P o E.ev σ (fun _ _=>False) (fun p σ'=>Q (.panic p) [] σ' ds))→
   qI w m n (hide (fun t=>(List.range k).any fun i=>!listed.getD i true && Nat.beq (d i) t) E) σ ds a→Acc n Q w m σ QC→wpAny P .any L.toArray QC fuel listed a w:=by
 have hidden:∀ (listed:Array Bool) (t:Nat),((List.range k).any fun i=>!listed.getD i true && Nat.beq (d i) t)=true↔∃ i,i < k∧listed.getD i true=false∧d i=t:=by
  intro listed t; rw [List.any_eq_true]; constructor
  ·
   rintro ⟨i,hi,h⟩; simp only [Bool.and_eq_true,Bool.not_eq_true'] at h; exact ⟨i,by simpa using hi,h.1,Nat.eq_of_beq_eq_true h.2⟩
  ·
   rintro ⟨i,hi,h1,h2⟩; exact ⟨i,by simpa using hi,by simp [h1,h2]⟩
 intro fuel
 induction fuel with
 | zero=>
  intro listed a w m E hsz hcnt hun FT hlc hfa hX hs ha; exfalso; have h0:listed.toList.count false=0:=by omega
  rw [List.count_eq_zero] at h0; apply h0; have hj':c < listed.size:=by omega
  have:listed[c]=false:=by simpa [Array.getD,hj'] using hlc
  rw [←this]; simp
 | succ fuel ih=>
  intro listed a w m E hsz hcnt hun FT hlc hfa hX hs ha
  have hex:∃ i,i < k∧listed.getD i true=false∧∀ j,j < i→listed.getD j true=true:=by
   have key:∀ q,(∀ j,j < q→j < k→listed.getD j true=true)∨∃ i,i < k∧listed.getD i true=false∧∀ j,j < i→listed.getD j true=true:=by
    intro q
    induction q with
    | zero=>exact .inl fun j hj=>by omega
    | succ q ihc=>
     rcases ihc with h | h
     ·
      by_cases hc:q < k∧listed.getD q true=false
      · exact .inr ⟨q,hc.1,hc.2,fun j hj=>h j hj (by omega)⟩
      ·
       refine .inl fun j hj hjk=>?_; by_cases e:j=q
       ·
        subst e; cases e:listed.getD j true with
        | true=>rfl
        | false=>exact absurd ⟨hjk,e⟩ hc
       · exact h j (by omega) hjk
     · exact .inr h
   rcases key k with h | h
   ·
    have:=h c hck hck; rw [hlc] at this; cases this
   · exact h
  have GU:∀ j b,j < L.length→listed.getD j b=listed.getD j true:=by
   intro j b hj; have:j < listed.size:=by omega
   simp [Array.getD,this]
  refine ⟨fun h0=>?_,fun i hi'=>?_⟩
  ·
   exfalso; obtain ⟨i,hik,hif,hlow⟩:=hex; have Im:i < L.length:=by omega
   have:i∈Region.ready .any L.toArray listed:=by
    refine mem_ready.2 ⟨by simpa using Im,hif,L[i],by simp [Im],fun e he hb=>?_⟩; have hj:=ho.before i _ (List.getElem?_eq_getElem Im) e.on (vC.2 ⟨e,he,hb,rfl⟩); rw [GU _ _ (by omega)]; exact hlow _ hj
   rw [h0] at this; cases this
  ·
   obtain ⟨h1,h2,o,h3,h4⟩:=mem_ready.1 hi'; have Im:i < L.length:=by simpa using h1
   have hoi:L[i]?=some o:=by simpa using h3
   have hpred:∀ j∈fC o,listed.getD j true=true:=by
    intro j hj; obtain ⟨e,he,hb,hon⟩:=vC.1 hj; have h5:=h4 e he hb; rw [hon,GU _ _ (by have:=ho.before i o hoi j hj; omega)] at h5; exact h5
   have hdn:∀ j∈zm L i,listed.getD j true=true:=by
    intro j hj; unfold zm at hj; rw [hoi] at hj; exact Cr (k:=i) (listed:=fun j=>listed.getD j true=true) (fun q oq _ hq hl=>FT q oq hq hl) i (fC o) (Nat.le_refl _) hpred j hj
   have hik:i < k:=by
    rcases Nat.lt_or_ge i k with h | h
    · exact h
    ·
     exfalso; obtain ⟨q,hqk,hqf,_⟩:=hex; rcases Nat.lt_or_ge k i with h' | h'
     ·
      obtain ⟨j,hj,hji⟩:=ho.tails i o h' hoi; have h6:=hpred j hj; rw [hun j (by omega) (by omega)] at h6; cases h6
     ·
      have hik:i=k:=by omega
      subst hik; have h6:=hdn q (ho.abl o hoi q hqk); rw [hqf] at h6; cases h6
   have hset:∀ j,(listed.setIfInBounds i true).getD j true=if i=j then true else listed.getD j true:=M5 (by omega)
   have hget:∀ t∈readsOf L o,(hide (fun t=>(List.range k).any fun i=>!listed.getD i true && Nat.beq (d i) t) E).get t=E.get t:=by
    intro t ht; rw [nQ,if_neg]; rw [hidden]; rintro ⟨j,hjk,hjf,hjt⟩; have hoj:L[j]?=some L[j]:=List.getElem?_eq_getElem (by omega); have hdj:=(hd j _ hjk hoj).1; rw [hjt] at hdj; by_cases e:i=j
    ·
     subst e; have e9:=Option.some.inj (hoi.symm.trans hoj); rw [←e9] at hdj; exact ho.self i o t hik hoi hdj ht
    ·
     have:=hpred j ((ho.apart i o j _ t hik hoi (by omega) hoj e hdj).2 ht).2; rw [hjf] at this; cases this
   by_cases hic:i=c
   ·
    subst hic; obtain ⟨hg,hao⟩:=hX o hoi; unfold wpOp; rw [h3]; simp only; rw [if_pos (by simp [Region.wanted,hg])]; left; refine hao w m a _ QC (fun x hx=>?_) hs.jD (fun p σ' v w' m' hf=>hf.elim) ?_
    ·
     have h9:=hs.env.ev x
     have:(hide (fun t=>(List.range k).any fun i=>!listed.getD i true && Nat.beq (d i) t) E).ev x=E.ev x:=Jt fun t ht=>hget t (by
      subst ht; unfold readsOf
      exact List.mem_append.2 (.inl (List.mem_filterMap.2 ⟨.tmp t,by simpa using hx,rfl⟩)))
     rw [this] at h9; exact h9
    ·
     rintro p σ' v w' m' hq hv hc htr; exact ha (.panic p) _ [] _ ds a w' m' hq ⟨v,rfl,hv⟩ ⟨hs.size,hs.ds,fun t=>by simp [Env.get,dG],hc⟩ htr
   ·
    have abK:(listed.setIfInBounds i true).toList.count false≤fuel:=by
     have hil:listed.toList[i]?=some false:=by
      have hi':i < listed.size:=by omega
      have:listed[i]=false:=by simpa [Array.getD,hi'] using h2
      simp [hi',this]
     have:=count_set hil; rw [Array.toList_setIfInBounds]; omega
    have hun':∀ j,k≤j→j < L.length→(listed.setIfInBounds i true).getD j true=false:=by
     intro j hkj hj; rw [hset,if_neg (by omega)]; exact hun j hkj hj
    have V7:∀ q oq,L[q]?=some oq→(listed.setIfInBounds i true).getD q true=true→∀ j∈fC oq,(listed.setIfInBounds i true).getD j true=true:=by
     intro q oq hoq hl j hj; rw [hset] at hl ⊢; by_cases e:i=j
     · simp [e]
     ·
      simp only [e,if_false]; by_cases e2:i=q
      ·
       subst e2; rw [hoi] at hoq; cases hoq; exact hpred j hj
      ·
       simp only [e2,if_false] at hl; exact FT q oq hoq hl j hj
    obtain ⟨hdo,akb⟩:=hd i o hik hoi; have hev:=hfa i o hik hic hoi h2; refine K3 (t:=d i) h3 hdo akb (sS.LA rfl hev hget) hs fun a' w' m' hs' Oa=>?_; refine ih _ a' w' m' E (by simpa using hsz) abK hun' V7 (by rw [hset,if_neg hic]; exact hlc) ?_ hX ?_ (ha.step Oa)
    ·
     intro q oq hq hqc hoq hl; rw [hset] at hl; by_cases e:i=q
     · simp [e] at hl
     ·
      simp only [e,if_false] at hl; exact hfa q oq hq hqc hoq hl
    ·
     refine hs'.congr fun t=>?_; rw [nQ]; split
     · exact .inl rfl
     ·
      rename_i hh; right; simp only [Env.get]; by_cases e:d i=t
      · subst e; simp
      ·
       rw [uP e,cond_false,nQ,if_neg]; intro hh'; apply hh; rw [hidden] at hh' ⊢; obtain ⟨j,h5,h6,h7⟩:=hh'; refine ⟨j,h5,?_,h7⟩; rw [hset,if_neg (fun hij=>e (by rw [hij]; exact h7))]; exact h6
theorem AW.abX {env:Env} {σ:List bg} {Q:Post} {id:Nat} (c k:Nat) (hm:P.follows .mixedOrders=true) (ho:Jb L k k=true) (hck:Nat.blt c k=true) (hk:Nat.ble k L.length=true)
  (h:Ev P n L.toArray σ env (L.take c) fun e1=>∃ o t,L[c]?=some o∧o.guard=none∧o.dst=some t∧Nat.blt t n=true∧AO P o e1.ev σ (fun _ _=>False) (fun p σ'=>Q (.panic p) [] σ' ds)∧Ev P n L.toArray σ ((t,.undef) :: e1) ((L.drop (c + 1)).take (k - (c + 1))) fun _=>True):
  AW P n (.region id L.toArray true) env σ ds Q:=by
 intro w m a QC hs ha; have hck:c < k:=nE.1 hck; have hk:k≤L.length:=Nat.le_of_ble_eq_true hk; have ho:=J8 (Nat.le_refl k) ho; obtain ⟨d1,p1,f1,oc,tc,g1,g2,g3,g3',g4,g5⟩:=Ev.facts h; rw [List.length_take,Nat.min_eq_left (by omega)] at g4 g5; obtain ⟨d2,p2,f2,_⟩:=Ev.facts g5; let d:Nat→Nat:=fun i=>if i < c then d1 i else if i=c then tc else d2 (i - (c + 1)); let p:Nat→PV:=fun i=>if i < c then p1 i else if i=c then .undef else p2 (i - (c + 1))
 have e1:∀ j,j≤c→lS (fun _=>true) d p env j=lS (fun _=>true) d1 p1 env j:=by
  intro j
  induction j with
  | zero=>intro _; rfl
  | succ j ih=>intro hj; simp only [lS,if_true]; rw [ih (by omega)]; simp only [d,p]; rw [if_pos (by omega),if_pos (by omega)]
 have e2:∀ j,lS (fun _=>true) d p env (c + 1 + j)=lS (fun _=>true) d2 p2 ((tc,.undef) :: lS (fun _=>true) d1 p1 env c) j:=by
  intro j
  induction j with
  | zero=>simp only [Nat.add_zero,lS,if_true]; rw [e1 c (Nat.le_refl _)]; simp only [d,p,Nat.lt_irrefl,if_false,if_true]
  | succ j ih=>
   rw [←Nat.add_assoc]; simp only [lS,if_true]; rw [ih]; simp only [d,p]; rw [if_neg (by omega),if_neg (by omega),if_neg (by omega),if_neg (by omega),Nat.add_sub_cancel_left]
 have afr:∀ i o,i < k→i≠c→L[i]?=some o→o.dst=some (d i)∧d i < n∧sS P L.toArray (lS (fun _=>true) d p env i) σ o (p i):=by
  intro i o hi hic hoi; rcases Nat.lt_or_ge i c with hlt | hge
  ·
   have:=f1 i o (by rw [List.getElem?_take_of_lt hlt]; exact hoi); rw [e1 i (by omega)]; simp only [d,p,if_pos hlt]; exact this
  ·
   obtain ⟨j,rfl⟩:∃ j,i=c + 1 + j:=⟨i - (c + 1),by omega⟩; have:=f2 j o (by rw [List.getElem?_take_of_lt (by omega),List.getElem?_drop]; exact hoi); rw [e2 j]; simp only [d,p,if_neg (show ¬ c + 1 + j < c by omega),if_neg (show ¬ c + 1 + j=c by omega),Nat.add_sub_cancel_left]; exact this
 have hd:∀ i o,i < k→L[i]?=some o→o.dst=some (d i)∧d i < n:=by
  intro i o hi hoi; by_cases hic:i=c
  ·
   subst hic; have:=Option.some.inj (g1.symm.trans hoi); subst this; simp only [d,Nat.lt_irrefl,if_false,if_true]; exact ⟨g3,nE.1 g3'⟩
  ·
   have:=afr i o hi hic hoi; exact ⟨this.1,this.2.1⟩
 have hother:∀ i o t,i < k→L[i]?=some o→(o.dst=some t∨t∈readsOf L o)→∀ j,(i≤j∧t∈readsOf L o∨i + 1≤j)→j < k→d j≠t:=by
  intro i o t hi hoi ht j hj hjk hdj; have hoj:L[j]?=some L[j]:=List.getElem?_eq_getElem (by omega); have e1:=(hd j _ hjk hoj).1; rw [hdj] at e1; by_cases e:i=j
  ·
   subst e; have e9:=Option.some.inj (hoi.symm.trans hoj); rw [←e9] at e1; rcases hj with ⟨_,hj⟩ | hj
   · exact ho.self i o t hi hoi e1 hj
   · omega
  ·
   obtain ⟨e2,e3⟩:=ho.apart i o j _ t hi hoi (by omega) hoj e e1; rcases ht with ht | ht
   · exact e2 ht
   ·
    have:=ho.before i o hoi j (e3 ht).2; omega
 have tq:Trans w m σ {w with drawn:=w.drawn + 1} m σ:=⟨rfl,rfl,rfl,Nat.le_refl _,fun _ _ h=>⟨h,rfl⟩,fun _ _ _=>⟨rfl,fun _ h=>h⟩,fun _ h=>.inl h,fun _=>Nat.le_succ _⟩; have hc':Conc {w with drawn:=w.drawn + 1} m σ:=⟨fun r hr=>bg.qC (hs.jD.each r hr) tq.le fun _ _=>⟨rfl,fun _ h=>h⟩,hs.jD.apart,hs.jD.wf,iw.mono tq.le hs.jD.uq⟩; refine wp_region_any hm ?_; refine agC (ds:=ds) (d:=d) (σ:=σ) (Q:=Q) hk ho hd hck _ _ a _ m (lS (fun _=>true) d p env k) (by simp) ?_ ?_ ?_ ?_ ?_ ?_ ?_ (ha.step tq)
 · simp
 ·
  intro j _ hj; simp [Array.getD,hj]
 ·
  intro i o hoi hl
  have Im:i < L.length:=by
   rcases Nat.lt_or_ge i L.length with h | h
   · exact h
   · simp [List.getElem?_eq_none h] at hoi
  simp [Array.getD,Im] at hl
 ·
  have:c < L.length:=by omega
  simp [Array.getD,this]
 ·
  intro i o hi hic hoi _; obtain ⟨q1,q2,q3⟩:=afr i o hi hic hoi
  have aaA:(lS (fun _=>true) d p env k).get (d i)=p i:=by
   rw [eY (i:=i + 1) (by omega) fun j h4 h5 _=>hother i o (d i) hi hoi (.inl q1) j (.inr h4) h5]; simp [lS,Env.get]
  rw [aaA]; refine sS.LA rfl q3 fun t ht=>?_; exact eY (by omega) fun j h4 h5 _=>hother i o t hi hoi (.inr ht) j (.inl ⟨h4,ht⟩) h5
 ·
  intro o hoi; have:=Option.some.inj (g1.symm.trans hoi); subst this; refine ⟨g2,AO.congr g4 fun x hx=>Jt fun t ht=>?_⟩
  have hr:t∈readsOf L oc:=by
   subst ht; unfold readsOf; exact List.mem_append.2 (.inl (List.mem_filterMap.2 ⟨.tmp t,by simpa using hx,rfl⟩))
  rw [eY (i:=c) (by omega) fun j h4 h5 _=>hother c oc t hck g1 (.inr hr) j (.inl ⟨h4,hr⟩) h5,e1 c (Nat.le_refl _)]
 ·
  refine ⟨hs.size,hs.ds,fun t=>?_,hc'⟩; rw [nQ]; split
  · simp [dG]
  ·
   rename_i hh; rw [eY (i:=0) (Nat.zero_le _)]
   · exact hs.env.mono tq.le t
   ·
    intro j _ hj _ hdj; apply hh; rw [List.any_eq_true]; have hjL:j < L.length:=by omega
    exact ⟨j,by simpa using hj,by simp [Array.getD,hjL,hdj]⟩
end
end Go.Abs
namespace Go.Abs
variable [iw]
open Go
theorem aae {n:Nat} (a b:Int):BitVec.ofInt n (a - b)=BitVec.ofInt n a - BitVec.ofInt n b:=by
 rw [Int.sub_eq_add_neg,QY,BitVec.ofInt_neg,BitVec.sub_eq_add_neg]
theorem ad6 {n:Nat} (a:BitVec n) (s:Nat):a >>> (min s n)=a >>> s:=by
 rcases Nat.le_total s n with h | h
 · rw [Nat.min_eq_left h]
 ·
  rw [Nat.min_eq_right h]; apply BitVec.eq_of_toNat_eq; rw [BitVec.toNat_ushiftRight,BitVec.toNat_ushiftRight,Nat.shiftRight_eq_div_pow,Nat.shiftRight_eq_div_pow]; have h1:a.toNat < 2 ^ n:=a.isLt; have h2:a.toNat < 2 ^ s:=Nat.lt_of_lt_of_le h1 (Nat.pow_le_pow_right (by omega) h); rw [Nat.div_eq_of_lt h1,Nat.div_eq_of_lt h2]
theorem ad7 {n:Nat} (a:BitVec n) (s:Nat):a <<< (min s n)=a <<< s:=by
 rcases Nat.le_total s n with h | h
 · rw [Nat.min_eq_left h]
 ·
  rw [Nat.min_eq_right h]; rw [BitVec.shiftLeft_eq_zero (Nat.le_refl n),BitVec.shiftLeft_eq_zero h]
section
variable {P : Program} {o : Oper} {ρ : Operand → PV} {σ : List bg} {R S : PV → List bg → Prop}
theorem AO.akm {src dst:TypeId} {x:Operand} {d:TypeDesc} {k k':IntKind} {n r:Int} (ho:o.op=.convert src dst x) (hs:P.underlying src=some d) (hd:P.underlying dst=some (.int k')) (hx:ρ x=.int k n) (hr:k'.wrap n=r)
  (hR:R (.int k' r) σ):AO P o ρ σ R S:=AO.Jz ho hs hd hx (by rw [hr]; exact hR)
theorem AO.PW {t u:TypeId} {x y:Operand} {p q:Int} (a b:BitVec 64) (ho:o.op=.binOp .add t x y u) (hx:ρ x=.int .u64 p) (hy:ρ y=.int .u64 q) (ha:p=(a.toNat:Int)) (hb:q=(b.toNat:Int))
  (hR:R (.int .u64 ((a + b).toNat:Int)) σ):AO P o ρ σ R S:=by
 refine AO.U_ (p:=.int .u64 (IntKind.u64.wrap (p + q))) (by simp only [pev,ho,hx,hy]; rfl) ?_ hR; rw [ZK,ha,hb,QY,lJ,lJ]
theorem AO.abf {t u:TypeId} {x y:Operand} {p q:Int} (a b:BitVec 64) (ho:o.op=.binOp .mul t x y u) (hx:ρ x=.int .u64 p) (hy:ρ y=.int .u64 q) (ha:p=(a.toNat:Int)) (hb:q=(b.toNat:Int))
  (hR:R (.int .u64 ((a * b).toNat:Int)) σ):AO P o ρ σ R S:=by
 refine AO.U_ (p:=.int .u64 (IntKind.u64.wrap (p * q))) (by simp only [pev,ho,hx,hy]; rfl) ?_ hR; rw [ZK,ha,hb,QX,lJ,lJ]
theorem AO.u64_and {t u:TypeId} {x y:Operand} {p q:Int} (a b:BitVec 64) (ho:o.op=.binOp .and t x y u) (hx:ρ x=.int .u64 p) (hy:ρ y=.int .u64 q) (ha:p=(a.toNat:Int)) (hb:q=(b.toNat:Int))
  (hR:R (.int .u64 ((a &&& b).toNat:Int)) σ):AO P o ρ σ R S:=by
 refine AO.U_ (p:=.int .u64 (IntKind.u64.wrap (BitVec.ofInt IntKind.u64.bits p &&& BitVec.ofInt IntKind.u64.bits q).toNat)) (by simp only [pev,ho,hx,hy]; rfl) ?_ hR; rw [ah2,ha,hb,lJ,lJ]
theorem AO.u64_or {t u:TypeId} {x y:Operand} {p q:Int} (a b:BitVec 64) (ho:o.op=.binOp .or t x y u) (hx:ρ x=.int .u64 p) (hy:ρ y=.int .u64 q) (ha:p=(a.toNat:Int)) (hb:q=(b.toNat:Int))
  (hR:R (.int .u64 ((a ||| b).toNat:Int)) σ):AO P o ρ σ R S:=by
 refine AO.U_ (p:=.int .u64 (IntKind.u64.wrap (BitVec.ofInt IntKind.u64.bits p ||| BitVec.ofInt IntKind.u64.bits q).toNat)) (by simp only [pev,ho,hx,hy]; rfl) ?_ hR; rw [ajV,ha,hb,lJ,lJ]
theorem AO.Mh {t u:TypeId} {x y:Operand} {yk:IntKind} {p q:Int} (a:BitVec 64) (s:Nat) (ho:o.op=.binOp .shr t x y u) (hx:ρ x=.int .u64 p) (hy:ρ y=.int yk q) (ha:p=(a.toNat:Int)) (hq:q=(s:Int)) (hR:R (.int .u64 ((a >>> s).toNat:Int)) σ):AO P o ρ σ R S:=by
 subst ha hq; refine AO.shr ho hx hy (by omega) ?_; rw [afB,Int.toNat_natCast,show IntKind.u64.bits=64 from rfl,ad6]; exact hR
theorem AO.agH {t u:TypeId} {x y:Operand} {yk:IntKind} {p q:Int} (a:BitVec 64) (s:Nat) (ho:o.op=.binOp .shl t x y u) (hx:ρ x=.int .u64 p) (hy:ρ y=.int yk q) (ha:p=(a.toNat:Int)) (hq:q=(s:Int)) (hR:R (.int .u64 ((a <<< s).toNat:Int)) σ):AO P o ρ σ R S:=by
 subst ha hq; refine AO.shl ho hx hy (by omega) ?_; rw [ZK,Int.toNat_natCast,show IntKind.u64.bits=64 from rfl,acV,lJ,ad7]; exact hR
theorem AO.u64_neg {t:TypeId} {x:Operand} {p:Int} (a:BitVec 64) (ho:o.op=.unOp .neg t x) (hx:ρ x=.int .u64 p) (ha:p=(a.toNat:Int)) (hR:R (.int .u64 ((-a).toNat:Int)) σ):AO P o ρ σ R S:=by
 refine AO.U_ (p:=.int .u64 (IntKind.u64.wrap (0 - p))) (by simp only [pev,ho,hx]; rfl) ?_ hR; rw [ZK,ha,aae,lJ]
 try simp
theorem AO.aec {src dst:TypeId} {x:Operand} {d:TypeDesc} {k:IntKind} {n:Int} (ho:o.op=.convert src dst x) (hs:P.underlying src=some d) (hd:P.underlying dst=some (.int .u64)) (hx:ρ x=.int k n)
  (hR:R (.int .u64 ((BitVec.ofInt 64 n).toNat:Int)) σ):AO P o ρ σ R S:=AO.akm ho hs hd hx (ZK n) hR
theorem AO.ad9 {t u:TypeId} {x y:Operand} {p q:Int} (a b:BitVec 64) {v:BitVec 64} (hv:some (a + b)=some v) (ho:o.op=.binOp .add t x y u) (hx:ρ x=.int .u64 p) (hy:ρ y=.int .u64 q) (ha:p=(a.toNat:Int)) (hb:q=(b.toNat:Int)) (hR:R (.int .u64 (v.toNat:Int)) σ):AO P o ρ σ R S:=AO.PW a b ho hx hy ha hb (by cases hv; exact hR)
theorem AO.Qw {t u:TypeId} {x y:Operand} {p q:Int} (a b:BitVec 64) {v:BitVec 64} (hv:some (a * b)=some v) (ho:o.op=.binOp .mul t x y u) (hx:ρ x=.int .u64 p) (hy:ρ y=.int .u64 q) (ha:p=(a.toNat:Int)) (hb:q=(b.toNat:Int)) (hR:R (.int .u64 (v.toNat:Int)) σ):AO P o ρ σ R S:=AO.abf a b ho hx hy ha hb (by cases hv; exact hR)
theorem AO.ad8 {t u:TypeId} {x y:Operand} {p q:Int} (a b:BitVec 64) {v:BitVec 64} (hv:some (a &&& b)=some v) (ho:o.op=.binOp .and t x y u) (hx:ρ x=.int .u64 p) (hy:ρ y=.int .u64 q) (ha:p=(a.toNat:Int)) (hb:q=(b.toNat:Int)) (hR:R (.int .u64 (v.toNat:Int)) σ):AO P o ρ σ R S:=AO.u64_and a b ho hx hy ha hb (by cases hv; exact hR)
theorem AO.agI {t u:TypeId} {x y:Operand} {p q:Int} (a b:BitVec 64) {v:BitVec 64} (hv:some (a ||| b)=some v) (ho:o.op=.binOp .or t x y u) (hx:ρ x=.int .u64 p) (hy:ρ y=.int .u64 q) (ha:p=(a.toNat:Int)) (hb:q=(b.toNat:Int)) (hR:R (.int .u64 (v.toNat:Int)) σ):AO P o ρ σ R S:=AO.u64_or a b ho hx hy ha hb (by cases hv; exact hR)
theorem AO.afc {t u:TypeId} {x y:Operand} {e n:Nat} {k:IntKind} {cs ds:List PV} (EM bs:List Int) (ho:o.op=.binOp .neq t x y u) (hu:P.underlying t=some (.array n e)) (he:P.underlying e=some (.int k)) (hce:P.cellsOf e=1) (hct:P.cellsOf t=n) (hg:P.eqGuardType P.depth t=false)
  (hx:ρ x=.agg cs) (hy:ρ y=.agg ds) (hcs:cs=EM.map (PV.int k)) (hds:ds=bs.map (PV.int k)) (hn:EM.length=n) (hn':bs.length=n) (hw:∀ a∈EM,(Lit.int k a).wf=true) (hw':∀ a∈bs,(Lit.int k a).wf=true)
  (hR:R (.bool (!decide (EM=bs))) σ):AO P o ρ σ R S:=by
 subst hcs hds; refine AO.of_same hR fun w m ev hr _=>?_; have h1:=hr x (by simp [ho,Op.operands]); have h2:=hr y (by simp [ho,Op.operands]); rw [hx] at h1; rw [hy] at h2; simp only [dG] at h1 h2; obtain ⟨vs,e1,r1⟩:=h1; obtain ⟨us,e2,r2⟩:=h2
 have hval:∀ (EM:List Int) (vs:List Value),aZ w m (EM.map (PV.int k)) vs→vs=EM.map (Value.int k):=by
  intro EM
  induction EM with
  | nil=>intro vs h; simpa [aZ] using h
  | cons a EM ih=>
   intro vs h; simp only [List.map_cons,aZ,dG] at h; obtain ⟨v,vs',rfl,rfl,h⟩:=h; rw [ih vs' h]; rfl
 obtain rfl:=hval EM vs r1; obtain rfl:=hval bs us r2; have hk:P.keyTypeAt 2 t=true:=by simp [Program.keyTypeAt,hu,he]
 have form:∀ EM:List Int,EM.length=n→(Value.agg (EM.map (Value.int k)).toArray).formed P t=true:=by
  intro EM h; simp [Value.formed,hu,h,hct]
 obtain ⟨r,hr',hiff⟩:=run_equalIn_deep 9998 2 t hk w 2 2 (.agg (EM.map (Value.int k)).toArray) (.agg (bs.map (Value.int k)).toArray) _ _ (form EM hn) (form bs hn')
  (by simpa [Value.cells] using MV hu he hce hct hn hw) (by simpa [Value.cells] using MV hu he hce hct hn' hw')
 have hb:r=decide (EM=bs):=by
  have hinj:(EM.map (Lit.int k)=bs.map (Lit.int k))↔EM=bs:=by
   constructor
   ·
    intro h; have:=congrArg (List.map fun x:Lit=>match x with | .int _ a=>a | _=>0) h
    simpa [Function.comp_def] using this
   · intro h; rw [h]
  rw [hinj] at hiff; cases r with
  | true=>simp [hiff.1 rfl]
  | false=>symm; simp only [decide_eq_false_iff_not]; intro h; exact absurd (hiff.2 h) (by simp)
 refine ⟨.bool (!decide (EM=bs)),?_,by simp only [dG]⟩; have e3:binOp .neq t (.agg (EM.map (Value.int k)).toArray) (.agg (bs.map (Value.int k)).toArray)=(do pure (.bool (!(←Op.equal t (.agg (EM.map (Value.int k)).toArray) (.agg (bs.map (Value.int k)).toArray))))):=rfl; have e4:(Op.equal t (.agg (EM.map (Value.int k)).toArray) (.agg (bs.map (Value.int k)).toArray)).run P w=.ok r w:=hr'; simp only [execOp,ho,e1,e2,e3,Sem.run_bind,Sem.run_pure]; simp [eqGuard,hg,e4,hb]
theorem AO.uo {t n sz:Nat} {x i:Operand} {k:IntKind} {cs cs':List PV} (j:Nat) (ho:o.op=.indexAddr t x i) (ha:Aw P t=some (n,sz)) (hx:ρ x=.ref cs) (hi:ρ i=.int k (j:Int)) (h1:j < n) (hd:Dx (j * sz) cs=some cs')
  (hR:R (.ref cs') σ):AO P o ρ σ R S:=by
 obtain ⟨e1,e2⟩:=Dw hd; exact AO.Tp ho ha hx hi (by omega) (by simpa using h1) (by simpa using e2) (by simpa [←e1] using hR)
theorem aa8 (l:List (BitVec 64)):∀ a∈l.map fun c:BitVec 64=>(c.toNat:Int),(Lit.int .u64 a).wf=true:=by
 intro a ha; obtain ⟨c,_,rfl⟩:=List.mem_map.1 ha; have:=c.isLt; simp [Lit.wf,IntKind.min,IntKind.max,IntKind.signed,IntKind.bits]; omega
end
end Go.Abs
namespace Go.Abs
variable [iw]
open Go
theorem AO.amd {P:Program} {o:Oper} {ρ:Operand→PV} {σ:List bg} {R S:PV→List bg→Prop} {c:Call} {f:FuncId} {caps:List PV}
  (ho:o.op=.call c) (R4:Operand) (lW:c.callee=.value R4) (hf:ρ R4=.fn f caps) (hp:aV P f=true)
  (h:AC P f (c.args.toList.map ρ ++ caps) σ fun out σ'=>match out with | .ret p=>R p σ' | .panic p=>S p σ'):AO P o ρ σ R S:=by
 intro w m a K QC hr hc hK hS; have hcr:=hr R4 (by simp [ho,Op.operands,Call.operands,lW]); rw [hf] at hcr; simp only [dG] at hcr; obtain ⟨cs,hcv,hcs⟩:=hcr; have hargs:aZ w m (c.args.toList.map ρ) (c.args.toList.map a.eval):=aZ.map fun x hx=>hr x (by simp [ho,Op.operands,Call.operands,lW]; exact .inr (by simpa using hx))
 have hrun:(execOp a.eval o).run P w=.ok (.enter f (c.args.toList.map a.eval ++ cs).toArray) w:=by
  unfold execOp; simp only [ho,resolve,lW,hcv,Deferred.ofValue,invoke,Sem.run_bind,Sem.run_pure,Result.andThen_ok]; rw [yC hp]; congr 2; apply Array.ext'; simp
 unfold Oper.wp; rw [hrun,Oper.upon_enter]; refine (h w m _ hc (hargs.append hcs)).mono ?_; rintro e w' ⟨out,σ',m',h1,h2,h3,h4⟩; cases out with
 | ret p=>
  obtain ⟨v,rfl,hv⟩:=h2; exact hK p σ' v w' m' h1 hv h3 h4
 | panic p=>
  obtain ⟨v,rfl,hv⟩:=h2; exact hS p σ' v w' m' h1 hv h3 h4
def akG (P:Program) (rs:List ResultVar) (R:eD→List bg→Prop):Post
 | .normal,e,s,d | .ret,e,s,d=>d=[]∧∃ ps,G8 P e s rs ps∧∃ s',s'.Sublist s∧R (.ret (l9 ps)) s'
 | .panic p,_,s,d=>d=[]∧∃ s',s'.Sublist s∧R (.panic p) s'
 | _,_,_,_=>False
theorem AC.ae8 {P:Program} {f:FuncId} {fn:Func} {c:Code} {args:List PV} {σ:List bg} {R:eD→List bg→Prop} (n:Nat) (rs:List ResultVar) (ts:List Nat) {env:Env}
  (hf:P.funcs[f]?=some fn) (hb:fn.body=some c) (hn:fn.ntmps=n) (hl:Nat.ble args.length n=true) (hrs:fn.results.toList=rs) (Ob:settle ts (BQ 0 args)=some env)
  (h:AW P n c env σ [] (akG P rs R)):AC P f args σ R:=by
 intro w m vs hc hv; have hl:args.length≤n:=Nat.le_of_ble_eq_true hl; have hvl:=hv.length_eq; refine calls_of_wp hf hb ?_; refine h w m _ _ ⟨?_,rfl,?_,hc⟩ ?_
 · simp [hvl,hn]; omega
 ·
  have:=CG (List.replicate (fn.ntmps - vs.toArray.size) Go.undef) [] hv; rw [show vs.toArray ++ Array.replicate (fn.ntmps - vs.toArray.size) Go.undef=([] ++ vs ++ List.replicate (fn.ntmps - vs.toArray.size) Go.undef).toArray from by simp]; exact D8.settle Ob this
 ·
  intro x ex env' σ' ds' a' w' m' hq hx hs ht
  have hend:∀ ps s',ds'=[]→G8 P env' σ' rs ps→s'.Sublist σ'→R (.ret (l9 ps)) s'→a'.defers=[]∧∃ v,(results fn a'.tmps).run P w'=.ok v w'∧∃ out σ' m',R out σ'∧G9 w' m' out (.returned v)∧Conc w' m' σ'∧Trans w m σ w' m' σ':=by
   intro ps s' hd h1 hsub h2; obtain ⟨us,k1,k2⟩:=Ed hs.env hs.jD h1; have hl2:=k2.length_eq; refine ⟨by rw [hs.ds,hd],?_⟩
   have hrun:(results fn a'.tmps).run P w'=.ok (if h:us.toArray.size=1 then us.toArray[0] else .tuple us.toArray) w':=by
    unfold results; rw [Array.mapM_eq_mapM_toList,hrs]; have k1':=k1; simp only [Sem.run_bind,Sem.run_map]
    erw [k1']
    rfl
   have hl2:us.length=ps.length:=hl2; refine ⟨_,hrun,.ret (l9 ps),s',m',h2,⟨_,rfl,?_⟩,hs.jD.sub hsub,ht.sub hsub⟩; clear h1 h2
   match ps,us,k2,hl2 with
   | [],us,k2,hl2=>
    simp only [aZ] at k2; subst k2; simp only [l9,dG]; exact ⟨[],by simp,aZ.nil⟩
   | [p],us,k2,hl2=>
    simp only [aZ] at k2; obtain ⟨v,vs',rfl,h3,rfl⟩:=k2; simpa [l9] using h3
   | p :: q :: ps,us,k2,hl2=>
    rw [dif_neg (by simp [hl2])]; simp only [l9,dG]; exact ⟨us,rfl,k2⟩
  cases x with
  | normal=>cases hx; obtain ⟨hd,ps,h1,s',hsub,h2⟩:=hq; exact hend ps s' hd h1 hsub h2
  | ret=>cases hx; obtain ⟨hd,ps,h1,s',hsub,h2⟩:=hq; exact hend ps s' hd h1 hsub h2
  | exit id=>exact hq.elim
  | panic p=>
   obtain ⟨v,rfl,hv'⟩:=hx; obtain ⟨hd,s',hsub,h2⟩:=hq; exact ⟨by rw [hs.ds,hd],.panic p,s',m',h2,⟨v,rfl,hv'⟩,hs.jD.sub hsub,ht.sub hsub⟩
end Go.Abs
namespace Go.Abs
variable [iw]
open Go
theorem U4 :∀ {σ σ':List bg} {i:Nat},Lx σ i=some σ'→σ'=σ.eraseIdx i
 | [],_,_,h=>by cases h
 | r :: σ,_,0,h=>by simp only [Lx,Option.some.injEq] at h; subst h; rfl
 | r :: σ,σ',i + 1,h=>by
  simp only [Lx] at h; split at h
  ·
   rename_i t ht; simp only [Option.some.injEq] at h; subst h; rw [U4 ht]; rfl
  · cases h
theorem Conc.abh {w:World} {m:jM} {σ:List bg} {i b:Nat} {cs cs':List PV} (hc:Conc w m σ) (hi:σ[i]?=some (.box b cs)) (hwk:Iw cs=some cs'):
  ∃ m',dG w m' (.ref cs') (.pointer (some ⟨b,0,none⟩))∧Conc w m' (σ.eraseIdx i)∧Trans w m σ w m' (σ.eraseIdx i):=by
 have hcs:=Md hwk; subst hcs; obtain ⟨p1,_⟩:=Bb hi (.box b cs); have hc1:=hc.perm p1; obtain ⟨vs,ty,h1,h2,h3⟩:=hc.each _ (List.mem_of_getElem? hi); have hle:Le w m w (fun c off=>m c off∨(c=b∧off < vs.length)):=fun c off h=>⟨.inl h,rfl⟩
 have hbs:b < w.heap.size:=by
  rcases Nat.lt_or_ge b w.heap.size with h | h
  · exact h
  · rw [Array.getElem?_eq_none h] at h1; cases h1
 have hap:=hc1.apart; rw [w9,List.nodup_append] at hap; have hb:b∉lX (σ.eraseIdx i):=fun h=>hap.2.2 b (by simp [lX,bg.fp]) b h rfl; refine ⟨fun c off=>m c off∨(c=b∧off < vs.length),?_,⟨fun r hr=>?_,hap.2.1,fun c off h=>?_,iw.mono hle hc.uq⟩,⟨rfl,rfl,rfl,Nat.le_refl _,hle,fun c hcl hn=>⟨rfl,fun off h=>?_⟩,fun c hcf=>?_,fun _=>Nat.le_refl _⟩⟩
 ·
  simp only [dG]; refine ⟨b,0,rfl,oH.2 ⟨vs,(aZ.mono hle _ _ h2).vN,fun j v hj=>⟨.inr ⟨rfl,?_⟩,?_⟩⟩⟩
  ·
   rw [Nat.zero_add]; rcases Nat.lt_or_ge j vs.length with h | h
   · exact h
   · rw [List.getElem?_eq_none h] at hj; cases hj
  ·
   rw [cell_of_row w b (0 + j) vs.toArray ty (0,0) h1]; simpa using hj
 ·
  refine bg.qC (hc1.right.each r hr) hle fun c hcf=>⟨rfl,fun off h=>?_⟩; rcases h with h | ⟨h,_⟩
  · exact h
  ·
   subst h; exact absurd (by simp only [lX,List.mem_flatMap]; exact ⟨r,hr,hcf⟩) hb
 ·
  rcases h with h | ⟨rfl,_⟩
  · exact hc.wf c off h
  · exact hbs
 ·
  rcases h with h | ⟨rfl,_⟩
  · exact h
  · exact absurd (by simp only [lX,List.mem_flatMap]; exact ⟨_,List.mem_of_getElem? hi,by simp [bg.fp]⟩) hn
 ·
  left; exact abN (List.eraseIdx_sublist σ i) c hcf
section
variable {P : Program} {n : Nat} {all : Array Oper} {l : List Oper} {env : Env} {σ : List bg} {ds : List Deferred} {Q : Post} {c : Code}
theorem Uw {w:World} {m:jM} {a:Act} {t i b:Nat} {cs cs':List PV} {σ':List bg} (ht:env.get t=.val (.pointer (some ⟨b,0,none⟩))) (hi:σ[i]?=some (.box b cs)) (hwk:Iw cs=some cs') (he:Lx σ i=some σ')
  (hs:qI w m n env σ ds a):∃ m',qI w m' n ((t,.ref cs') :: env) σ' ds a∧Trans w m σ w m' σ':=by
 obtain ⟨m',h1,h2,h3⟩:=hs.jD.abh hi hwk; rw [←U4 he] at h2 h3; refine ⟨m',⟨hs.size,hs.ds,fun u=>?_,h2⟩,h3⟩; have hu:=hs.env u; simp only [Env.get]; cases hb:Nat.beq t u with
 | false=>exact dG.mono h3.le _ _ hu
 | true=>
  have:=Nat.eq_of_beq_eq_true hb; subst this; rw [ht] at hu; simp only [dG] at hu; rw [hu]; exact h1
theorem AR.abh (t i:Nat) {b:Nat} {cs cs':List PV} {σ':List bg} (ht:env.get t=.val (.pointer (some ⟨b,0,none⟩))) (hi:σ[i]?=some (.box b cs)) (hwk:Iw cs=some cs') (he:Lx σ i=some σ')
  (h:AR P n all l ((t,.ref cs') :: env) σ' ds Q):AR P n all l env σ ds Q:=by
 intro w m a QC hs ha; obtain ⟨m',k1,k2⟩:=Uw ht hi hwk he hs; exact h w m' a QC k1 (ha.step k2)
theorem AW.abh (t i:Nat) {b:Nat} {cs cs':List PV} {σ':List bg} (ht:env.get t=.val (.pointer (some ⟨b,0,none⟩))) (hi:σ[i]?=some (.box b cs)) (hwk:Iw cs=some cs') (he:Lx σ i=some σ')
  (h:AW P n c ((t,.ref cs') :: env) σ' ds Q):AW P n c env σ ds Q:=by
 intro w m a QC hs ha; obtain ⟨m',k1,k2⟩:=Uw ht hi hwk he hs; exact h w m' a QC k1 (ha.step k2)
end
end Go.Abs
namespace Go.Abs
variable [iw]
open Go Go.Proofs Go.Sort Go.Lib Go.Shelf
theorem af2 {w:World} {m:jM} {g n cap sz:Nat} {e:TypeId} {cs cs':List PV} {cur:Array Value} {fz:Nat × Nat} (dk:Array Value) (q:Nat) (os:Array Obj) {vs':List Value}
  (hc:Conc w m [.buf (.slice (some ⟨g,0,none⟩) n cap) n sz e cs]) (hg:w.heap[g]?=some (.cells cur e fz)) (hfz:fz.1=fz.2∨cur.size≤fz.1) (hn:n≤cap) (hcap:cap≤maxLen) (hcur:cur.size=cap * sz)
  (hm:∀ off,¬ m g off) (hlen:vs'.length=n * sz) (hput:(Go.Sort.putCells id 0 dk cur).toList.take (n * sz)=vs') (hrep:aZ w m cs' vs'):
  let w':=Sort.grow (putRow id (Sort.ahead w q) g 0 dk) os
  Conc w' m [.buf (.slice (some ⟨g,0,none⟩) n cap) n sz e cs']∧Trans w m [.buf (.slice (some ⟨g,0,none⟩) n cap) n sz e cs] w' m [.buf (.slice (some ⟨g,0,none⟩) n cap) n sz e cs']:=by
 intro w'
 have hgs:g < w.heap.size:=by
  rcases Nat.lt_or_ge g w.heap.size with h | h
  · exact h
  · rw [Array.getElem?_eq_none h] at hg; cases hg
 have hold:∀ b,b < w.heap.size→b≠g→w'.heap[b]?=w.heap[b]?:=by
  intro b hb hne; show (Sort.grow _ _).heap[b]?=_; rw [heap_grow_old _ _ (by simpa using hb)]; show (w.heap.modify g _)[b]?=_; rw [Array.getElem?_modify,if_neg (Ne.symm hne)]
 have hnew:w'.heap[g]?=some (.cells (Go.Sort.putCells id 0 dk cur) e fz):=by
  show (Sort.grow _ _).heap[g]?=_; rw [heap_grow_old _ _ (by simpa using hgs)]; show (w.heap.modify g _)[g]?=_; rw [Array.getElem?_modify,if_pos rfl,hg]; rfl
 obtain ⟨hle,hsz⟩:=Ml id dk q os hm hc.wf; refine ⟨⟨?_,?_,fun b off hb=>Nat.lt_of_lt_of_le (hc.wf b off hb) hsz,iw.mono hle hc.uq⟩,⟨rfl,rfl,rfl,hsz,hle,?_,?_,?_⟩⟩
 ·
  intro r hr; simp only [List.mem_singleton] at hr; subst hr; refine ⟨vs',⟨hlen,.inr ⟨g,cap,_,fz,rfl,hnew,?_,hn,hcap,?_,hput⟩⟩,aZ.mono hle _ _ hrep,?_⟩
  · simpa [Go.Sort.putCells] using hfz
  · simpa [Go.Sort.putCells] using hcur
  ·
   intro b hb off; simp only [Value.ownBlock,Option.some.injEq] at hb; subst hb; exact hm off
 · simp [lX,bg.fp,Value.ownBlock]
 ·
  intro b hb hf; have hne:b≠g:=fun h=>hf (by subst h; simp [lX,bg.fp,Value.ownBlock]); exact ⟨hold b hb hne,fun _ h=>h⟩
 ·
  intro b hb; left; simpa [lX,bg.fp,Value.ownBlock] using hb
 ·
  intro _; show w.drawn≤w.drawn + q; omega
theorem U8 {T:Type} {w:World} {m:jM} {f:T→List PV}:∀ {l:List T} {xs:List Value},aZ w m (l.flatMap f) xs→∃ zs:List (T × List Value),zs.map (·.1)=l∧(zs.map (·.2)).flatten=xs∧∀ z∈zs,aZ w m (f z.1) z.2
 | [],xs,h=>by
  simp only [List.flatMap_nil,aZ] at h; exact ⟨[],rfl,by simp [h],fun z hz=>by cases hz⟩
 | x :: l,xs,h=>by
  rw [List.flatMap_cons] at h
  have h1:aZ w m (f x) (xs.take (f x).length):=by
   have:=h.take (f x).length; simpa using this
  have h2:aZ w m (l.flatMap f) (xs.drop (f x).length):=by
   have:=h.drop (f x).length; simpa using this
  obtain ⟨zs,e1,e2,e3⟩:=U8 h2; refine ⟨(x,xs.take (f x).length) :: zs,by simp [e1],by simp [e2],fun z hz=>?_⟩; rcases List.mem_cons.1 hz with rfl | hz
  · exact h1
  · exact e3 z hz
theorem abO :∀ {L:List (List Value)} {k:Nat},0 < k→(∀ x∈L,x.length=k)→∀ j,j < L.length * k→L.flatten[j]?=some ((L[j / k]!)[j % k]!)
 | [],k,_,_,j,hj=>by simp at hj
 | x :: L,k,hk,h,j,hj=>by
  have hx:x.length=k:=h x (by simp); rw [List.flatten_cons]; by_cases hlt:j < k
  · rw [List.getElem?_append_left (by omega),Nat.div_eq_of_lt hlt,Nat.mod_eq_of_lt hlt,List.getElem!_cons_zero,List.getElem?_eq_getElem (by omega),getElem!_pos x j (by omega)]
  ·
   rw [List.getElem?_append_right (by omega),hx,abO hk (fun y hy=>h y (by simp [hy])) (j - k) (by simp only [List.length_cons,Nat.add_mul,Nat.one_mul] at hj; omega)]; obtain ⟨d,hd⟩:∃ d,j=d + k:=⟨j - k,by omega⟩; subst hd; rw [Nat.add_sub_cancel,Nat.add_div_right _ hk,Nat.add_mod_right,List.getElem!_cons_succ]
theorem YB {α:Type} [Inhabited α] (enc:α→List Value) {k:Nat} (hk:0 < k) (henc:∀ x,(enc x).length=k) (d:List α):(flatK enc k d.toArray).toList=(d.map enc).flatten:=by
 apply List.ext_getElem?; intro j
 have hfl:((d.map enc).flatten).length=d.length * k:=by
  rw [List.length_flatten,List.map_map]; clear hk
  induction d with
  | nil=>simp
  | cons x d ih=>simp only [List.map_cons,List.sum_cons,List.length_cons,Function.comp_apply,henc,ih,Nat.add_mul,Nat.one_mul,Nat.add_comm]
 by_cases hj:j < d.length * k
 ·
  rw [abO hk (fun x hx=>by obtain ⟨y,_,rfl⟩:=List.mem_map.1 hx; exact henc y) j (by simpa using hj)]; have hs:j < (flatK enc k d.toArray).size:=by simpa using hj
  rw [Array.getElem?_toList,Array.getElem?_eq_getElem hs,←getElem!_pos _ j hs,get_flatK enc k d.toArray j (by simpa using hj)]; have hq:j / k < d.length:=Nat.div_lt_of_lt_mul (by rw [Nat.mul_comm]; exact hj); congr 2; rw [getElem!_pos d.toArray (j / k) (by simpa using hq),getElem!_pos (d.map enc) (j / k) (by simpa using hq)]; simp
 ·
  have h1:((flatK enc k d.toArray).toList)[j]?=none:=List.getElem?_eq_none (by rw [Array.length_toList,size_flatK]; simp only [List.size_toArray]; omega); have h2:((d.map enc).flatten)[j]?=none:=List.getElem?_eq_none (by rw [hfl]; omega); rw [h1,h2]
theorem O8 {α β:Type} (zs:List α) (g:α→β):(zs.attach.map fun a=>g a.1)=zs.map g:=by
 conv=>rhs; rw [←List.attach_map_subtype_val zs]
 rw [List.map_map]; rfl
theorem AC.acB {P:Program} {ρ:Ren} (L:SlLaysF0.n6 P ρ) {T:Type} (f:T→List PV) {k:Nat} (hk0:0 < k) (hfl:∀ x,(f x).length=k) (hone:∀ x,(f x).all PV.one=true)
  (aE:∀ w,(isAgg (ρ.t 24)).run P w=.ok true w) (zE:∀ w,(Go.sizeOf (ρ.t 24)).run P w=.ok k w) {g:FuncId} (hp:aV P g=true) {cf:T→T→Int} {l:List T}
  (hcmp:∀ a b,a∈l→b∈l→@AC Yv P g [.agg (f a),.agg (f b)] [] fun out _=>out=.ret (.int .i64 (cf a b)))
  (s1:∀ x,¬ cf x x < 0) (s2:∀ x y z,cf x y < 0→cf y z < 0→cf x z < 0) (s3:∀ x y z,¬ cf x y < 0→¬ cf y z < 0→¬ cf x z < 0)
  (hd:l.Pairwise fun x y=>cf x y < 0∨cf y x < 0) (hb:l.length < 4611686018427387904) {v:Value} {e:TypeId} {R:eD→List bg→Prop}
  (h:R (.ret (.tuple [])) [.buf v (l.mergeSort fun x y=>!decide (cf y x < 0)).length k e ((l.mergeSort fun x y=>!decide (cf y x < 0)).flatMap f)]):
  AC P (ρ.f 6) [.val v,.fn g []] [.buf v l.length k e (l.flatMap f)] R:=by
 rw [List.length_mergeSort] at h; intro w m vs hc hv; simp only [aZ,dG] at hv; obtain ⟨v0,vs0,rfl,rfl,v1,vs1,rfl,⟨cs,rfl,rfl⟩,rfl⟩:=hv
 have nil:l=[]→Calls P (ρ.f 6) #[v0,.func (.func g) #[] #[]] w fun en w'=>∃ out σ' m',R out σ'∧G9 w' m' out en∧Conc w' m' σ'∧Trans w m [.buf v0 l.length k e (l.flatMap f)] w' m' σ':=by
  intro hl0; subst hl0; obtain ⟨xs,⟨hx1,hx2⟩,hrep,hm⟩:=hc.each _ (List.mem_singleton.2 rfl); have hnil:([]:List T).mergeSort (fun x y=>!decide (cf y x < 0))=[]:=by simp
  rw [hnil] at h; rcases hx2 with ⟨rfl,hn⟩ | ⟨gb,cap,cur,fz,rfl,hg,hfz,hn,hcap,hcur,htake⟩
  ·
   refine (AnyF.slices_SortFunc_none (P:=P) (ρ:=ρ) {L with} Option.none 0 (.func (.func g) #[] #[]) w).mono ?_; rintro en w' ⟨rfl,rfl⟩; exact ⟨_,_,m,h,⟨_,rfl,by simp only [dG]; exact ⟨[],rfl,aZ.nil⟩⟩,hc,Trans.refl _ _ _⟩
  ·
   refine (AnyF.slices_SortFunc_none (P:=P) (ρ:=ρ) {L with} (some ⟨gb,0,Option.none⟩) cap (.func (.func g) #[] #[]) w).mono ?_; rintro en w' ⟨rfl,rfl⟩; exact ⟨_,_,m,h,⟨_,rfl,by simp only [dG]; exact ⟨[],rfl,aZ.nil⟩⟩,hc,Trans.refl _ _ _⟩
 by_cases hl0:l=[]
 · exact nil hl0
 obtain ⟨xs,⟨hx1,hx2⟩,hrep,hm⟩:=hc.each _ (List.mem_singleton.2 rfl); rcases hx2 with ⟨rfl,hn⟩ | ⟨gb,cap,cur,fz,rfl,hg,hfz,hn,hcap,hcur,htake⟩
 · exact absurd (List.eq_nil_of_length_eq_zero hn) hl0
 obtain ⟨zs,z1,z2,z3⟩:=U8 hrep; have hzl:zs.length=l.length:=by rw [←z1]; simp
 have hgs:gb < w.heap.size:=by
  rcases Nat.lt_or_ge gb w.heap.size with h | h
  · exact h
  · rw [Array.getElem?_eq_none h] at hg; cases hg
 have hm':∀ off,¬ m gb off:=hm gb rfl
 obtain ⟨z0,hz0⟩:∃ z,z∈zs:=by
  cases hzz:zs with
  | nil=>rw [hzz] at hzl; exact absurd (List.eq_nil_of_length_eq_zero hzl.symm) hl0
  | cons z r=>exact ⟨z,by simp⟩
 let A:Type:={z:T × List Value // z∈zs}
 letI:Inhabited A:=⟨⟨z0,hz0⟩⟩
 let enc:A→List Value:=fun a=>a.1.2; let cA:A→A→Int:=fun a b=>cf a.1.1 b.1.1
 have henc:∀ a:A,(enc a).length=k:=fun a=>by
  have:=(z3 a.1 a.2).length_eq; rw [hfl] at this; exact this
 have alX:∀ a:A,∀ u∈enc a,u.oneCell'=true:=fun a=>(z3 a.1 a.2).oneCell (hone _)
 have hSA:SWO (ltOf cA):={
  irrefl:=fun x=>by simp only [ltOf,cA,decide_eq_false_iff_not]; exact s1 _
  trans:=fun x y z a b=>by simp only [ltOf,cA,decide_eq_true_eq] at *; exact s2 _ _ _ a b
  ntrans:=fun x y z a b=>by simp only [ltOf,cA,decide_eq_false_iff_not] at *; exact s3 _ _ _ a b}
 have hpz:zs.Pairwise fun x y=>cf x.1 y.1 < 0∨cf y.1 x.1 < 0:=by
  rw [←z1,List.pairwise_map] at hd; exact hd
 have hTA:∀ x y:A,(ltOf cA) x y=false→(ltOf cA) y x=false→x=y:=by
  intro x y a b; simp only [ltOf,cA,decide_eq_false_iff_not] at a b; apply Subtype.ext; obtain ⟨i,hi,ei⟩:=List.mem_iff_getElem.1 x.2; obtain ⟨j,hj,ej⟩:=List.mem_iff_getElem.1 y.2; rw [←ei,←ej] at a b ⊢; rcases Nat.lt_trichotomy i j with hij | hij | hij
  ·
   rcases List.pairwise_iff_getElem.1 hpz i j hi hj hij with h' | h'
   · exact absurd h' a
   · exact absurd h' b
  · subst hij; rfl
  ·
   rcases List.pairwise_iff_getElem.1 hpz j i hj hi hij with h' | h'
   · exact absurd h' b
   · exact absurd h' a
 have ana:(zs.attach.map enc).flatten=xs:=by
  rw [←z2]; congr 1; exact O8 zs (fun z=>z.2)
 have hat:zs.attach.toArray.size=l.length:=by
  have:zs.attach.length=zs.length:=List.length_attach; simpa only [List.size_toArray,hzl] using this
 have hcell:∀ j (hj:j < l.length * k),cur[j]?=xs[j]?:=by
  intro j hj; have:(cur.toList.take (l.length * k))[j]?=xs[j]?:=by rw [htake]
  rw [List.getElem?_take,if_pos hj] at this; rw [←Array.getElem?_toList,this]
 have hH:HoldsK enc k w gb 0 zs.attach.toArray:=by
  intro j hj; have hj':j < l.length * k:=by rw [←hat,←size_flatK enc]; exact hj
  refine ⟨?_,?_⟩
  ·
   simp only [World.cell?,hg,Nat.zero_add]; rw [if_neg (by simp),hcell j hj',←ana,←YB enc hk0 henc,Array.getElem?_toList,Array.getElem?_eq_getElem hj]; congr 1; exact (getElem!_pos _ j hj).symm
  ·
   simp only [World.frozen?,hg]; rcases hfz with h | h
   ·
    rcases fz with ⟨a,b⟩; simp only at h ⊢; subst h; simp only [Bool.and_eq_false_iff,decide_eq_false_iff_not]; omega
   ·
    rcases fz with ⟨a,b⟩; simp only at h ⊢; simp only [Bool.and_eq_false_iff,decide_eq_false_iff_not]; rw [hcur] at h; have hcm:l.length * k≤cap * k:=Nat.mul_le_mul_right k hn; omega
 have alU:CmpLays P g #[] enc k cA gb 0 zs.attach.toArray.size w:=by
  intro m0 os dk _ x y; obtain ⟨l1,l2⟩:=Ml id (flatK enc k dk) m0 os hm' hc.wf; have hx:x.1.1∈l:=by rw [←z1]; exact List.mem_map.2 ⟨x.1,x.2,rfl⟩
  have hy:y.1.1∈l:=by rw [←z1]; exact List.mem_map.2 ⟨y.1,y.2,rfl⟩
  refine (hcmp x.1.1 y.1.1 hx hy (sortWorldK enc k w gb 0 m0 dk os) m [.agg (enc x).toArray,.agg (enc y).toArray] (@Conc.mk Yv _ _ _ (fun r hr=>by simp at hr) (by simp [lX]) (fun b off h=>Nat.lt_of_lt_of_le (hc.wf b off h) l2) trivial)
   (aZ.cons (by simp only [dG]; exact ⟨enc x,rfl,aZ.mono l1 _ _ (z3 x.1 x.2)⟩) (aZ.cons (by simp only [dG]; exact ⟨enc y,rfl,aZ.mono l1 _ _ (z3 y.1 y.2)⟩) aZ.nil))).mono ?_
  rintro en w' ⟨out,σ',m',rfl,hout,_,ht⟩; obtain ⟨r,rfl,hr⟩:=hout; simp only [dG] at hr; exact ⟨by rw [hr],@Trans.grown Yv trivial _ _ _ _ _ (@Trans.sub Yv _ _ _ _ _ _ _ ht (List.nil_sublist _))⟩
 have key:=AnyQ.slices_SortFunc_total L k aE zE enc henc alX cA hSA g #[] gb 0 cap zs.attach.toArray w (yC hp) alU hH hgs (by rw [hat]; exact hb) hTA; have e0:=hat; rw [e0] at key; refine key.mono ?_; rintro en w' ⟨rfl,q,os,rfl⟩
 have hms:((zs.attach.mergeSort fun x y=>!(ltOf cA) y x).map fun a=>a.1.1)=l.mergeSort fun x y=>!decide (cf y x < 0):=by
  have e1:(zs.attach.map fun a:A=>a.1.1)=l:=by
   rw [←z1]; exact O8 zs (fun z=>z.1)
  rw [List.map_mergeSort (r:=fun x y:A=>!(ltOf cA) y x) (s:=fun x y:T=>!decide (cf y x < 0)) (f:=fun a:A=>a.1.1),e1]; intro a _ b _; rfl
 have hlen:(zs.attach.mergeSort fun x y=>!(ltOf cA) y x).length=l.length:=by rw [List.length_mergeSort]; simpa using hzl
 have aix:=YB enc hk0 henc (zs.attach.mergeSort fun x y=>!(ltOf cA) y x)
 have hfs:((zs.attach.mergeSort fun x y=>!(ltOf cA) y x).map enc).flatten.length=l.length * k:=by
  rw [←aix,Array.length_toList,size_flatK]; simp [hlen]
 have hcm:l.length * k≤cap * k:=Nat.mul_le_mul_right k hn
 have alS:aZ w m ((l.mergeSort fun x y=>!decide (cf y x < 0)).flatMap f) ((zs.attach.mergeSort fun x y=>!(ltOf cA) y x).map enc).flatten:=by
  rw [←hms]; generalize (zs.attach.mergeSort fun x y=>!(ltOf cA) y x)=ss
  induction ss with
  | nil=>exact aZ.nil
  | cons a ss ih=>
   simp only [List.map_cons,List.flatMap_cons,List.flatten_cons]; exact aZ.append (z3 a.1 a.2) ih
 obtain ⟨c1,c2⟩:=af2 (flatK enc k (zs.attach.mergeSort fun x y=>!(ltOf cA) y x).toArray) q os hc hg hfz hn hcap hcur hm' hfs (by
  rw [←aix]; apply List.ext_getElem?; intro j; rw [List.getElem?_take]; split
  ·
   rename_i hj; have h1:j < cur.size:=by omega
   have h2:j < (flatK enc k (zs.attach.mergeSort fun x y=>!(ltOf cA) y x).toArray).size:=by simpa [hlen] using hj
   simp only [Go.Sort.putCells,Array.getElem?_toList,Array.getElem?_mapIdx,Array.getElem?_eq_getElem h1,Option.map_some]; rw [if_pos ⟨Nat.zero_le _,by rw [Nat.zero_add]; exact h2⟩,Nat.sub_zero,getElem!_pos _ j h2,Array.getElem?_eq_getElem h2]; rfl
  ·
   rename_i hj
   rw [List.getElem?_eq_none (by rw [Array.length_toList,size_flatK]; simp [hlen]; omega)]) alS
 exact ⟨_,_,m,h,⟨_,rfl,by simp only [dG]; exact ⟨[],rfl,aZ.nil⟩⟩,c1,c2⟩
end Go.Abs
namespace Go.Ft
open Go Go.Lib
theorem Kg :∀ s t:Str,Go.Lib.index s t=match lN s t with | none=>-1 | some i=>(i:Int)
 | [],t=>by
  unfold Go.Lib.index lN; cases t.isEmpty <;> rfl
 | b :: l,t=>by
  unfold Go.Lib.index lN; rw [Kg l t]; cases t.isPrefixOf (b :: l) with
  | true=>rfl
  | false=>
   simp only [Bool.false_eq_true,if_false]; cases lN l t with
   | none=>rfl
   | some i=>
    have:(((i:Nat):Int) == -1)=false:=by rw [beq_eq_false_iff_ne]; omega
    simp only [this,Bool.false_eq_true,if_false,Option.map_some]; show (i:Int) + 1=((i + 1:Nat):Int); omega
theorem aaD (s t:Str):Go.Lib.contains s t=(lN s t).isSome:=by
 unfold Go.Lib.contains; rw [Kg]; cases lN s t with
 | none=>rfl
 | some i=>simp
theorem Yu {s t:Str} {i:Nat} (h:lN s t=some i):i + t.length≤s.length:=by
 have:=index_room s t (by rw [Kg,h]; exact Int.natCast_nonneg i); rw [Kg,h] at this; simp only at this; omega
theorem abo {t:Str} (ht:t≠[]):∀ (n:Nat) (s:Str) (f k:Nat),s.length < n→n≤f→n≤k→splitK t 0 (countFrom t f s) s=nV t k s
 | 0,s,f,k,h,_,_=>by omega
 | n + 1,s,f,k,h,hf,hk=>by
  obtain ⟨f,rfl⟩:∃ g,f=g + 1:=⟨f - 1,by omega⟩; obtain ⟨k,rfl⟩:∃ g,k=g + 1:=⟨k - 1,by omega⟩; rw [countFrom,nV,Kg]; cases hi:lN s t with
  | none=>simp [splitK]
  | some i=>
   have hr:=Yu hi; have htl:0 < t.length:=List.length_pos_iff.2 ht; have hb:(((i:Nat):Int) == -1)=false:=by rw [beq_eq_false_iff_ne]; omega
   simp only [hb,Bool.false_eq_true,if_false,Int.toNat_natCast]; rw [Nat.add_comm 1,splitK,Kg,hi]; simp only [hb,Bool.false_eq_true,if_false,Int.toNat_natCast,Nat.add_zero]; rw [abo ht n (s.drop (i + t.length)) f k (by simp; omega) (by omega) (by omega)]
theorem aar :∀ (l:List Str) (t:Str),Go.Lib.join l t=nP l t
 | [],_=>rfl
 | [x],t=>by rw [nP,join_one]
 | x :: y :: r,t=>by
  rw [nP,←aar (y :: r) t,join_cons,join_cons]; simp [joinTail]
theorem afJ :∀ (k u:Nat),u < 10 ^ (k + 1)→tF (k + 1) u=decDigits u
 | 0,u,h=>by rw [tF,decDigits,if_pos (by simpa using h),dif_pos (by simpa using h)]
 | k + 1,u,h=>by
  rw [tF,decDigits]; by_cases hu:u < 10
  · rw [if_pos hu,dif_pos hu]
  · rw [if_neg hu,dif_neg hu,afJ k (u / 10) (by rw [Nat.pow_succ] at h; omega)]
theorem aj5 {n:Int} (h1:-9223372036854775808≤n) (h2:n≤9223372036854775807):um n=itoa n:=by
 unfold um itoa; rw [afJ 19 _ (by have:(10:Nat) ^ 20=100000000000000000000:=(by decide); omega),afJ 19 _ (by have:(10:Nat) ^ 20=100000000000000000000:=(by decide); omega)]
theorem aiv :∀ (l:Str) (acc:Nat),Yk acc l=match parseUint10 acc l with | .ok v=>(0,v) | .range=>(2,0) | _=>(1,0)
 | [],acc=>rfl
 | c :: r,acc=>by
  rw [Yk,parseUint10]; split
  ·
   split
   · rfl
   ·
    split
    · rfl
    · exact aiv r _
  · rfl
theorem akC (l:Str):zG l=match atoiAll l with | .ok v=>(0,v) | .range=>(2,atoiSat l) | _=>(1,0):=by
 cases l with
 | nil=>rfl
 | cons c r=>
  have amY:atoiSat (c :: r)=if c.toNat=45 then -9223372036854775808 else 9223372036854775807:=by
   unfold atoiSat; simp
  rw [amY]; unfold zG atoiAll parseMag; simp only; generalize (if c.toNat=43∨c.toNat=45 then r else c :: r)=body; by_cases hb:body=[]
  · simp [hb]
  ·
   rw [if_neg hb,if_neg hb,aiv]; cases parseUint10 0 body with
   | ok u=>
    simp only; by_cases h1:¬c.toNat=45∧9223372036854775808≤u
    · simp [h1]
    ·
     by_cases h2:c.toNat=45∧9223372036854775808 < u
     · simp [h1,h2]
     · simp [h1,h2]
   | _=>rfl
end Go.Ft
namespace Go.Abs
variable [iw]
open Go Go.Proofs Go.Lib Go.Shelf Go.RowKit
theorem BA (hD:¬ iw.D) {w w':World} {m:jM} (hc:Conc w m []) (hb:Below w.heap.size w w'):Conc w' m []∧Trans w m [] w' m []:=by
 have hle:Le w m w' m:=fun b off hm=>⟨hm,World.cell?_of_block (w:=w) (hb.block b (hc.wf b off hm))⟩
 exact ⟨⟨fun r hr=>by simp at hr,by simp [lX],fun b off hm=>Nat.lt_of_lt_of_le (hc.wf b off hm) hb.size,iw.mono hle hc.uq⟩,
  ⟨hb.os,hb.tape,hb.output,hb.size,hle,fun b hlt _=>⟨hb.block b hlt,fun _ h=>h⟩,fun b hb=>by simp [lX] at hb,fun d=>absurd d hD⟩⟩
section
variable {P : Program} {ρ : Ren} {R : eD → List bg → Prop}
theorem AC.contains (L:Lays.n144 P ρ) {s t:List UInt8} (hs:s.length < 4294967281) (hm:∀ (w:World) (m:jM),iw.G w m→∃ n:Int,w.cell? ⟨ρ.g 1,0,Option.none⟩=some (.int .i64 n))
  (h:R (.ret (.bool (Ft.lN s t).isSome)) []):AC P (ρ.f 144) [.str s,.str t] [] R:=by
 intro w m vs hc hv; simp only [aZ,dG] at hv; obtain ⟨v0,vs0,rfl,rfl,v1,vs1,rfl,rfl,rfl⟩:=hv; obtain ⟨n,hn⟩:=hm w m hc.uq; refine (Any.strings_Contains L ⟨s.toArray⟩ ⟨t.toArray⟩ n w (by simpa [ByteArray.size] using hs) hn).mono ?_; rintro en w' ⟨rfl,rfl⟩; exact ⟨_,_,m,h,⟨_,rfl,by simp only [dG]; rw [Ft.aaD]⟩,hc,Trans.refl _ _ _⟩
theorem AC.itoa (hD:¬ iw.D) (L:LaysM.n171 P ρ) {n:Int} (h0:-9223372036854775808≤n) (h1:n≤9223372036854775807) (ht:∀ (w:World) (m:jM),iw.G w m→Lib.TabIs P w "internal/strconv.uint64pow10" .u64 Lib.pow10Tab)
  (h:R (.ret (.str (Ft.um n))) []):AC P (ρ.f 171) [.int .i64 n] [] R:=by
 intro w m vs hc hv; simp only [aZ,dG] at hv; obtain ⟨v0,vs0,rfl,rfl,rfl⟩:=hv; refine (Any.strconv_Itoa L n h0 h1 w (ht w m hc.uq)).mono ?_; rintro en w' ⟨rfl,k,os,rfl⟩; have hb:Below w.heap.size w (Sort.grow (w.drewN k) os):=⟨rfl,rfl,rfl,by rw [Sort.size_grow]; exact Nat.le_add_right _ _,fun j hj=>Sort.heap_grow_old (w.drewN k) os hj⟩; obtain ⟨c1,c2⟩:=BA hD hc hb; exact ⟨_,_,m,h,⟨_,rfl,by simp only [dG]; rw [Ft.aj5 h0 h1]⟩,c1,c2⟩
theorem AC.atoi (hD:¬ iw.D) (L:LaysC.n172 P ρ) {s:List UInt8} (hs:s.length≤281474976710656) {E:TypeId} (hE:ρ.t 168=E)
  (hv1:∀ (w:World) (m:jM),iw.G w m→∃ ev,w.cell? ⟨ρ.g 15,0,Option.none⟩=some ev∧(ev=.nilIface∨∃ te pe,ev=.iface te pe)) (hv2:∀ (w:World) (m:jM),iw.G w m→∃ ev,w.cell? ⟨ρ.g 16,0,Option.none⟩=some ev∧(ev=.nilIface∨∃ te pe,ev=.iface te pe))
  (h:R (.ret (.tuple [.int .i64 (Ft.zG s).2,.err (if (Ft.zG s).1=0 then Option.none else some E)])) []):AC P (ρ.f 172) [.str s] [] R:=by
 subst hE; intro w m vs hc hv; simp only [aZ,dG] at hv; obtain ⟨v0,vs0,rfl,rfl,rfl⟩:=hv; have hF:=Ft.akC s; have hsz:(⟨s.toArray⟩:ByteArray).size=s.length:=by simp [ByteArray.size]
 have tup:∀ (w':World) (a:Int) (e:Option TypeId) (x:Value),dG w' m (.err e) x→dG w' m (.tuple [.int .i64 a,.err e]) (.tuple #[.int .i64 a,x]):=fun w' a e x hx=>by
  simp only [dG]; exact ⟨[.int .i64 a,x],rfl,aZ.cons (by simp only [dG]) (aZ.cons hx aZ.nil)⟩
 cases ha:atoiAll s with
 | ok v=>
  rw [ha] at hF; simp only at hF; rw [hF] at h; refine (Any.strconv_Atoi_ok L ⟨s.toArray⟩ (by rw [hsz]; omega) v (by simpa using ha) w).mono ?_; rintro en w' ⟨rfl,hw⟩
  have hb:Below w.heap.size w w':=by
   rcases hw with rfl | ⟨t,rfl⟩
   · exact Below.refl _ _
   ·
    refine ⟨rfl,rfl,rfl,?_,fun j hj=>Lib.bytesWorld_at_old w _ _ j hj⟩; have hsz2:(Lib.bytesWorld w (ρ.t 5) t).heap.size=w.heap.size + 1:=Lib.bytesWorld_size ..; omega
  obtain ⟨c1,c2⟩:=BA hD hc hb; exact ⟨_,_,m,h,⟨_,rfl,tup _ _ Option.none _ (by simp only [dG])⟩,c1,c2⟩
 | range=>
  rw [ha] at hF; simp only at hF; rw [hF] at h; obtain ⟨ev,e1,e2⟩:=hv2 w m hc.uq; refine (Any.strconv_Atoi_range L ⟨s.toArray⟩ (by rw [hsz]; exact hs) (by simpa using ha) ev w e1 e2).mono ?_; rintro en w' ⟨N,rfl,_,_,hb⟩; obtain ⟨c1,c2⟩:=BA hD hc hb; exact ⟨_,_,m,h,⟨_,rfl,tup _ _ (some _) _ (by simp only [dG]; exact ⟨_,rfl⟩)⟩,c1,c2⟩
 | _=>
  rw [ha] at hF; simp only at hF; rw [hF] at h; obtain ⟨ev,e1,e2⟩:=hv1 w m hc.uq; refine (Any.strconv_Atoi_syntax L ⟨s.toArray⟩ (by rw [hsz]; exact hs) (by simpa using ha) ev w e1 e2).mono ?_; rintro en w' ⟨N,rfl,_,_,hb⟩; obtain ⟨c1,c2⟩:=BA hD hc hb; exact ⟨_,_,m,h,⟨_,rfl,tup _ _ (some _) _ (by simp only [dG]; exact ⟨_,rfl⟩)⟩,c1,c2⟩
theorem Xy {w:World} {m:jM} {b:Nat}:∀ {l:List (List UInt8)} {off:Nat},jr w m b 1 off (l.map fun s=>[PV.str s])→∀ (j:Nat) (x:ByteArray),(l.map fun s=>(⟨s.toArray⟩:ByteArray))[j]?=some x→m b (off + j)∧w.cell? ⟨b,off + j,Option.none⟩=some (.string x)
 | [],_,_,j,x,h=>by simp at h
 | s :: l,off,hr,j,x,h=>by
  simp only [List.map_cons,jr,qy,dG] at hr; obtain ⟨⟨_,⟨v,h1,h2,h3⟩,_⟩,h4⟩:=hr; cases j with
  | zero=>
   simp only [List.map_cons,List.getElem?_cons_zero,Option.some.injEq] at h; subst h; rw [h3] at h2; exact ⟨h1,h2⟩
  | succ j=>
   simp only [List.map_cons,List.getElem?_cons_succ] at h; have:=Xy h4 j x h; rw [show off + (j + 1)=off + 1 + j from by omega]; exact this
theorem AC.join (hD:¬ iw.D) (L:Lays.n156 P ρ) (X:Builder.Extra P ρ) {l:List (List UInt8)} {t:List UInt8} (hl:l.length≤140737488355328) (hj:(Ft.nP l t).length≤140737488355328)
  (h:R (.ret (.str (Ft.nP l t))) []):AC P (ρ.f 156) [.list (l.map fun s=>[PV.str s]),.str t] [] R:=by
 intro w m vs hc hv; simp only [aZ] at hv; obtain ⟨v0,vs0,rfl,h1,v1,vs1,rfl,h2,rfl⟩:=hv; simp only [dG] at h1 h2; obtain ⟨a,cap,rfl,hcap,hel⟩:=h1; subst h2; have hml:(l.map fun s=>[PV.str s]).length=l.length:=List.length_map _; rw [hml] at hcap ⊢
 have hdata:(l.map fun s=>(⟨s.toArray⟩:ByteArray)).map (·.data.toList)=l:=by
  rw [List.map_map]; exact (List.map_congr_left (fun s _=>by simp)).trans (List.map_id l)
 rcases hel with he | ⟨b,off,sz,rfl,he⟩
 ·
  have hl0:l=[]:=List.map_eq_nil_iff.1 he; subst hl0; refine (Any.strings_Join_none L X a cap ⟨t.toArray⟩ w).mono ?_; rintro en w' ⟨rfl,rfl⟩; exact ⟨_,_,m,h,⟨_,rfl,by simp only [dG]; rfl⟩,hc,Trans.refl _ _ _⟩
 ·
  cases hl0:l with
  | nil=>
   subst hl0; refine (Any.strings_Join_none L X _ cap ⟨t.toArray⟩ w).mono ?_; rintro en w' ⟨rfl,rfl⟩; exact ⟨_,_,m,h,⟨_,rfl,by simp only [dG]; rfl⟩,hc,Trans.refl _ _ _⟩
  | cons x r=>
   have hsz:sz=1:=by
    rw [hl0] at he; simp only [List.map_cons,jr] at he; exact he.1.1.symm
   subst hsz; rw [←hl0]; have hcell:=Xy he; have hbk:b < w.heap.size:=hc.wf b (off + 0) (hcell 0 ⟨x.toArray⟩ (by simp [hl0])).1; have hlm:(l.map fun s=>(⟨s.toArray⟩:ByteArray)).length=l.length:=List.length_map _
   have key:=Any.strings_Join L X b off cap (l.map fun s=>(⟨s.toArray⟩:ByteArray)) ⟨t.toArray⟩ w (fun j x hx=>(hcell j x hx).2) hbk (by rw [hlm]; exact hl) (by rw [hlm]; exact hcap)
    (by rw [hdata]; simpa [Ft.aar] using hj)
   rw [hlm,hdata] at key; refine key.mono ?_; rintro en w' ⟨rfl,hb⟩; obtain ⟨c1,c2⟩:=BA hD hc hb; exact ⟨_,_,m,h,⟨_,rfl,by simp only [dG]; rw [Ft.aar]⟩,c1,c2⟩
theorem AC.split (L:Lays.n146 P ρ) (hi9:(P.info? (ρ.t 9)).map (fun i=>(i.zero,i.size,i.bytes))=some (some (.string ByteArray.empty),1,16)) {s t:List UInt8} (hs:s.length < 4294967281) (ht:t≠[])
  (hm:∀ (w:World) (m:jM),iw.G w m→∃ n:Int,w.cell? ⟨ρ.g 1,0,Option.none⟩=some (.int .i64 n))
  (h:R (.ret (.list ((Ft.nV t (s.length + 1) s).map fun s=>[PV.str s]))) []):AC P (ρ.f 146) [.str s,.str t] [] R:=by
 intro w m vs hc hv; simp only [aZ,dG] at hv; obtain ⟨v0,vs0,rfl,rfl,v1,vs1,rfl,rfl,rfl⟩:=hv; obtain ⟨n,hn⟩:=hm w m hc.uq; have htl:1≤t.length:=List.length_pos_iff.2 ht; have hts:1≤(⟨t.toArray⟩:ByteArray).size:=by simpa [ByteArray.size] using htl
 refine (Any.strings_Split L hi9 ⟨s.toArray⟩ ⟨t.toArray⟩ n w (by simpa [ByteArray.size] using hs) hn hts).mono ?_; rintro en w' ⟨rfl,rfl⟩; have hall:=Lib.splitB_all ⟨t.toArray⟩ hts 0 _ ⟨s.toArray⟩ rfl
 have hdata:(Lib.splitB ⟨t.toArray⟩ 0 (Lib.countB ⟨s.toArray⟩ ⟨t.toArray⟩) ⟨s.toArray⟩).map (·.data.toList)=Ft.nV t (s.length + 1) s:=by
  rw [splitB_data]; exact Ft.abo ht (s.length + 1) s (s.length + 1) (s.length + 1) (Nat.lt_succ_self _) (Nat.le_refl _) (Nat.le_refl _)
 have hlen:Lib.countB ⟨s.toArray⟩ ⟨t.toArray⟩ + 1=(Ft.nV t (s.length + 1) s).length:=by rw [←hdata,List.length_map,hall]
 have alN:(Lib.splitB ⟨t.toArray⟩ 0 (Lib.countB ⟨s.toArray⟩ ⟨t.toArray⟩) ⟨s.toArray⟩).map Value.string=(Ft.nV t (s.length + 1) s).map fun s=>Value.string ⟨s.toArray⟩:=by
  rw [←hdata,List.map_map]; exact List.map_congr_left fun x _=>by simp
 rw [hlen,alN]; generalize Ft.nV t (s.length + 1) s=r at h ⊢; have hcl:=uR hc (.cells (r.map fun s=>Value.string ⟨s.toArray⟩).toArray (ρ.t 9)) (fun _=>True); have htr:=lM (σ':=[]) hc (.cells (r.map fun s=>Value.string ⟨s.toArray⟩).toArray (ρ.t 9)) (fun _=>True) (fun b hb=>by simp [lX] at hb); have href:=Gj hc (r.map fun s=>Value.string ⟨s.toArray⟩) (r.map PV.str) (XQ r) (ρ.t 9); refine ⟨_,_,_,h,⟨_,rfl,?_⟩,hcl,htr⟩; simp only [dG]; have hml:(r.map fun s=>[PV.str s]).length=r.length:=List.length_map _; rw [hml]; refine ⟨_,_,rfl,Nat.le_refl _,.inr ⟨w.heap.size,0,1,rfl,qF.2 ⟨fun e he=>?_,?_⟩⟩⟩
 · obtain ⟨x,_,rfl⟩:=List.mem_map.1 he; rfl
 ·
  have hfl:(r.map fun s=>[PV.str s]).flatten=r.map PV.str:=by
   clear h hcl htr href hml
   induction r with
   | nil=>rfl
   | cons x r ih=>simp [ih]
  rw [hfl]; exact href
end
end Go.Abs
namespace Go.Abs
open Go
@[reducible] def al7 (ints errs:List Nat) (tabs:List (Nat × List Value)):iw where
 G:=fun w m=>(∀ g∈ints,m g 0∧∃ n:Int,w.cell? ⟨g,0,none⟩=some (.int .i64 n))∧(∀ g∈errs,m g 0∧∃ u v,w.cell? ⟨g,0,none⟩=some (.iface u v))∧∀ p∈tabs,∀ off,m p.1 off∧w.cell? ⟨p.1,off,none⟩=p.2[off]?
 mono:=fun {w w' m m'} hle ⟨h1,h2,h3⟩=>⟨fun g hg=>by
   obtain ⟨a,n,b⟩:=h1 g hg; obtain ⟨c,d⟩:=hle g 0 a
   exact ⟨c,n,by rw [d,b]⟩,fun g hg=>by
   obtain ⟨a,u,v,b⟩:=h2 g hg; obtain ⟨c,d⟩:=hle g 0 a
   exact ⟨c,u,v,by rw [d,b]⟩,fun p hp off=>by
   obtain ⟨a,b⟩:=h3 p hp off; obtain ⟨c,d⟩:=hle p.1 off a
   exact ⟨c,by rw [d,b]⟩⟩
 D:=False
theorem RY {W:World} {g off:Nat} {v:Value} (h:W.cell? ⟨g,off,none⟩=some v):xA W g 0:=by
 unfold World.cell? at h; show g < W.heap.size; rcases Nat.lt_or_ge g W.heap.size with hl | hl
 · exact hl
 ·
  simp only at h; rw [Array.getElem?_eq_none hl] at h; cases h
theorem Rk {P:Program} {n nm:String} {d:DataW Unit} {r:List (String × DataW Unit)} {W:World} {g t:Nat} {ms:Array (String × TypeId)} (h:laidMet P ((n,.iface nm d) :: r) W) (hg:P.globalNamed n=some g)
  (ht:(P.globals[g]?).map (·.type)=some t) (hi:P.underlying t=some (.interface ms)):∃ u v,W.cell? ⟨g,0,none⟩=some (.iface u v):=by
 obtain ⟨ps,⟨g0,t0,cs0,f0,p0,q0,hg0,ht0,hv0,hd0,_,e0⟩,_,_⟩:=h; obtain rfl:=Option.some.inj (hg.symm.trans hg0); obtain rfl:=Option.some.inj (ht.symm.trans ht0); obtain ⟨l0⟩:=cs0; cases f0 with
 | zero=>simp [DataW.trod] at hd0
 | succ f0=>
  unfold DataW.trod at hd0; rw [hi] at hd0; simp only at hd0; split at hd0 <;> first | (cases hd0; done) | skip
  all_goals first
   | (rename_i e; cases e; done)
   | skip
  all_goals simp_all
  all_goals exact ⟨_,_,by simpa using World.var?_cell hg0 hv0 0⟩
theorem acy {P:Program} {w:World} {name:String} {k:IntKind} {zs:List Int} {g:Nat} (hg:P.globalNamed name=some g) (h:Lib.TabIs P w name k zs):∀ off,xA w g off∧w.cell? ⟨g,off,none⟩=(zs.map fun z=>Value.int k z)[off]?:=by
 intro off; unfold Lib.TabIs World.var? at h; rw [hg] at h; simp only [Option.bind_some] at h; split at h
 ·
  rename_i cs t f hc; cases h; refine ⟨?_,?_⟩
  ·
   show g < w.heap.size; rcases Nat.lt_or_ge g w.heap.size with hl | hl
   · exact hl
   · rw [Array.getElem?_eq_none hl] at hc; cases hc
  ·
   unfold World.cell?; simp only [hc]; simp
 · cases h
theorem adr {P:Program} {w:World} {name:String} {k:IntKind} {zs:List Int} {g:Nat} (hg:P.globalNamed name=some g) (hne:zs≠[]) (h:∀ off,w.cell? ⟨g,off,none⟩=(zs.map fun z=>Value.int k z)[off]?):Lib.TabIs P w name k zs:=by
 unfold Lib.TabIs World.var?; rw [hg]; simp only [Option.bind_some]; have h0:=h 0
 obtain ⟨z,r,rfl⟩:∃ z r,zs=z :: r:=by
  cases zs with
  | nil=>exact absurd rfl hne
  | cons z r=>exact ⟨z,r,rfl⟩
 unfold World.cell? at h0; simp only at h0; split at h0
 ·
  rename_i cs t f hc; rw [hc]; simp only [Option.some.injEq]; apply Array.ext_getElem?; intro i; have hi:=h i; unfold World.cell? at hi; simp only [hc] at hi; simpa using hi
 · simp at h0
end Go.Abs
namespace Go.Abs
variable [iw]
open Go
section
variable {P : Program} {o : Oper} {ρ : Operand → PV} {σ : List bg} {R S : PV → List bg → Prop}
theorem aeg {α:Type} (C L:List α) (N off:Nat) (h1:off + L.length≤N) (h2:N≤C.length):(C.take N).take off ++ (L ++ (C.take N).drop (off + L.length))=(C.take off ++ (L ++ C.drop (off + L.length))).take N:=by
 have a1:(C.take off).length=off:=by rw [List.length_take]; omega
 rw [List.take_append,List.take_append,a1,List.take_of_length_le (l:=C.take off) (by omega),List.take_of_length_le (l:=L) (by omega),List.take_take,Nat.min_eq_left (by omega),List.drop_take,Nat.sub_sub]
theorem AO.acZ {t:TypeId} {x:Operand} {v:Value} {n sz e i off k:Nat} {ag:Bool} {cs:List PV} {p:PV} (ho:o.op=.load t x) (hx:ρ x=.val (.pointer (some ⟨v.blk,off,none⟩))) (hi:σ[i]?=some (bg.buf v n sz e cs))
  (ht:jo P t=some (ag,k)) (hlt:off < cs.length) (hp:yS ag k (cs.drop off)=some p) (hR:R p σ):AO P o ρ σ R S:=by
 refine AO.of_same hR fun w m ev hr hc=>?_; have h:=hr x (by simp [ho,Op.operands]); rw [hx] at h; simp only [dG] at h; obtain ⟨xs,hrow,hrep,_⟩:=hc.each _ (List.mem_of_getElem? hi); have hl:=hrep.length_eq; have hn:=hrow.1
 have hb:v.ownBlock=some v.blk:=by
  rcases hrow.2 with ⟨_,rfl⟩ | ⟨g,cap,cur,fz,rfl,_⟩
  · omega
  · rfl
 obtain ⟨u,h5,h6⟩:=yB ht hp (hrep.drop off) (b:=v.blk) (off:=off) fun i u hu=>by
  rw [List.getElem?_drop] at hu; have hlt2:=(List.getElem?_eq_some_iff.1 hu).1; rw [hrow.cell hb (by omega)]; exact hu
 exact ⟨u,by simp [execOp,ho,Instr.loadAt,h,Instr.sureAddr,h5],h6⟩
theorem AO.ZL {t:TypeId} {x y:Operand} {v:Value} {n sz e i off k:Nat} {ag:Bool} {cs new cs':List PV} {σ':List bg} (ho:o.op=.store t x y) (hx:ρ x=.val (.pointer (some ⟨v.blk,off,none⟩))) (hi:σ[i]?=some (bg.buf v n sz e cs))
  (ht:jo P t=some (ag,k)) (hnew:(ρ y).BO=some new) (hone:new.all PV.one=true) (hk:new.length=k) (h0:0 < new.length) (hfit:off + new.length≤cs.length) (hput:putCells cs off new=cs') (hset:Fj σ i (.buf v n sz e cs')=some σ') (hR:R .undef σ'):AO P o ρ σ R S:=by
 obtain ⟨hnew,hok⟩:=CS hnew; have hnew:=hnew.symm; have hset:=P5 hset; subst hset; subst hput; intro w m a K QC hr hc hK _; have h:=hr x (by simp [ho,Op.operands]); have hy:=hr y (by simp [ho,Op.operands]); rw [hx] at h; simp only [dG] at h; obtain ⟨xs,hrow,hrep,hm⟩:=hc.each _ (List.mem_of_getElem? hi); have hyl:=hy.cells hok; rw [hnew] at hyl; have hl:=hyl.length_eq; have hl2:=hrep.length_eq; have hn:=hrow.1; rcases hrow.2 with ⟨_,rfl⟩ | ⟨g,cap,cur,fz,rfl,hg,hfz,hnc,hcm,hcs,htake⟩
 · omega
 have hle:n * sz≤cap * sz:=Nat.mul_le_mul_right _ hnc; have hst:=yA P g off e fz (a.eval y).cells.toList 0 cur w hg (by simp at hl ⊢; omega) (fun j hj=>by rcases hfz with h | h <;> omega) (hyl.oneCell hone); obtain ⟨_,hsz⟩:=CJ ht w; have hsize:(a.eval y).cells.size=k:=by rw [←Array.length_toList,hl,hk]
 generalize hL:(a.eval y).cells.toList=L at *
 have hrun:(execOp a.eval o).run P w=.ok .skip (w.setRow g (cur.toList.take off ++ (L ++ cur.toList.drop (off + L.length))).toArray):=by
  simp only [execOp,ho,Instr.storeAt,h,Instr.sureAddr,storeVar,Sem.run_bind,Sem.run_pure,Result.andThen_ok,hsz,hsize,ne_eq,not_true_eq_false,if_false]; rw [show Go.Value.blk (.slice (some ⟨g,0,none⟩) n cap)=g from rfl,hL,hst]; simp
 have hxs:xs.take off ++ (L ++ xs.drop (off + L.length))=(cur.toList.take off ++ (L ++ cur.toList.drop (off + L.length))).take (n * sz):=by
  have hcl:cur.toList.length=cap * sz:=by simpa using hcs
  rw [←htake]; exact aeg _ _ _ _ (by omega) (by omega)
 have hl':aZ w m (putCells cs off new) (xs.take off ++ (L ++ xs.drop (off + L.length))):=by
  unfold putCells; refine (hrep.take off).append (hyl.append ?_); rw [hl]; exact hrep.drop _
 have hother:∀ k,k≠g→(w.setRow g (cur.toList.take off ++ (L ++ cur.toList.drop (off + L.length))).toArray).heap[k]?=w.heap[k]?:=fun k hk=>setRow_other w g k _ hk; have hmg:∀ off,¬ m g off:=hm g rfl; have hle':Le w m (w.setRow g (cur.toList.take off ++ (L ++ cur.toList.drop (off + L.length))).toArray) m:=fun c off' hco=>⟨hco,World.cell?_of_block (w:=w) (hother c (fun e=>by subst e; exact hmg off' hco))⟩
 have hsz':(cur.toList.take off ++ (L ++ cur.toList.drop (off + L.length))).length=cur.size:=by
  simp only [List.length_append,List.length_take,List.length_drop,Array.length_toList]; omega
 obtain ⟨k1,k2⟩:=Conc.write (b:=g) (r':=.buf (.slice (some ⟨g,0,none⟩) n cap) n sz e (putCells cs off new)) (w':=w.setRow g (cur.toList.take off ++ (L ++ cur.toList.drop (off + L.length))).toArray) hc hi rfl rfl hmg
  ⟨xs.take off ++ (L ++ xs.drop (off + L.length)),⟨by simp only [List.length_append,List.length_take,List.length_drop]; omega,.inr ⟨g,cap,_,fz,rfl,setRow_heap w g cur _ e _ hg,by
   rcases hfz with h | h
   · exact .inl h
   · right; rw [List.size_toArray,hsz']; exact h,hnc,hcm,by rw [List.size_toArray,hsz']; exact hcs,hxs.symm⟩⟩,aZ.mono hle' _ _ hl',hm⟩ ⟨rfl,rfl,rfl⟩ (by simp [World.setRow]) hother
 unfold Oper.wp; rw [hrun]; exact hK .undef _ _ _ m hR trivial k1 k2
end
theorem aaE {w:World} {m:jM} {σ:List bg} {i b:Nat} {cs cs':List PV} (hi:σ[i]?=some (.box b cs)) (hc:Conc w m σ) (h:∀ vs,aZ w m cs vs→aZ w m cs' vs):Conc w m (σ.set i (.box b cs'))∧Trans w m σ w m (σ.set i (.box b cs')):=by
 have hf:lX (σ.set i (.box b cs'))=lX σ:=by
  clear hc h
  induction σ generalizing i with
  | nil=>rfl
  | cons r σ ih=>
   cases i with
   | zero=>
    simp only [List.getElem?_cons_zero,Option.some.injEq] at hi; subst hi; simp [lX,bg.fp]
   | succ i=>
    simp only [List.getElem?_cons_succ] at hi; have:=ih hi; simp only [lX,List.set_cons_succ,List.flatMap_cons] at this ⊢; rw [this]
 refine ⟨⟨fun r hr=>?_,by rw [hf]; exact hc.apart,hc.wf,hc.uq⟩,⟨rfl,rfl,rfl,Nat.le_refl _,Le.refl _ _,fun _ _ _=>⟨rfl,fun _ h=>h⟩,fun x hx=>.inl (by rw [←hf]; exact hx),fun _=>Nat.le_refl _⟩⟩; rcases List.mem_or_eq_of_mem_set hr with h' | h'
 · exact hc.each r h'
 ·
  subst h'; obtain ⟨vs,ty,h1,h2,h3⟩:=hc.each _ (List.mem_of_getElem? hi); exact ⟨vs,ty,h1,h vs h2,h3⟩
theorem aZ.atV {w:World} {m:jM} {v:Value} {l:List (List PV)} (hv:dG w m (.list l) v):∀ (k:Nat) (cs:List PV) (vs:List Value),cs[k]?=some (.val v)→aZ w m cs vs→aZ w m (cs.set k (.list l)) vs
 | 0,[],_,h,_=>by simp at h
 | k + 1,[],_,h,_=>by simp at h
 | 0,c :: cs,vs,h,hr=>by
  simp only [List.getElem?_cons_zero,Option.some.injEq] at h; subst h; simp only [aZ] at hr; obtain ⟨u,vs',rfl,h1,h2⟩:=hr; simp only [dG] at h1; subst h1; exact aZ.cons hv h2
 | k + 1,c :: cs,vs,h,hr=>by
  simp only [aZ] at hr; obtain ⟨u,vs',rfl,h1,h2⟩:=hr; exact aZ.cons h1 (aZ.atV hv k cs vs' (by simpa using h) h2)
theorem AW.ahG {P:Program} {k:Nat} {c:Code} {env:Env} {σ:List bg} {ds:List Deferred} {Q:Post} {v:Value} {n sz e b q:Nat} {cs cells:List PV} (i j:Nat) (l:List (List PV)) (hi:σ[i]?=some (bg.buf v n sz e cs)) (hj:(σ.set i (.row v n sz e))[j]?=some (.box b cells)) (hq:cells[q]?=some (.val v))
  (hl:l.flatten=cs) (hsz:∀ x∈l,x.length=sz) (hn:l.length=n) (h:AW P k c env ((σ.set i (.row v n sz e)).set j (.box b (cells.set q (.list l)))) ds Q):AW P k c env σ ds Q:=by
 intro w m a QC hs ha; obtain ⟨m',h1,h2,h3⟩:=hs.jD.freeze hi hl hsz hn; obtain ⟨k1,k2⟩:=aaE hj h2 fun vs hvs=>aZ.atV h1.weak q cells vs hq hvs; exact h w m' a QC ⟨hs.size,hs.ds,fun u=>dG.mono h3.le _ _ (hs.env u),k1⟩ (ha.step (h3.trans k2))
end Go.Abs
namespace Go.Abs
theorem Og {α:Type} {f:α→List PV} {k:Nat} (hf:∀ x,(f x).length=k):∀ (l:List α) (i:Nat) (h:i < l.length),(l.flatMap f).drop (i * k)=f l[i] ++ (l.drop (i + 1)).flatMap f
 | [],i,h=>by simp at h
 | x :: r,0,_=>by simp
 | x :: r,i + 1,h=>by
  have:=Og hf r i (by simpa using h); rw [List.flatMap_cons,Nat.add_mul,Nat.one_mul,List.drop_append,hf x,List.drop_of_length_le (by rw [hf]; omega),Nat.add_sub_cancel,this]; simp
theorem RD {α:Type} {f:α→List PV} {k:Nat} (hf:∀ x,(f x).length=k):∀ l:List α,(l.flatMap f).length=l.length * k
 | []=>by simp
 | x :: r=>by rw [List.flatMap_cons,List.length_append,hf,RD hf r,List.length_cons,Nat.add_mul]; omega
theorem afv {α:Type} {f:α→List PV} {k:Nat} (hf:∀ x,(f x).length=k) (l:List α) (i:Nat) (h:i < l.length):putCells (l.flatMap f) (i * k) (f l[i])=l.flatMap f:=by
 unfold putCells; have h1:=Og hf l i h
 have h2:(l.flatMap f).drop (i * k + (f l[i]).length)=(l.drop (i + 1)).flatMap f:=by
  rw [←List.drop_drop,h1,List.drop_left]
 rw [h2,←h1,List.take_append_drop]
end Go.Abs
namespace Go.Abs
variable [iw]
theorem AR.ahR {P:Program} {n:Nat} {all:Array Oper} {lo:List Oper} {env:Env} {σ:List bg} {ds:List Deferred} {Q:Post} {v:Value} {k sz e:Nat} {cs:List PV} (i:Nat) (hi:σ[i]?=some (bg.buf v k sz e cs)) (h:PV.BO (.val v)=some [.val v]→[PV.val v].all PV.one=true→AR P n all lo env σ ds Q):AR P n all lo env σ ds Q:=by
 intro w m a QC hs ha; obtain ⟨xs,hrow,_,_⟩:=hs.jD.each _ (List.mem_of_getElem? hi)
 have hv:v.oneCell'=true:=by
  rcases hrow.2 with ⟨rfl,_⟩ | ⟨g,cap,cur,fz,rfl,_⟩ <;> rfl
 exact h (by simp [PV.BO,hv]) (by simp [PV.one,hv]) w m a QC hs ha
end Go.Abs
namespace Go.Abs
variable [iw]
open Go
theorem Less.nil {e:Env}:Less [] e:=fun _=>.inl rfl
theorem Less.add {e e':Env} {t:Nat} {p:PV} (h:e.get t=p) (k:Less e' e):Less ((t,p) :: e') e:=by
 intro u; simp only [Env.get]; cases hb:Nat.beq t u with
 | false=>exact k u
 | true=>
  have:=Nat.eq_of_beq_eq_true hb; subst this; exact .inr h.symm
section
variable {P : Program} {n : Nat} {ds : List Deferred} {L : List Oper}
def AD (P:Program) (n:Nat) (L:List Oper) (env:Env) (σ:List bg) (ds:List Deferred) (Q:Post):Prop:=
 ∀ w m a QC,qI w m n env σ ds a→Acc n Q w m σ QC→wpAny P .any L.toArray QC L.toArray.size (Array.replicate L.toArray.size false) a {w with drawn:=w.drawn + 1}
theorem AD.afI {env:Env} {σ:List bg} {Q:Post} (k k2:Nat) (σ1 σ2:List bg) (J:(Nat→Bool)→Env→List bg→Prop) (ho:Jb L k k2=true) (hk:Nat.ble k k2=true) (hk2:Nat.ble k2 L.length=true)
  (hperm:σ.Perm (σ1 ++ σ2))
  (h:Ev P n L.toArray σ1 env (L.take k) fun env'=>J (fun i=>Nat.blt i k) env' σ2)
  (hI:∀ S S' e s,(∀ i,k≤i→i < k2→S i=S' i)→J S e s→J S' e s)
  (hT:∀ S e σ2 i o,J S e σ2→k≤i→i < k2→S i=false→(∀ j∈fC o,k≤j→S j=true)→L[i]?=some o→o.guard=none∧(∀ t,o.dst=some t→t < n)∧
   AO P o e.ev σ2 (fun p wQ=>J (fun j=>if i=j then true else S j) (Po o.dst p e) wQ) (fun p wQ=>Q (.panic p) [] (σ1 ++ wQ) ds))
  (hend:∀ S e σ2,(∀ i,k≤i→i < k2→S i=true)→J S e σ2→AR P n L.toArray (L.drop k2) e (σ1 ++ σ2) ds Q):
  AD P n L env σ ds Q:=by
 intro w m a QC hs ha; have hk:k≤k2:=Nat.le_of_ble_eq_true hk; have hk2:k2≤L.length:=Nat.le_of_ble_eq_true hk2; have ho:=J8 hk ho; obtain ⟨d,p,h1,h2⟩:=Ev.facts h; rw [List.length_take,Nat.min_eq_left (by omega)] at h2; have tq:Trans w m σ {w with drawn:=w.drawn + 1} m σ:=⟨rfl,rfl,rfl,Nat.le_refl _,fun _ _ h=>⟨h,rfl⟩,fun _ _ _=>⟨rfl,fun _ h=>h⟩,fun _ h=>.inl h,fun _=>Nat.le_succ _⟩; have hc':Conc {w with drawn:=w.drawn + 1} m σ:=⟨fun r hr=>bg.qC (hs.jD.each r hr) tq.le fun _ _=>⟨rfl,fun _ h=>h⟩,hs.jD.apart,hs.jD.wf,iw.mono tq.le hs.jD.uq⟩; have Oa:Trans w m σ {w with drawn:=w.drawn + 1} m (σ1 ++ σ2):=tq.perm (.refl _) hperm; have h1':∀ i o,i < k→L[i]?=some o→o.dst=some (d i)∧d i < n∧sS P L.toArray (lS (fun _=>true) d p env i) σ1 o (p i):=fun i o hi hoi=>h1 i o (by rw [List.getElem?_take_of_lt hi]; exact hoi); have hd:∀ i o,i < k→L[i]?=some o→o.dst=some (d i)∧d i < n:=fun i o hi hoi=>⟨(h1' i o hi hoi).1,(h1' i o hi hoi).2.1⟩; refine Vq 0 (fun _ _ _ _ h=>by omega) (ds:=ds) (d:=d) (σ1:=σ1) (Q:=Q) hk hk2 ho hd J hI hT hend _ _ a _ m (lS (fun _=>true) d p env k) σ2 (by simp) ?_ ?_ ?_ ?_ ?_ ?_ (ha.step Oa)
 · simp
 ·
  intro j _ hj; simp [Array.getD,hj]
 ·
  intro i o hoi hl
  have Im:i < L.length:=by
   rcases Nat.lt_or_ge i L.length with h | h
   · exact h
   · simp [List.getElem?_eq_none h] at hoi
  simp [Array.getD,Im] at hl
 ·
  intro i o hi hoi _; obtain ⟨f1,f2,f3⟩:=h1' i o hi hoi
  have hother:∀ t,(o.dst=some t∨t∈readsOf L o)→∀ j,(i≤j∧t∈readsOf L o∨i + 1≤j)→j < k→d j≠t:=by
   intro t ht j hj hjk hdj; have hoj:L[j]?=some L[j]:=List.getElem?_eq_getElem (by omega); have e1:=(hd j _ hjk hoj).1; rw [hdj] at e1; by_cases e:i=j
   ·
    subst e; have e9:=Option.some.inj (hoi.symm.trans hoj); rw [←e9] at e1; rcases hj with ⟨_,hj⟩ | hj
    · exact ho.self i o t hi hoi e1 hj
    · omega
   ·
    obtain ⟨e2,e3⟩:=ho.apart i o j _ t hi hoi (by omega) hoj e e1; rcases ht with ht | ht
    · exact e2 ht
    ·
     have:=ho.before i o hoi j (e3 ht).2; omega
  have aaA:(lS (fun _=>true) d p env k).get (d i)=p i:=by
   rw [eY (i:=i + 1) (by omega) fun j h4 h5 _=>hother (d i) (.inl f1) j (.inr h4) h5]; simp [lS,Env.get]
  rw [aaA,if_neg (by omega)]; refine sS.LA rfl f3 fun t ht=>?_; exact eY (by omega) fun j h4 h5 _=>hother t (.inr ht) j (.inl ⟨h4,ht⟩) h5
 ·
  refine hI _ _ _ _ (fun i hi hi2=>?_) h2; have Im:i < L.length:=by omega
  have hb:Nat.blt i k=false:=by
   cases e:Nat.blt i k with
   | false=>rfl
   | true=>have:=nE.1 e; omega
  rw [hb]; simp [Array.getD,Im]
 ·
  refine ⟨hs.size,hs.ds,fun t=>?_,hc'.perm hperm⟩; rw [nQ]; split
  · simp [dG]
  ·
   rename_i hh; rw [eY (i:=0) (Nat.zero_le _)]
   · exact hs.env.mono tq.le t
   ·
    intro j _ hj _ hdj; apply hh; rw [List.any_eq_true]; have hjL:j < L.length:=by omega
    exact ⟨j,by simpa using hj,by simp [Array.getD,hjL,hdj]⟩
theorem AW.afI {env:Env} {σ:List bg} {Q:Post} {id:Nat} (k k2:Nat) (σ1 σ2:List bg) (J:(Nat→Bool)→Env→List bg→Prop) (hm:P.follows .mixedOrders=true) (ho:Jb L k k2=true) (hk:Nat.ble k k2=true) (hk2:Nat.ble k2 L.length=true)
  (hperm:σ.Perm (σ1 ++ σ2))
  (h:Ev P n L.toArray σ1 env (L.take k) fun env'=>J (fun i=>Nat.blt i k) env' σ2)
  (hI:∀ S S' e s,(∀ i,k≤i→i < k2→S i=S' i)→J S e s→J S' e s)
  (hT:∀ S e σ2 i o,J S e σ2→k≤i→i < k2→S i=false→(∀ j∈fC o,k≤j→S j=true)→L[i]?=some o→o.guard=none∧(∀ t,o.dst=some t→t < n)∧
   AO P o e.ev σ2 (fun p wQ=>J (fun j=>if i=j then true else S j) (Po o.dst p e) wQ) (fun p wQ=>Q (.panic p) [] (σ1 ++ wQ) ds))
  (hend:∀ S e σ2,(∀ i,k≤i→i < k2→S i=true)→J S e σ2→AR P n L.toArray (L.drop k2) e (σ1 ++ σ2) ds Q):
  AW P n (.region id L.toArray true) env σ ds Q:=
 fun w m a QC hs ha=>wp_region_any hm (AD.afI k k2 σ1 σ2 J ho hk hk2 hperm h hI hT hend w m a QC hs ha)
end
end Go.Abs
