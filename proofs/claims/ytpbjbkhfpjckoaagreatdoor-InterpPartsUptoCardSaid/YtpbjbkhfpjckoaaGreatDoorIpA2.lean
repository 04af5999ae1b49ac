/- Proved here: how a functional text stands for a walk of the given code. -/
import Derived.Test.YtpbjbkhfpjckoaaGreatDoorIpWords
import Derived.Test.YtpbjbkhfpjckoaaGreatDoorIpA1
import Derived.Lib.Builder
import Derived.Lib.UnsafeStr
import Derived.Laws.Externs
import Derived.Laws.Pointers
import Derived.WalkSmall
import Derived.WideLaws
import Derived.Recover
import Derived.RangeFuncRecord
import Derived.RangeFuncIn
import Derived.OrdersIn
import Derived.TacticsIn
import Derived.Shelf.SlSortCmp.NoneTotal
import Derived.Shelf.Slices.CompactS
import Derived.Shelf.Strings.Search3
import Derived.Shelf.Strings.Split
import Derived.Shelf.Strings.OnBuilder
import Derived.Shelf.Strconv.Itoa3
import Derived.Shelf.Strconv.AtoiAll
import Derived.Lib.LaidTab
import Derived.Stop.LaidErr
import Derived.Lib.ItoaNum
import Derived.Shelf.Vars
import Derived.Shelf.Strings.Replace
set_option linter.unusedVariables false
set_option linter.unusedSimpArgs false
set_option linter.unusedSectionVars false
namespace Go.Abs
variable [iG]
open Go Go.Ft
def lI (s:List UInt8):List PV:=[.str s]
def YP (n:Int):List PV:=[.int .i64 n]
section
variable {P : Program} {o : Oper} {ρ : Operand → PV} {σ : List bA} {R S : PV → List bA → Prop} {α : Type}
theorem AO.dB {t:TypeId} {x i:Operand} {s:List UInt8} {k:IntKind} {n:Int} {c:UInt8} (hv:idx s n=some c) (ho:o.op=.index t x i) (hs:P.underlying t=some .string) (hx:ρ x=.str s) (hi:ρ i=.int k n)
  (hR:R (.int .u8 (c.toNat:Int)) σ):AO P o ρ σ R S:=
 AO.WV ho hs hx hi (Cc hv).1 (Cc hv).2 hR
theorem AO.bF {t:TypeId} {x i:Operand} {L:List (List PV)} {k:IntKind} {n:Int} {sz:Nat} {e:List PV} {f:α→List PV} {l:List α} {a:α} (hv:idx l n=some a) (ho:o.op=.indexAddr t x i) (hx:(ρ x).els=some L) (hL:L=l.map f) (hi:ρ i=.int k n) (hs:elemSize P t=some sz)
  (he:f a=e) (hl:e.length=sz) (hR:R (.ref e) σ):AO P o ρ σ R S:=
 AO.indexAddr ho hx hi hs (Cc hv).1 (by rw [hL,List.getElem?_map,(Cc hv).2,←he]; rfl) hl hR
theorem AO.aU {x:Operand} {t:TypeId} {L:List (List PV)} {sz:Nat} {c:Call} {f:α→List PV} {l:List α} (ho:o.op=.call c) (kG:c.callee=.builtin .len) (hargs:c.args=#[x]) (hty:c.argTypes=#[t]) (hs:elemSize P t=some sz) (hx:(ρ x).els=some L) (hL:L=l.map f)
  (hR:R (.int .i64 (l.length:Int)) σ):AO P o ρ σ R S:=
 AO.WR ho kG hargs hty hs hx (by rw [hL,List.length_map]; exact hR)
def Rf (ρ:Operand→PV) (o:Option Operand) (a d:Int):Prop:=
 match o with
 | some y=>∃ k,ρ y=.int k a
 | none=>a=d
theorem NI {o:Option Operand} {a:Int} {d:Nat} (h:Rf ρ o a d) (h0:0≤a):bound ρ o a.toNat d:=by
 unfold Rf at h; unfold bound; cases o with
 | none=>simp only at h ⊢; omega
 | some y=>obtain ⟨k,h⟩:=h; exact ⟨k,by rw [h]; congr 1; omega⟩
theorem AO.mP {t:TypeId} {x:Operand} {lo hi:Option Operand} {s r:List UInt8} {a b:Int} (hv:sl s a b=some r) (ho:o.op=.slice t x lo hi none) (hu:P.underlying t=some .string) (hx:ρ x=.str s)
  (hlo:Rf ρ lo a (0:Nat)) (hhi:Rf ρ hi b (s.length:Nat)) (hR:R (.str r) σ):AO P o ρ σ R S:=by
 obtain ⟨h0,h1,h2,rfl⟩:=Z_ hv; exact AO.Wh ho hu hx (NI hlo h0) (NI hhi (by omega)) (by omega) (by omega) hR
theorem Zm :Gm≤maxLen:=by decide
theorem AO.lH {c:Call} {s x:Operand} {t tx e sz bytes:Nat} {v:Value} {L L2 Lr:List (List PV)} {i:Nat} {f:α→List PV} {l m r:List α} (hv:app l m=some r) (ho:o.op=.call c) (kG:c.callee=.builtin .append) (hargs:c.args=#[s,x]) (hty:c.argTypes=#[t,tx])
  (hs:ρ s=.own v L) (hx:(ρ x).els=some L2) (hi:σ[i]?=some (bA.row v L.length sz e)) (hf:iV P t e sz bytes) (htx:elemSize P tx=some sz)
  (hL:L=l.map f) (hL2:L2=m.map f) (hr:r.map f=Lr) (fl:∀ x,(f x).length=sz) (fo:∀ x,(f x).all PV.one=true) (hb:Nat.ble bytes 32768=true)
  (hR:∀ v' σ',yI σ i (.row v' Lr.length sz e)=some σ'→R (.own v' Lr) σ'):AO P o ρ σ R S:=by
 obtain ⟨h1,rfl⟩:=Co hv; have hb:=Nat.le_of_ble_eq_true hb; have hlim:l.length + m.length≤4294967296:=h1; have hmul:(l.length + m.length) * bytes≤4294967296 * 32768:=Nat.mul_le_mul hlim hb; have hLr:L ++ L2=Lr:=by rw [hL,hL2,←List.map_append,hr]
 have e1:L.length=l.length:=by rw [hL,List.length_map]
 have e2:L2.length=m.length:=by rw [hL2,List.length_map]
 refine AO.append ho kG hargs hty hs hx hi hf htx rfl ?_ ?_ ?_ ?_ ?_ ?_
 · intro y hy; rw [hL,List.mem_map] at hy; obtain ⟨z,_,rfl⟩:=hy; exact fl z
 · intro y hy; rw [hL2,List.mem_map] at hy; obtain ⟨z,_,rfl⟩:=hy; exact fl z
 · intro y hy; rw [hL2,List.mem_map] at hy; obtain ⟨z,_,rfl⟩:=hy; exact fo z
 · rw [e1,e2]; exact Nat.le_trans h1 Zm
 · rw [e1,e2]; omega
 ·
  intro v' σ' h; rw [hLr]; exact hR v' σ' (by rw [←hLr,List.length_append]; exact h)
theorem AO.pY {t u:TypeId} {x y:Operand} {a b r:List UInt8} (hv:app a b=some r) (ho:o.op=.binOp .add t x y u) (hx:ρ x=.str a) (hy:ρ y=.str b)
  (hR:R (.str r) σ):AO P o ρ σ R S:=by
 obtain ⟨h1,rfl⟩:=Co hv; have:a.length + b.length≤4294967296:=h1; exact AO.concat ho hx hy (by omega) hR
theorem AO.dw {t e sz bytes len:Nat} {parts:Array (Nat × Operand)} {cells:List PV} {L:List (List PV)} (Lr:List (List PV)) (ho:o.op=.buildSlice t len parts) (hs:iV P t e sz bytes) (hle:Nat.ble (len * sz) 16777216=true)
  (hf:zQ (fun i=>some (i * sz,sz)) (List.replicate (len * sz) .undef) (parts.toList.map fun x=>(x.1,(ρ x.2).weak))=some cells) (hl:C_ sz len cells=some L) (hr:L=Lr) (hR:R (.list Lr) σ):AO P o ρ σ R S:=
 AO.buildSlice ho hs hle hf hl (by rw [hr]; exact hR)
theorem AO.KN {t e sz bytes len:Nat} {parts:Array (Nat × Operand)} {cells:List PV} {L:List (List PV)} (Lr:List (List PV)) (ho:o.op=.buildSlice t len parts) (hs:iV P t e sz bytes) (hle:Nat.ble (len * sz) 16777216=true)
  (hf:zQ (fun i=>some (i * sz,sz)) (List.replicate (len * sz) .undef) (parts.toList.map fun x=>(x.1,(ρ x.2).weak))=some cells) (hl:C_ sz len cells=some L) (hlen:Nat.ble len 16777216=true) (hr:L=Lr) (hR:∀ v,R (.own v Lr) (.row v Lr.length sz e :: σ)):AO P o ρ σ R S:=by
 refine AO.NH ho hs hle hf hl hlen fun v=>?_; have:=hR v; rw [←hr] at this; rw [←(FN hl).1]; exact this
theorem AO.fq {x:Operand} (ho:o.op=.assign x) (hx:ρ x=.own (.slice none 0 0) []) (hR:R (.list []) σ):AO P o ρ σ R S:=by
 refine AO.of_same hR fun w m ev hr _=>?_; have h1:=hr x (by simp [ho,Op.operands]); rw [hx] at h1; exact ⟨ev x,by simp [execOp,ho],h1.weak⟩
theorem AO.Td {src dst:TypeId} {x:Operand} {d:TypeDesc} {k:IntKind} {n:Int} (ho:o.op=.convert src dst x) (hs:P.underlying src=some d) (hd:P.underlying dst=some (.int .u8)) (hx:ρ x=.int k n)
  (hR:R (.int .u8 ((Ft.byteOf n).toNat:Int)) σ):AO P o ρ σ R S:=
 AO.Te ho hs hd hx (by rw [←Ft.byteOf_toNat]; exact hR)
theorem AO.P8 {t u:TypeId} {x y:Operand} {p q:Int} (a b:UInt8) (ho:o.op=.binOp .sub t x y u) (hx:ρ x=.int .u8 p) (hy:ρ y=.int .u8 q) (ha:p=(a.toNat:Int)) (hb:q=(b.toNat:Int))
  (hR:R (.int .u8 ((a - b).toNat:Int)) σ):AO P o ρ σ R S:=by
 refine AO.aey (p:=.int .u8 (IntKind.u8.wrap (p - q))) (by simp only [pev,ho,hx,hy]; rfl) ?_ hR; rw [ha,hb]; congr 1; have h1:=a.toNat_lt; have h2:=b.toNat_lt; simp [IntKind.wrap,IntKind.bits,IntKind.signed,UInt8.toNat_sub]; omega
end
section
variable {P : Program} {n : Nat} {env : Env} {σ : List bA} {ds : List Deferred} {Q : Post} {all : Array Oper} {l : List Oper}
theorem AW.drop1 {c:Code} {r:bA} (h:AW P n c env σ ds Q):AW P n c env (r :: σ) ds Q:=AW.drop σ (List.sublist_cons_self r σ) h
theorem AR.drop1 {r:bA} (h:AR P n all l env σ ds Q):AR P n all l env (r :: σ) ds Q:=
 fun w m a QC qK ha=>h w m a QC ⟨qK.size,qK.ds,qK.env,qK.jm.sub (List.sublist_cons_self r σ)⟩ (ha.step (Trans.sub (Trans.refl w m (r :: σ)) (List.sublist_cons_self r σ)))
def Less (e' e:Env):Prop:=∀ t,e'.get t=.undef∨e'.get t=e.get t
theorem Less.settle {ps:List Nat} {e e':Env} (h:Abs.settle ps e=some e'):Less e' e:=GL h
theorem Less.refl (e:Env):Less e e:=fun _=>.inr rfl
theorem Less.cons {e e':Env} (h:Less e' e) (t:Nat) (p:PV):Less ((t,p) :: e') ((t,p) :: e):=by
 intro u; simp only [Env.get]; cases Nat.beq t u with
 | true=>exact .inr rfl
 | false=>exact h u
theorem Less.ev {e e':Env} (h:Less e' e) (x:Operand):e'.ev x=.undef∨e'.ev x=e.ev x:=by
 cases x with
 | tmp t=>exact h t
 | const v=>exact .inr rfl
 | global g=>exact .inr rfl
 | func f=>exact .inr rfl
theorem AO.less {o:Oper} {e e':Env} (h:Less e' e) {R S:PV→List bA→Prop} (k:AO P o e'.ev σ R S):AO P o e.ev σ R S:=by
 intro w m a K QC hr hc h1 h2; refine k w m a K QC (fun x hx=>?_) hc h1 h2; rcases h.ev x with h' | h'
 · rw [h']; simp [dU]
 · rw [h']; exact hr x hx
theorem Less.known {e e':Env} (h:Less e' e) {t:Nat} {p:PV} (hp:e'.get t=p) (hn:p≠.undef):e.get t=p:=by
 rcases h t with h' | h'
 · rw [h'] at hp; exact absurd hp.symm hn
 · rw [←h']; exact hp
theorem uH.less {o:Oper} {e e':Env} (h:Less e' e) {p:PV} (k:uH P all e' σ o p):uH P all e σ o p:=by
 rcases k with ⟨hg,k⟩ | ⟨j,want,oj,u,h1,h2,h3,k⟩
 · exact .inl ⟨hg,AO.less h k⟩
 ·
  refine .inr ⟨j,want,oj,u,h1,h2,h3,?_⟩; rcases k with ⟨h5,k⟩ | ⟨h5 | h5,k⟩
  · exact .inl ⟨h.known h5 (by simp),AO.less h k⟩
  · exact .inr ⟨.inl (h.known h5 (by simp)),k⟩
  · exact .inr ⟨.inr (h.known h5 (by simp)),k⟩
theorem p9.less {w:World} {m:jO} {e e':Env} {a:Act} (h:Less e' e) (hs:p9 w m n e σ ds a):p9 w m n e' σ ds a:=
 ⟨hs.size,hs.ds,fun t=>by
  rcases h t with h' | h'
  · rw [h']; simp [dU]
  · rw [h']; exact hs.env t,hs.jm⟩
theorem AR.less {e e':Env} (h:Less e' e) (k:AR P n all l e' σ ds Q):AR P n all l e σ ds Q:=
 fun w m a QC hs ha=>k w m a QC (hs.less h) ha
theorem Ev.less {K:Env→Prop} (hK:∀ e e',Less e' e→K e'→K e):∀ {l:List Oper} {e e':Env},Less e' e→Ev P n all σ e' l K→Ev P n all σ e l K
 | [],e,e',h,k=>hK e e' h k
 | o :: rest,e,e',h,k=>by
  obtain ⟨t,p,h1,h2,h3,h4⟩:=k; exact ⟨t,p,h1,h2,uH.less h h3,Ev.less hK (h.cons t p) h4⟩
theorem Ev.append {K:Env→Prop}:∀ {l l':List Oper} {e:Env},Ev P n all σ e l (fun e=>Ev P n all σ e l' K)→Ev P n all σ e (l ++ l') K
 | [],_,_,h=>h
 | _ :: _,_,_,h=>by
  obtain ⟨t,p,h1,h2,h3,h4⟩:=h; exact ⟨t,p,h1,h2,h3,Ev.append h4⟩
theorem Ev.abb {K K':Env→Prop} (hK:∀ e,K e→K' e):∀ {l:List Oper} {e:Env},Ev P n all σ e l K→Ev P n all σ e l K'
 | [],e,h=>hK e h
 | _ :: _,_,h=>by
  obtain ⟨t,p,h1,h2,h3,h4⟩:=h; exact ⟨t,p,h1,h2,h3,Ev.abb hK h4⟩
theorem Less.trans {a b c:Env} (h:Less a b) (k:Less b c):Less a c:=by
 intro t; rcases h t with h' | h'
 · exact .inl h'
 ·
  rcases k t with k' | k'
  · exact .inl (h'.trans k')
  · exact .inr (h'.trans k')
theorem Ev.dH {K:Env→Prop} (hK:∀ e e',Less e' e→K e'→K e) (k g t:Nat) (want:Bool) (keep:List Nat) {b:Bool} (p:PV) {env':Env} (_hb:env.get g=.bool b) (_hk:settle keep env=some env')
  (h1:b=want→Ev P n all σ env (l.take k) fun e=>Less ((t,p) :: env') e)
  (h2:b=!want→Ev P n all σ env (l.take k) fun e=>Less ((t,p) :: env') e)
  (h3:Ev P n all σ ((t,p) :: env') (l.drop k) K):Ev P n all σ env l K:=by
 have key:(Ev P n all σ env (l.take k) fun e=>Less ((t,p) :: env') e)→Ev P n all σ env l K:=by
  intro h; rw [←List.take_append_drop k l]; refine Ev.append (Ev.abb (fun e he=>?_) h); exact Ev.less hK he h3
 cases b with
 | true=>cases want with
  | true=>exact key (h1 rfl)
  | false=>exact key (h2 rfl)
 | false=>cases want with
  | true=>exact key (h2 rfl)
  | false=>exact key (h1 rfl)
theorem hKA {L2:List Oper} (e e':Env) (h:Less e' e) (k:AR P n all L2 e' σ ds Q):AR P n all L2 e σ ds Q:=AR.less h k
theorem WW {X:Env} (e e':Env) (h:Less e' e) (k:Less X e'):Less X e:=k.trans h
theorem AR.dH (k g t:Nat) (want:Bool) (keep:List Nat) {b:Bool} (x:Bool) {env':Env}
  (hb:env.get g=.bool b) (hk:settle keep env=some env')
  (h1:b=want→AR P n all (l.take k) env σ ds fun ax e s d=>ax=.normal∧e=(t,.bool x) :: env'∧s=σ∧d=ds)
  (h2:b=!want→AR P n all (l.take k) env σ ds fun ax e s d=>ax=.normal∧e=(t,.bool x) :: env'∧s=σ∧d=ds)
  (h3:AR P n all (l.drop k) ((t,.bool x) :: env') σ ds Q):AR P n all l env σ ds Q:=
 AR.join k g t want keep (x:=x) (y:=x) hb hk h1 h2 (by cases (b == want) <;> exact h3)
end
section
variable {P : Program} {n : Nat} {env : Env} {σ : List bA} {ds : List Deferred} {Q : Post}
theorem AW.acE {A0:Type} {A1:Type} {c:Code} (E:A0→A1→Env) (T:A0→A1→List bA) (I:Nat→A0→A1→Prop) (k0:Nat) (x0:A0) (x1:A1) (h0:env=E x0 x1) (h1:σ=T x0 x1) (h2:I k0 x0 x1)
  (z:∀ x0 x1,I 0 x0 x1→False)
  (round:∀ k x0 x1,I (k + 1) x0 x1→AW P n c (E x0 x1) (T x0 x1) ds (AX.then (fun e s d=>∃ y0 y1,e=E y0 y1∧s=T y0 y1∧d=ds∧I k y0 y1) Q)):AW P n (.loop c) env σ ds Q:=by
 refine AW.loop (α:=Nat × (A0 × A1)) (fun q=>E (q.2.1) (q.2.2)) (fun q=>T (q.2.1) (q.2.2)) (fun q=>I q.1 (q.2.1) (q.2.2)) (fun q=>q.1) (k0,(x0,x1)) h0 h1 h2 ?_; rintro ⟨k,q⟩ hI; cases k with
 | zero=>exact (z _ _ hI).elim
 | succ k=>
  refine (round k (q.1) (q.2) hI).mono fun x e s d hx=>?_; cases x with
  | normal=>obtain ⟨y0,y1,h3,h4,h5,h6⟩:=hx; exact ⟨(k,(y0,y1)),h3,h4,h5,h6,Nat.lt_succ_self k⟩
  | exit id=>exact hx
  | ret=>exact hx
  | panic p=>exact hx
theorem AW.aev {A0:Type} {A1:Type} {c:Code} (E:A0→A1→Env) (T:A0→A1→List bA) (I:A0→A1→Prop)
  (h:AW P n c env σ ds (AX.then (fun e s d=>∃ y0 y1,e=E y0 y1∧s=T y0 y1∧d=ds∧I y0 y1) Q)) (hq:∀ x0 x1,I x0 x1→Q .normal (E x0 x1) (T x0 x1) ds):AW P n c env σ ds Q:=by
 refine h.mono fun x e s d hx=>?_; cases x with
 | normal=>obtain ⟨y0,y1,rfl,rfl,rfl,hI⟩:=hx; exact hq _ _ hI
 | exit id=>exact hx
 | ret=>exact hx
 | panic p=>exact hx
theorem AW.Uz {A0:Type} {A1:Type} {A2:Type} {c:Code} (E:A0→A1→A2→Env) (T:A0→A1→A2→List bA) (I:Nat→A0→A1→A2→Prop) (k0:Nat) (x0:A0) (x1:A1) (x2:A2) (h0:env=E x0 x1 x2) (h1:σ=T x0 x1 x2) (h2:I k0 x0 x1 x2)
  (z:∀ x0 x1 x2,I 0 x0 x1 x2→False)
  (round:∀ k x0 x1 x2,I (k + 1) x0 x1 x2→AW P n c (E x0 x1 x2) (T x0 x1 x2) ds (AX.then (fun e s d=>∃ y0 y1 y2,e=E y0 y1 y2∧s=T y0 y1 y2∧d=ds∧I k y0 y1 y2) Q)):AW P n (.loop c) env σ ds Q:=by
 refine AW.loop (α:=Nat × (A0 × A1 × A2)) (fun q=>E (q.2.1) (q.2.2.1) (q.2.2.2)) (fun q=>T (q.2.1) (q.2.2.1) (q.2.2.2)) (fun q=>I q.1 (q.2.1) (q.2.2.1) (q.2.2.2)) (fun q=>q.1) (k0,(x0,x1,x2)) h0 h1 h2 ?_; rintro ⟨k,q⟩ hI; cases k with
 | zero=>exact (z _ _ _ hI).elim
 | succ k=>
  refine (round k (q.1) (q.2.1) (q.2.2) hI).mono fun x e s d hx=>?_; cases x with
  | normal=>obtain ⟨y0,y1,y2,h3,h4,h5,h6⟩:=hx; exact ⟨(k,(y0,y1,y2)),h3,h4,h5,h6,Nat.lt_succ_self k⟩
  | exit id=>exact hx
  | ret=>exact hx
  | panic p=>exact hx
theorem AW.acD {A0:Type} {A1:Type} {A2:Type} {A3:Type} {A4:Type} {A5:Type} {c:Code} (E:A0→A1→A2→A3→A4→A5→Env) (T:A0→A1→A2→A3→A4→A5→List bA) (I:Nat→A0→A1→A2→A3→A4→A5→Prop) (k0:Nat) (x0:A0) (x1:A1) (x2:A2) (x3:A3) (x4:A4) (x5:A5) (h0:env=E x0 x1 x2 x3 x4 x5) (h1:σ=T x0 x1 x2 x3 x4 x5) (h2:I k0 x0 x1 x2 x3 x4 x5)
  (z:∀ x0 x1 x2 x3 x4 x5,I 0 x0 x1 x2 x3 x4 x5→False)
  (round:∀ k x0 x1 x2 x3 x4 x5,I (k + 1) x0 x1 x2 x3 x4 x5→AW P n c (E x0 x1 x2 x3 x4 x5) (T x0 x1 x2 x3 x4 x5) ds (AX.then (fun e s d=>∃ y0 y1 y2 y3 y4 y5,e=E y0 y1 y2 y3 y4 y5∧s=T y0 y1 y2 y3 y4 y5∧d=ds∧I k y0 y1 y2 y3 y4 y5) Q)):AW P n (.loop c) env σ ds Q:=by
 refine AW.loop (α:=Nat × (A0 × A1 × A2 × A3 × A4 × A5)) (fun q=>E (q.2.1) (q.2.2.1) (q.2.2.2.1) (q.2.2.2.2.1) (q.2.2.2.2.2.1) (q.2.2.2.2.2.2)) (fun q=>T (q.2.1) (q.2.2.1) (q.2.2.2.1) (q.2.2.2.2.1) (q.2.2.2.2.2.1) (q.2.2.2.2.2.2)) (fun q=>I q.1 (q.2.1) (q.2.2.1) (q.2.2.2.1) (q.2.2.2.2.1) (q.2.2.2.2.2.1) (q.2.2.2.2.2.2)) (fun q=>q.1) (k0,(x0,x1,x2,x3,x4,x5)) h0 h1 h2 ?_; rintro ⟨k,q⟩ hI; cases k with
 | zero=>exact (z _ _ _ _ _ _ hI).elim
 | succ k=>
  refine (round k (q.1) (q.2.1) (q.2.2.1) (q.2.2.2.1) (q.2.2.2.2.1) (q.2.2.2.2.2) hI).mono fun x e s d hx=>?_; cases x with
  | normal=>obtain ⟨y0,y1,y2,y3,y4,y5,h3,h4,h5,h6⟩:=hx; exact ⟨(k,(y0,y1,y2,y3,y4,y5)),h3,h4,h5,h6,Nat.lt_succ_self k⟩
  | exit id=>exact hx
  | ret=>exact hx
  | panic p=>exact hx
end
end Go.Abs
namespace Go.Abs
variable [iG]
open Go Go.Ft
section
variable {P : Program} {o : Oper} {ρ : Operand → PV} {σ : List bA} {R S : PV → List bA → Prop}
theorem zu {w:World} {m:jO} {σ:List bA} (hc:Conc w m σ) (ob:Obj):
  Conc (w.alloc ob) (fun b off=>m b off∨(b=w.heap.size∧False)) (.obj w.heap.size ob :: σ):=by
 have hc':=qA hc ob (fun _=>False); refine ⟨fun r hr=>?_,?_,hc'.wf,hc'.rE⟩
 ·
  rcases List.mem_cons.1 hr with rfl | hr
  ·
   refine ⟨heap_alloc_new w _,fun off ho=>?_⟩; rcases ho with ho | ⟨_,ho⟩
   · have:=hc.wf _ off ho; omega
   · exact ho
  · exact hc'.each r hr
 ·
  simp only [kI,List.flatMap_cons,bA.fp,List.singleton_append,List.nodup_cons]; refine ⟨fun hm=>?_,hc.apart⟩; have:=hc.Jj _ hm; omega
theorem AO.Wt {t:TypeId} {x:Operand} {s:List UInt8} (ho:o.op=.range t x) (hu:P.underlying t=some .string) (hx:ρ x=.str s)
  (hR:∀ b,R (.val (.pointer (some ⟨b,0,none⟩))) (.obj b (.stringIter ⟨s.toArray⟩ 0) :: σ)):AO P o ρ σ R S:=by
 refine AO.of_run' fun w m ev hr hc=>?_; have h1:=hr x (by simp [ho,Op.operands]); rw [hx] at h1; simp only [dU] at h1; have:=zu hc (.stringIter ⟨s.toArray⟩ 0); refine ⟨_,_,.pointer (some ⟨w.heap.size,0,none⟩),_,_,hR w.heap.size,?_,by simp [dU],this,jh hc _ _ fun b hb=>?_⟩
 · simp [execOp,ho,Instr.range,run_underlying hu,h1,go_sem]
 ·
  simp [kI,bA.fp] at hb ⊢; rcases hb with hb | hb
  · exact .inr hb
  · exact .inl hb
theorem F8 {w:World} {b:Nat} {s:ByteArray} {pos:Nat} (h:w.heap[b]?=some (.stringIter s pos)):(getObj b).run P w=.ok (.stringIter s pos) w:=by simp [getObj,Sem.run,h]
theorem AO.YD {x:Operand} {s:List UInt8} {b pos i:Nat} (ho:o.op=.next x true) (hx:ρ x=.val (.pointer (some ⟨b,0,none⟩))) (hi:σ[i]?=some (bA.obj b (.stringIter ⟨s.toArray⟩ pos)))
  (hlt:decide (pos < s.length)=true) (hR:R (.tuple [.bool true,.int .i64 (pos:Int),.int .i32 ((dec s pos).1:Int)]) (σ.set i (.obj b (.stringIter ⟨s.toArray⟩ (pos + (dec s pos).2))))):AO P o ρ σ R S:=by
 have hlt:=of_decide_eq_true hlt; refine AO.of_run' fun w m ev hr hc=>?_; have h1:=hr x (by simp [ho,Op.operands]); rw [hx] at h1; simp only [dU] at h1; obtain ⟨hb,hm⟩:=hc.each _ (List.mem_of_getElem? hi)
 have hblt:b < w.heap.size:=by
  rcases Nat.lt_or_ge b w.heap.size with h | h
  · exact h
  · simp [Array.getElem?_eq_none h] at hb
 let w':World:={w with heap:=w.heap.setIfInBounds b (.stringIter ⟨s.toArray⟩ (pos + (dec s pos).2))}; have hb':w'.heap[b]?=some (.stringIter ⟨s.toArray⟩ (pos + (dec s pos).2)):=by simp [w',hblt]
 obtain ⟨k1,k2⟩:=Conc.write (w':=w') (r':=.obj b (.stringIter ⟨s.toArray⟩ (pos + (dec s pos).2))) hc hi rfl rfl hm ⟨hb',hm⟩ ⟨rfl,rfl,rfl⟩ (by simp [w']) (fun k hk=>by simp [w',Array.getElem?_setIfInBounds_ne (Ne.symm hk)]); refine ⟨_,_,.tuple #[.bool true,.int .i64 (pos:Int),.int .i32 ((dec s pos).1:Int)],w',m,hR,?_,?_,k1,k2⟩
 ·
  have hsz:pos < (ByteArray.mk s.toArray).size:=by simpa [ByteArray.size] using hlt
  simp [execOp,ho,Instr.next,h1,F8 hb,hsz,setObj,Sem.run,hb,w',dec,goInt,Instr.next]
 ·
  simp only [dU]; exact ⟨_,rfl,bC.cons rfl (bC.cons rfl (bC.cons rfl bC.nil))⟩
theorem AO.WJ {x:Operand} {s:List UInt8} {b pos i:Nat} (ho:o.op=.next x true) (hx:ρ x=.val (.pointer (some ⟨b,0,none⟩))) (hi:σ[i]?=some (bA.obj b (.stringIter ⟨s.toArray⟩ pos)))
  (hge:decide (pos < s.length)=false) (hR:R (.tuple [.bool false]) σ):AO P o ρ σ R S:=by
 have hge:=of_decide_eq_false hge; refine AO.of_same hR fun w m ev hr hc=>?_; have h1:=hr x (by simp [ho,Op.operands]); rw [hx] at h1; simp only [dU] at h1; obtain ⟨hb,hm⟩:=hc.each _ (List.mem_of_getElem? hi); refine ⟨.tuple #[.bool false],?_,?_⟩
 ·
  have hsz:¬ pos < (ByteArray.mk s.toArray).size:=by simpa [ByteArray.size] using hge
  simp [execOp,ho,Instr.next,h1,F8 hb,hsz]
 ·
  simp only [dU]; exact ⟨_,rfl,bC.cons rfl bC.nil⟩
theorem Conc.kY {w:World} {m:jO} {σ:List bA} (h:Conc w m σ) {i b:Nat} {ty:TypeId} {cs:List PV} (hi:σ[i]?=some (bA.kY b ty cs)):
  ∃ vs:List Value,w.heap[b]?=some (.cells vs.toArray ty (0,0))∧bC w m cs vs∧∀ off,¬ m b off:=h.each _ (List.mem_of_getElem? hi)
theorem AO.jL {t:TypeId} {x:Operand} {cs:List PV} {b off i:Nat} {ty:TypeId} {ag:Bool} {k:Nat} {p:PV} (ho:o.op=.load t x) (hx:ρ x=.val (.pointer (some ⟨b,off,none⟩))) (hi:σ[i]?=some (bA.kY b ty cs))
  (ht:iW P t=some (ag,k)) {cs':List PV} (hd:AQ off cs=some cs') (hp:vZ ag k cs'=some p) (hR:R p σ):AO P o ρ σ R S:=by
 obtain ⟨rfl,_⟩:=Cj hd; refine AO.of_same hR fun w m ev hr hc=>?_; have h:=hr x (by simp [ho,Op.operands]); rw [hx] at h; simp only [dU] at h; obtain ⟨vs,g1,g2,_⟩:=hc.kY hi
 obtain ⟨v,h5,h6⟩:=vH ht hp (g2.drop off) (b:=b) (off:=off) fun i v hv=>by
  rw [cell_of_row w b (off + i) vs.toArray ty (0,0) g1]; simpa [List.getElem?_drop] using hv
 exact ⟨v,by simp [execOp,ho,Instr.loadAt,h,Instr.sureAddr,h5],h6⟩
theorem AO.qg {t:TypeId} {x y:Operand} {cs new cs':List PV} {b off i:Nat} {ty:TypeId} {ag:Bool} {k:Nat} {σ':List bA} (ho:o.op=.store t x y) (hx:ρ x=.val (.pointer (some ⟨b,off,none⟩))) (hi:σ[i]?=some (bA.kY b ty cs))
  (ht:iW P t=some (ag,k)) (hnew:(ρ y).wG=some new) (hone:new.all PV.one=true) (hk:Nat.beq new.length k=true) (hput:Qj cs off new=some cs') (hset:yI σ i (.kY b ty cs')=some σ') (hR:R .undef σ'):AO P o ρ σ R S:=by
 obtain ⟨hnew,hok⟩:=zo hnew; have hnew:=hnew.symm; have hk:=Nat.eq_of_beq_eq_true hk; obtain ⟨rfl,hfit⟩:=Hz hput; have hset:=KP hset; subst hset; intro w m a K QC hr hc hK _; have h:=hr x (by simp [ho,Op.operands]); have hy:=hr y (by simp [ho,Op.operands]); rw [hx] at h; simp only [dU] at h; obtain ⟨vs,g1,g2,g3⟩:=hc.kY hi; have hyl:=hy.cells hok; rw [hnew] at hyl; have hl:=hyl.length_eq; have hl2:=g2.length_eq; have hst:=run_storeCells_at P b off ty (a.eval y).cells.toList 0 vs.toArray w g1 (by simp at hl ⊢; omega) (hyl.oneCell hone); obtain ⟨_,hsz⟩:=yZ ht w; have hsize:(a.eval y).cells.size=k:=by rw [←Array.length_toList,hl,hk]
 have hrun:(execOp a.eval o).run P w=.ok .skip (w.setRow b (vs.take off ++ ((a.eval y).cells.toList ++ vs.drop (off + (a.eval y).cells.toList.length))).toArray):=by
  simp only [execOp,ho,Instr.storeAt,h,Instr.sureAddr,storeVar,Sem.run_bind,Sem.run_pure,Result.andThen_ok,hsz,hsize,ne_eq,not_true_eq_false,if_false]; rw [hst]; simp
 have hl':bC w m (putCells cs off new) (vs.take off ++ ((a.eval y).cells.toList ++ vs.drop (off + (a.eval y).cells.toList.length))):=by
  unfold putCells; refine (g2.take off).append (hyl.append ?_); rw [hl]; exact g2.drop _
 have hrow:=setRow_heap w b vs.toArray (vs.take off ++ ((a.eval y).cells.toList ++ vs.drop (off + (a.eval y).cells.toList.length))).toArray ty (0,0) g1; have hother:∀ k,k≠b→(w.setRow b (vs.take off ++ ((a.eval y).cells.toList ++ vs.drop (off + (a.eval y).cells.toList.length))).toArray).heap[k]?=w.heap[k]?:=fun k hk=>setRow_other w b k _ hk
 have hle:Le w m (w.setRow b (vs.take off ++ ((a.eval y).cells.toList ++ vs.drop (off + (a.eval y).cells.toList.length))).toArray) m:=by
  intro c off hco; refine ⟨hco,World.cell?_of_block (w:=w) (hother c ?_)⟩; intro e; subst e; exact g3 off hco
 obtain ⟨k1,k2⟩:=Conc.write (r':=.kY b ty (putCells cs off new)) hc hi rfl rfl g3 ⟨_,hrow,bC.mono hle _ _ hl',g3⟩ ⟨rfl,rfl,rfl⟩ (by simp [World.setRow]) hother; unfold Oper.wp; rw [hrun]; exact hK .undef _ _ _ m hR trivial k1 k2
theorem FM {w:World} {m:jO} {r:bA} {τ:List bA} (h:r.holds w m) (hn:r.fp.Nodup) (hd:∀ b∈r.fp,b∉kI τ) (hc:Conc w m τ):Conc w m (r :: τ):=by
 refine ⟨fun x hx=>?_,?_,hc.wf,hc.rE⟩
 ·
  rcases List.mem_cons.1 hx with rfl | hx
  · exact h
  · exact hc.each x hx
 ·
  have e:kI (r :: τ)=r.fp ++ kI τ:=by simp [kI]
  rw [e,List.nodup_append]; exact ⟨hn,hc.apart,fun a ha b hb hab=>hd a ha (hab ▸ hb)⟩
theorem AO.JI {e eu:TypeId} {cs:List PV} (ho:o.op=.alloc e) (hz:l6 P e=some cs) (hcs:cs=[.val (.pointer none),.own (.slice none 0 0) []])
  (hR:∀ b,R (.val (.pointer (some ⟨b,0,none⟩))) (.Ir b (.slice none 0 0) e eu [] :: σ)):AO P o ρ σ R S:=by
 refine AO.of_run' fun w m ev hr hc=>?_; obtain ⟨z,h1,h2⟩:=Bz hz w
 have hz':z.cells.toList=[.pointer none,.slice none 0 0]:=by
  have:=h2 m; rw [hcs] at this; simp only [bC,dU] at this; obtain ⟨v,vs,e1,rfl,v2,vs2,rfl,⟨rfl,_⟩,rfl⟩:=this; exact e1
 have ae9:z.cells=#[.pointer none,.slice none 0 0]:=by rw [←Array.toArray_toList (xs:=z.cells),hz']
 have hc':=qA hc (.cells z.cells e) (fun _=>False)
 have hnew:Conc (w.alloc (.cells z.cells e)) (fun b off=>m b off∨(b=w.heap.size∧False)) (.Ir w.heap.size (.slice none 0 0) e eu [] :: σ):=by
  refine FM ⟨⟨.pointer none,.inl rfl,?_⟩,fun off ho=>?_,rfl,⟨rfl,.inl ⟨rfl,rfl⟩⟩,fun g hg=>by cases hg⟩ (by simp [bA.fp,Value.ownBlock]) (fun b hb hm=>?_) hc'
  · rw [heap_alloc_new w _,ae9]
  ·
   rcases ho with ho | ⟨_,ho⟩
   · have:=hc.wf _ off ho; omega
   · exact ho
  ·
   simp [bA.fp,Value.ownBlock] at hb; subst hb; have:=hc.Jj _ hm; omega
 refine ⟨_,_,.pointer (some ⟨w.heap.size,0,none⟩),_,_,hR w.heap.size,?_,by simp [dU],hnew,jh hc _ _ fun b hb=>?_⟩
 · simp [execOp,ho,Instr.alloc,newVar,newRow,h1,go_sem]
 ·
  simp [kI,bA.fp,Value.ownBlock] at hb ⊢; rcases hb with hb | hb
  · exact .inr hb
  · exact .inl hb
theorem Conc.Sl {w:World} {m:jO} {b:Nat} {v:Value} {ty e:TypeId} {bs:List UInt8} {τ:List bA} (hc:Conc w m (.Ir b v ty e bs :: τ)):
  ∃ p m',(p=Value.pointer none∨p=.pointer (some ⟨b,0,none⟩))∧roomy v=true∧Conc w m' (.kY b ty [.val p,.own v (bs.map iQ)] :: .row v bs.length 1 e :: τ)∧
   Trans w m (.Ir b v ty e bs :: τ) w m' (.kY b ty [.val p,.own v (bs.map iQ)] :: .row v bs.length 1 e :: τ):=by
 obtain ⟨⟨p,hp,hb⟩,hmb,hroom,hrow,Oj⟩:=hc.each _ List.mem_cons_self; have hap:=hc.apart; have Xf:kI (.Ir b v ty e bs :: τ)=b :: (v.ownBlock.toList ++ kI τ):=by simp [kI,bA.fp]
 rw [Xf,List.nodup_cons,List.nodup_append] at hap; have hbn:v.ownBlock≠some b:=fun h=>hap.1 (by simp [h]); have hle:Le w m w (fun c off=>m c off∨(v.ownBlock=some c∧off < bs.length * 1)):=fun c off h=>⟨.inl h,rfl⟩; have hc2:Conc w m τ:=Conc.sub hc (List.sublist_cons_self _ _)
 have hτ:Conc w (fun c off=>m c off∨(v.ownBlock=some c∧off < bs.length * 1)) τ:=by
  refine ⟨fun r hr=>bA.uT (hc2.each r hr) hle fun c hcf=>⟨rfl,fun off h=>?_⟩,hc2.apart,fun c off h=>?_,iG.mono hle hc.rE⟩
  ·
   rcases h with h | ⟨h,_⟩
   · exact h
   · exact absurd rfl (hap.2.2.2 c (by simp [h]) c (by simp only [kI,List.mem_flatMap]; exact ⟨r,hr,hcf⟩))
  ·
   rcases h with h | ⟨h,_⟩
   · exact hc.wf c off h
   · exact hrow.block_lt h
 have hrep:dU w (fun c off=>m c off∨(v.ownBlock=some c∧off < bs.length * 1)) (.own v (bs.map iQ)) v:=by
  simp only [dU]; refine ⟨trivial,?_⟩; rcases hrow.2 with ⟨rfl,hn⟩ | ⟨g,cap,cur,fz,rfl,hg,hfz,hnc,hcm,hcs,htake⟩
  · exact ⟨none,0,by simp [hn],by simp [hn],.inl (by simpa using List.eq_nil_of_length_eq_zero hn)⟩
  ·
   refine ⟨some ⟨g,0,none⟩,cap,by simp,by simp; omega,.inr ⟨g,0,1,rfl,oZ.2 ⟨zq bs,nV.2 ⟨bs.map fun c=>.int .u8 (c.toNat:Int),?_,fun j u hj=>⟨.inr ⟨rfl,?_⟩,?_⟩⟩⟩⟩⟩
   · rw [z8]; exact (wS bs _).2 rfl
   ·
    have:=(List.getElem?_eq_some_iff.1 hj).1; simp at this; omega
   ·
    have hlt:j < bs.length * 1:=by have:=(List.getElem?_eq_some_iff.1 hj).1; simp at this; omega
    rw [Nat.zero_add,hrow.cell (b:=g) rfl hlt]; exact hj
 have afi:∀ c∈(bA.row v bs.length 1 e).fp,c∉kI τ:=fun c hcf=>hap.2.2.2 c hcf c |> fun h=>fun hm=>h hm rfl
 have aee:Conc w (fun c off=>m c off∨(v.ownBlock=some c∧off < bs.length * 1)) (.row v bs.length 1 e :: τ):=by
  refine FM ⟨_,hrow,fun c hcv off h=>?_⟩ (by cases h:v.ownBlock <;> simp [bA.fp,h]) afi hτ; rcases h with h | h
  · exact Oj c hcv off h
  · exact h.2
 refine ⟨p,_,hp,hroom,FM ⟨[p,v],hb,bC.cons (by simp [dU]) (bC.cons hrep bC.nil),fun off h=>?_⟩ (by simp [bA.fp]) (fun c hcf=>?_) aee,⟨rfl,rfl,rfl,Nat.le_refl _,hle,fun c _ hn=>⟨rfl,fun off h=>?_⟩,fun c hcf=>.inl ?_,fun _=>Nat.le_refl _⟩⟩
 ·
  rcases h with h | ⟨h,_⟩
  · exact hmb off h
  · exact hbn h
 ·
  simp only [bA.fp,List.mem_singleton] at hcf; subst hcf; have:kI (.row v bs.length 1 e :: τ)=v.ownBlock.toList ++ kI τ:=by simp [kI,bA.fp]
  rw [this]; exact hap.1
 ·
  rcases h with h | ⟨h,_⟩
  · exact h
  · exact absurd (by rw [Xf]; simp [h]) hn
 ·
  have:kI (.kY b ty [.val p,.own v (bs.map iQ)] :: .row v bs.length 1 e :: τ)=b :: (v.ownBlock.toList ++ kI τ):=by simp [kI,bA.fp]
  rw [this] at hcf; rw [Xf]; exact hcf
theorem L6 {w:World} {m:jO} {v:Value} {n sz:Nat} {e:TypeId} {xs:List Value} {l:List (List PV)} (hrow:tZ w e sz v n xs) (hn:l.length=n) (hsz:∀ x∈l,x.length=sz) (hl:dU w m (.own v l) v):bC w m l.flatten xs:=by
 simp only [dU] at hl; obtain ⟨_,a,cap,h1,h2,h3⟩:=hl; rcases h3 with h3 | ⟨b,off,sz',rfl,h4⟩
 ·
  subst h3; have:xs=[]:=List.eq_nil_of_length_eq_zero (by rw [hrow.1]; simp at hn; simp [←hn]); subst this; simpa using bC.nil
 ·
  obtain ⟨vs,k1,k2⟩:=nV.1 (oZ.1 h4).2
  have hvx:vs=xs:=by
   rcases hrow.2 with ⟨rfl,_⟩ | ⟨g,cap0,cur,fz,rfl,hg1,_,_,_,_,htake⟩
   · cases h1
   ·
    cases h1
    have hvl:vs.length=xs.length:=by
     rw [k1.length_eq,hrow.1]
     have:∀ (l:List (List PV)),(∀ x∈l,x.length=sz)→l.flatten.length=l.length * sz:=by
      intro l
      induction l with
      | nil=>simp
      | cons e es ih=>
       intro h; have h0:=h e (by simp); have:=ih fun x hx=>h x (by simp [hx]); simp only [List.flatten_cons,List.length_append,List.length_cons,this,h0,Nat.add_mul]; omega
     rw [this l hsz]
    apply List.ext_getElem hvl; intro j h1 h2; have h5:=(k2 j vs[j] (by simp [h1])).2; rw [Nat.zero_add,tZ.cell hrow (b:=b) rfl (by rw [←hrow.1]; exact h2)] at h5; simpa [h2] using h5.symm
  subst hvx; exact k1
theorem Conc.Xk {w:World} {m:jO} {b:Nat} {v p:Value} {ty e:TypeId} {bs:List UInt8} {τ:List bA} (hp:p=Value.pointer none∨p=.pointer (some ⟨b,0,none⟩)) (hroom:roomy v=true)
  (hc:Conc w m (.kY b ty [.val p,.own v (bs.map iQ)] :: .row v bs.length 1 e :: τ)):
  Conc w m (.Ir b v ty e bs :: τ)∧Trans w m (.kY b ty [.val p,.own v (bs.map iQ)] :: .row v bs.length 1 e :: τ) w m (.Ir b v ty e bs :: τ):=by
 obtain ⟨vs,hb,hrep,hmb⟩:=hc.each _ List.mem_cons_self; obtain ⟨xs,hrow,Oj⟩:=hc.each (.row v bs.length 1 e) (by simp); have Xf:kI (.kY b ty [.val p,.own v (bs.map iQ)] :: .row v bs.length 1 e :: τ)=kI (.Ir b v ty e bs :: τ):=by simp [kI,bA.fp]
 simp only [bC] at hrep; obtain ⟨v1,vs1,rfl,h1,v2,vs2,rfl,h2,rfl⟩:=hrep; simp only [dU] at h1; subst h1; have h2':=h2; simp only [dU] at h2'; obtain ⟨rfl,_⟩:=h2'; have hx:=L6 hrow (by simp) (zq bs) h2; rw [z8] at hx; have hx:=(wS bs xs).1 hx; subst hx; refine ⟨⟨fun r hr=>?_,by rw [←Xf]; exact hc.apart,hc.wf,hc.rE⟩,⟨rfl,rfl,rfl,Nat.le_refl _,Le.refl _ _,fun _ _ _=>⟨rfl,fun _ h=>h⟩,fun c hcf=>.inl (by rw [Xf]; exact hcf),fun _=>Nat.le_refl _⟩⟩; rcases List.mem_cons.1 hr with rfl | hr
 · exact ⟨⟨_,hp,hb⟩,hmb,hroom,hrow,Oj⟩
 · exact hc.each r (by simp [hr])
theorem AC.Ir {P:Program} {f:FuncId} {args:List PV} {b:Nat} {v:Value} {ty e:TypeId} {bs:List UInt8} {R:eT→List bA→Prop}
  (h:∀ p,(p=Value.pointer Option.none∨p=.pointer (some ⟨b,0,Option.none⟩))→roomy v=true→AC P f args [.kY b ty [.val p,.own v (bs.map iQ)],.row v bs.length 1 e] fun out σ'=>
   ∃ p' v' bs',σ'=[.kY b ty [.val p',.own v' (bs'.map iQ)],.row v' bs'.length 1 e]∧(p'=Value.pointer Option.none∨p'=.pointer (some ⟨b,0,Option.none⟩))∧roomy v'=true∧R out [.Ir b v' ty e bs']):
  AC P f args [.Ir b v ty e bs] R:=by
 intro w m vs hc hv; obtain ⟨p,m',hp,hroom,hc',ht⟩:=hc.Sl; refine (h p hp hroom w m' vs hc' (bC.mono ht.le _ _ hv)).mono fun en w' ⟨out,σ',m'',⟨p',v',bs',hσ,hp',hroom',hR⟩,hout,hc'',ht'⟩=>?_; subst hσ; obtain ⟨k1,k2⟩:=hc''.Xk hp' hroom'; exact ⟨out,_,m'',hR,hout,k1,(ht.trans ht').trans k2⟩
end
end Go.Abs
namespace Go.Abs
variable [iG]
open Go Go.Ft
section
variable {P : Program} {o : Oper} {ρ : Operand → PV} {σ : List bA} {R S : PV → List bA → Prop}
theorem AO.KQ {t u te:TypeId} {x y:Operand} {q:Option Addr} (ho:o.op=.binOp .eql t x y u) (hu:P.underlying t=some (.pointer te)) (hx:ρ x=.val (.pointer q)) (hy:ρ y=.val (.pointer none))
  (hR:R (.bool q.isNone) σ):AO P o ρ σ R S:=by
 refine AO.of_same hR fun w m ev hr _=>?_; have h1:=hr x (by simp [ho,Op.operands]); have h2:=hr y (by simp [ho,Op.operands]); rw [hx] at h1; rw [hy] at h2; simp only [dU] at h1 h2; refine ⟨.bool q.isNone,?_,by simp only [dU]⟩; have e1:binOp .eql t (.pointer q) (.pointer none)=(do pure (.bool (←Op.equal t (.pointer q) (.pointer none)))):=rfl
 have e2:(Op.equal t (.pointer q) (.pointer none)).run P w=.ok q.isNone w:=by
  show (Op.equalIn (9999 + 1) t (.pointer q) (.pointer none)).run P w=_; generalize 9999=d; unfold Op.equalIn; simp only [Sem.run_bind,run_underlying hu,Result.andThen_ok]; cases q <;> simp
 simp only [execOp,ho,h1,h2,e1,Sem.run_bind,Sem.run_pure]; simp [eqGuard,e2]
theorem AO.HV {t u te:TypeId} {x y:Operand} {a:Addr} {j:TypeInfo} (ho:o.op=.binOp .neq t x y u) (hu:P.underlying t=some (.pointer te)) (hte:P.info? te=some j) (hx:ρ x=.val (.pointer (some a))) (hy:ρ y=.val (.pointer (some a)))
  (hR:R (.bool false) σ):AO P o ρ σ R S:=by
 refine AO.of_same hR fun w m ev hr _=>?_; have h1:=hr x (by simp [ho,Op.operands]); have h2:=hr y (by simp [ho,Op.operands]); rw [hx] at h1; rw [hy] at h2; simp only [dU] at h1 h2; refine ⟨.bool false,?_,by simp only [dU]⟩; have e2:=Lib.run_neq_ptr_same w a hu hte; simp only [execOp,ho,h1,h2,Sem.run_bind]; simp [eqGuard,e2]
theorem sized {t n:Nat} (h:(P.info? t).map (·.size)=some n) (hn:(n != 0)=true):∃ j,P.info? t=some j∧(j.size != 0)=true:=by
 cases e:P.info? t with
 | none=>rw [e] at h; cases h
 | some j=>
  rw [e] at h; simp only [Option.map_some,Option.some.injEq] at h; exact ⟨j,rfl,by rw [h]; exact hn⟩
theorem AO.V8 {src dst t e:TypeId} {x:Operand} {b i n:Nat} {cs:List PV} {j:TypeInfo} (ho:o.op=.convert src dst x) (hs:P.underlying src=some (.pointer t)) (hd:P.underlying dst=some .unsafePointer) (ht:P.info? t=some j) (hj:(j.size != 0)=true)
  (hx:ρ x=.val (.pointer (some ⟨b,0,none⟩))) (hi:σ[i]?=some (bA.kY b e cs)) (hn:cs.length=n + 1) (hR:R (.val (.pointer (some ⟨b,0,none⟩))) σ):AO P o ρ σ R S:=by
 refine AO.of_same hR fun w m ev hr hc=>?_; have h1:=hr x (by simp [ho,Op.operands]); rw [hx] at h1; simp only [dU] at h1; obtain ⟨vs,g1,g2,_⟩:=hc.kY hi; have hsh:w.shape? b=some (e,vs.length):=by simp [World.shape?,g1]
 have hl:=g2.length_eq; refine ⟨.pointer (some ⟨b,0,none⟩),?_,by simp only [dU]⟩; have:=Lib.run_to_unsafe w ⟨b,0,none⟩ hs hd ht (by simpa using hj) hsh (by show 0 < vs.length; omega); simp [execOp,ho,h1,this]
theorem AO.SN {src dst u e:TypeId} {x:Operand} {b i n:Nat} {cs:List PV} {j:TypeInfo} (ho:o.op=.convert src dst x) (hs:P.underlying src=some .unsafePointer) (hd:P.underlying dst=some (.pointer u)) (hu:P.info? u=some j)
  (hx:ρ x=.val (.pointer (some ⟨b,0,none⟩))) (hi:σ[i]?=some (bA.kY b e cs)) (hn:cs.length=n) (hlies:liesAt P P.depth e (n / P.cellsOf e) 0 u 1=true) (hR:R (.val (.pointer (some ⟨b,0,none⟩))) σ):AO P o ρ σ R S:=by
 refine AO.of_same hR fun w m ev hr hc=>?_; have h1:=hr x (by simp [ho,Op.operands]); rw [hx] at h1; simp only [dU] at h1; obtain ⟨vs,g1,g2,_⟩:=hc.kY hi; have hsh:w.shape? b=some (e,n):=by simp [World.shape?,g1,←hn,g2.length_eq]
 refine ⟨.pointer (some ⟨b,0,none⟩),?_,by simp only [dU]⟩; have:=Lib.run_from_unsafe w ⟨b,0,none⟩ hs hd hu hsh hlies; simp [execOp,ho,h1,this]
theorem AO.Sm {c:Call} {x M9:Operand} {f:FuncId} {fn:Func} {p:PV} (ho:o.op=.call c) (kG:c.callee=.value M9) (hf:ρ M9=.fn f []) (hargs:c.args=#[x])
  (h1:P.funcs[f]?=some fn) (h2:(fn.name == "runtime.NumGoroutine")=false) (h3:fn.body.isNone=true) (h4:Extern.findNext fn=none) (h5:Extern.find fn=some Extern.AbiNoEscape.same) (hx:ρ x=p)
  (hR:R p σ):AO P o ρ σ R S:=by
 refine AO.of_same hR fun w m ev hr _=>?_; have hv:=hr x (by simp [ho,Op.operands,Call.operands,kG,hargs]); have hc:=hr M9 (by simp [ho,Op.operands,Call.operands,kG,hargs]); rw [hf] at hc; simp only [dU,bC] at hc; obtain ⟨cs,hc,rfl⟩:=hc; rw [hx] at hv; refine ⟨ev x,?_,hv⟩; have:=run_callFunc_extern (P:=P) h1 h2 h3 h4 h5 #[ev x] w; rw [Lib.run_noEscape] at this; simp only [Result.andThen] at this; unfold execOp; simp only [ho,resolve,kG,hc,hargs,Deferred.ofValue,invoke,Sem.run_bind,Sem.run_pure,Result.andThen_ok]; simp [this]
def J2 :Value→Option Addr
 | .slice a _ _=>a
 | _=>none
theorem AO.sliceData {c:Call} {x:Operand} {v:Value} {l:List (List PV)} (ho:o.op=.call c) (kG:c.callee=.builtin .unsafeSliceData) (hargs:c.args=#[x]) (hx:ρ x=.own v l) (hroom:roomy v=true)
  (hR:R (.val (.pointer (J2 v))) σ):AO P o ρ σ R S:=by
 refine AO.of_same hR fun w m ev hr _=>?_; have h1:=hr x (by simp [ho,Op.operands,Call.operands,kG,hargs]); rw [hx] at h1; simp only [dU] at h1; obtain ⟨h1,a,cap,h2,_⟩:=h1; have h3:v=.slice a l.length cap:=h1 ▸ h2; subst h3; refine ⟨.pointer a,?_,by simp only [dU,J2]⟩; cases a with
 | none=>simp [execOp,ho,resolve,kG,hargs,invoke,builtin,h1,Lib.run_unsafeSliceData_nil]
 | some a=>
  have hc:cap≠0:=by simpa [roomy] using hroom
  simp [execOp,ho,resolve,kG,hargs,invoke,builtin,h1,Lib.run_unsafeSliceData_row _ _ _ _ _ _ hc]
theorem AO.unsafeString {c:Call} {x y:Operand} {pt it e eu:TypeId} {b:Nat} {v p:Value} {bs:List UInt8} (ho:o.op=.call c) (kG:c.callee=.builtin .unsafeString) (hargs:c.args=#[x,y]) (hty:c.argTypes=#[pt,it])
  (hp:P.underlying pt=some (.pointer eu)) (hce:P.cellsOf eu=1) (hσ:σ=[.kY b e [.val p,.own v (bs.map iQ)],.row v bs.length 1 eu]) (hx:ρ x=.val (.pointer (J2 v))) (hy:ρ y=.int .i64 bs.length)
  (hR:R (.str bs) []):AO P o ρ σ R S:=by
 subst hσ; refine AO.of_run' fun w m ev hr hc=>?_; have h1:=hr x (by simp [ho,Op.operands,Call.operands,kG,hargs]); have h2:=hr y (by simp [ho,Op.operands,Call.operands,kG,hargs]); rw [hx] at h1; rw [hy] at h2; simp only [dU] at h1 h2; obtain ⟨vs,g1,g2,_⟩:=hc.each (.kY b e [.val p,.own v (bs.map iQ)]) (by simp); obtain ⟨xs,hrow,Oj⟩:=hc.each (.row v bs.length 1 eu) (by simp); simp only [bC] at g2; obtain ⟨v1,vs1,rfl,g3,v2,vs2,rfl,g4,rfl⟩:=g2; have hvv:v2=v:=by simp only [dU] at g4; exact g4.1
 rw [hvv] at g4; have hxs:=L6 hrow (by simp) (zq bs) g4; rw [z8] at hxs; have hxs:=(wS bs xs).1 hxs; subst hxs
 have ex:∀ r,(Builtin.unsafeString_ #[pt,it] o.type #[.pointer (J2 v),.int .i64 bs.length]).run P w=r→(execOp ev o).run P w=r.andThen fun v w'=>.ok (.value v) w':=by
  intro r hr'; simp [execOp,ho,resolve,kG,hargs,hty,invoke,builtin,h1,h2]; rw [←hr']
 have fin:∀ w',w'.os=w.os→w'.tape=w.tape→w'.output=w.output→w'.heap.size=w.heap.size→w'.drawn=w.drawn→(∀ k a,(w'.cell? ⟨k,a,none⟩)=w.cell? ⟨k,a,none⟩)→(∀ k,v.ownBlock≠some k→w'.heap[k]?=w.heap[k]?)→
   Conc w' m []∧Trans w m [.kY b e [.val p,.own v (bs.map iQ)],.row v bs.length 1 eu] w' m []:=by
  intro w' e1 e2 e3 e4 ed e5 e6; refine ⟨⟨by simp,by simp [kI],fun c off h=>by rw [e4]; exact hc.wf c off h,iG.mono (fun c off h=>⟨h,e5 c off⟩) hc.rE⟩,⟨e1,e2,e3,by omega,fun c off h=>⟨h,e5 c off⟩,fun c hcl hn=>⟨e6 c fun h=>hn ?_,fun _ h=>h⟩,by simp [kI],fun _=>Nat.le_of_eq ed.symm⟩⟩; simp [kI,bA.fp,h]
 by_cases h0:bs=[]
 ·
  subst h0; have hrun:=Lib.run_unsafeString_none (P:=P) w pt it o.type (J2 v); obtain ⟨k1,k2⟩:=fin w rfl rfl rfl rfl rfl (fun _ _=>rfl) (fun _ _=>rfl); exact ⟨.str [],[],.string .empty,w,m,hR,by rw [ex _ (by simpa using hrun)]; rfl,by simp only [dU]; rfl,k1,k2⟩
 ·
  rcases hrow.2 with ⟨_,hn⟩ | ⟨g,cap,cur,fz,rfl,hg,hfz,hnc,hcm,hcs,htake⟩
  · exact absurd (List.eq_nil_of_length_eq_zero hn) h0
  ·
   have hsh:w.shape? g=some (eu,cur.size):=by simp [World.shape?,hg]
   have hrun:=Lib.run_unsafeString_row (P:=P) w pt it o.type eu hp hce g cur.size hsh bs h0 (by omega) (by unfold maxLen at hcm; omega) (fun j x hj=>by
    rw [Addr.add_lit,Nat.zero_add,hrow.cell (b:=g) rfl (by have:=(List.getElem?_eq_some_iff.1 hj).1; omega)]
    simp [hj])
   have hz:bs.length≠0:=by simpa using h0
   have hsame:∀ k,k≠g→(w.freeze ⟨g,0,none⟩ bs.length).heap[k]?=w.heap[k]?:=by
    intro k hk; simp [World.freeze,hz,Array.getElem?_modify,Ne.symm hk]
   have hcell:∀ k a,(w.freeze ⟨g,0,none⟩ bs.length).cell? ⟨k,a,none⟩=w.cell? ⟨k,a,none⟩:=by
    intro k a; by_cases hk:k=g
    ·
     subst hk; simp [World.cell?,World.freeze,hz,Array.getElem?_modify,hg]
    · simp only [World.cell?,hsame k hk]
   obtain ⟨k1,k2⟩:=fin (w.freeze ⟨g,0,none⟩ bs.length) (by simp [World.freeze,hz]) (by simp [World.freeze,hz]) (by simp [World.freeze,hz]) (by simp [World.freeze,hz]) (by simp [World.freeze,hz]) hcell (fun k hk=>hsame k fun e=>hk (by subst e; rfl)); refine ⟨.str bs,[],.string ⟨bs.toArray⟩,_,m,hR,?_,by simp only [dU],k1,k2⟩; rw [ex _ hrun]; rfl
theorem AC.aaI {P:Program} {f:FuncId} {args:List PV} {b:Nat} {v:Value} {ty e:TypeId} {bs:List UInt8} {R:eT→List bA→Prop}
  (h:∀ p,roomy v=true→AC P f args [.kY b ty [.val p,.own v (bs.map iQ)],.row v bs.length 1 e] R):AC P f args [.Ir b v ty e bs] R:=by
 intro w m vs hc hv; obtain ⟨p,m',_,hroom,hc',ht⟩:=hc.Sl; refine (h p hroom w m' vs hc' (bC.mono ht.le _ _ hv)).mono fun en w' ⟨out,σ',m'',hR,hout,hc'',ht'⟩=>?_; exact ⟨out,_,m'',hR,hout,hc'',ht.trans ht'⟩
theorem AO.JH {c:Call} {s x:Operand} {t tx e:TypeId} {v:Value} {i:Nat} {l m r:List UInt8} (hv:app l m=some r) (ho:o.op=.call c) (kG:c.callee=.builtin .append) (hargs:c.args=#[s,x]) (hty:c.argTypes=#[t,tx])
  (hs:ρ s=.own v (l.map iQ)) (hx:Gl P 1 tx (ρ x) (m.map iQ)) (hi:σ[i]?=some (bA.row v l.length 1 e)) (hf:iV P t e 1 1)
  (hR:∀ v' σ',yI σ i (.row v' r.length 1 e)=some σ'→(roomy v=true→roomy v'=true)→R (.own v' (r.map iQ)) σ'):AO P o ρ σ R S:=by
 obtain ⟨h1,rfl⟩:=Co hv; have hlim:l.length + m.length≤4294967296:=h1; refine AO.VX ho kG hargs hty hs hx hi hf (by simp) (zq l) (zq m) (by simp only [List.length_map]; exact Nat.le_trans h1 Zm) (by simp only [List.length_map]; omega) ?_; intro v' σ' h h'; rw [←List.map_append]; exact hR v' σ' (by simpa using h) h'
theorem AC.one {P:Program} {f:FuncId} {args:List PV} {σ:List bA} {R:eT→List bA→Prop} {r:bA} (i:Nat) (hi:σ[i]?=some r)
  (h:AC P f args [r] fun out σ'=>∃ r',σ'=[r']∧R out (σ.set i r')):AC P f args σ R:=by
 intro w m vs hc hv; have hc1:=hc.perm (xM hi r).1; refine (h w m vs hc1.left hv).mono fun en w' ⟨out,σ',m',⟨r',hσ,hR⟩,hout,hc',ht⟩=>?_; subst hσ; obtain ⟨f1,f2⟩:=Conc.frame hc1 hc' ht; obtain ⟨p1,p2⟩:=xM hi r'; exact ⟨out,_,m',hR,hout,f1.perm p2.symm,f2.perm p1.symm p2.symm⟩
theorem AC.Qq {P:Program} {f:FuncId} {args:List PV} {σ:List bA} {R:eT→List bA→Prop} {r:bA} (i:Nat) (hi:σ[i]?=some r)
  (h:AC P f args [r] fun out σ'=>R out (σ.eraseIdx i)):AC P f args σ R:=by
 intro w m vs hc hv; have hp:=(xM hi r).1; have hc1:=hc.perm hp; refine (h w m vs hc1.left hv).mono fun en w' ⟨out,σ',m',hR,hout,hc',ht⟩=>?_; obtain ⟨f1,f2⟩:=Conc.frame hc1 hc' ht; exact ⟨out,_,m',hR,hout,f1.sub (List.sublist_append_right _ _),(f2.perm hp.symm (List.Perm.refl _)).sub (List.sublist_append_right _ _)⟩
end
end Go.Abs
namespace Go.Abs
variable [iG]
open Go Go.Ft
structure Facts where
 ti:List (Nat × Bool × Nat)
 fo:List (Nat × Nat × Nat)
 fd:List (Nat × Nat × Nat × Bool × Nat)
 str:List Nat
def GN :List (Nat × Bool × Nat)→Nat→Option (Bool × Nat)
 | [],_=>none
 | (t,x) :: r,u=>bif Nat.beq t u then some x else GN r u
def QB :List (Nat × Nat × Nat)→Nat→Nat→Option Nat
 | [],_,_=>none
 | (t,f,x) :: r,u,g=>bif (Nat.beq t u && Nat.beq f g) then some x else QB r u g
def QE :List (Nat × Nat × Nat × Bool × Nat)→Nat→Nat→Option (Nat × Bool × Nat)
 | [],_,_=>none
 | (t,f,x) :: r,u,g=>bif (Nat.beq t u && Nat.beq f g) then some x else QE r u g
def fdB (P:Program) (t f:Nat) (off:Nat) (ag:Bool) (k:Nat):Bool:=
 match P.underlying t with
 | some (.struct fs)=>match fs[f]? with
  | some fl=>Nat.beq fl.offset off && (match iW P fl.type with | some (a,n)=>(a == ag) && Nat.beq n k | none=>false)
  | none=>false
 | _=>false
def aeY (P:Program) (t:Nat):Bool:=match P.underlying t with | some .string=>true | _=>false
def Facts.okB (F:Facts) (P:Program):Bool:=
 (F.ti.all fun x=>match iW P x.1 with | some (a,n)=>(a == x.2.1) && Nat.beq n x.2.2 | none=>false) &&
 (F.fo.all fun x=>match pK P x.1 x.2.1 with | some n=>Nat.beq n x.2.2 | none=>false) &&
 (F.fd.all fun x=>fdB P x.1 x.2.1 x.2.2.1 x.2.2.2.1 x.2.2.2.2) &&
 (F.str.all fun t=>aeY P t)
section
variable {P : Program} {F : Facts}
theorem Facts.ZX (h:F.okB P=true) {t:Nat} {x:Bool × Nat} (hf:GN F.ti t=some x):iW P t=some x:=by
 simp only [Facts.okB,Bool.and_eq_true] at h; have h:=h.1.1.1; revert hf h; generalize F.ti=l
 induction l with
 | nil=>intro hf _; cases hf
 | cons y l ih=>
  obtain ⟨u,a,n⟩:=y; intro hf h; simp only [List.all_cons,Bool.and_eq_true] at h; unfold GN at hf; cases e:Nat.beq u t with
  | true=>
   rw [e] at hf; simp only [cond_true,Option.some.injEq] at hf; subst hf; have:=Nat.eq_of_beq_eq_true e; subst this; have h1:=h.1; split at h1
   ·
    rename_i a' n' ht; simp only [Bool.and_eq_true,beq_iff_eq] at h1; rw [ht,h1.1,Nat.eq_of_beq_eq_true h1.2]
   · cases h1
  | false=>rw [e] at hf; exact ih hf h.2
theorem Facts.aer (h:F.okB P=true) {t f x:Nat} (hf:QB F.fo t f=some x):pK P t f=some x:=by
 simp only [Facts.okB,Bool.and_eq_true] at h; have h:=h.1.1.2; revert hf h; generalize F.fo=l
 induction l with
 | nil=>intro hf _; cases hf
 | cons y l ih=>
  obtain ⟨u,g,n⟩:=y; intro hf h; simp only [List.all_cons,Bool.and_eq_true] at h; unfold QB at hf; cases e:(Nat.beq u t && Nat.beq g f) with
  | true=>
   rw [e] at hf; simp only [cond_true,Option.some.injEq] at hf; subst hf; simp only [Bool.and_eq_true] at e; have e1:=Nat.eq_of_beq_eq_true e.1; have e2:=Nat.eq_of_beq_eq_true e.2; subst e1 e2; have h1:=h.1; split at h1
   ·
    rename_i n' ht; rw [ht,Nat.eq_of_beq_eq_true h1]
   · cases h1
  | false=>rw [e] at hf; exact ih hf h.2
theorem Facts.afs (h:F.okB P=true) {t f off k:Nat} {ag:Bool} (hf:QE F.fd t f=some (off,ag,k)):fdB P t f off ag k=true:=by
 simp only [Facts.okB,Bool.and_eq_true] at h; have h:=h.1.2; revert hf h; generalize F.fd=l
 induction l with
 | nil=>intro hf _; cases hf
 | cons y l ih=>
  obtain ⟨u,g,n⟩:=y; intro hf h; simp only [List.all_cons,Bool.and_eq_true] at h; unfold QE at hf; cases e:(Nat.beq u t && Nat.beq g f) with
  | true=>
   rw [e] at hf; simp only [cond_true,Option.some.injEq] at hf; subst hf; simp only [Bool.and_eq_true] at e; have e1:=Nat.eq_of_beq_eq_true e.1; have e2:=Nat.eq_of_beq_eq_true e.2; subst e1 e2; exact h.1
  | false=>rw [e] at hf; exact ih hf h.2
theorem Y0 {t f off k:Nat} {ag:Bool} (h:fdB P t f off ag k=true):∃ fs fl,P.underlying t=some (.struct fs)∧fs[f]?=some fl∧fl.offset=off∧iW P fl.type=some (ag,k):=by
 unfold fdB at h; split at h
 ·
  rename_i fs hu; split at h
  ·
   rename_i fl hfl; simp only [Bool.and_eq_true] at h; refine ⟨fs,fl,hu,hfl,Nat.eq_of_beq_eq_true h.1,?_⟩; have h2:=h.2; split at h2
   ·
    rename_i a n ht; simp only [Bool.and_eq_true,beq_iff_eq] at h2; rw [ht,h2.1,Nat.eq_of_beq_eq_true h2.2]
   · cases h2
  · cases h
 · cases h
end
def WC (F:Facts) (ρ:Operand→PV):Op→Option PV
 | .nilCheck x=>bif (ρ x).notNil then (ρ x).force else none
 | .fieldAddr s x f=>match QB F.fo s f with
  | some off=>match ρ x with
   | .ref cs=>match AQ off cs with
    | some r=>some (.ref r)
    | none=>none
   | .val (.pointer (some ⟨b,k,none⟩))=>some (.val (.pointer (some ⟨b,k + off,none⟩)))
   | _=>none
  | none=>none
 | .load t x=>match GN F.ti t with
  | some (ag,k)=>match ρ x with
   | .ref cs=>vZ ag k cs
   | _=>none
  | none=>none
 | .field t x f=>match QE F.fd t f with
  | some (off,ag,k)=>match ρ x with
   | .agg cs=>match AQ off cs with
    | some r=>vZ ag k r
    | none=>none
   | _=>none
  | none=>none
 | op=>pev ρ op
theorem zM {P:Program} {F:Facts} (hF:F.okB P=true) {o:Oper} {ρ:Operand→PV} {σ:List bA} {R S:PV→List bA→Prop} {p:PV} (h:WC F ρ o.op=some p) (hR:R p σ):AO P o ρ σ R S:=by
 unfold WC at h; split at h
 ·
  rename_i x ho; cases e:(ρ x).notNil with
  | false=>rw [e] at h; cases h
  | true=>
   rw [e] at h; simp only [cond_true] at h; rw [←PV.force_eq h] at hR; exact AO.nilCheck ho e hR
 ·
  rename_i s x f ho; split at h
  ·
   rename_i off hoff; split at h
   ·
    rename_i cs hx; split at h
    ·
     rename_i r hr; simp only [Option.some.injEq] at h; subst h; exact AO.Ou ho hx (Facts.aer hF hoff) hr hR
    · cases h
   ·
    rename_i b k hx; simp only [Option.some.injEq] at h; subst h; exact AO.cK ho hx (Facts.aer hF hoff) hR
   · cases h
  · cases h
 ·
  rename_i t x ho; split at h
  ·
   rename_i ag k hti; split at h
   ·
    rename_i cs hx; exact AO.Ca ho hx (Facts.ZX hF hti) h hR
   · cases h
  · cases h
 ·
  rename_i t x f ho; split at h
  ·
   rename_i off ag k hfd; obtain ⟨fs,fl,h1,h2,h3,h4⟩:=Y0 (Facts.afs hF hfd); split at h
   ·
    rename_i cs hx; split at h
    ·
     rename_i r hr; exact AO.field ho h1 h2 h3 h4 hx hr h hR
    · cases h
   · cases h
  · cases h
 · exact AO.calc' h hR
def AB (all:Array Oper) (env:Env):Option (Nat × Bool)→Option Bool
 | none=>some true
 | some (j,want)=>match all[j]? with
  | some oj=>match oj.dst with
   | some u=>match env.get u with
    | .bool true=>some want
    | .bool false=>some (!want)
    | .val (.tuple ⟨[]⟩)=>some false
    | _=>none
   | none=>none
  | none=>none
theorem qp {all:Array Oper} {env:Env} {j:Nat} {want r:Bool} (h:AB all env (some (j,want))=some r):
  ∃ oj u,all[j]?=some oj∧oj.dst=some u∧((r=true∧env.get u=.bool want)∨(r=false∧(env.get u=.bool (!want)∨env.get u=.val Go.undef))):=by
 unfold AB at h; simp only at h; cases h1:all[j]? with
 | none=>rw [h1] at h; cases h
 | some oj=>
  rw [h1] at h; simp only at h; cases h2:oj.dst with
  | none=>rw [h2] at h; cases h
  | some u=>
   rw [h2] at h; simp only at h; refine ⟨oj,u,rfl,h2,?_⟩; split at h
   ·
    rename_i he; simp only [Option.some.injEq] at h; subst h; cases want with
    | true=>exact .inl ⟨rfl,he⟩
    | false=>exact .inr ⟨rfl,.inl he⟩
   ·
    rename_i he; simp only [Option.some.injEq] at h; subst h; cases want with
    | true=>exact .inr ⟨rfl,.inl he⟩
    | false=>exact .inl ⟨rfl,he⟩
   ·
    rename_i he; simp only [Option.some.injEq] at h; subst h; exact .inr ⟨rfl,.inr he⟩
   · cases h
def Kv (F:Facts) (all:Array Oper) (n:Nat):Nat→List Oper→Env→Option (Env × List Oper)
 | 0,l,env=>some (env,l)
 | _ + 1,[],_=>none
 | k + 1,o :: rest,env=>match o.dst with
  | some t=>bif Nat.blt t n then (match AB all env o.guard with
   | some true=>match WC F env.ev o.op with
    | some p=>Kv F all n k rest ((t,p) :: env)
    | none=>none
   | some false=>Kv F all n k rest ((t,.val Go.undef) :: env)
   | none=>none) else none
  | none=>none
section
variable {P : Program} {n : Nat} {σ : List bA} {ds : List Deferred} {Q : Post} {all : Array Oper} {F : Facts}
theorem AR.cs (hF:F.okB P=true):∀ (k:Nat) {l l':List Oper} {env env':Env},Kv F all n k l env=some (env',l')→AR P n all l' env' σ ds Q→AR P n all l env σ ds Q
 | 0,l,l',env,env',h,hr=>by simp only [Kv,Option.some.injEq,Prod.mk.injEq] at h; obtain ⟨rfl,rfl⟩:=h; exact hr
 | k + 1,[],l',env,env',h,hr=>by simp [Kv] at h
 | k + 1,o :: rest,l',env,env',h,hr=>by
  unfold Kv at h; cases hd:o.dst with
  | none=>rw [hd] at h; cases h
  | some t=>
   rw [hd] at h; simp only at h; cases ht:Nat.blt t n with
   | false=>rw [ht] at h; cases h
   | true=>
    rw [ht] at h; simp only [cond_true] at h; cases hg:AB all env o.guard with
    | none=>rw [hg] at h; cases h
    | some r=>
     rw [hg] at h; cases r with
     | true=>
      simp only at h; cases hp:WC F env.ev o.op with
      | none=>rw [hp] at h; cases h
      | some p=>
       rw [hp] at h; have ih:=AR.cs hF k h hr; cases hgo:o.guard with
       | none=>exact AR.step hgo hd ht (zM hF hp ih)
       | some jw=>
        obtain ⟨j,want⟩:=jw; rw [hgo] at hg; obtain ⟨oj,u,h1,h2,h3⟩:=qp hg; rcases h3 with ⟨_,h3⟩ | ⟨h3,_⟩
        ·
         refine AR.run (b:=want) hgo h1 h2 h3 hd ht rfl ?_; exact AR.step rfl hd ht (zM hF hp ih)
        · cases h3
     | false=>
      simp only at h; have ih:=AR.cs hF k h hr; cases hgo:o.guard with
      | none=>rw [hgo] at hg; cases hg
      | some jw=>
       obtain ⟨j,want⟩:=jw; rw [hgo] at hg; obtain ⟨oj,u,h1,h2,h3⟩:=qp hg; rcases h3 with ⟨h3,_⟩ | ⟨_,h3 | h3⟩
       · cases h3
       · exact AR.skip hgo h1 h2 h3 hd ht rfl ih
       · exact AR.Vp hgo h1 h2 h3 hd ht ih
theorem Ev.cs {K:Env→Prop} (hF:F.okB P=true):∀ (k:Nat) {l l':List Oper} {env env':Env},Kv F all n k l env=some (env',l')→Ev P n all σ env' l' K→Ev P n all σ env l K
 | 0,l,l',env,env',h,hr=>by simp only [Kv,Option.some.injEq,Prod.mk.injEq] at h; obtain ⟨rfl,rfl⟩:=h; exact hr
 | k + 1,[],l',env,env',h,hr=>by simp [Kv] at h
 | k + 1,o :: rest,l',env,env',h,hr=>by
  unfold Kv at h; cases hd:o.dst with
  | none=>rw [hd] at h; cases h
  | some t=>
   rw [hd] at h; simp only at h; cases ht:Nat.blt t n with
   | false=>rw [ht] at h; cases h
   | true=>
    rw [ht] at h; simp only [cond_true] at h; cases hg:AB all env o.guard with
    | none=>rw [hg] at h; cases h
    | some r=>
     rw [hg] at h; cases r with
     | true=>
      simp only at h; cases hp:WC F env.ev o.op with
      | none=>rw [hp] at h; cases h
      | some p=>
       rw [hp] at h; have ih:=Ev.cs hF k h hr; cases hgo:o.guard with
       | none=>exact Ev.cons hgo hd ht (zM hF hp ⟨rfl,rfl⟩) ih
       | some jw=>
        obtain ⟨j,want⟩:=jw; rw [hgo] at hg; obtain ⟨oj,u,h1,h2,h3⟩:=qp hg; rcases h3 with ⟨_,h3⟩ | ⟨h3,_⟩
        · exact Ev.run (b:=want) hgo h1 h2 h3 hd ht rfl (zM hF hp ⟨rfl,rfl⟩) ih
        · cases h3
     | false=>
      simp only at h; have ih:=Ev.cs hF k h hr; cases hgo:o.guard with
      | none=>rw [hgo] at hg; cases hg
      | some jw=>
       obtain ⟨j,want⟩:=jw; rw [hgo] at hg; obtain ⟨oj,u,h1,h2,h3⟩:=qp hg; rcases h3 with ⟨h3,_⟩ | ⟨_,h3 | h3⟩
       · cases h3
       · exact Ev.skip hgo h1 h2 h3 hd ht rfl ih
       · exact Ev.Vp hgo h1 h2 h3 hd ht ih
theorem AR.is {l:List Oper} {env:Env} {b want:Bool} (u:Nat) (h:b=want) (hu:env.get u=.bool b) (hr:AR P n all l ((u,.bool want) :: env) σ ds Q):AR P n all l env σ ds Q:=by
 subst h; refine AR.less ?_ hr; intro t; simp only [Env.get]; cases e:Nat.beq u t with
 | false=>exact .inr rfl
 | true=>rw [←Nat.eq_of_beq_eq_true e]; exact .inr hu.symm
theorem Ev.is {K:Env→Prop} (hK:∀ e e',Less e' e→K e'→K e) {l:List Oper} {env:Env} {b want:Bool} (u:Nat) (h:b=want) (hu:env.get u=.bool b) (hr:Ev P n all σ ((u,.bool want) :: env) l K):Ev P n all σ env l K:=by
 subst h; refine Ev.less hK ?_ hr; intro t; simp only [Env.get]; cases e:Nat.beq u t with
 | false=>exact .inr rfl
 | true=>rw [←Nat.eq_of_beq_eq_true e]; exact .inr hu.symm
theorem AR.go {t j u:Nat} {want:Bool} {oj o:Oper} {rest:List Oper} {env:Env} (hg:o.guard=some (j,want)) (hj:all[j]?=some oj) (hu:oj.dst=some u) (hb:env.get u=.bool want) (hd:o.dst=some t) (ht:Nat.blt t n=true)
  (h:AO P {o with guard:=none} env.ev σ (fun p σ'=>AR P n all rest ((t,p) :: env) σ' ds Q) (fun p σ'=>Q (.panic p) env σ' ds)):AR P n all (o :: rest) env σ ds Q:=
 AR.run hg hj hu hb hd ht rfl (AR.step rfl hd ht h)
end
end Go.Abs
namespace Go.Abs
variable [iG]
open Go Go.Ft
inductive Fr where
 | sq (c:Code)
 | bl (id:Nat)
 | lp (R:Env→List bA→List Deferred→Prop)
def den (P:Program) (n:Nat):List Fr→Post→Post
 | [],Q=>Q
 | .sq c :: k,Q=>AX.then (fun e s d=>AW P n c e s d (den P n k Q)) (den P n k Q)
 | .bl id :: k,Q=>AX.inBlock id (den P n k Q)
 | .lp R :: k,Q=>AX.then R (den P n k Q)
inductive St where
 | w (c:Code) (k:List Fr) (e:Env) (s:List bA)
 | r (all:Array Oper) (l:List Oper) (k:List Fr) (e:Env) (s:List bA)
 | x (ax:AX) (k:List Fr) (e:Env) (s:List bA)
def St.ok (P:Program) (n:Nat) (ds:List Deferred) (Q:Post):St→Prop
 | .w c k e s=>AW P n c e s ds (den P n k Q)
 | .r all l k e s=>AR P n all l e s ds (den P n k Q)
 | .x ax k e s=>den P n k Q ax e s ds
structure FB where
 f:Facts
 zp:List (Nat × List PV)
 pl:List (Nat × List (Nat × Nat))
def SS {α:Type}:List (Nat × α)→Nat→Option α
 | [],_=>none
 | (t,x) :: r,u=>bif Nat.beq t u then some x else SS r u
theorem ML {α:Type} {g:Nat→Option α}:∀ {l:List (Nat × α)} {t:Nat} {x:α},l.map (fun y=>g y.1)=l.map (fun y=>some y.2)→SS l t=some x→g t=some x
 | [],t,x,_,h=>by cases h
 | (u,y) :: l,t,x,h0,h=>by
  simp only [List.map_cons,List.cons.injEq] at h0; unfold SS at h; cases e:Nat.beq u t with
  | true=>
   rw [e] at h; simp only [cond_true,Option.some.injEq] at h; rw [←Nat.eq_of_beq_eq_true e,←h]; exact h0.1
  | false=>rw [e] at h; exact ML h0.2 h
structure FB.Ok (F:FB) (P:Program):Prop where
 f:F.f.okB P=true
 zp:F.zp.map (fun x=>l6 P x.1)=F.zp.map (fun x=>some x.2)
 pl:F.pl.map (fun x=>zA P x.1)=F.pl.map (fun x=>some x.2)
def opX (F:FB) (s:List bA) (ρ:Operand→PV) (ix A B:List Nat):Op→Option (PV × List Nat × List Nat × List Nat)
 | .load t x=>match GN F.f.ti t with
  | some (ag,k)=>match ρ x with
   | .ref cs=>match vZ ag k cs with
    | some p=>some (p,ix,A,B)
    | none=>none
   | .val (.pointer (some ⟨b,off,none⟩))=>match ix with
    | i :: ix'=>match s[i]? with
     | some (.box b' cs)=>match AQ off cs with
      | some cs'=>match vZ ag k cs' with
       | some p=>some (p,ix',b :: A,b' :: B)
       | none=>none
      | none=>none
     | _=>none
    | []=>none
   | _=>none
  | none=>none
 | .box _ x=>match (ρ x).wG with
  | some cs=>match La cs with
   | some cs'=>some (.ref cs',ix,A,B)
   | none=>none
  | none=>none
 | .build t parts=>match SS F.zp t with
  | some zc=>match SS F.pl t with
   | some pl=>match zQ (fun i=>pl[i]?) zc (parts.toList.map fun x=>(x.1,ρ x.2)) with
    | some cs=>some (.agg cs,ix,A,B)
    | none=>none
   | none=>none
  | none=>none
 | op=>match WC F.f ρ op with
  | some p=>some (p,ix,A,B)
  | none=>none
def stX (F:FB) (s:List bA) (ρ:Operand→PV) (ix A B:List Nat):Op→Option (List bA × List Nat × List Nat × List Nat)
 | .store t x y=>match GN F.f.ti t with
  | some (_,k)=>match ρ x with
   | .val (.pointer (some ⟨b,off,none⟩))=>match ix with
    | i :: ix'=>match s[i]? with
     | some (.box b' cs)=>match (ρ y).wG with
      | some new=>bif (new.all PV.one && Nat.beq new.length k) then (match Qj cs off new with
       | some cs'=>match yI s i (.box b cs') with
        | some s'=>some (s',ix',b :: A,b' :: B)
        | none=>none
       | none=>none) else none
      | none=>none
     | _=>none
    | []=>none
   | _=>none
  | none=>none
 | _=>none
def run (F:FB) (n:Nat) (fl:Nat):Nat→Nat→List Nat→List Nat→List Nat→St→Option (List Nat × List Nat × St)
 | 0,_,_,_,_,_=>none
 | f + 1,b,ix,A,B,.w c k e s=>match c with
  | .seq c d=>run F n fl f b ix A B (.w c (.sq d :: k) e s)
  | .block id c=>bif Nat.beq fl 2 && Nat.beq b 0 then some (A,B,.w (.block id c) k e s) else run F n fl f b ix A B (.w c (.bl id :: k) e s)
  | .region _ all false=>run F n fl f b ix A B (.r all all.toList k e s)
  | .skip=>bif Nat.beq fl 2 && Nat.beq b 0 then some (A,B,.w .skip k e s) else run F n fl f b ix A B (.x .normal k e s)
  | .label _=>run F n fl f b ix A B (.x .normal k e s)
  | .exit id=>bif Nat.beq fl 2 && Nat.beq b 0 then some (A,B,.w (.exit id) k e s) else run F n fl f b ix A B (.x (.exit id) k e s)
  | .ret=>bif Nat.beq fl 2 && Nat.beq b 0 then some (A,B,.w .ret k e s) else run F n fl f b ix A B (.x .ret k e s)
  | c=>bif Nat.beq b 0 then some (A,B,.w c k e s) else none
 | f + 1,b,ix,A,B,.r all l k e s=>match l with
  | []=>bif Nat.beq fl 1 && Nat.beq b 0 then some (A,B,.r all [] k e s) else run F n fl f b ix A B (.x .normal k e s)
  | o :: rest=>match b with
   | 0=>some (A,B,.r all (o :: rest) k e s)
   | b + 1=>match o.dst with
    | some t=>bif Nat.blt t n then (match AB all e o.guard with
     | some true=>match opX F s e.ev ix A B o.op with
      | some (p,ix',A',B')=>run F n fl f b ix' A' B' (.r all rest k ((t,p) :: e) s)
      | none=>none
     | some false=>run F n fl f b ix A B (.r all rest k ((t,.val Go.undef) :: e) s)
     | none=>none) else none
    | none=>match o.guard with
     | none=>match stX F s e.ev ix A B o.op with
      | some (s',ix',A',B')=>run F n fl f b ix' A' B' (.r all rest k e s')
      | none=>none
     | some _=>none
 | f + 1,b,ix,A,B,.x ax k e s=>match k with
  | []=>bif Nat.beq b 0 then some (A,B,.x ax [] e s) else none
  | .sq d :: k=>match ax with
   | .normal=>run F n fl f b ix A B (.w d k e s)
   | ax=>run F n fl f b ix A B (.x ax k e s)
  | .bl id :: k=>match ax with
   | .exit i=>bif Nat.beq i id then run F n fl f b ix A B (.x .normal k e s) else run F n fl f b ix A B (.x (.exit i) k e s)
   | ax=>run F n fl f b ix A B (.x ax k e s)
  | .lp R :: k=>match ax with
   | .normal=>bif Nat.beq b 0 then some (A,B,.x .normal (.lp R :: k) e s) else none
   | ax=>run F n fl f b ix A B (.x ax k e s)
section
variable {P : Program} {F : FB} {n : Nat} {ds : List Deferred} {Q : Post}
theorem Pf (hF:F.Ok P) {o:Oper} {ρ:Operand→PV} {s:List bA} {ix A B ix' A' B':List Nat} {p:PV} (h:opX F s ρ ix A B o.op=some (p,ix',A',B')):
  (A'=B'→A=B)∧(A'=B'→∀ {R S:PV→List bA→Prop},R p s→AO P o ρ s R S):=by
 unfold opX at h; split at h
 ·
  rename_i t x ho; split at h
  ·
   rename_i ag k hti; have hti:=Facts.ZX hF.f hti; split at h
   ·
    rename_i cs hx; split at h
    ·
     rename_i q hq; simp only [Option.some.injEq,Prod.mk.injEq] at h; obtain ⟨rfl,rfl,rfl,rfl⟩:=h; exact ⟨id,fun _ {_ _} hR=>AO.Ca ho hx hti hq hR⟩
    · cases h
   ·
    rename_i b off hx; split at h
    ·
     rename_i i ix1; split at h
     ·
      rename_i b' cs hi; split at h
      ·
       rename_i cs' hd; split at h
       ·
        rename_i q hq; simp only [Option.some.injEq,Prod.mk.injEq] at h; obtain ⟨rfl,rfl,rfl,rfl⟩:=h; refine ⟨fun h=>(List.cons.inj h).2,fun hab {_ _} hR=>?_⟩; obtain ⟨rfl,_⟩:=List.cons.inj hab; exact AO.dW ho hx hi hti hd hq hR
       · cases h
      · cases h
     · cases h
    · cases h
   · cases h
  · cases h
 ·
  rename_i t x ho; split at h
  ·
   rename_i cs hcs; split at h
   ·
    rename_i cs' hwk; simp only [Option.some.injEq,Prod.mk.injEq] at h; obtain ⟨rfl,rfl,rfl,rfl⟩:=h; exact ⟨id,fun _ {_ _} hR=>AO.FQ ho hcs hwk hR⟩
   · cases h
  · cases h
 ·
  rename_i t parts ho; split at h
  ·
   rename_i zc hz; split at h
   ·
    rename_i pl hpl; split at h
    ·
     rename_i cs hf; simp only [Option.some.injEq,Prod.mk.injEq] at h; obtain ⟨rfl,rfl,rfl,rfl⟩:=h; exact ⟨id,fun _ {_ _} hR=>AO.build ho (ML hF.zp hz) (ML hF.pl hpl) hf hR⟩
    · cases h
   · cases h
  · cases h
 ·
  split at h
  ·
   rename_i q hq; simp only [Option.some.injEq,Prod.mk.injEq] at h; obtain ⟨rfl,rfl,rfl,rfl⟩:=h; exact ⟨id,fun _ {_ _} hR=>zM hF.f hq hR⟩
  · cases h
theorem V_ (hF:F.Ok P) {o:Oper} {ρ:Operand→PV} {s s':List bA} {ix A B ix' A' B':List Nat} (h:stX F s ρ ix A B o.op=some (s',ix',A',B')):
  (A'=B'→A=B)∧(A'=B'→∀ {R S:PV→List bA→Prop},R .undef s'→AO P o ρ s R S):=by
 unfold stX at h; split at h
 ·
  rename_i t x y ho; split at h
  ·
   rename_i ag k hti; have hti:=Facts.ZX hF.f hti; split at h
   ·
    rename_i b off hx; split at h
    ·
     rename_i i ix1; split at h
     ·
      rename_i b' cs hi; split at h
      ·
       rename_i new hnew; cases hb:(new.all PV.one && Nat.beq new.length k) with
       | false=>rw [hb] at h; cases h
       | true=>
        rw [hb] at h; simp only [cond_true] at h; simp only [Bool.and_eq_true] at hb; split at h
        ·
         rename_i cs' hput; split at h
         ·
          rename_i s1 hset; simp only [Option.some.injEq,Prod.mk.injEq] at h; obtain ⟨rfl,rfl,rfl,rfl⟩:=h; refine ⟨fun h=>(List.cons.inj h).2,fun hab {_ _} hR=>?_⟩; obtain ⟨rfl,_⟩:=List.cons.inj hab; exact AO.eH ho hx hi hti hnew hb.1 hb.2 hput hset hR
         · cases h
        · cases h
      · cases h
     · cases h
    · cases h
   · cases h
  · cases h
 · cases h
theorem AR.nil' {all:Array Oper} {env:Env} {σ:List bA} (h:Q .normal env σ ds):AR P n all [] env σ ds Q:=
 fun w m a _ qK ha=>ha .normal .normal _ _ _ a w m h rfl qK (Trans.refl ..)
theorem h_ (hF:F.Ok P) {fl:Nat} {A' B':List Nat} {st':St} (hr:st'.ok P n ds Q) (hab:A'=B'):∀ (f b:Nat) (ix A B:List Nat) (st:St),run F n fl f b ix A B st=some (A',B',st')→A=B∧st.ok P n ds Q
 | 0,b,ix,A,B,st,h=>by cases h
 | f + 1,b,ix,A,B,.w c k e s,h=>by
  have fin:∀ c,(bif Nat.beq b 0 then some (A,B,St.w c k e s) else none)=some (A',B',st')→A=B∧(St.w c k e s).ok P n ds Q:=by
   intro c h; cases eb:Nat.beq b 0 with
   | false=>rw [eb] at h; cases h
   | true=>
    rw [eb] at h; simp only [cond_true,Option.some.injEq,Prod.mk.injEq] at h; obtain ⟨rfl,rfl,rfl⟩:=h; exact ⟨hab,hr⟩
  cases c with
  | seq c d=>have ih:=h_ hF hr hab f _ _ _ _ _ h; exact ⟨ih.1,AW.seq ih.2⟩
  | block id c=>
   have h:(bif Nat.beq fl 2 && Nat.beq b 0 then some (A,B,St.w (.block id c) k e s) else run F n fl f b ix A B (.w c (.bl id :: k) e s))=some (A',B',st'):=h; cases hfl:Nat.beq fl 2 && Nat.beq b 0 with
   | true=>
    rw [hfl] at h; simp only [cond_true,Option.some.injEq,Prod.mk.injEq] at h; obtain ⟨rfl,rfl,rfl⟩:=h; exact ⟨hab,hr⟩
   | false=>rw [hfl] at h; have ih:=h_ hF hr hab f _ _ _ _ _ h; exact ⟨ih.1,AW.block ih.2⟩
  | region id all g=>
   cases g with
   | false=>
    have ih:=h_ hF hr hab f _ _ _ _ _ h; have:AW P n (.region id all.toList.toArray false) e s ds (den P n k Q):=AW.region (by simpa only [St.ok,Array.toArray_toList] using ih.2); exact ⟨ih.1,by simpa only [St.ok,Array.toArray_toList] using this⟩
   | true=>exact fin _ h
  | skip=>
   have h:(bif Nat.beq fl 2 && Nat.beq b 0 then some (A,B,St.w (.skip) k e s) else run F n fl f b ix A B (.x .normal k e s))=some (A',B',st'):=h; cases hfl:Nat.beq fl 2 && Nat.beq b 0 with
   | true=>
    rw [hfl] at h; simp only [cond_true,Option.some.injEq,Prod.mk.injEq] at h; obtain ⟨rfl,rfl,rfl⟩:=h; exact ⟨hab,hr⟩
   | false=>rw [hfl] at h; have ih:=h_ hF hr hab f _ _ _ _ _ h; exact ⟨ih.1,AW.skip ih.2⟩
  | label l=>have ih:=h_ hF hr hab f _ _ _ _ _ h; exact ⟨ih.1,AW.label ih.2⟩
  | exit id=>
   have h:(bif Nat.beq fl 2 && Nat.beq b 0 then some (A,B,St.w (.exit id) k e s) else run F n fl f b ix A B (.x (.exit id) k e s))=some (A',B',st'):=h; cases hfl:Nat.beq fl 2 && Nat.beq b 0 with
   | true=>
    rw [hfl] at h; simp only [cond_true,Option.some.injEq,Prod.mk.injEq] at h; obtain ⟨rfl,rfl,rfl⟩:=h; exact ⟨hab,hr⟩
   | false=>rw [hfl] at h; have ih:=h_ hF hr hab f _ _ _ _ _ h; exact ⟨ih.1,AW.exit ih.2⟩
  | ret=>
   have h:(bif Nat.beq fl 2 && Nat.beq b 0 then some (A,B,St.w (.ret) k e s) else run F n fl f b ix A B (.x .ret k e s))=some (A',B',st'):=h; cases hfl:Nat.beq fl 2 && Nat.beq b 0 with
   | true=>
    rw [hfl] at h; simp only [cond_true,Option.some.injEq,Prod.mk.injEq] at h; obtain ⟨rfl,rfl,rfl⟩:=h; exact ⟨hab,hr⟩
   | false=>rw [hfl] at h; have ih:=h_ hF hr hab f _ _ _ _ _ h; exact ⟨ih.1,AW.ret ih.2⟩
  | _=>exact fin _ h
 | f + 1,b,ix,A,B,.r all l k e s,h=>by
  cases l with
  | nil=>
   have h:(bif Nat.beq fl 1 && Nat.beq b 0 then some (A,B,St.r all [] k e s) else run F n fl f b ix A B (.x .normal k e s))=some (A',B',st'):=h; cases hfl:Nat.beq fl 1 && Nat.beq b 0 with
   | true=>
    rw [hfl] at h; simp only [cond_true,Option.some.injEq,Prod.mk.injEq] at h; obtain ⟨rfl,rfl,rfl⟩:=h; exact ⟨hab,hr⟩
   | false=>
    rw [hfl] at h; have ih:=h_ hF hr hab f _ _ _ _ _ h; exact ⟨ih.1,AR.nil' ih.2⟩
  | cons o rest=>
   cases b with
   | zero=>
    simp only [run,Option.some.injEq,Prod.mk.injEq] at h; obtain ⟨rfl,rfl,rfl⟩:=h; exact ⟨hab,hr⟩
   | succ b=>
    simp only [run] at h; cases hd:o.dst with
    | some t=>
     rw [hd] at h; simp only at h; cases ht:Nat.blt t n with
     | false=>rw [ht] at h; cases h
     | true=>
      rw [ht] at h; simp only [cond_true] at h; cases hg:AB all e o.guard with
      | none=>rw [hg] at h; cases h
      | some r=>
       rw [hg] at h; cases r with
       | true=>
        simp only at h; split at h
        ·
         rename_i p ix1 A1 B1 hp; have ih:=h_ hF hr hab f _ _ _ _ _ h; have hs:=Pf hF hp; refine ⟨hs.1 ih.1,?_⟩; have h2:=ih.2; simp only [St.ok] at h2 ⊢; cases hgo:o.guard with
         | none=>exact AR.step hgo hd ht (hs.2 ih.1 h2)
         | some jw=>
          obtain ⟨j,want⟩:=jw; rw [hgo] at hg; obtain ⟨oj,u,h1,h2',h3⟩:=qp hg; rcases h3 with ⟨_,h3⟩ | ⟨h3,_⟩
          ·
           refine AR.run (b:=want) hgo h1 h2' h3 hd ht rfl ?_; exact AR.step rfl hd ht ((Pf (o:={o with guard:=none}) hF hp).2 ih.1 h2)
          · cases h3
        · cases h
       | false=>
        simp only at h; have ih:=h_ hF hr hab f _ _ _ _ _ h; refine ⟨ih.1,?_⟩; cases hgo:o.guard with
        | none=>rw [hgo] at hg; cases hg
        | some jw=>
         obtain ⟨j,want⟩:=jw; rw [hgo] at hg; obtain ⟨oj,u,h1,h2,h3⟩:=qp hg; rcases h3 with ⟨h3,_⟩ | ⟨_,h3 | h3⟩
         · cases h3
         · exact AR.skip hgo h1 h2 h3 hd ht rfl ih.2
         · exact AR.Vp hgo h1 h2 h3 hd ht ih.2
    | none=>
     rw [hd] at h; simp only at h; cases hg:o.guard with
     | some x=>rw [hg] at h; cases h
     | none=>
      rw [hg] at h; simp only at h; split at h
      ·
       rename_i s1 ix1 A1 B1 hp; have ih:=h_ hF hr hab f _ _ _ _ _ h; have hs:=V_ hF hp; exact ⟨hs.1 ih.1,AR.dx hg hd (hs.2 ih.1 ih.2)⟩
      · cases h
 | f + 1,b,ix,A,B,.x ax k e s,h=>by
  cases k with
  | nil=>
   simp only [run] at h; cases eb:Nat.beq b 0 with
   | false=>rw [eb] at h; cases h
   | true=>
    rw [eb] at h; simp only [cond_true,Option.some.injEq,Prod.mk.injEq] at h; obtain ⟨rfl,rfl,rfl⟩:=h; exact ⟨hab,hr⟩
  | cons fr k=>
   cases fr with
   | sq d=>cases ax <;> (simp only [run] at h; have ih:=h_ hF hr hab f _ _ _ _ _ h; exact ih)
   | bl id=>
    cases ax with
    | exit i=>
     simp only [run] at h; simp only [St.ok,den,AX.inBlock]; cases eb:Nat.beq i id with
     | false=>rw [eb] at h; have ih:=h_ hF hr hab f _ _ _ _ _ h; exact ih
     | true=>rw [eb] at h; have ih:=h_ hF hr hab f _ _ _ _ _ h; exact ih
    | _=>simp only [run] at h; have ih:=h_ hF hr hab f _ _ _ _ _ h; exact ih
   | lp R=>
    cases ax with
    | normal=>
     simp only [run] at h; cases eb:Nat.beq b 0 with
     | false=>rw [eb] at h; cases h
     | true=>
      rw [eb] at h; simp only [cond_true,Option.some.injEq,Prod.mk.injEq] at h; obtain ⟨rfl,rfl,rfl⟩:=h; exact ⟨hab,hr⟩
    | _=>simp only [run] at h; have ih:=h_ hF hr hab f _ _ _ _ _ h; exact ih
end
end Go.Abs
namespace Go.Abs
variable [iG]
open Go Go.Ft
def YJ :List Nat→Nat→Bool
 | [],_=>false
 | x :: r,y=>bif Nat.beq x y then true else YJ r y
theorem SA {p:Nat→Bool}:∀ {l:List Nat} {x:Nat},l.all p=true→YJ l x=true→p x=true
 | [],_,_,h=>by cases h
 | y :: r,x,h0,h=>by
  simp only [List.all_cons,Bool.and_eq_true] at h0; unfold YJ at h; cases e:Nat.beq y x with
  | true=>rw [←Nat.eq_of_beq_eq_true e]; exact h0.1
  | false=>rw [e] at h; exact SA h0.2 h
class FK (P:Program) where
 F:FB
 ok:F.Ok P
 pf:List Nat
 pk:pf.all (bM P)=true
def keysOf (e:Env):List Nat:=e.map Prod.fst
def aaz (n:Nat) (o:Oper):Option Nat:=
 match o.guard with
 | none=>match o.dst with
  | some t=>bif Nat.blt t n then some t else none
  | none=>none
 | some _=>none
theorem QK {n t:Nat} {o:Oper} (h:aaz n o=some t):o.guard=none∧o.dst=some t∧Nat.blt t n=true:=by
 unfold aaz at h; split at h
 ·
  rename_i hg; split at h
  ·
   rename_i u hd; cases e:Nat.blt u n with
   | true=>rw [e] at h; simp only [cond_true,Option.some.injEq] at h; subst h; exact ⟨hg,hd,e⟩
   | false=>rw [e] at h; cases h
  · cases h
 · cases h
def abp (pf:List Nat) (n:Nat) (e:Env) (o:Oper):Option (Nat × Call × FuncId × List PV):=
 match aaz n o with
 | some t=>match o.op with
  | .call c=>match c.callee with
   | .value M9=>match e.ev M9 with
    | .fn f caps=>bif YJ pf f then some (t,c,f,caps) else none
    | _=>none
   | _=>none
  | _=>none
 | none=>none
def goO (n:Nat) (all:Array Oper) (e:Env) (o:Oper):Option Nat:=
 match o.guard,AB all e o.guard with
 | some _,some true=>match o.dst with
  | some t=>bif Nat.blt t n then some t else none
  | none=>none
 | _,_=>none
def Ws (e:Env):List ResultVar→Option (List PV)
 | []=>some []
 | .tmp t :: rs=>match (e.get t).force with
  | some p=>match Ws e rs with
   | some ps=>some (p :: ps)
   | none=>none
  | none=>none
 | _=>none
theorem Qe {P:Program} {e:Env} {s:List bA}:∀ {rs:List ResultVar} {ps:List PV},Ws e rs=some ps→Bq P e s rs ps
 | [],ps,h=>by simp only [Ws,Option.some.injEq] at h; exact h.symm
 | .tmp t :: rs,ps,h=>by
  unfold Ws at h; split at h
  ·
   rename_i p hp; split at h
   ·
    rename_i qs hq; simp only [Option.some.injEq] at h; subst h; exact ⟨p,qs,rfl,hp,Qe hq⟩
   · cases h
  · cases h
 | .cell a t :: rs,ps,h=>by cases h
def Un (F:FB) (e:Env) (s:List bA):List Nat→List ResultVar→Option (List Nat × List Nat × List PV)
 | _,[]=>some ([],[],[])
 | ix,.tmp t :: rs=>match (e.get t).force with
  | some p=>match Un F e s ix rs with
   | some (A,B,ps)=>some (A,B,p :: ps)
   | none=>none
  | none=>none
 | i :: ix,.cell a t :: rs=>match e.get a with
  | .val (.pointer (some ⟨b,0,none⟩))=>match s[i]? with
   | some (.box b' cs)=>match GN F.f.ti t with
    | some (ag,k)=>match vZ ag k cs with
     | some p=>match Un F e s ix rs with
      | some (A,B,ps)=>some (b :: A,b' :: B,p :: ps)
      | none=>none
     | none=>none
    | none=>none
   | _=>none
  | _=>none
 | [],.cell _ _ :: _=>none
theorem Qf {P:Program} {F:FB} (hF:F.Ok P) {e:Env} {s:List bA}:∀ {rs:List ResultVar} {ix A B:List Nat} {ps:List PV},Un F e s ix rs=some (A,B,ps)→A=B→Bq P e s rs ps
 | [],ix,A,B,ps,h,_=>by cases ix <;> (simp only [Un,Option.some.injEq,Prod.mk.injEq] at h; exact h.2.2.symm)
 | .tmp t :: rs,ix,A,B,ps,h,hab=>by
  have h:(match (e.get t).force with
   | some p=>match Un F e s ix rs with
    | some (A,B,ps)=>some (A,B,p :: ps)
    | none=>none
   | none=>none)=some (A,B,ps):=by cases ix <;> exact h
  split at h
  ·
   rename_i p hp; split at h
   ·
    rename_i A1 B1 qs hq; simp only [Option.some.injEq,Prod.mk.injEq] at h; obtain ⟨rfl,rfl,rfl⟩:=h; exact ⟨p,qs,rfl,hp,Qf hF hq hab⟩
   · cases h
  · cases h
 | .cell a t :: rs,[],A,B,ps,h,hab=>by cases h
 | .cell a t :: rs,i :: ix,A,B,ps,h,hab=>by
  unfold Un at h; split at h
  ·
   rename_i b hb; split at h
   ·
    rename_i b' cs hi; split at h
    ·
     rename_i ag k ht; split at h
     ·
      rename_i p hp; split at h
      ·
       rename_i A1 B1 qs hq; simp only [Option.some.injEq,Prod.mk.injEq] at h; obtain ⟨rfl,rfl,rfl⟩:=h; simp only [List.cons.injEq] at hab; obtain ⟨rfl,hab⟩:=hab; exact ⟨p,qs,rfl,⟨b,cs,i,ag,k,hb,hi,Facts.ZX hF.f ht,hp⟩,Qf hF hq hab⟩
      · cases h
     · cases h
    · cases h
   · cases h
  · cases h
def grp (F:FB) (all:Array Oper) (n k:Nat) (l:List Oper) (e:Env) (ks:List Nat):Option Env:=
 match Kv F.f all n k (l.take k) e with
 | some (e',[])=>settle ks e'
 | _=>none
section
variable {P : Program} {n : Nat} {env : Env} {σ : List bA} {ds : List Deferred} {Q : Post}
theorem adE {c:Code} {Q':Post} (h:AW P n c env σ ds Q') (hq:∀ x e s d,Q' x e s d→∃ e',Less e' e∧Q x e' s d):AW P n c env σ ds Q:=
 fun w m a QC hs ha=>h w m a QC hs fun x ex e1 s1 d1 a1 w1 m1 h1 hx hs1 ht=>let ⟨e',hl,hq'⟩:=hq _ _ _ _ h1; ha x ex e' s1 d1 a1 w1 m1 hq' hx (p9.less hl hs1) ht
theorem SC {α:Type} {c:Code} (E:α→Env) (T:α→List bA) (I:α→Prop) (μ:α→Nat) (x0:α) (h0:settle (keysOf (E x0)) env=some (E x0)) (h1:σ=T x0) (h2:I x0)
  (round:∀ x,I x→AW P n c (E x) (T x) ds (AX.then (fun e s d=>∃ y,settle (keysOf (E y)) e=some (E y)∧s=T y∧d=ds∧I y∧μ y < μ x) Q)):AW P n (.loop c) env σ ds Q:=by
 refine AW.settle _ h0 (AW.loop E T I μ x0 rfl h1 h2 fun x hx=>adE (round x hx) ?_); intro ax e s d h; cases ax with
 | normal=>obtain ⟨y,h3,h4,h5,h6⟩:=h; exact ⟨E y,Less.settle h3,y,rfl,h4,h5,h6⟩
 | exit id=>exact ⟨e,Less.refl e,h⟩
 | ret=>exact ⟨e,Less.refl e,h⟩
 | panic p=>exact ⟨e,Less.refl e,h⟩
theorem H9 {c:Code} {k:List Fr} {R R':Env→List bA→List Deferred→Prop} (h:AW P n c env σ ds (den P n (.lp R :: k) Q)) (hr:∀ e s d,R e s d→R' e s d):AW P n c env σ ds (AX.then R' (den P n k Q)):=by
 refine h.mono fun ax e s d hq=>?_; cases ax with
 | normal=>exact hr _ _ _ hq
 | exit id=>exact hq
 | ret=>exact hq
 | panic p=>exact hq
theorem FT {A0:Type} {c:Code} {k:List Fr} (E:A0→Env) (T:A0→List bA) (I:Nat→A0→Prop) (k0:Nat) (x0:A0) (h0:settle (keysOf (E x0)) env=some (E x0)) (h1:σ=T x0) (h2:I k0 x0)
  (z:∀ x0,I 0 x0→False)
  (round:∀ j x0,I (j + 1) x0→AW P n c (E x0) (T x0) ds (den P n (.lp (fun e s d=>∃ y0,settle (keysOf (E y0)) e=some (E y0)∧s=T y0∧d=ds∧I j y0) :: k) Q)):AW P n (.loop c) env σ ds (den P n k Q):=by
 refine SC (α:=Nat × (A0)) (fun q=>E (q.2)) (fun q=>T (q.2)) (fun q=>I q.1 (q.2)) (fun q=>q.1) (k0,(x0)) h0 h1 h2 ?_; rintro ⟨j,q⟩ hI; cases j with
 | zero=>exact (z _ hI).elim
 | succ j=>exact H9 (round j (q) hI) fun e s d ⟨y0,h3,h4,h5,h6⟩=>⟨(j,(y0)),h3,h4,h5,h6,Nat.lt_succ_self j⟩
theorem Rk {A0:Type} {A1:Type} {c:Code} {k:List Fr} (E:A0→A1→Env) (T:A0→A1→List bA) (I:Nat→A0→A1→Prop) (k0:Nat) (x0:A0) (x1:A1) (h0:settle (keysOf (E x0 x1)) env=some (E x0 x1)) (h1:σ=T x0 x1) (h2:I k0 x0 x1)
  (z:∀ x0 x1,I 0 x0 x1→False)
  (round:∀ j x0 x1,I (j + 1) x0 x1→AW P n c (E x0 x1) (T x0 x1) ds (den P n (.lp (fun e s d=>∃ y0 y1,settle (keysOf (E y0 y1)) e=some (E y0 y1)∧s=T y0 y1∧d=ds∧I j y0 y1) :: k) Q)):AW P n (.loop c) env σ ds (den P n k Q):=by
 refine SC (α:=Nat × (A0 × A1)) (fun q=>E (q.2.1) (q.2.2)) (fun q=>T (q.2.1) (q.2.2)) (fun q=>I q.1 (q.2.1) (q.2.2)) (fun q=>q.1) (k0,(x0,x1)) h0 h1 h2 ?_; rintro ⟨j,q⟩ hI; cases j with
 | zero=>exact (z _ _ hI).elim
 | succ j=>exact H9 (round j (q.1) (q.2) hI) fun e s d ⟨y0,y1,h3,h4,h5,h6⟩=>⟨(j,(y0,y1)),h3,h4,h5,h6,Nat.lt_succ_self j⟩
theorem LK3 {A0:Type} {A1:Type} {A2:Type} {c:Code} {k:List Fr} (E:A0→A1→A2→Env) (T:A0→A1→A2→List bA) (I:Nat→A0→A1→A2→Prop) (k0:Nat) (x0:A0) (x1:A1) (x2:A2) (h0:settle (keysOf (E x0 x1 x2)) env=some (E x0 x1 x2)) (h1:σ=T x0 x1 x2) (h2:I k0 x0 x1 x2)
  (z:∀ x0 x1 x2,I 0 x0 x1 x2→False)
  (round:∀ j x0 x1 x2,I (j + 1) x0 x1 x2→AW P n c (E x0 x1 x2) (T x0 x1 x2) ds (den P n (.lp (fun e s d=>∃ y0 y1 y2,settle (keysOf (E y0 y1 y2)) e=some (E y0 y1 y2)∧s=T y0 y1 y2∧d=ds∧I j y0 y1 y2) :: k) Q)):AW P n (.loop c) env σ ds (den P n k Q):=by
 refine SC (α:=Nat × (A0 × A1 × A2)) (fun q=>E (q.2.1) (q.2.2.1) (q.2.2.2)) (fun q=>T (q.2.1) (q.2.2.1) (q.2.2.2)) (fun q=>I q.1 (q.2.1) (q.2.2.1) (q.2.2.2)) (fun q=>q.1) (k0,(x0,x1,x2)) h0 h1 h2 ?_; rintro ⟨j,q⟩ hI; cases j with
 | zero=>exact (z _ _ _ hI).elim
 | succ j=>exact H9 (round j (q.1) (q.2.1) (q.2.2) hI) fun e s d ⟨y0,y1,y2,h3,h4,h5,h6⟩=>⟨(j,(y0,y1,y2)),h3,h4,h5,h6,Nat.lt_succ_self j⟩
theorem LK4 {A0:Type} {A1:Type} {A2:Type} {A3:Type} {c:Code} {k:List Fr} (E:A0→A1→A2→A3→Env) (T:A0→A1→A2→A3→List bA) (I:Nat→A0→A1→A2→A3→Prop) (k0:Nat) (x0:A0) (x1:A1) (x2:A2) (x3:A3) (h0:settle (keysOf (E x0 x1 x2 x3)) env=some (E x0 x1 x2 x3)) (h1:σ=T x0 x1 x2 x3) (h2:I k0 x0 x1 x2 x3)
  (z:∀ x0 x1 x2 x3,I 0 x0 x1 x2 x3→False)
  (round:∀ j x0 x1 x2 x3,I (j + 1) x0 x1 x2 x3→AW P n c (E x0 x1 x2 x3) (T x0 x1 x2 x3) ds (den P n (.lp (fun e s d=>∃ y0 y1 y2 y3,settle (keysOf (E y0 y1 y2 y3)) e=some (E y0 y1 y2 y3)∧s=T y0 y1 y2 y3∧d=ds∧I j y0 y1 y2 y3) :: k) Q)):AW P n (.loop c) env σ ds (den P n k Q):=by
 refine SC (α:=Nat × (A0 × A1 × A2 × A3)) (fun q=>E (q.2.1) (q.2.2.1) (q.2.2.2.1) (q.2.2.2.2)) (fun q=>T (q.2.1) (q.2.2.1) (q.2.2.2.1) (q.2.2.2.2)) (fun q=>I q.1 (q.2.1) (q.2.2.1) (q.2.2.2.1) (q.2.2.2.2)) (fun q=>q.1) (k0,(x0,x1,x2,x3)) h0 h1 h2 ?_; rintro ⟨j,q⟩ hI; cases j with
 | zero=>exact (z _ _ _ _ hI).elim
 | succ j=>exact H9 (round j (q.1) (q.2.1) (q.2.2.1) (q.2.2.2) hI) fun e s d ⟨y0,y1,y2,y3,h3,h4,h5,h6⟩=>⟨(j,(y0,y1,y2,y3)),h3,h4,h5,h6,Nat.lt_succ_self j⟩
theorem LK5 {A0:Type} {A1:Type} {A2:Type} {A3:Type} {A4:Type} {c:Code} {k:List Fr} (E:A0→A1→A2→A3→A4→Env) (T:A0→A1→A2→A3→A4→List bA) (I:Nat→A0→A1→A2→A3→A4→Prop) (k0:Nat) (x0:A0) (x1:A1) (x2:A2) (x3:A3) (x4:A4) (h0:settle (keysOf (E x0 x1 x2 x3 x4)) env=some (E x0 x1 x2 x3 x4)) (h1:σ=T x0 x1 x2 x3 x4) (h2:I k0 x0 x1 x2 x3 x4)
  (z:∀ x0 x1 x2 x3 x4,I 0 x0 x1 x2 x3 x4→False)
  (round:∀ j x0 x1 x2 x3 x4,I (j + 1) x0 x1 x2 x3 x4→AW P n c (E x0 x1 x2 x3 x4) (T x0 x1 x2 x3 x4) ds (den P n (.lp (fun e s d=>∃ y0 y1 y2 y3 y4,settle (keysOf (E y0 y1 y2 y3 y4)) e=some (E y0 y1 y2 y3 y4)∧s=T y0 y1 y2 y3 y4∧d=ds∧I j y0 y1 y2 y3 y4) :: k) Q)):AW P n (.loop c) env σ ds (den P n k Q):=by
 refine SC (α:=Nat × (A0 × A1 × A2 × A3 × A4)) (fun q=>E (q.2.1) (q.2.2.1) (q.2.2.2.1) (q.2.2.2.2.1) (q.2.2.2.2.2)) (fun q=>T (q.2.1) (q.2.2.1) (q.2.2.2.1) (q.2.2.2.2.1) (q.2.2.2.2.2)) (fun q=>I q.1 (q.2.1) (q.2.2.1) (q.2.2.2.1) (q.2.2.2.2.1) (q.2.2.2.2.2)) (fun q=>q.1) (k0,(x0,x1,x2,x3,x4)) h0 h1 h2 ?_; rintro ⟨j,q⟩ hI; cases j with
 | zero=>exact (z _ _ _ _ _ hI).elim
 | succ j=>exact H9 (round j (q.1) (q.2.1) (q.2.2.1) (q.2.2.2.1) (q.2.2.2.2) hI) fun e s d ⟨y0,y1,y2,y3,y4,h3,h4,h5,h6⟩=>⟨(j,(y0,y1,y2,y3,y4)),h3,h4,h5,h6,Nat.lt_succ_self j⟩
theorem C {α:Type} {b:Bool} {x y:Option α} {r:Option α} {c:Operand} {X Y:Code} (hf:(if b=true then x else y)=r) (hc:env.ev c=.bool b) (ht:b=true→x=r→AW P n X env σ ds Q) (he:b=false→y=r→AW P n Y env σ ds Q):AW P n (.cond c X Y) env σ ds Q:=
 AW.cond hc (fun h=>ht h (jV h hf)) fun h=>he h (jg h hf)
section
variable {all : Array Oper} {rest l : List Oper} {o : Oper}
theorem AS {t:Nat} (h0:aaz n o=some t) (h:AO P o env.ev σ (fun p σ'=>AR P n all rest ((t,p) :: env) σ' ds Q) (fun p σ'=>Q (.panic p) env σ' ds)):AR P n all (o :: rest) env σ ds Q:=
 AR.step (QK h0).1 (QK h0).2.1 (QK h0).2.2 h
theorem CL [K:FK P] {t:Nat} {c:Call} {f:FuncId} {caps:List PV} (h0:abp K.pf n env o=some (t,c,f,caps))
  (h:AC P f ((c.args.toList.map env.ev).map PV.weak ++ caps) σ fun out σ'=>match out with | .ret p=>AR P n all rest ((t,p) :: env) σ' ds Q | .panic p=>Q (.panic p) env σ' ds):AR P n all (o :: rest) env σ ds Q:=by
 unfold abp at h0; split at h0
 ·
  rename_i t' ht; split at h0
  ·
   rename_i c' ho; split at h0
   ·
    rename_i M9 kG; split at h0
    ·
     rename_i f' afY hf; cases hm:YJ K.pf f' with
     | false=>rw [hm] at h0; cases h0
     | true=>
      rw [hm] at h0; simp only [cond_true,Option.some.injEq,Prod.mk.injEq] at h0; obtain ⟨rfl,rfl,rfl,rfl⟩:=h0; exact AS ht (AO.call ho M9 kG hf (SA K.pk hm) h)
    · cases h0
   · cases h0
  · cases h0
 · cases h0
theorem GO {t:Nat} (h0:goO n all env o=some t) (h:AO P {o with guard:=none} env.ev σ (fun p σ'=>AR P n all rest ((t,p) :: env) σ' ds Q) (fun p σ'=>Q (.panic p) env σ' ds)):AR P n all (o :: rest) env σ ds Q:=by
 unfold goO at h0; split at h0
 ·
  rename_i jw hg hgd; split at h0
  ·
   rename_i u hd; cases e:Nat.blt u n with
   | false=>rw [e] at h0; cases h0
   | true=>
    rw [e] at h0; simp only [cond_true,Option.some.injEq] at h0; subst h0; obtain ⟨j,want⟩:=jw; rw [hg] at hgd; obtain ⟨oj,u',g1,g2,g3⟩:=qp hgd; rcases g3 with ⟨_,g3⟩ | ⟨g3,_⟩
    · exact AR.go hg g1 g2 g3 hd e h
    · cases g3
  · cases h0
 · cases h0
theorem Qx [K:FK P] {k:Nat} {e e':Env} {ks:List Nat} (h:grp K.F all n k l e ks=some e'):AR P n all (l.take k) e σ ds fun ax e s d=>ax=.normal∧e=e'∧s=σ∧d=ds:=by
 unfold grp at h; split at h
 ·
  rename_i e1 hp; exact AR.cs K.ok.f k hp (AR.nil ks h ⟨rfl,rfl,rfl,rfl⟩)
 · cases h
theorem An [K:FK P] (k g t:Nat) (keep:List Nat) (x:Bool) {b:Bool} {env':Env} (hb:env.get g=.bool b) (hk:settle keep env=some env')
  (h1:grp K.F all n k l ((g,.bool true) :: env) (t :: keep)=some ((t,.bool x) :: env')) (h2:grp K.F all n k l ((g,.bool false) :: env) (t :: keep)=some ((t,.bool false) :: env'))
  (h3:AR P n all (l.drop k) ((t,.bool (b && x)) :: env') σ ds Q):AR P n all l env σ ds Q:=
 AR.and k g t keep hb hk (fun h=>AR.is g h hb (Qx h1)) (fun h=>AR.is g h hb (Qx h2)) h3
theorem On [K:FK P] (k g t:Nat) (keep:List Nat) (x:Bool) {b:Bool} {env':Env} (hb:env.get g=.bool b) (hk:settle keep env=some env')
  (h1:grp K.F all n k l ((g,.bool false) :: env) (t :: keep)=some ((t,.bool x) :: env')) (h2:grp K.F all n k l ((g,.bool true) :: env) (t :: keep)=some ((t,.bool true) :: env'))
  (h3:AR P n all (l.drop k) ((t,.bool (b || x)) :: env') σ ds Q):AR P n all l env σ ds Q:=
 AR.or k g t keep hb hk (fun h=>AR.is g h hb (Qx h1)) (fun h=>AR.is g h hb (Qx h2)) h3
end
section
variable [K : FK P] {c c' : Code} {all all' : Array Oper} {l l' : List Oper} {k k' : List Fr} {e e' : Env} {s s' : List bA} {ax ZL : AX} {A B : List Nat}
theorem Ww (b:Nat) (ix:List Nat) (h:run K.F n 0 999 b ix [] [] (.w c k e s)=some (A,B,.w c' k' e' s')) (hab:A=B) (hr:AW P n c' e' s' ds (den P n k' Q)):AW P n c e s ds (den P n k Q):=(h_ K.ok (st':=.w c' k' e' s') hr hab _ _ _ _ _ _ h).2
theorem V (b:Nat) (h:run K.F n 0 999 b [] [] [] (.w c k e s)=some ([],[],.w c' k' e' s')) (hr:AW P n c' e' s' ds (den P n k' Q)):AW P n c e s ds (den P n k Q):=Ww b [] h rfl hr
theorem Wr (b:Nat) (ix:List Nat) (h:run K.F n 0 999 b ix [] [] (.w c k e s)=some (A,B,.r all' l' k' e' s')) (hab:A=B) (hr:AR P n all' l' e' s' ds (den P n k' Q)):AW P n c e s ds (den P n k Q):=(h_ K.ok (st':=.r all' l' k' e' s') hr hab _ _ _ _ _ _ h).2
theorem W (b:Nat) (h:run K.F n 0 999 b [] [] [] (.w c k e s)=some ([],[],.r all' l' k' e' s')) (hr:AR P n all' l' e' s' ds (den P n k' Q)):AW P n c e s ds (den P n k Q):=Wr b [] h rfl hr
theorem Wx (b:Nat) (ix:List Nat) (h:run K.F n 0 999 b ix [] [] (.w c k e s)=some (A,B,.x ZL k' e' s')) (hab:A=B) (hr:den P n k' Q ZL e' s' ds):AW P n c e s ds (den P n k Q):=(h_ K.ok (st':=.x ZL k' e' s') hr hab _ _ _ _ _ _ h).2
theorem M (b:Nat) (h:run K.F n 0 999 b [] [] [] (.w c k e s)=some ([],[],.x ZL k' e' s')) (hr:den P n k' Q ZL e' s' ds):AW P n c e s ds (den P n k Q):=Wx b [] h rfl hr
theorem Wn0 (b:Nat) (h:run K.F n 1 999 b [] [] [] (.w c k e s)=some ([],[],.r all' [] k' e' s')) (hr:AR P n all' [] e' s' ds (den P n k' Q)):AW P n c e s ds (den P n k Q):=(h_ K.ok (st':=.r all' [] k' e' s') hr rfl _ _ _ _ _ _ h).2
theorem Rw (b:Nat) (ix:List Nat) (h:run K.F n 0 999 b ix [] [] (.r all l k e s)=some (A,B,.w c' k' e' s')) (hab:A=B) (hr:AW P n c' e' s' ds (den P n k' Q)):AR P n all l e s ds (den P n k Q):=(h_ K.ok (st':=.w c' k' e' s') hr hab _ _ _ _ _ _ h).2
theorem J (b:Nat) (h:run K.F n 0 999 b [] [] [] (.r all l k e s)=some ([],[],.w c' k' e' s')) (hr:AW P n c' e' s' ds (den P n k' Q)):AR P n all l e s ds (den P n k Q):=Rw b [] h rfl hr
theorem Rr (b:Nat) (ix:List Nat) (h:run K.F n 0 999 b ix [] [] (.r all l k e s)=some (A,B,.r all' l' k' e' s')) (hab:A=B) (hr:AR P n all' l' e' s' ds (den P n k' Q)):AR P n all l e s ds (den P n k Q):=(h_ K.ok (st':=.r all' l' k' e' s') hr hab _ _ _ _ _ _ h).2
theorem U (b:Nat) (h:run K.F n 0 999 b [] [] [] (.r all l k e s)=some ([],[],.r all' l' k' e' s')) (hr:AR P n all' l' e' s' ds (den P n k' Q)):AR P n all l e s ds (den P n k Q):=Rr b [] h rfl hr
theorem Rx (b:Nat) (ix:List Nat) (h:run K.F n 0 999 b ix [] [] (.r all l k e s)=some (A,B,.x ZL k' e' s')) (hab:A=B) (hr:den P n k' Q ZL e' s' ds):AR P n all l e s ds (den P n k Q):=(h_ K.ok (st':=.x ZL k' e' s') hr hab _ _ _ _ _ _ h).2
theorem N (b:Nat) (h:run K.F n 0 999 b [] [] [] (.r all l k e s)=some ([],[],.x ZL k' e' s')) (hr:den P n k' Q ZL e' s' ds):AR P n all l e s ds (den P n k Q):=Rx b [] h rfl hr
theorem dP (b:Nat) (h:run K.F n 1 999 b [] [] [] (.r all l k e s)=some ([],[],.r all' [] k' e' s')) (hr:AR P n all' [] e' s' ds (den P n k' Q)):AR P n all l e s ds (den P n k Q):=(h_ K.ok (st':=.r all' [] k' e' s') hr rfl _ _ _ _ _ _ h).2
theorem Rn (b:Nat) (ix:List Nat) (h:run K.F n 1 999 b ix [] [] (.r all l k e s)=some (A,B,.r all' [] k' e' s')) (hab:A=B) (hr:AR P n all' [] e' s' ds (den P n k' Q)):AR P n all l e s ds (den P n k Q):=(h_ K.ok (st':=.r all' [] k' e' s') hr hab _ _ _ _ _ _ h).2
theorem Rv (b:Nat) (ix:List Nat) (h:run K.F n 2 999 b ix [] [] (.r all l k e s)=some (A,B,.w c' k' e' s')) (hab:A=B) (hr:AW P n c' e' s' ds (den P n k' Q)):AR P n all l e s ds (den P n k Q):=(h_ K.ok (st':=.w c' k' e' s') hr hab _ _ _ _ _ _ h).2
theorem Y {rs:List ResultVar} {R:eT→List bA→Prop} {ps:List PV} (h0:Ws e rs=some ps) (h:R (.ret (mI (ps.map PV.weak))) []):den P n [] (PU P rs R) .ret e s []:=⟨rfl,ps,Qe h0,[],List.nil_sublist _,h⟩
theorem ZN {rs:List ResultVar} {R:eT→List bA→Prop} {ps:List PV} (h0:Ws e rs=some ps) (h:R (.ret (mI (ps.map PV.weak))) []):den P n [] (PU P rs R) .normal e s []:=⟨rfl,ps,Qe h0,[],List.nil_sublist _,h⟩
theorem ZC {rs:List ResultVar} {R:eT→List bA→Prop} {ps:List PV} (ix:List Nat) (h0:Un K.F e s ix rs=some (A,B,ps)) (hab:A=B) (h:R (.ret (mI (ps.map PV.weak))) []):den P n [] (PU P rs R) .ret e s []:=⟨rfl,ps,Qf K.ok h0 hab,[],List.nil_sublist _,h⟩
end
end
end Go.Abs
namespace Go.Abs
universe u v
variable [iG]
open Go Go.Ft
section
variable {P : Program} {f : FuncId} {fn : Func} {c : Code} {args : List PV} {σ : List bA} {R : eT → List bA → Prop}
theorem BD (n:Nat) (rs:List ResultVar) (ts:List Nat) {env:Env} (hf:P.funcs[f]?=some fn) (hb:fn.body=some c) (hn:fn.ntmps=n) (hl:Nat.ble args.length n=true) (hrs:fn.results.toList=rs) (Jf:settle ts (yx 0 args)=some env)
  (h:AW P n c env σ [] (den P n [] (PU P rs R))):AC P f args σ R:=AC.kS n rs ts hf hb hn hl hrs Jf h
theorem BN (n:Nat) (rs:List ResultVar) (ts:List Nat) {env:Env} (hf:P.funcs[f]?=some fn) (hb:fn.body=some c) (hn:fn.ntmps=n) (hl:Nat.ble args.length n=true) (hrs:fn.results.toList=rs) (Jf:settle ts (yx 0 args)=some env)
  (h:AW P n c env [] [] (den P n [] (PU P rs fun o s=>R o (s ++ σ)))):AC P f args σ R:=AC.none (AC.kS n rs ts hf hb hn hl hrs Jf h)
end
theorem B1 {α ρ:Type} {x:Option α} {f:α→Option ρ} {r:ρ} {G:Prop} (h:ay x f=some r) (k:∀ a,x=some a→f a=some r→G):G:=let ⟨a,h1,h2⟩:=PN h; k a h1 h2
theorem BR {α:Type} {x:Option α} {r:α} {G:Prop} (h:x=some r) (k:∀ a,x=some a→some a=some r→G):G:=k r h rfl
section
variable {P : Program} {n : Nat} {env env' : Env} {σ : List bA} {ds : List Deferred} {Q : Post} {all : Array Oper} {l : List Oper}
theorem Is (g:Nat) {b v:Bool} (h:b=v) (hg:env.get g=.bool b) (hr:AR P n all l ((g,.bool v) :: env) σ ds (den P n [] Q)):AR P n all l env σ ds Q:=AR.is g h hg hr
theorem IT {α:Type} {x y r:Option α} (g:Nat) {b:Bool} (h:b=true) (hx:(if b=true then x else y)=r) (hg:env.get g=.bool b) (hr:x=r→AR P n all l ((g,.bool true) :: env) σ ds (den P n [] Q)):AR P n all l env σ ds (den P n [] Q):=Is g h hg (hr (jV h hx))
theorem IF {α:Type} {x y r:Option α} (g:Nat) {b:Bool} (h:b=false) (hx:(if b=true then x else y)=r) (hg:env.get g=.bool b) (hr:y=r→AR P n all l ((g,.bool false) :: env) σ ds (den P n [] Q)):AR P n all l env σ ds (den P n [] Q):=Is g h hg (hr (jg h hx))
theorem En (ks:List Nat) (h:settle ks env=some env'):AR P n all [] env σ ds (den P n [] fun ax e s d=>ax=.normal∧e=env'∧s=σ∧d=ds):=AR.nil ks h ⟨rfl,rfl,rfl,rfl⟩
end
theorem Z {α:Sort u} {a:α}:a=a:=rfl
theorem zg {α:Sort u} {β:Sort v} {a:α} {b:β}:a=a∧b=b:=⟨rfl,rfl⟩
theorem AW.sr {P:Program} {n:Nat} {env:Env} {σ:List bA} {ds:List Deferred} {Q:Post} {id:Nat} {l:List Oper} {d:Code} (h:AR P n l.toArray l env σ ds (AX.then (fun e s ds=>AW P n d e s ds Q) Q)):AW P n (.seq (.region id l.toArray false) d) env σ ds Q:=AW.seq (AW.region h)
end Go.Abs
namespace Go.Abs
variable [iG]
open Go
mutual
def oL {H:Type}:DataW H→Nat
 | .lit (.string bytes)=>bytes.length + 1
 | .lit _=>1
 | .nil=>1
 | .ptr d=>oL d + 1
 | .slice elems spare=>mM elems + mM spare + 1
 | .agg parts=>mM parts + 1
 | .iface _ d=>oL d + 1
 | .map entries=>wL entries + 1
 | .held _=>1
def mM {H:Type}:List (DataW H)→Nat
 | []=>0
 | d :: r=>oL d + mM r
def wL {H:Type}:List (Lit × DataW H)→Nat
 | []=>0
 | x :: r=>uW x + wL r
def uW {H:Type}:Lit × DataW H→Nat
 | (.string bytes,d)=>bytes.length + oL d + 1
 | (_,d)=>oL d + 1
end
inductive Ri (P:Program):TypeId→List PV→Nat→Prop
 | bool {t:TypeId} {b:Bool}:P.underlying t=some .bool→Ri P t [.bool b] 1
 | int {t:TypeId} {k:IntKind} {n:Int}:P.underlying t=some (.int k)→(Lit.int k n).wf=true→Ri P t [.int k n] 1
 | str {t:TypeId} {s:List UInt8}:P.underlying t=some .string→Ri P t [.str s] (s.length + 1)
 | slice {t e:TypeId} {l:List (List PV × Nat)}:P.underlying t=some (.slice e)→(∀ c∈l,Ri P e c.1 c.2)→Ri P t [.list (l.map (·.1))] ((l.map (·.2)).sum + 1)
 | struct {t:TypeId} {fs:Array Field} {ps:List (List PV × Nat)}:P.underlying t=some (.struct fs)→ps.length=fs.toList.length→(∀ x∈fs.toList.zip ps,Ri P x.1.type x.2.1 x.2.2)→Ri P t (ps.map (·.1)).flatten ((ps.map (·.2)).sum + 1)
 | array {t e:TypeId} {n:Nat} {ps:List (List PV × Nat)}:P.underlying t=some (.array n e)→ps.length=n→(∀ c∈ps,Ri P e c.1 c.2)→Ri P t (ps.map (·.1)).flatten ((ps.map (·.2)).sum + 1)
theorem Eb {H α:Type} {g:Nat→List PV × Nat}:∀ {n s:Nat} {es:List (DataW H × α)},n=es.length→(∀ i,i < n→∀ y,es[i]?=some y→(g (s + i)).2≤oL y.1)→
  ((((List.range' s n).map g).map (·.2))).sum≤mM (es.map (·.1))
 | 0,s,[],_,_=>by simp [mM]
 | n + 1,s,e :: es,hl,h=>by
  rw [List.range'_succ]; simp only [List.map_cons,List.sum_cons,mM]; have h0:=h 0 (by omega) e rfl
  have ih:=Eb (g:=g) (n:=n) (s:=s + 1) (es:=es) (by simpa using hl) fun i hi y hy=>by
   have:=h (i + 1) (by omega) y (by simpa using hy)
   rwa [show s + 1 + i=s + (i + 1) from by omega]
  simp only [Nat.add_zero] at h0; omega
 | 0,s,e :: es,hl,_=>by simp at hl
 | n + 1,s,[],hl,_=>by simp at hl
theorem G_ {H α β:Type} {f:β→Option (DataW H × α)} {g:β→Nat}:∀ {l:List β} {xs:List (DataW H × α)},l.mapM f=some xs→(∀ b∈l,∀ y,f b=some y→g b≤oL y.1)→(l.map g).sum≤mM (xs.map (·.1))
 | [],xs,h,_=>by simp
 | b :: l,xs,h,hb=>by
  rw [List.mapM_cons] at h; cases e:f b with
  | none=>simp [e] at h
  | some y=>
   cases e2:l.mapM f with
   | none=>simp [e,e2] at h
   | some ys=>
    simp [e,e2] at h; subst h; have h0:=hb b List.mem_cons_self y e; have ih:=G_ (g:=g) e2 fun b' hb'=>hb b' (List.mem_cons_of_mem _ hb'); simp only [List.map_cons,List.sum_cons,mM]; omega
section
variable {P : Program} {w : World}
theorem V7 {H:Type} {enc:TypeId × Value→H} {sp:Nat→Bool} {held:Bool} {S:List TypeId} (hS:∀ t,S.contains t=true→CB P S t=true):
  ∀ (fuel:Nat) (t:TypeId) (cs:List Value) (x:DataW H × List MemPlace),S.contains t=true→DataW.trod enc P w 0 sp held fuel t cs=some x→∃ ps N,bC w (uY w) ps cs∧Ri P t ps N∧N≤oL x.1:=by
 intro fuel
 induction fuel with
 | zero=>intro t cs x _ h; simp [DataW.trod] at h
 | succ fuel ih=>
  intro t cs x ht h; have hp:=hS t ht; unfold CB at hp; split at hp
  ·
   rename_i hu; unfold DataW.trod at h; rw [hu] at h; split at h <;> simp_all; rename_i b; subst h; exact ⟨[.bool b],bC.cons (by simp only [dU]) bC.nil,_,.bool hu,Nat.le_refl _⟩
  ·
   rename_i k hu; unfold DataW.trod at h; rw [hu] at h; split at h <;> simp_all; rename_i k1 k' n hk; obtain ⟨⟨rfl,hw⟩,rfl⟩:=h; exact ⟨[.int k' n],bC.cons (by simp only [dU]) bC.nil,_,.int hu hw,Nat.le_refl _⟩
  ·
   rename_i hu; unfold DataW.trod at h; rw [hu] at h; split at h <;> simp_all; rename_i b; obtain ⟨_,rfl⟩:=h; exact ⟨[.str b.data.toList],bC.cons (by simp only [dU]) bC.nil,_,.str hu,Nat.le_refl _⟩
  ·
   rename_i e hu; simp only [Bool.and_eq_true,decide_eq_true_eq] at hp; unfold DataW.trod at h; rw [hu] at h; split at h <;> first | (exfalso; simp_all; done) | skip
   ·
    cases h; exact ⟨[.list []],_,bC.cons (by simp only [dU]; exact ⟨none,0,rfl,Nat.le_refl _,.inl trivial⟩) bC.nil,.slice (l:=[]) hu (by simp),Nat.le_refl _⟩
   ·
    rename_i e' a len cap heq1; cases heq1; simp only at h; split at h
    ·
     rename_i hb; cases hm:(List.range len).mapM fun i=>(w.cells? 0 (a.add (i * P.cellsOf e)) (P.cellsOf e)).bind (DataW.trod enc P w 0 sp held fuel e) with
     | none=>rw [hm] at h; cases h
     | some elems=>
      rw [hm] at h; simp only [Option.bind_some] at h; obtain ⟨rest,_,hx⟩:=Option.map_eq_some_iff.1 h; subst hx; obtain ⟨_,hat⟩:=uw hm; have hlen:=(uw hm).1
      have hspot:0 < len→a=⟨a.block,a.off,none⟩∧a.block < w.heap.size:=by
       intro hpos; have h1:=hat 0 hpos; rw [List.getElem?_eq_getElem (by omega)] at h1; cases hcs:w.cells? 0 (a.add (0 * P.cellsOf e)) (P.cellsOf e) with
       | none=>rw [hcs] at h1; cases h1
       | some cs'=>
        simp only [World.cells?,Nat.zero_le,if_true] at hcs; obtain ⟨hl',hat'⟩:=uw hcs; have h0:=hat' 0 hp.1; rw [List.getElem?_eq_getElem (by omega)] at h0; have:=P_ h0; simpa [Addr.add] using this
      have hone:∀ i,∃ ps:List PV × Nat,i < len→(ps.1.length=P.cellsOf e∧oN w (uY w) a.block (a.off + i * P.cellsOf e) ps.1∧Ri P e ps.1 ps.2∧∀ y,elems[i]?=some y→ps.2≤oL y.1):=by
       intro i; rcases Nat.lt_or_ge i len with hi | hi
       ·
        have h1:=hat i hi; obtain ⟨hsp,hblk⟩:=hspot (by omega); rw [List.getElem?_eq_getElem (by omega)] at h1; cases hcs:w.cells? 0 (a.add (i * P.cellsOf e)) (P.cellsOf e) with
        | none=>rw [hcs] at h1; cases h1
        | some cs'=>
         rw [hcs] at h1; obtain ⟨ps,N,hr,hty,hN⟩:=ih e cs' _ hp.2 h1; simp only [World.cells?,Nat.zero_le,if_true] at hcs; obtain ⟨hl',hat'⟩:=uw hcs; refine ⟨(ps,N),fun _=>⟨by rw [←hr.length_eq,hl'],?_,hty,fun y hy=>?_⟩⟩
         case refine_2=>rw [List.getElem?_eq_getElem (by omega)] at hy; cases hy; exact hN
         refine LP hr (fun _=>hblk) fun j v hv=>?_
         have hj:j < P.cellsOf e:=by
          rw [←hl']; exact (List.getElem?_eq_some_iff.1 hv).1
         have:=hat' j hj; rw [hv,hsp,Addr.add_lit,Addr.add_lit] at this; exact this
       · exact ⟨([],0),fun h=>by omega⟩
      obtain ⟨g,hg⟩:=GR hone; refine ⟨[.list (((List.range' 0 len).map g).map (·.1))],_,bC.cons ?_ bC.nil,.slice hu fun c hc=>?_,?_⟩
      ·
       simp only [dU]; refine ⟨some a,cap,by simp,by simp; omega,?_⟩; rcases Nat.eq_zero_or_pos len with h0 | h0
       · subst h0; exact .inl rfl
       ·
        refine .inr ⟨a.block,a.off,P.cellsOf e,by rw [←(hspot h0).1],?_⟩; rw [List.map_map]; refine Ho len 0 a.off fun i hi=>?_; rw [Nat.zero_add]; exact ⟨(hg i hi).1,(hg i hi).2.1⟩
      ·
       obtain ⟨i,hi,rfl⟩:=List.mem_map.1 hc; simp at hi; exact (hg i hi).2.2.1
      ·
       have hsum:=Eb (g:=g) (n:=len) (s:=0) (es:=elems) (by omega) fun i hi y hy=>(hg (0 + i) (by omega)).2.2.2 y (by simpa using hy); simp only [oL]; omega
    · cases h
  ·
   rename_i fs hu; simp only [Bool.and_eq_true] at hp; unfold DataW.trod at h; rw [hu] at h; split at h <;> first | (exfalso; simp_all; done) | skip
   rename_i cs _ _ fs' heq; cases heq; split at h
   ·
    rename_i hlen; cases hm:fs.toList.mapM fun f=>DataW.trod enc P w 0 sp held fuel f.type ((cs.drop f.offset).take (P.cellsOf f.type)) with
    | none=>rw [hm] at h; cases h
    | some xs=>
     obtain ⟨hxl,hat⟩:=mapM_at hm; rw [hm] at h; simp only [Option.map_some,Option.some.injEq] at h; subst h
     have hone:∀ f:Field,∃ ps:List PV × Nat,f∈fs.toList→bC w (uY w) ps.1 ((cs.drop f.offset).take (P.cellsOf f.type))∧Ri P f.type ps.1 ps.2∧∀ y,DataW.trod enc P w 0 sp held fuel f.type ((cs.drop f.offset).take (P.cellsOf f.type))=some y→ps.2≤oL y.1:=by
      intro f; by_cases hf:f∈fs.toList
      ·
       obtain ⟨i,hi⟩:=List.getElem?_of_mem hf; have h1:=hat i f hi; have hil:i < fs.toList.length:=(List.getElem?_eq_some_iff.1 hi).1; rw [List.getElem?_eq_getElem (by omega)] at h1; have hSf:S.contains f.type=true:=(List.all_eq_true.1 hp.2) f hf; obtain ⟨ps,N,h2,h3,h4⟩:=ih f.type _ _ hSf h1; exact ⟨(ps,N),fun _=>⟨h2,h3,fun y hy=>by rw [h1] at hy; cases hy; exact h4⟩⟩
      · exact ⟨([],0),fun h=>absurd h hf⟩
     obtain ⟨g,hg⟩:=GR hone; refine ⟨((fs.toList.map g).map (·.1)).flatten,_,?_,.struct hu (by simp) fun x hx=>?_,?_⟩
     ·
      rw [List.map_map]; have:=LM (w:=w) (m:=uY w) (cs:=cs) (g:=fun f=>(g f).1) fs.toList 0 _ hp.1 hlen.symm fun f hf=>(hg f hf).1; simpa [Function.comp_def] using this
     ·
      obtain ⟨k1,k2⟩:=K3 g _ _ hx; rw [k2]; exact (hg _ k1).2.1
     ·
      have hsum:=G_ (g:=fun f=>(g f).2) hm fun f hf y hy=>(hg f hf).2.2 y hy; rw [List.map_map]; simp only [oL]; have:(fs.toList.map ((fun x=>x.2) ∘ g)).sum=(fs.toList.map fun f=>(g f).2).sum:=rfl; omega
   · cases h
  ·
   rename_i n e hu; simp only [Bool.and_eq_true,beq_iff_eq] at hp; unfold DataW.trod at h; rw [hu] at h; split at h <;> first | (exfalso; simp_all; done) | skip
   rename_i cs _ _ n' e' heq; cases heq; split at h
   ·
    rename_i hlen; cases hm:(List.range n).mapM fun i=>DataW.trod enc P w 0 sp held fuel e ((cs.drop (i * P.cellsOf e)).take (P.cellsOf e)) with
    | none=>rw [hm] at h; cases h
    | some xs=>
     obtain ⟨hxl,hat⟩:=uw hm; rw [hm] at h; simp only [Option.map_some,Option.some.injEq] at h; subst h
     have hone:∀ i,∃ ps:List PV × Nat,i < n→bC w (uY w) ps.1 ((cs.drop (i * P.cellsOf e)).take (P.cellsOf e))∧Ri P e ps.1 ps.2∧∀ y,xs[i]?=some y→ps.2≤oL y.1:=by
      intro i; rcases Nat.lt_or_ge i n with hi | hi
      ·
       have h1:=hat i hi; rw [List.getElem?_eq_getElem (by omega)] at h1; obtain ⟨ps,N,h2,h3,h4⟩:=ih e _ _ hp.2 h1; exact ⟨(ps,N),fun _=>⟨h2,h3,fun y hy=>by rw [List.getElem?_eq_getElem (by omega)] at hy; cases hy; exact h4⟩⟩
      · exact ⟨([],0),fun h=>by omega⟩
     obtain ⟨g,hg⟩:=GR hone; refine ⟨(((List.range' 0 n).map g).map (·.1)).flatten,_,?_,.array hu (by simp) fun c hc=>?_,?_⟩
     ·
      rw [List.map_map]; have:=O9 (w:=w) (m:=uY w) (cs:=cs) (sz:=P.cellsOf e) (g:=fun i=>(g i).1) n 0 (by rw [hlen,hp.1,Nat.zero_add]) fun i hi=>(hg i (by omega)).1; simpa [Function.comp_def] using this
     ·
      obtain ⟨i,hi,rfl⟩:=List.mem_map.1 hc; simp at hi; exact (hg i hi).2.1
     ·
      have hsum:=Eb (g:=g) (n:=n) (s:=0) (es:=xs) (by omega) fun i hi y hy=>(hg (0 + i) (by omega)).2.2 y (by simpa using hy); simp only [oL]; omega
   · cases h
  · cases hp
inductive U7 (P:Program):TypeId→PV→Nat→Prop
 | one {t:TypeId} {p:PV} {N:Nat}:Ri P t [p] N→(∀ fs,P.underlying t≠some (.struct fs))→(∀ n e,P.underlying t≠some (.array n e))→U7 P t p N
 | agg {t:TypeId} {cs:List PV} {N:Nat}:Ri P t cs N→((∃ fs,P.underlying t=some (.struct fs))∨∃ n e,P.underlying t=some (.array n e))→U7 P t (.agg cs) N
def Rj (P:Program):List TypeId→List PV→Nat→Prop
 | [],ps,N=>ps=[]∧N=0
 | t :: ts,ps,N=>∃ p ps' A B,ps=p :: ps'∧N=A + B∧U7 P t p A∧Rj P ts ps' B
theorem Xy {H:Type} {enc:TypeId × Value→H} {sp:Nat→Bool} {held:Bool} {S:List TypeId} (hS:∀ t,S.contains t=true→CB P S t=true) {r:Reach} {b0:Nat} {t:TypeId} {v:Value} {d:DataW H} {ps:List MemPlace}
  (ht:S.contains t=true) (hv:Value.okWide P w r b0 t v) (h:DataW.Trod enc P w 0 sp held t v d ps):∃ p N,dU w (uY w) p v∧U7 P t p N∧N≤oL d:=by
 obtain ⟨fuel,h⟩:=h; obtain ⟨qs,N,hr,hty,hN⟩:=V7 hS fuel t _ _ ht h; have hp:=hS t ht; unfold CB at hp
 have hone:(∀ fs,P.underlying t≠some (.struct fs))→(∀ n e,P.underlying t≠some (.array n e))→v.cells.toList=[v]→∃ p N,dU w (uY w) p v∧U7 P t p N∧N≤oL d:=by
  intro h1 h2 h3; rw [h3] at hr; obtain ⟨p,rfl,h4⟩:=Yc hr; exact ⟨p,N,h4,.one hty h1 h2,hN⟩
 unfold Value.okWide at hv; split at hp
 ·
  rename_i hu; rw [hu] at hv; refine hone (by simp [hu]) (by simp [hu]) ?_; cases v <;> simp_all [Cell.okWide,Cell.ok,Value.cells]
 ·
  rename_i hu; rw [hu] at hv; refine hone (by simp [hu]) (by simp [hu]) ?_; cases v <;> simp_all [Cell.okWide,Cell.ok,Value.cells]
 ·
  rename_i hu; rw [hu] at hv; refine hone (by simp [hu]) (by simp [hu]) ?_; cases v <;> simp_all [Cell.okWide,Cell.ok,Value.cells]
 ·
  rename_i hu; rw [hu] at hv; refine hone (by simp [hu]) (by simp [hu]) ?_; cases v <;> simp_all [Cell.okWide,Cell.ok,Value.cells]
 ·
  rename_i hu; rw [hu] at hv; obtain ⟨cs,rfl,_⟩:=hv; exact ⟨.agg qs,N,by simp only [dU]; exact ⟨cs.toList,rfl,hr⟩,.agg hty (.inl ⟨_,hu⟩),hN⟩
 ·
  rename_i hu; rw [hu] at hv; obtain ⟨cs,rfl,_⟩:=hv; exact ⟨.agg qs,N,by simp only [dU]; exact ⟨cs.toList,rfl,hr⟩,.agg hty (.inr ⟨_,_,hu⟩),hN⟩
 · cases hp
theorem Iy {H:Type} {enc:TypeId × Value→H} {sp:Nat→Bool} {held:Bool} {S:List TypeId} (hS:∀ t,S.contains t=true→CB P S t=true) {r:Reach} {b0:Nat}:
  ∀ (ts:List TypeId) (vs:List Value) (ds:List (DataW H)) (ps:List MemPlace),(∀ t∈ts,S.contains t=true)→(∀ (j:Nat) t v,ts[j]?=some t→vs[j]?=some v→Value.okWide P w r b0 t v)→
  DataW.TrodAll enc P w 0 sp held ts vs ds ps→ds.length=ts.length∧∃ qs N,bC w (uY w) qs vs∧Rj P ts qs N∧N≤mM ds
 | [],[],[],_,_,_,_=>⟨rfl,[],0,bC.nil,⟨rfl,rfl⟩,Nat.le_refl _⟩
 | t :: ts,v :: vs,d :: ds,ps,hts,hv,h=>by
  obtain ⟨p,q,h1,h2,_⟩:=h; obtain ⟨p1,N1,k1,k2,k3⟩:=Xy hS (hts t List.mem_cons_self) (hv 0 t v rfl rfl) h1; obtain ⟨hl,qs,N2,k4,k5,k6⟩:=Iy hS ts vs ds q (fun x hx=>hts x (List.mem_cons_of_mem _ hx)) (fun j t' v' e1 e2=>hv (j + 1) t' v' (by simpa using e1) (by simpa using e2)) h2; exact ⟨by simp [hl],p1 :: qs,N1 + N2,bC.cons k1 k4,⟨p1,qs,N1,N2,rfl,rfl,k2,k5⟩,by simp only [mM]; omega⟩
 | [],[],_ :: _,_,_,_,h=>h.elim
 | [],_ :: _,_,_,_,_,h=>by cases h
 | _ :: _,[],_,_,_,_,h=>by cases h
 | _ :: _,_ :: _,[],_,_,_,h=>h.elim
theorem WS {H:Type} {enc:TypeId × Value→H} {f:Func} {fid:FuncId} {s:ChangeSpec} {S:List TypeId} {tb:TypeId} (hS:(S.all fun t=>CB P S t)=true) (hts:∀ t∈f.params.toList,S.contains t=true)
  (hrd:∀ t∈f.params.toList,P.readableRec t=true∧t < P.types.size) (hl:laidOutB P=true) (hres:f.resultTypes=#[tb]) (aem:P.underlying tb=some .bool) (hvars:s.vars=[])
  (hspec:∀ ds:List (DataW H),ds.length=f.params.toList.length→s.fn H ds={results:=[.lit (.bool true)],args:=ds})
  {ds:List (DataW H)} (walk:∀ qs N,Rj P f.params.toList qs N→N≤mM ds→AC P fid qs [] fun out _=>out=.ret (.bool true))
  {W:World} {base:Nat} {args:Array Value} {gs:List (DataW H)} {before:List MemPlace} (hval:∀ (j:Nat) t v,f.params[j]?=some t→args[j]?=some v→Value.okWide P W .any base t v)
  (hW:DataW.Whole enc P f.params.toList s.vars false W args.toList ds gs before) (hG:iG.G W (uY W)):
  Calls P fid args W fun e W'=>∃ v,e=.returned v∧s.post enc P f false true false false W args v W':=by
 have hW':=hW; have hlt:=hW.lt; obtain ⟨p,q,hA,hV,rfl,hfz,hnd⟩:=hW; rw [hvars] at hV
 obtain ⟨rfl,rfl⟩:gs=[]∧q=[]:=by
  cases gs with
  | nil=>exact ⟨rfl,hV⟩
  | cons g gs=>exact hV.elim
 have hS':∀ t,S.contains t=true→CB P S t=true:=fun t ht=>List.all_eq_true.1 hS t (by simpa using ht); obtain ⟨hdl,qs,N,hr,hty,hN⟩:=Iy hS' f.params.toList args.toList ds p hts (fun j t v e1 e2=>hval j t v (by simpa using e1) (by simpa using e2)) hA; have ael:Conc W (uY W) []:=⟨fun r hr=>by simp at hr,by simp [kI],fun b _ h=>h,hG⟩; have hcall:=walk qs N hty hN W (uY W) args.toList ael hr; rw [Array.toArray_toList] at hcall; refine hcall.mono ?_; rintro e W' ⟨out,σ',m',rfl,hout,_,htr⟩; simp only [Br] at hout; obtain ⟨v,rfl,hv⟩:=hout; simp only [dU] at hv; subst hv; have bel:Go.RowKit.Below W.heap.size W W':=⟨htr.os,htr.tape,htr.output,htr.size,fun k hk=>(htr.keep k hk (by simp [kI])).1⟩; refine ⟨_,rfl,ds,[],_,[],p,[],hW',?_,?_,?_,bel.frame _,fun h=>by cases h⟩
 ·
  rw [List.append_nil,hspec ds hdl,hres]; exact ⟨[],[],⟨1,by simp [DataW.trod,aem,Value.cells]⟩,rfl,rfl⟩
 ·
  rw [List.append_nil,hspec ds hdl]; exact Gj hl bel _ _ _ _ hrd hA fun x hx=>hlt x (List.mem_append_left _ hx)
 ·
  rw [List.append_nil,hspec ds hdl,hvars]; rfl
theorem Ri.Z7 {t:TypeId} {c:List PV} {N:Nat} (h:Ri P t c N) (hu:P.underlying t=some .string):∃ s,c=[.str s]∧N=s.length + 1:=by
 cases h with
 | str hu'=>exact ⟨_,rfl,rfl⟩
 | _ hu'=>rw [hu] at hu'; cases hu'
theorem U7.acA {t:TypeId} {p:PV} {N:Nat} (h:U7 P t p N) (h1:∀ fs,P.underlying t≠some (.struct fs)) (h2:∀ n e,P.underlying t≠some (.array n e)):Ri P t [p] N:=by
 cases h with
 | one h _ _=>exact h
 | agg h hor=>rcases hor with ⟨fs,hu⟩ | ⟨n,e,hu⟩; exact absurd hu (h1 _); exact absurd hu (h2 _ _)
end
end Go.Abs
namespace Go.Abs
variable [iG]
open Go Go.Ft
section
variable {P : Program} {o : Oper} {ρ : Operand → PV} {σ : List bA} {R S : PV → List bA → Prop}
def concrete (P:Program) (t:TypeId):Bool:=
 match P.underlying t with
 | some (.interface _)=>false
 | some _=>true
 | none=>false
theorem R7 {t:TypeId} (h:concrete P t=true) (v:Value) (w:World):(Instr.makeInterface t v).run P w=.ok (.iface t v) w:=by
 unfold concrete at h; split at h
 · cases h
 ·
  rename_i d hd e; simp only [Instr.makeInterface,Sem.run_bind,run_underlying e,Result.andThen_ok]; cases d <;> simp_all
 · cases h
theorem AO.aaq {t:TypeId} {x:Operand} {p:PV} (ho:o.op=.makeInterface t x) (hu:concrete P t=true) (hx:(ρ x).force=some p) (hR:R (.iface t p) σ):AO P o ρ σ R S:=by
 have hx:=PV.force_eq hx; refine AO.of_same hR fun w m ev hr hc=>?_; have h:=hr x (by simp [ho,Op.operands]); rw [hx] at h; refine ⟨.iface t (ev x),?_,?_⟩
 · simp only [execOp,ho,Sem.run_bind,R7 hu,Result.andThen_ok,Sem.run_pure]
 · simp only [dU]; exact ⟨_,rfl,h⟩
theorem AO.acw {x:Operand} {t:TypeId} {p:PV} (ho:o.op=.panic x) (hx:ρ x=.iface t p) (hS:S (.iface t p) σ):AO P o ρ σ R S:=by
 intro w m a K QC hr hc _ hP; have h:=hr x (by simp [ho,Op.operands]); rw [hx] at h; have h':=h; simp only [dU] at h; obtain ⟨v,hv,hp⟩:=h; unfold Oper.wp
 have hrun:(execOp a.eval o).run P w=.halt (.panic (.iface t v)) w:=by
  simp only [execOp,ho,hv,Sem.run_bind]; rw [run_panic_iface]; rfl
 rw [hrun]; rw [hv] at h'; exact hP _ σ _ w m hS h' hc (Trans.refl ..)
theorem AO.eqNil {op:BinOp} {t yt:TypeId} {x:Operand} {e:Option TypeId} {b:Bool} (ho:o.op=.binOp op t x (.const .nilIface) yt) (hu:P.underlying t=some (.interface (P.methodsAt t)))
  (hx:ρ x=.err e) (hb:(match op with | .eql=>some e.isNone | .neq=>some e.isSome | _=>none)=some b) (hR:R (.bool b) σ):AO P o ρ σ R S:=by
 intro w m a K QC hr hc hK _; have h:=hr x (by simp [ho,Op.operands]); rw [hx] at h
 have hrun:(execOp a.eval o).run P w=.ok (.value (.bool b)) w:=by
  have hev:a.eval (.const .nilIface)=.nilIface:=rfl; cases e with
  | none=>
   simp only [dU] at h; cases op <;> simp only [reduceCtorEq,Option.some.injEq] at hb <;> subst hb
   · simp only [execOp,ho,h,hev,Sem.run_bind,eqGuard_nil_constR,Sem.run_pure,Result.andThen_ok,run_eql_nil_nil w t hu]; rfl
   · simp only [execOp,ho,h,hev,Sem.run_bind,eqGuard_nil_constR,Sem.run_pure,Result.andThen_ok,run_neq_nil_nil w t hu]; rfl
  | some u=>
   simp only [dU] at h; obtain ⟨z,h⟩:=h; cases op <;> simp only [reduceCtorEq,Option.some.injEq] at hb <;> subst hb
   ·
    simp only [execOp,ho,h,hev,Sem.run_bind]; rw [show eqGuard .eql t x (.const .nilIface) (.iface u z) .nilIface=pure () from rfl]; simp only [Sem.run_pure,Result.andThen_ok,run_eql_held_nil w t u z hu]; rfl
   ·
    simp only [execOp,ho,h,hev,Sem.run_bind]; rw [show eqGuard .neq t x (.const .nilIface) (.iface u z) .nilIface=pure () from rfl]; simp only [Sem.run_pure,Result.andThen_ok,run_neq_held_nil w t u z hu]; rfl
 unfold Oper.wp; rw [hrun]; exact hK _ σ _ w m hR (by simp only [dU]) hc (Trans.refl ..)
end
end Go.Abs
namespace Go.Abs
variable [iG]
open Go Go.Ft
def lG :Nat→List (Str × Int)→List MapEntry
 | _,[]=>[]
 | i,(k,v) :: r=>{key:=.string ⟨k.toArray⟩,val:=.int .i64 v,born:=i} :: lG (i + 1) r
def tV (l:List (Str × Int)):Obj:=.map (lG 0 l).toArray l.length
theorem U3 (a b:List UInt8):((⟨a.toArray⟩:ByteArray) == ⟨b.toArray⟩)=(a == b):=by
 show (a.toArray == b.toArray)=(a == b); simp
theorem Jk (k:Str):∀ (l:List (Str × Int)) (i j:Nat),∃ r,Instr.findNow .string (.string ⟨k.toArray⟩) (lG i l) j=some r∧
  ((r=none∧sU l k=0∧∀ n,lG i (uq l k n)=lG i l ++ [{key:=.string ⟨k.toArray⟩,val:=.int .i64 n,born:=i + l.length}]∧(uq l k n).length=l.length + 1)∨
   ∃ q v,r=some (j + q,.int .i64 v)∧sU l k=v∧(∃ e,(lG i l)[q]?=some e∧e.key=.string ⟨k.toArray⟩)∧
    ∀ n,lG i (uq l k n)=(lG i l).modify q (fun e=>{e with key:=.string ⟨k.toArray⟩,val:=.int .i64 n})∧(uq l k n).length=l.length)
 | [],i,j=>⟨none,rfl,.inl ⟨rfl,rfl,fun n=>⟨by simp [uq,lG],rfl⟩⟩⟩
 | (k',v) :: l,i,j=>by
  simp only [lG,Instr.findNow,Instr.sameNow,sU,uq]; by_cases e:k=k'
  ·
   subst e; refine ⟨some (j,.int .i64 v),by rw [U3,beq_self_eq_true],.inr ⟨0,v,rfl,by simp,⟨_,rfl,rfl⟩,fun n=>⟨by simp [lG],by simp⟩⟩⟩
  ·
   have hb:(k == k')=false:=beq_eq_false_iff_ne.2 e; have hb2:((⟨k.toArray⟩:ByteArray) == ⟨k'.toArray⟩)=false:=(U3 k k').trans hb; rw [hb2,hb]; obtain ⟨r,h1,h2⟩:=Jk k l (i + 1) (j + 1); refine ⟨r,h1,?_⟩; rcases h2 with ⟨h3,h4,h5⟩ | ⟨q,u,h3,h4,h5,h6⟩
   ·
    refine .inl ⟨h3,by simpa using h4,fun n=>⟨?_,?_⟩⟩
    ·
     simp only [Bool.false_eq_true,if_false,lG,(h5 n).1,List.cons_append,List.length_cons]; rw [show i + 1 + l.length=i + (l.length + 1) from by omega]
    · simp [(h5 n).2]
   ·
    refine .inr ⟨q + 1,u,by rw [h3]; congr 2; omega,by simpa using h4,by simpa using h5,fun n=>⟨?_,?_⟩⟩
    · simp only [Bool.false_eq_true,if_false,lG,(h6 n).1,List.modify_succ_cons]
    · simp [(h6 n).2]
section
variable {P : Program} {o : Oper} {ρ : Operand → PV} {σ : List bA} {R S : PV → List bA → Prop}
theorem AO.Mi {t:TypeId} (ho:o.op=.makeMap t none) (hR:∀ b,R (.val (.map (some b))) (.obj b (tV []) :: σ)):AO P o ρ σ R S:=by
 refine AO.of_run' fun w m ev hr hc=>?_; have:=zu hc (tV []); refine ⟨_,_,.map (some w.heap.size),_,_,hR w.heap.size,?_,by simp [dU],this,jh hc _ _ fun b hb=>?_⟩
 · simp [execOp,ho,Instr.makeMap,go_sem,tV,lG]
 ·
  simp [kI,bA.fp] at hb ⊢; rcases hb with hb | hb
  · exact .inr hb
  · exact .inl hb
theorem BA {t:TypeId} (h:P.underlying t=some .string) (b:Bool) (n:Nat) (k:ByteArray) (w:World):(Instr.checkKey b (n + 1) t (.string k)).run P w=.ok () w:=by
 simp [Instr.checkKey,run_underlying h]
theorem run_getObj_map {w:World} {b c:Nat} {es:Array MapEntry} (h:w.heap[b]?=some (.map es c)):(getObj b).run P w=.ok (.map es c) w:=by simp [getObj,Sem.run,h]
theorem run_setObj_map {w:World} {b c:Nat} {es:Array MapEntry} (h:w.heap[b]?=some (.map es c)) (o:Obj):(setObj b o).run P w=.ok () {w with heap:=w.heap.setIfInBounds b o}:=by simp [setObj,Sem.run,h]
theorem AO.FI {t kt et:TypeId} {x y:Operand} {l:List (Str × Int)} {k:Str} {b i:Nat} (ho:o.op=.lookup t x y false) (hi:σ[i]?=some (.obj b (tV l))) (hx:ρ x=.val (.map (some b))) (hy:ρ y=.str k)
  (ht:P.underlying t=some (.map kt et)) (hk:P.underlying kt=some .string) (hz:(P.info? et).map (·.zero)=some (some (.int .i64 0))) (hR:R (.int .i64 (sU l k)) σ):AO P o ρ σ R S:=by
 refine AO.of_same hR fun w m ev hr hc=>?_; have h1:=hr x (by simp [ho,Op.operands]); have h2:=hr y (by simp [ho,Op.operands]); rw [hx] at h1; rw [hy] at h2; simp only [dU] at h1 h2; obtain ⟨hb,hm⟩:=hc.each _ (List.mem_of_getElem? hi); obtain ⟨r,f1,f2⟩:=Jk k l 0 0
 have hf:(Instr.findKey kt (.string ⟨k.toArray⟩) (lG 0 l)).run P w=.ok r w:=by
  simp [Instr.findKey,run_underlying hk,f1]
 have z1:(zeroValue et).run P w=.ok (.int .i64 0) w:=by
  cases hi:P.info? et with
  | none=>rw [hi] at hz; cases hz
  | some inf=>
   rw [hi] at hz; simp only [Option.map_some,Option.some.injEq] at hz; simp [zeroValue,run_typeInfo hi,hz]
 refine ⟨.int .i64 (sU l k),?_,by simp only [dU]⟩; have hg:(getObj b).run P w=.ok (.map (lG 0 l).toArray l.length) w:=run_getObj_map hb; simp only [execOp,ho,Instr.lookup,h1,h2,Sem.run_bind,run_underlying ht,Result.andThen_ok,hg,Sem.run_pure,BA hk,List.toList_toArray,hf]; rcases f2 with ⟨f3,f4,_⟩ | ⟨q,v,f3,f4,_⟩
 ·
  subst f3; simp [z1,f4]
 ·
  subst f3; simp [f4]
theorem AO.GJ {t kt et:TypeId} {x y z:Operand} {l:List (Str × Int)} {k:Str} {n:Int} {b i:Nat} (ho:o.op=.mapUpdate t x y z) (hi:σ[i]?=some (.obj b (tV l))) (hx:ρ x=.val (.map (some b))) (hy:ρ y=.str k) (hv:ρ z=.int .i64 n)
  (ht:P.underlying t=some (.map kt et)) (hk:P.underlying kt=some .string) (hR:R .undef (σ.set i (.obj b (tV (uq l k n))))):AO P o ρ σ R S:=by
 intro w m a K QC hr hc hK _; have h1:=hr x (by simp [ho,Op.operands]); have h2:=hr y (by simp [ho,Op.operands]); have h3:=hr z (by simp [ho,Op.operands]); rw [hx] at h1; rw [hy] at h2; rw [hv] at h3; simp only [dU] at h1 h2 h3; obtain ⟨hb,hm⟩:=hc.each _ (List.mem_of_getElem? hi)
 have hblt:b < w.heap.size:=by
  rcases Nat.lt_or_ge b w.heap.size with h | h
  · exact h
  · simp [Array.getElem?_eq_none h] at hb
 let w':World:={w with heap:=w.heap.setIfInBounds b (tV (uq l k n))}; have hb':w'.heap[b]?=some (tV (uq l k n)):=by simp [w',hblt]
 obtain ⟨k1,k2⟩:=Conc.write (w':=w') (r':=.obj b (tV (uq l k n))) hc hi rfl rfl hm ⟨hb',hm⟩ ⟨rfl,rfl,rfl⟩ (by simp [w']) (fun j hj=>by simp [w',Array.getElem?_setIfInBounds_ne (Ne.symm hj)]); obtain ⟨r,f1,f2⟩:=Jk k l 0 0
 have hf:(Instr.findKey kt (.string ⟨k.toArray⟩) (lG 0 l)).run P w=.ok r w:=by
  simp [Instr.findKey,run_underlying hk,f1]
 have hg:(getObj b).run P w=.ok (.map (lG 0 l).toArray l.length) w:=run_getObj_map hb; have hst:=run_setObj_map (P:=P) (w:=w) (b:=b) (c:=l.length) (es:=(lG 0 l).toArray) hb
 have hrun:(execOp a.eval o).run P w=.ok .skip w':=by
  simp only [execOp,ho,Instr.mapUpdate,h1,h2,h3,Sem.run_bind,run_underlying ht,Result.andThen_ok,hg,BA hk,List.toList_toArray,hf]; rcases f2 with ⟨f3,_,f5⟩ | ⟨q,v,f3,_,⟨e,g1,g2⟩,f6⟩
  ·
   subst f3
   have e1:tV (uq l k n)=.map ((lG 0 l).toArray.push {key:=.string ⟨k.toArray⟩,val:=.int .i64 n,born:=l.length}) (l.length + 1):=by
    unfold tV; rw [(f5 n).1,(f5 n).2]; simp
   simp [hst,w',e1]
  ·
   subst f3
   have e1:tV (uq l k n)=.map ((lG 0 l).toArray.modify q (fun e=>{e with key:=.string ⟨k.toArray⟩,val:=.int .i64 n})) l.length:=by
    unfold tV; rw [(f6 n).1,(f6 n).2]; simp
   have g3:((lG 0 l).toArray[q]?)=some e:=by simpa using g1
   simp [Instr.keyThatStays,Instr.sameBits,U3,g1,g2,hst,w',e1]
 unfold Oper.wp; rw [hrun]; exact hK _ _ _ _ _ hR trivial k1 k2
theorem AO.MB {α:Type} {t n b off:Nat} {x i:Operand} {j:Int} {L:List α} {c:α} (h:idx L j=some c) (ho:o.op=.indexAddr t x i) (ha:Dh P t=some (n,1)) (hx:ρ x=.val (.pointer (some ⟨b,off,none⟩))) (hi:ρ i=.int .i64 j)
  (hL:L.length=n) (hR:R (.val (.pointer (some ⟨b,off + j.toNat,none⟩))) σ):AO P o ρ σ R S:=by
 obtain ⟨h0,h1⟩:=Cc h
 have h2:j.toNat < n:=by
  rcases Nat.lt_or_ge j.toNat L.length with h3 | h3
  · omega
  · rw [List.getElem?_eq_none h3] at h1; cases h1
 exact AO.Oi ho ha hx hi h0 h2 (by rw [Nat.mul_one]; exact hR)
theorem AO.WQ {α:Type} {t:TypeId} {x:Operand} {cs:List PV} {b i k:Nat} {j:Int} {L:List α} {c:α} (f:α→PV) (h:idx L j=some c) (ho:o.op=.load t x) (hx:ρ x=.val (.pointer (some ⟨b,0 + j.toNat,none⟩))) (hi:σ[i]?=some (bA.box b cs))
  (ht:iW P t=some (false,k)) (hcs:cs=L.map f) (hR:R (f c) σ):AO P o ρ σ R S:=by
 obtain ⟨h0,h1⟩:=Cc h; refine AO.UA ho hx hi ht ?_ hR; rw [hcs,Nat.zero_add,List.getElem?_map,h1]; rfl
end
end Go.Abs
namespace Go.Abs
variable [iG]
open Go Go.Ft
section
variable {P : Program}
theorem K6 {Q:Exit→Act→List Frame→World→Prop} {id n:Nat} {ops:Array Oper} {o:Oper} {v:Value} {a:Act} {cs cs':List Frame} {w:World}
  (hn:ops.size=n + 1) (h0:ops[0]?=some o) (hg:o.guard=none) (hop:(execOp a.eval o).run P w=.ok .recover w)
  (hrec:recoverD cs=some (v,cs')∨(recoverD cs=none∧v=.nilIface∧cs'=cs))
  (h:wpOps P ops (fun e a' w'=>Q e a' cs' w') (List.range' 1 n) (a.put o.dst v) w):(Code.region id ops false).wpS P Q a cs w:=by
 intro b k hb hro; have hw:Region.wanted o (yielded ops a.tmps)=true:=by simp [Region.wanted,hg]
 have hr:List.range ops.size=0 :: List.range' 1 n:=by rw [hn,List.range_eq_range',List.range'_succ]
 have hst:=stepG_op (P:=P) (b:=b) (a:=a) (k:=k) (cs:=cs) (w:=w) (rest:=List.range' 1 n) h0 hw
 have hfin:∀ v,(b.at a (.inRegion ops (0 :: List.range' 1 n) :: k)).finish v=b.at (a.put o.dst v) (.inRegion ops (List.range' 1 n) :: k):=by
  intro v; rw [Frame.finish_at,h0]; rfl
 have hk:(b.at a (.inRegion ops (0 :: List.range' 1 n) :: k)).kind=.deferred:=hb; have htr:=tryRecover_deferred hk cs; obtain ⟨e,a',w',hq,harr⟩:=wp_ops (P:=P) (Q:=fun e a' w'=>Q e a' cs' w') _ _ _ h b k cs'; refine ⟨e,a',cs',w',hq,.of_steps (.one step_region) (.of_steps (.one ?_) harr)⟩; rw [hr]; refine step_lone_go ?_; rw [hst,←hfin]; simp only [Frame.at] at htr ⊢; rcases hrec with hrec | ⟨hrec,rfl,rfl⟩
 · simp [stepG.apply,hop,htr,hrec]
 · simp [stepG.apply,hop,htr,hrec]
def Hr :Option Value→FrameMode
 | none=>.returning
 | some v=>.panicking [{v,recovered:=false}]
def zC :Option Value→FrameMode
 | none=>.returning
 | some v=>.panicking [{v,recovered:=true}]
def isRecover (o:Oper):Bool:=
 match o.op with
 | .call c=>(match c.callee with | .builtin .recover=>c.args.isEmpty | _=>false)
 | _=>false
theorem R6 {o:Oper} (h:isRecover o=true) (ev:Operand→Value) (w:World):(execOp ev o).run P w=.ok .recover w:=by
 unfold isRecover at h; split at h
 ·
  rename_i c hc; split at h
  ·
   rename_i kG; simp [execOp,hc,resolve,kG,invoke,builtin]
  · cases h
 · cases h
def QD (R:List bA→Prop):Post
 | .normal,_,s,d | .ret,_,s,d=>d=[]∧R s
 | _,_,_,_=>False
theorem CD.rec {g:FuncId} {fn:Func} {args:List PV} {σ:List bA} {id nt t:Nat} {ops:List Oper} {o:Oper} {X:Code} {env:Env} (ts:List Nat) {p:PV} {R:List bA→Prop}
  (hf:P.funcs[g]?=some fn) (hb:fn.body=some (.seq (.region id (o :: ops).toArray false) X)) (hn:fn.ntmps=nt) (hl:Nat.ble args.length nt=true) (hrs:fn.results.toList=[]) (Jf:settle ts (yx 0 args)=some env)
  (hg:o.guard=none) (ho:isRecover o=true) (hd:o.dst=some t) (ht:Nat.blt t nt=true)
  (h:AR P nt (o :: ops).toArray ops ((t,p) :: env) σ [] (AX.then (fun e s d=>AW P nt X e s d (QD R)) (QD R)))
  (w:World) (m:jO) (vs:List Value) (q:Option Value) (hq:match q with | none=>p=.val .nilIface | some v=>dU w m p v) (hc:Conc w m σ) (hv:bC w m args vs):
  CallsD P g vs.toArray (Hr q) w fun e u' w'=>e=.returned (.tuple #[])∧u'=zC q∧∃ σ' m',R σ'∧Conc w' m' σ'∧Trans w m σ w' m' σ':=by
 have hl:=Nat.le_of_ble_eq_true hl; have ht:=Nat.le_of_ble_eq_true ht; have hvl:=hv.length_eq; refine callsD_of_wpS hf hb fun c₀ cs hu=>wpS_seq ?_
 have hrec:∃ v cs',(recoverD (c₀ :: cs)=some (v,cs')∨(recoverD (c₀ :: cs)=none∧v=.nilIface∧cs'=c₀ :: cs))∧dU w m p v∧cs'={c₀ with mode:=zC q} :: cs:=by
  cases q with
  | none=>
   refine ⟨.nilIface,c₀ :: cs,.inr ⟨by simp [recoverD,hu,Hr],rfl,rfl⟩,?_,?_⟩
   · simp only at hq; subst hq; simp only [dU]
   · simp only [zC]; rw [show FrameMode.returning=c₀.mode from hu.symm]
  | some v=>exact ⟨v,_,.inl (by simp [recoverD,hu,Hr]; rfl),hq,rfl⟩
 obtain ⟨v,cs',h1,h2,h3⟩:=hrec; refine K6 (o:=o) (n:=ops.length) (by simp) (by simp) hg (R6 ho _ _) h1 ?_
 have qK:p9 w m nt ((t,p) :: env) σ [] (({tmps:=vs.toArray ++ Array.replicate (fn.ntmps - vs.toArray.size) Go.undef,defers:=[]}:Act).put o.dst v):=by
  have he:=yY (List.replicate (fn.ntmps - vs.toArray.size) Go.undef) [] hv; have e0:vs.toArray ++ Array.replicate (fn.ntmps - vs.toArray.size) Go.undef=([] ++ vs ++ List.replicate (fn.ntmps - vs.toArray.size) Go.undef:List Value).toArray:=by simp
  rw [←e0] at he; have he:=Af.settle Jf he; have h0:p9 w m nt env σ [] ({tmps:=vs.toArray ++ Array.replicate (fn.ntmps - vs.toArray.size) Go.undef,defers:=[]}:Act):=⟨by simp [hvl,hn]; omega,rfl,he,hc⟩; exact p9.put h0 hd ht h2 hc (Le.refl _ _)
 have key:∀ QQ a w,wpList P (o :: ops).toArray QQ ops a w→wpOps P (o :: ops).toArray QQ (List.range' 1 ops.length) a w:=fun QQ a w h=>by
  rw [wpOps_eq_wpList ops 1 (fun j=>by simp [Nat.add_comm 1 j])]; exact h
 refine key _ _ _ (h w m _ _ qK ?_)
 have hfin:∀ (e:Env) (s:List bA) (d:List Deferred) (a':Act) (w':World) (m':jO),p9 w' m' nt e s d a'→Trans w m σ w' m' s→d=[]→R s→
   a'.defers=[]∧∃ u',cs'={c₀ with mode:=u'} :: cs∧∃ z,(results fn a'.tmps).run P w'=.ok z w'∧Ending.returned z=.returned (.tuple #[])∧u'=zC q∧∃ σ' m',R σ'∧Conc w' m' σ'∧Trans w m σ w' m' σ':=by
  intro e s d a' w' m' hs ht hd hR; refine ⟨by rw [hs.ds,hd],zC q,h3,.tuple #[],?_,rfl,rfl,s,m',hR,hs.jm,ht⟩; unfold results; rw [Array.mapM_eq_mapM_toList,hrs]; simp
 intro x ex e1 s1 d1 a1 w1 m1 hq1 hx hs1 ht1; cases x with
 | normal=>
  cases hx; refine wpS_of_wp (hq1 w1 m1 a1 _ hs1 ?_); intro x ex e2 s2 d2 a2 w2 m2 hq2 hx hs2 ht2; cases x with
  | normal=>cases hx; exact hfin e2 s2 d2 a2 w2 m2 hs2 (ht1.trans ht2) hq2.1 hq2.2
  | ret=>cases hx; exact hfin e2 s2 d2 a2 w2 m2 hs2 (ht1.trans ht2) hq2.1 hq2.2
  | exit id=>exact hq2.elim
  | panic p=>exact hq2.elim
 | ret=>cases hx; exact hfin e1 s1 d1 a1 w1 m1 hs1 ht1 hq1.1 hq1.2
 | exit id=>exact hq1.elim
 | panic p=>exact hq1.elim
end
end Go.Abs
namespace Go.Abs
variable [iG]
open Go
def hide (D:Nat→Bool):Env→Env
 | []=>[]
 | (t,p) :: r=>bif D t then hide D r else (t,p) :: hide D r
theorem sD (D:Nat→Bool) (t:Nat):∀ E:Env,(hide D E).get t=if D t=true then .undef else E.get t
 | []=>by simp [hide,Env.get]
 | (u,p) :: r=>by
  unfold hide; cases hu:D u with
  | true=>
   simp only [cond_true,Env.get]; rw [sD D t r]; by_cases e:u=t
   · subst e; simp [hu]
   · rw [uX e]; rfl
  | false=>
   simp only [cond_false,Env.get]; by_cases e:u=t
   · subst e; simp [hu]
   · rw [uX e]; simp only [cond_false]; exact sD D t r
def readsOf (ops:List Oper) (o:Oper):List Nat:=
 (o.op.operands.toList.filterMap fun | .tmp t=>some t | _=>none) ++
 (match o.guard with
  | some (g,_)=>(match ops[g]? with | some og=>(match og.dst with | some t=>[t] | none=>[]) | none=>[])
  | none=>[])
def yS (L:List Oper) (i:Nat):List Nat:=match L[i]? with | some o=>S9 L i (gT o) | none=>[]
def abn (o:Oper):List Nat:=match o.dst with | some t=>[t] | none=>[]
def Kz (l:List Nat) (x:Nat):Bool:=l.any fun y=>Nat.beq y x
def Ja (L:List Oper) (k k2:Nat):Bool:=
 (List.range L.length).all fun i=>match L[i]? with
  | none=>true
  | some o=>((gT o).all fun x=>Nat.blt x i) &&
   if Nat.blt i k then
    ((List.range k2).all fun j=>Nat.beq i j || (match L[j]? with
     | none=>true
     | some oj=>match oj.dst with
      | none=>true
      | some t=>!Kz (abn o) t && (!Kz (readsOf L o) t || (Nat.blt j k && Kz (gT o) j)))) &&
    (match o.dst with | some t=>!Kz (readsOf L o) t | none=>true)
   else if Nat.blt i k2 then (List.range k).all fun j=>(match L[j]? with
     | none=>true
     | some oj=>match oj.dst with
      | none=>true
      | some t=>!Kz (readsOf L o) t || Kz (yS L i) j)
   else if Nat.beq i k2 then (List.range k2).all fun j=>Kz (yS L k2) j
   else (gT o).any fun x=>Nat.beq (x + 1) i
structure Zl (L:List Oper) (k k2:Nat):Prop where
 before:∀ i o,L[i]?=some o→∀ j∈gT o,j < i
 apart:∀ i o j oj t,i < k→L[i]?=some o→j < k2→L[j]?=some oj→i≠j→oj.dst=some t→o.dst≠some t∧(t∈readsOf L o→j < k∧j∈gT o)
 self:∀ i o t,i < k→L[i]?=some o→o.dst=some t→t∉readsOf L o
 mid:∀ i o j oj t,k≤i→i < k2→L[i]?=some o→j < k→L[j]?=some oj→oj.dst=some t→t∈readsOf L o→j∈yS L i
 X5:∀ o,L[k2]?=some o→∀ j,j < k2→j∈yS L k2
 tails:∀ i o,k2 < i→L[i]?=some o→∃ j∈gT o,j + 1=i
theorem Pd {L:List Oper} {k k2:Nat} (hkk:k≤k2) (h:Ja L k k2=true):Zl L k k2:=by
 unfold Ja at h; rw [List.all_eq_true] at h
 have h1:∀ i o,L[i]?=some o→((gT o).all fun x=>Nat.blt x i)=true∧_:=fun i o ho=>by
  have hi:i < L.length:=by
   rcases Nat.lt_or_ge i L.length with h' | h'
   · exact h'
   · simp [List.getElem?_eq_none h'] at ho
  have:=h i (by simpa using hi); rw [ho] at this; simpa only [Bool.and_eq_true] using this
 have hn:∀ i k,¬ i < k→¬ Nat.blt i k=true:=fun i k h hh=>h (oM.1 hh); refine ⟨fun i o ho j hj=>?_,fun i o j oj t hi ho hj hoj hne ht=>?_,fun i o t hi ho ht=>?_,fun i o j oj t hk hi ho hj hoj ht hm=>?_,fun o ho j hj=>?_,fun i o hi ho=>?_⟩
 ·
  have:=(h1 i o ho).1; rw [List.all_eq_true] at this; exact oM.1 (this j hj)
 ·
  have:=(h1 i o ho).2; rw [if_pos (oM.2 hi),Bool.and_eq_true,List.all_eq_true] at this; have:=this.1 j (by simpa using hj); rw [uX hne,Bool.false_or,hoj] at this; simp only [ht,Bool.and_eq_true,Bool.or_eq_true,Bool.not_eq_true'] at this; obtain ⟨t1,t2⟩:=this; refine ⟨fun e=>?_,fun hm=>?_⟩
  ·
   unfold abn at t1; rw [e] at t1; simp [Kz] at t1
  ·
   rcases t2 with t2 | ⟨t2,t3⟩
   ·
    unfold Kz at t2; rw [any_beq.2 hm] at t2; cases t2
   · exact ⟨oM.1 t2,any_beq.1 t3⟩
 ·
  have:=(h1 i o ho).2; rw [if_pos (oM.2 hi),Bool.and_eq_true] at this; have:=this.2; simp only [ht,Bool.not_eq_true'] at this; intro hm; unfold Kz at this; rw [any_beq.2 hm] at this; cases this
 ·
  have:=(h1 i o ho).2; rw [if_neg (hn _ _ (by omega)),if_pos (oM.2 hi),List.all_eq_true] at this; have:=this j (by simpa using hj); rw [hoj] at this; simp only [ht,Bool.or_eq_true,Bool.not_eq_true'] at this; rcases this with t2 | t2
  ·
   unfold Kz at t2; rw [any_beq.2 hm] at t2; cases t2
  · exact any_beq.1 t2
 ·
  have:=(h1 k2 o ho).2; rw [if_neg (hn _ _ (by omega)),if_neg (hn _ _ (by omega)),if_pos (Nat.beq_refl k2),List.all_eq_true] at this; exact any_beq.1 (this j (by simpa using hj))
 ·
  have:=(h1 i o ho).2; rw [if_neg (hn _ _ (by omega)),if_neg (hn _ _ (by omega)),if_neg (fun hh=>by have:=Nat.eq_of_beq_eq_true hh; omega),List.any_eq_true] at this; obtain ⟨x,hx,hxi⟩:=this; exact ⟨x,hx,Nat.eq_of_beq_eq_true hxi⟩
theorem AO.frameT {P:Program} {o:Oper} {ρ:Operand→PV} {σ τ:List bA} {R S:PV→List bA→Prop} (h:AO P o ρ σ R S):AO P o ρ (σ ++ τ) (fun p s=>∃ s0,s=s0 ++ τ∧R p s0) (fun p s=>∃ s0,s=s0 ++ τ∧S p s0):=by
 intro w m a K QC hr hc hK hS; refine h w m a K QC hr hc.left (fun p σ' v w' m' h1 h2 h3 h4=>?_) (fun p σ' v w' m' h1 h2 h3 h4=>?_)
 ·
  obtain ⟨k1,k2⟩:=Conc.frame hc h3 h4; exact hK p _ v w' m' ⟨σ',rfl,h1⟩ h2 k1 k2
 ·
  obtain ⟨k1,k2⟩:=Conc.frame hc h3 h4; exact hS p _ v w' m' ⟨σ',rfl,h1⟩ h2 k1 k2
theorem AO.YI {P:Program} {o:Oper} {ρ:Operand→PV} {σ:List bA} {R S R' S':PV→List bA→Prop} (h:AO P o ρ σ R S) (hR:∀ p s,R p s→R' p s) (hS:∀ p s,S p s→S' p s):AO P o ρ σ R' S':=
 fun w m a K QC hr hc h1 h2=>h w m a K QC hr hc (fun p s v w' m' k=>h1 p s v w' m' (hR p s k)) (fun p s v w' m' k=>h2 p s v w' m' (hS p s k))
theorem AO.Yu {P:Program} {o:Oper} {ρ:Operand→PV} {σ τ:List bA} {R S:PV→List bA→Prop} (hp:τ.Perm σ) (h:AO P o ρ σ R S):AO P o ρ τ R S:=
 fun w m a K QC hr hc h1 h2=>h w m a K QC hr (hc.perm hp) (fun p s v w' m' k1 k2 k3 k4=>h1 p s v w' m' k1 k2 k3 (k4.perm hp.symm (.refl _))) (fun p s v w' m' k1 k2 k3 k4=>h2 p s v w' m' k1 k2 k3 (k4.perm hp.symm (.refl _)))
theorem uH.frameT {P:Program} {all:Array Oper} {env:Env} {σ τ:List bA} {o:Oper} {p:PV} (h:uH P all env σ o p):uH P all env (σ ++ τ) o p:=by
 have key:∀ o',AF P o' env.ev σ p→AF P o' env.ev (σ ++ τ) p:=fun o' h=>by
  refine AO.YI (AO.frameT (τ:=τ) h) (fun p' s=>?_) (fun p' s=>?_)
  · rintro ⟨s0,rfl,rfl,rfl⟩; exact ⟨rfl,rfl⟩
  · rintro ⟨s0,rfl,h⟩; exact h
 rcases h with ⟨hg,h⟩ | ⟨j,want,oj,u,h1,h2,h3,h⟩
 · exact .inl ⟨hg,key _ h⟩
 ·
  refine .inr ⟨j,want,oj,u,h1,h2,h3,?_⟩; rcases h with ⟨h5,h⟩ | h
  · exact .inl ⟨h5,key _ h⟩
  · exact .inr h
theorem uH.QM {P:Program} {all:Array Oper} {env env':Env} {σ:List bA} {o:Oper} {p:PV} {L:List Oper} (hall:all=L.toArray) (h:uH P all env σ o p) (he:∀ t∈readsOf L o,env'.get t=env.get t):uH P all env' σ o p:=by
 subst hall
 have hop:∀ x∈o.op.operands,env'.ev x=env.ev x:=fun x hx=>MP fun t ht=>he t (by
  subst ht; unfold readsOf
  exact List.mem_append.2 (.inl (List.mem_filterMap.2 ⟨.tmp t,by simpa using hx,rfl⟩)))
 rcases h with ⟨hg,h⟩ | ⟨j,want,oj,u,hg,hj,hu,h⟩
 · exact .inl ⟨hg,AO.congr h hop⟩
 ·
  have hu':env'.get u=env.get u:=by
   rw [he u]; unfold readsOf; refine List.mem_append.2 (.inr ?_); rw [hg]; simp only; rw [show L[j]?=some oj from by simpa using hj]; simp [hu]
  refine .inr ⟨j,want,oj,u,hg,hj,hu,?_⟩; rw [hu']; rcases h with ⟨h1,h2⟩ | h
  · exact .inl ⟨h1,AO.congr h2 hop⟩
  · exact .inr h
def Ku (dst:Option Tmp) (p:PV) (e:Env):Env:=match dst with | some t=>(t,p) :: e | none=>e
theorem EI {dst:Option Tmp} {p:PV} {e:Env} {t:Nat} (h:dst≠some t):(Ku dst p e).get t=e.get t:=by
 cases dst with
 | none=>rfl
 | some u=>
  have:u≠t:=fun hh=>h (by rw [hh]); simp only [Ku,Env.get,uX this,cond_false]
section
variable {P : Program} {n : Nat} {ds : List Deferred} {L : List Oper} {k k2 : Nat}
theorem Vd (k0:Nat) (hk0:∀ i q,k≤i→i < k2→q < k0→q∈yS L i) (hk:k≤k2) (hk2:k2≤L.length) (ho:Zl L k k2) {d:Nat→Nat} (hd:∀ i o,i < k→L[i]?=some o→o.dst=some (d i)∧d i < n) {σ1:List bA} {Q:Post}
  (I:(Nat→Bool)→Env→List bA→Prop) (hI:∀ S S' e σ,(∀ i,k≤i→i < k2→S i=S' i)→I S e σ→I S' e σ)
  (hT:∀ S e σ2 i o,I S e σ2→k≤i→i < k2→S i=false→(∀ j∈gT o,k≤j→S j=true)→L[i]?=some o→o.guard=none∧(∀ t,o.dst=some t→t < n)∧
   AO P o e.ev σ2 (fun p uN=>I (fun j=>if i=j then true else S j) (Ku o.dst p e) uN) (fun p uN=>Q (.panic p) [] (σ1 ++ uN) ds))
  (hend:∀ S e σ2,(∀ i,k≤i→i < k2→S i=true)→I S e σ2→AR P n L.toArray (L.drop k2) e (σ1 ++ σ2) ds Q)
  {QC:Exit→Act→World→Prop}:∀ (fuel:Nat) (listed:Array Bool) (a:Act) (w:World) (m:jO) (E:Env) (σ2:List bA),listed.size=L.length→listed.toList.count false≤fuel→
   (∀ j,k2≤j→j < L.length→listed.getD j true=false)→(∀ i o,L[i]?=some o→listed.getD i true=true→∀ j∈gT o,listed.getD j true=true)→
   (∀ i o,i < k→L[i]?=some o→listed.getD i true=false→uH P L.toArray E (if i < k0 then σ1 ++ σ2 else σ1) o (E.get (d i)))→I (fun i=>listed.getD i true) E σ2→
   p9 w m n (hide (fun t=>(List.range k).any fun i=>!listed.getD i true && Nat.beq (d i) t) E) (σ1 ++ σ2) ds a→Acc n Q w m (σ1 ++ σ2) QC→wpAny P .any L.toArray QC fuel listed a w:=by
 have hidden:∀ (listed:Array Bool) (t:Nat),((List.range k).any fun i=>!listed.getD i true && Nat.beq (d i) t)=true↔∃ i,i < k∧listed.getD i true=false∧d i=t:=by
  intro listed t; rw [List.any_eq_true]; constructor
  ·
   rintro ⟨i,hi,h⟩; simp only [Bool.and_eq_true,Bool.not_eq_true'] at h; exact ⟨i,by simpa using hi,h.1,Nat.eq_of_beq_eq_true h.2⟩
  ·
   rintro ⟨i,hi,h1,h2⟩; exact ⟨i,by simpa using hi,by simp [h1,h2]⟩
 have done:∀ (fuel:Nat) (listed:Array Bool) (a:Act) (w:World) (m:jO) (E:Env) (σ2:List bA),listed.size=L.length→listed.toList.count false≤fuel→
   (∀ j,k2≤j→j < L.length→listed.getD j true=false)→(∀ j,j < k2→listed.getD j true=true)→I (fun i=>listed.getD i true) E σ2→
   p9 w m n (hide (fun t=>(List.range k).any fun i=>!listed.getD i true && Nat.beq (d i) t) E) (σ1 ++ σ2) ds a→Acc n Q w m (σ1 ++ σ2) QC→wpAny P .any L.toArray QC fuel listed a w:=by
  intro fuel listed a w m E σ2 hsz hcnt hun hall hi hs ha
  have hl:∀ j,j < L.length→(listed.getD j true=true↔j < k2):=by
   intro j hj; rcases Nat.lt_or_ge j k2 with h | h
   · simp [hall j h,h]
   · simp [hun j h hj]; omega
  refine K8 (k:=k2) ho.before ho.tails fuel k2 listed a w (Nat.le_refl _) hk2 hsz hl ?_ ?_
  ·
   have hc:(listed.toList.drop k2).count false=L.length - k2:=by
    have:listed.toList.drop k2=List.replicate (L.length - k2) false:=by
     apply List.ext_getElem
     · simp [hsz]
     ·
      intro j h1 h2; simp at h1 h2 ⊢; have h3:=hun (k2 + j) (by omega) (by omega); have h4:k2 + j < listed.size:=by omega
      simpa [Array.getD,h4] using h3
    rw [this]; simp
   have:(listed.toList.drop k2).count false≤listed.toList.count false:=List.Sublist.count_le _ (List.drop_sublist _ _); omega
  ·
   refine hend _ E σ2 (fun i _ hi=>hall i hi) hi w m a QC (hs.congr fun t=>.inr ?_) ha; rw [sD]; rw [if_neg]; rw [hidden]; rintro ⟨i,h1,h2,_⟩; rw [hall i (by omega)] at h2; cases h2
 intro fuel
 induction fuel with
 | zero=>
  intro listed a w m E σ2 hsz hcnt hun Ib hfa hi hs ha; refine done 0 listed a w m E σ2 hsz hcnt hun (fun j hj=>?_) hi hs ha; have h0:listed.toList.count false=0:=by omega
  rw [List.count_eq_zero] at h0; have hj':j < listed.size:=by omega
  cases e:listed.getD j true with
  | true=>rfl
  | false=>
   exfalso; apply h0; have:listed[j]=false:=by simpa [Array.getD,hj'] using e
   rw [←this]; simp
 | succ fuel ih=>
  intro listed a w m E σ2 hsz hcnt hun Ib hfa hi hs ha; by_cases hall:∀ j,j < k2→listed.getD j true=true
  · exact done (fuel + 1) listed a w m E σ2 hsz hcnt hun hall hi hs ha
  ·
   have hex:∃ i,i < k2∧listed.getD i true=false∧∀ j,j < i→listed.getD j true=true:=by
    have key:∀ c,(∀ j,j < c→j < k2→listed.getD j true=true)∨∃ i,i < k2∧listed.getD i true=false∧∀ j,j < i→listed.getD j true=true:=by
     intro c
     induction c with
     | zero=>exact .inl fun j hj=>by omega
     | succ c ihc=>
      rcases ihc with h | h
      ·
       by_cases hc:c < k2∧listed.getD c true=false
       · exact .inr ⟨c,hc.1,hc.2,fun j hj=>h j hj (by omega)⟩
       ·
        refine .inl fun j hj hjk=>?_; by_cases e:j=c
        ·
         subst e; cases e:listed.getD j true with
         | true=>rfl
         | false=>exact absurd ⟨hjk,e⟩ hc
        · exact h j (by omega) hjk
      · exact .inr h
    rcases key k2 with h | h
    · exact absurd (fun j hj=>h j hj hj) hall
    · exact h
   have Ji:∀ j b,j < L.length→listed.getD j b=listed.getD j true:=by
    intro j b hj; have:j < listed.size:=by omega
    simp [Array.getD,this]
   refine ⟨fun h0=>?_,fun i hi'=>?_⟩
   ·
    exfalso; obtain ⟨i,hik,hif,hlow⟩:=hex; have MI:i < L.length:=by omega
    have:i∈Region.ready .any L.toArray listed:=by
     refine mem_ready.2 ⟨by simpa using MI,hif,L[i],by simp [MI],fun e he hb=>?_⟩; have hj:=ho.before i _ (List.getElem?_eq_getElem MI) e.on (wV.2 ⟨e,he,hb,rfl⟩); rw [Ji _ _ (by omega)]; exact hlow _ hj
    rw [h0] at this; cases this
   ·
    obtain ⟨h1,h2,o,h3,h4⟩:=mem_ready.1 hi'; have MI:i < L.length:=by simpa using h1
    have hoi:L[i]?=some o:=by simpa using h3
    have hpred:∀ j∈gT o,listed.getD j true=true:=by
     intro j hj; obtain ⟨e,he,hb,hon⟩:=wV.1 hj; have h5:=h4 e he hb; rw [hon,Ji _ _ (by have:=ho.before i o hoi j hj; omega)] at h5; exact h5
    have hdn:∀ j∈yS L i,listed.getD j true=true:=by
     intro j hj; unfold yS at hj; rw [hoi] at hj; exact C9 (k:=i) (listed:=fun j=>listed.getD j true=true) (fun q oq _ hq hl=>Ib q oq hq hl) i (gT o) (Nat.le_refl _) hpred j hj
    have hik:i < k2:=by
     rcases Nat.lt_or_ge i k2 with h | h
     · exact h
     ·
      exfalso; obtain ⟨q,hqk,hqf,_⟩:=hex; rcases Nat.lt_or_ge k2 i with h' | h'
      ·
       obtain ⟨j,hj,hji⟩:=ho.tails i o h' hoi; have h6:=hpred j hj; rw [hun j (by omega) (by omega)] at h6; cases h6
      ·
       have hik:i=k2:=by omega
       subst hik; have h6:=hdn q (ho.X5 o hoi q hqk); rw [hqf] at h6; cases h6
    have hset:∀ j,(listed.setIfInBounds i true).getD j true=if i=j then true else listed.getD j true:=MK (by omega)
    have abg:(listed.setIfInBounds i true).toList.count false≤fuel:=by
     have hil:listed.toList[i]?=some false:=by
      have hi':i < listed.size:=by omega
      have:listed[i]=false:=by simpa [Array.getD,hi'] using h2
      simp [hi',this]
     have:=count_set hil; rw [Array.toList_setIfInBounds]; omega
    have hun':∀ j,k2≤j→j < L.length→(listed.setIfInBounds i true).getD j true=false:=by
     intro j hkj hj; rw [hset,if_neg (by omega)]; exact hun j hkj hj
    have YU:∀ q oq,L[q]?=some oq→(listed.setIfInBounds i true).getD q true=true→∀ j∈gT oq,(listed.setIfInBounds i true).getD j true=true:=by
     intro q oq hoq hl j hj; rw [hset] at hl ⊢; by_cases e:i=j
     · simp [e]
     ·
      simp only [e,if_false]; by_cases e2:i=q
      ·
       subst e2; rw [hoi] at hoq; cases hoq; exact hpred j hj
      ·
       simp only [e2,if_false] at hl; exact Ib q oq hoq hl j hj
    have hget:∀ t∈readsOf L o,(hide (fun t=>(List.range k).any fun i=>!listed.getD i true && Nat.beq (d i) t) E).get t=E.get t:=by
     intro t ht; rw [sD,if_neg]; rw [hidden]; rintro ⟨j,hjk,hjf,hjt⟩; have hoj:L[j]?=some L[j]:=List.getElem?_eq_getElem (by omega); have hdj:=(hd j _ hjk hoj).1; rw [hjt] at hdj; rcases Nat.lt_or_ge i k with h | h
     ·
      by_cases e:i=j
      ·
       subst e; have e9:=Option.some.inj (hoi.symm.trans hoj); rw [←e9] at hdj; exact ho.self i o t h hoi hdj ht
      ·
       have:=hpred j ((ho.apart i o j _ t h hoi (by omega) hoj e hdj).2 ht).2; rw [hjf] at this; cases this
     ·
      have:=hdn j (ho.mid i o j _ t h hik hoi hjk hoj hdj ht); rw [hjf] at this; cases this
    rcases Nat.lt_or_ge i k with hlt | hge
    ·
     obtain ⟨hdo,afn⟩:=hd i o hlt hoi; have hev:=hfa i o hlt hoi h2
     have afl:uH P L.toArray E (σ1 ++ σ2) o (E.get (d i)):=by
      split at hev
      · exact hev
      · exact uH.frameT hev
     refine K7 (t:=d i) h3 hdo afn (uH.QM rfl afl hget) hs fun a' w' m' hs' MG=>?_; refine ih _ a' w' m' E σ2 (by simpa using hsz) abg hun' YU ?_ ?_ ?_ (ha.step MG)
     ·
      intro q oq hq hoq hl; rw [hset] at hl; by_cases e:i=q
      · simp [e] at hl
      ·
       simp only [e,if_false] at hl; exact hfa q oq hq hoq hl
     ·
      refine hI _ _ _ _ (fun j hj _=>?_) hi; rw [hset,if_neg (by omega)]
     ·
      refine hs'.congr fun t=>?_; rw [sD]; split
      · exact .inl rfl
      ·
       rename_i hh; right; simp only [Env.get]; by_cases e:d i=t
       · subst e; simp
       ·
        rw [uX e,cond_false,sD,if_neg]; intro hh'; apply hh; rw [hidden] at hh' ⊢; obtain ⟨j,h5,h6,h7⟩:=hh'; refine ⟨j,h5,?_,h7⟩; rw [hset,if_neg (fun hij=>e (by rw [hij]; exact h7))]; exact h6
    ·
     obtain ⟨hg,hdt,hao⟩:=hT _ E σ2 i o hi hge hik h2 (fun j hj _=>hpred j hj) hoi; unfold wpOp; rw [h3]; simp only; rw [if_pos (by simp [Region.wanted,hg])]; left; have hao':=AO.Yu (σ:=σ2 ++ σ1) (τ:=σ1 ++ σ2) List.perm_append_comm (AO.frameT (τ:=σ1) hao); refine hao' w m a _ QC (fun x hx=>?_) hs.jm ?_ ?_
     ·
      have h9:=hs.env.ev x
      have:(hide (fun t=>(List.range k).any fun i=>!listed.getD i true && Nat.beq (d i) t) E).ev x=E.ev x:=MP fun t ht=>hget t (by
       subst ht; unfold readsOf
       exact List.mem_append.2 (.inl (List.mem_filterMap.2 ⟨.tmp t,by simpa using hx,rfl⟩)))
      rw [this] at h9; exact h9
     ·
      rintro p σ' v w' m' ⟨uN,rfl,hi2⟩ hv hc htr; have hc':=hc.perm (τ:=σ1 ++ uN) List.perm_append_comm; have MG:=htr.perm (.refl _) (List.perm_append_comm (l₁:=uN) (l₂:=σ1))
      have hne:∀ q oq,q < k→L[q]?=some oq→∀ t,o.dst=some t→oq.dst≠some t∧t∉readsOf L oq:=by
       intro q oq hq hoq t ht; obtain ⟨e1,e2⟩:=ho.apart q oq i o t hq hoq hik hoi (by omega) ht; exact ⟨e1,fun hm=>by have:=(e2 hm).1; omega⟩
      refine ih _ _ w' m' (Ku o.dst p E) uN (by simpa using hsz) abg hun' YU ?_ ?_ ?_ (ha.step MG)
      ·
       intro q oq hq hoq hl; rw [hset,if_neg (by omega)] at hl; have h8:=hfa q oq hq hoq hl
       have hq0:¬ q < k0:=fun hh=>by
        have:=hdn q (hk0 i q hge hik hh); rw [hl] at this; cases this
       rw [if_neg hq0] at h8 ⊢; have e1:(Ku o.dst p E).get (d q)=E.get (d q):=EI fun hh=>(hne q oq hq hoq _ hh).1 (hd q oq hq hoq).1; rw [e1]; refine uH.QM rfl h8 fun t ht=>EI fun hh=>(hne q oq hq hoq _ hh).2 ht
      ·
       refine hI _ _ _ _ (fun j _ _=>?_) hi2; rw [hset]
      ·
       have hput:p9 w' m' n (Ku o.dst p (hide (fun t=>(List.range k).any fun i=>!listed.getD i true && Nat.beq (d i) t) E)) (σ1 ++ uN) ds (a.put o.dst v):=by
        cases e:o.dst with
        | none=>exact hs.Sd rfl hc' htr.le
        | some t=>exact hs.put rfl (hdt t e) hv hc' htr.le
       refine hput.congr fun t=>?_; rw [sD]; split
       · exact .inl rfl
       ·
        rename_i hh; right; cases e:o.dst with
        | none=>
         simp only [Ku]; rw [sD,if_neg]; intro hh'; apply hh; rw [hidden] at hh' ⊢; obtain ⟨j,h5,h6,h7⟩:=hh'; refine ⟨j,h5,?_,h7⟩; rw [hset,if_neg (by omega)]; exact h6
        | some u=>
         simp only [Ku,Env.get]; by_cases e2:u=t
         · subst e2; simp
         ·
          rw [uX e2,cond_false,cond_false,sD,if_neg]; intro hh'; apply hh; rw [hidden] at hh' ⊢; obtain ⟨j,h5,h6,h7⟩:=hh'; refine ⟨j,h5,?_,h7⟩; rw [hset,if_neg (by omega)]; exact h6
     ·
      rintro p σ' v w' m' ⟨uN,rfl,hq⟩ hv hc htr; have hc':=hc.perm (τ:=σ1 ++ uN) List.perm_append_comm; have MG:=htr.perm (.refl _) (List.perm_append_comm (l₁:=uN) (l₂:=σ1)); exact ha (.panic p) _ [] _ ds a w' m' hq ⟨v,rfl,hv⟩ ⟨hs.size,hs.ds,fun t=>by simp [Env.get,dU],hc'⟩ MG
def TF (P:Program) (n:Nat) (ds:List Deferred) (Q:Post) (σ1:List bA):List Oper→Env→List bA→(Env→List bA→Prop)→Prop
 | [],e,σ2,K=>K e σ2
 | o :: r,e,σ2,K=>o.guard=none∧(∀ t,o.dst=some t→t < n)∧∃ e2,Less e2 e∧AO P o e2.ev σ2 (fun p uN=>TF P n ds Q σ1 r (Ku o.dst p e2) uN K) (fun p uN=>Q (.panic p) [] (σ1 ++ uN) ds)
theorem TF.less {Q:Post} {σ1:List bA} {K:Env→List bA→Prop} (hK:∀ e e' s,Less e' e→K e' s→K e s):∀ {l:List Oper} {e e':Env} {σ2:List bA},Less e' e→TF P n ds Q σ1 l e' σ2 K→TF P n ds Q σ1 l e σ2 K
 | [],e,e',s,h,k=>hK e e' s h k
 | o :: r,e,e',s,h,⟨h1,h2,e2,h3,h4⟩=>⟨h1,h2,e2,h3.trans h,h4⟩
def QT (L:List Oper) (k k2:Nat):Bool:=
 (List.range L.length).all fun i=>!(Nat.blt k i && Nat.blt i k2) || (match L[i]? with | some o=>(gT o).any fun x=>Nat.beq (x + 1) i | none=>true)
theorem Xn (h:QT L k k2=true) {i:Nat} {o:Oper} (h1:k < i) (h2:i < k2) (ho:L[i]?=some o):∃ j∈gT o,j + 1=i:=by
 unfold QT at h; rw [List.all_eq_true] at h
 have hi:i < L.length:=by
  rcases Nat.lt_or_ge i L.length with h' | h'
  · exact h'
  · simp [List.getElem?_eq_none h'] at ho
 have:=h i (by simpa using hi); rw [ho,oM.2 h1,oM.2 h2] at this; simp only [Bool.and_self,Bool.not_true,Bool.false_or] at this; rw [List.any_eq_true] at this; obtain ⟨x,hx,hxi⟩:=this; exact ⟨x,hx,Nat.eq_of_beq_eq_true hxi⟩
def QI (L:List Oper) (k0 k k2:Nat):Bool:=
 (List.range k2).all fun i=>Nat.blt i k || (List.range k0).all fun q=>Kz (yS L i) q
theorem Xg {k0:Nat} (h:QI L k0 k k2=true):∀ i q,k≤i→i < k2→q < k0→q∈yS L i:=by
 intro i q h1 h2 h3; unfold QI at h; rw [List.all_eq_true] at h; have:=h i (by simpa using h2)
 have hb:Nat.blt i k=false:=by
  cases e:Nat.blt i k with
  | false=>rfl
  | true=>have:=oM.1 e; omega
 rw [hb,Bool.false_or,List.all_eq_true] at this; exact any_beq.1 (this q (by simpa using h3))
theorem uH.Yu {all:Array Oper} {env:Env} {σ τ:List bA} {o:Oper} {p:PV} (hp:τ.Perm σ) (h:uH P all env σ o p):uH P all env τ o p:=by
 have key:∀ o',AF P o' env.ev σ p→AF P o' env.ev τ p:=fun o' h w m a K QC hr hc h1 h2=>by
  refine h w m a K QC hr (hc.perm hp) (fun p s v w' m' k1 k2 k3 k4=>?_) (fun p s v w' m' k1 k2 k3 k4=>k1.elim); obtain ⟨rfl,rfl⟩:=k1; exact h1 _ _ v w' m' ⟨rfl,rfl⟩ k2 (k3.perm hp.symm) (k4.perm hp.symm hp.symm)
 rcases h with ⟨hg,h⟩ | ⟨j,want,oj,u,h1,h2,h3,h⟩
 · exact .inl ⟨hg,key _ h⟩
 ·
  refine .inr ⟨j,want,oj,u,h1,h2,h3,?_⟩; rcases h with ⟨h5,h⟩ | h
  · exact .inl ⟨h5,key _ h⟩
  · exact .inr h
theorem acM {env:Env} {σ σ1:List bA} {k0:Nat} {K:Env→Prop} (hk0:k0≤k) (hk:k≤L.length) (h:Ev P n L.toArray σ env (L.take k0) fun env'=>Ev P n L.toArray σ1 env' ((L.drop k0).take (k - k0)) K):
  ∃ (d:Nat→Nat) (p:Nat→PV),(∀ i o,i < k→L[i]?=some o→o.dst=some (d i)∧d i < n∧uH P L.toArray (o8 (fun _=>true) d p env i) (if i < k0 then σ else σ1) o (p i))∧K (o8 (fun _=>true) d p env k):=by
 obtain ⟨d1,p1,h1,h2⟩:=Ev.facts h; rw [List.length_take,Nat.min_eq_left (by omega)] at h2; obtain ⟨d2,p2,h3,h4⟩:=Ev.facts h2; have hl:((L.drop k0).take (k - k0)).length=k - k0:=by simp; omega
 rw [hl] at h4
 have e1:∀ j,j≤k0→o8 (fun _=>true) (fun i=>if i < k0 then d1 i else d2 (i - k0)) (fun i=>if i < k0 then p1 i else p2 (i - k0)) env j=o8 (fun _=>true) d1 p1 env j:=by
  intro j
  induction j with
  | zero=>intro _; rfl
  | succ j ih=>intro hj; simp only [o8,if_true]; rw [ih (by omega),if_pos (by omega),if_pos (by omega)]
 have e2:∀ j,o8 (fun _=>true) (fun i=>if i < k0 then d1 i else d2 (i - k0)) (fun i=>if i < k0 then p1 i else p2 (i - k0)) env (k0 + j)=o8 (fun _=>true) d2 p2 (o8 (fun _=>true) d1 p1 env k0) j:=by
  intro j
  induction j with
  | zero=>exact e1 k0 (Nat.le_refl _)
  | succ j ih=>rw [←Nat.add_assoc]; simp only [o8,if_true]; rw [ih,if_neg (by omega),if_neg (by omega),Nat.add_sub_cancel_left]
 refine ⟨fun i=>if i < k0 then d1 i else d2 (i - k0),fun i=>if i < k0 then p1 i else p2 (i - k0),fun i o hi hoi=>?_,?_⟩
 ·
  by_cases h:i < k0
  ·
   have:=h1 i o (by rw [List.getElem?_take_of_lt h]; exact hoi); rw [e1 i (by omega)]; simp only [if_pos h]; exact this
  ·
   obtain ⟨j,rfl⟩:∃ j,i=k0 + j:=⟨i - k0,by omega⟩; have:=h3 j o (by rw [List.getElem?_take_of_lt (by omega),List.getElem?_drop]; exact hoi); rw [e2 j]; simp only [if_neg h,Nat.add_sub_cancel_left]; exact this
 ·
  have:=e2 (k - k0); rw [show k0 + (k - k0)=k from by omega] at this; rw [this]; exact h4
theorem AW.Y4 {env:Env} {σ:List bA} {Q:Post} {id:Nat} (k0 k k2:Nat) (σ1 σ2:List bA) (hm:P.follows .mixedOrders=true) (ho:Ja L k k2=true) (hch:QT L k k2=true) (hea:QI L k0 k k2=true) (hk0:Nat.ble k0 k=true) (hk:Nat.ble k k2=true) (hk2:Nat.ble k2 L.length=true)
  (hperm:σ.Perm (σ1 ++ σ2))
  (h:Ev P n L.toArray σ env (L.take k0) fun env'=>Ev P n L.toArray σ1 env' ((L.drop k0).take (k - k0)) fun env'=>TF P n ds Q σ1 ((L.drop k).take (k2 - k)) env' σ2 fun e σ2=>AR P n L.toArray (L.drop k2) e (σ1 ++ σ2) ds Q):
  AW P n (.region id L.toArray true) env σ ds Q:=by
 intro w m a QC hs ha; have hk:k≤k2:=Nat.le_of_ble_eq_true hk; have hk2:k2≤L.length:=Nat.le_of_ble_eq_true hk2; have ho:=Pd hk ho; have hk0:k0≤k:=Nat.le_of_ble_eq_true hk0; obtain ⟨d,p,h1,h2⟩:=acM hk0 (by omega) h; have AA:Trans w m σ {w with drawn:=w.drawn + 1} m σ:=⟨rfl,rfl,rfl,Nat.le_refl _,fun _ _ h=>⟨h,rfl⟩,fun _ _ _=>⟨rfl,fun _ h=>h⟩,fun _ h=>.inl h,fun _=>Nat.le_succ _⟩; have hc':Conc {w with drawn:=w.drawn + 1} m σ:=⟨fun r hr=>bA.uT (hs.jm.each r hr) AA.le fun _ _=>⟨rfl,fun _ h=>h⟩,hs.jm.apart,hs.jm.wf,iG.mono AA.le hs.jm.rE⟩; have MG:Trans w m σ {w with drawn:=w.drawn + 1} m (σ1 ++ σ2):=AA.perm (.refl _) hperm
 have hd:∀ i o,i < k→L[i]?=some o→o.dst=some (d i)∧d i < n:=fun i o hi hoi=>by
  have:=h1 i o hi hoi; exact ⟨this.1,this.2.1⟩
 refine wp_region_any hm ?_; let T1:=(L.drop k).take (k2 - k)
 have hT1:∀ j,k≤j→j < k2→T1[j - k]?=L[j]?:=fun j h1 h2=>by
  simp only [T1]; rw [List.getElem?_take_of_lt (by omega),List.getElem?_drop]; congr 1; omega
 have agc:T1.length=k2 - k:=by simp [T1]; omega
 refine Vd k0 (Xg hea) (ds:=ds) (d:=d) (σ1:=σ1) (Q:=Q) hk hk2 ho hd
  (fun S e σ2=>∃ j,j≤k2 - k∧(∀ i,k≤i→i < k2→(S i=true↔i < k + j))∧TF P n ds Q (σ1) (T1.drop j) e σ2 fun e σ2=>AR P n L.toArray (L.drop k2) e (σ1 ++ σ2) ds Q)
  ?_ ?_ ?_ _ _ a _ m (o8 (fun _=>true) d p env k) σ2 (by simp) ?_ ?_ ?_ ?_ ?_ ?_ (ha.step MG)
 ·
  rintro S S' e s hS ⟨j,h3,h4,h5⟩; exact ⟨j,h3,fun i hi hi2=>by rw [←hS i hi hi2]; exact h4 i hi hi2,h5⟩
 ·
  rintro S e s i o ⟨j,h3,h4,h5⟩ hki hi2 Rl hpr hoi
  have hij:i=k + j∨k + j < i:=by
   have:=(h4 i hki hi2); rw [Rl] at this; have:¬ i < k + j:=fun hh=>by have:=this.2 hh; cases this
   omega
  have hjlt:j < k2 - k:=by omega
  have hdrop:T1.drop j=L[k + j]'(by omega) :: T1.drop (j + 1):=by
   rw [List.drop_eq_getElem_cons (by omega)]; congr 1; have:=hT1 (k + j) (by omega) (by omega); rw [show k + j - k=j from by omega,List.getElem?_eq_getElem (by omega),List.getElem?_eq_getElem (by omega)] at this; exact Option.some.inj this
  rw [hdrop] at h5
  have afh:i=k + j:=by
   rcases hij with h | h
   · exact h
   ·
    exfalso; obtain ⟨q,hq,hqi⟩:=Xn hch (by omega) hi2 hoi; have:=(h4 q (by omega) (by omega)).1 (hpr q hq (by omega)); omega
  subst afh; have e9:L[k + j]'(by omega)=o:=Option.some.inj ((List.getElem?_eq_getElem (by omega)).symm.trans hoi); rw [e9] at h5; obtain ⟨g1,g2,e2,g3,g4⟩:=h5; refine ⟨g1,g2,AO.less g3 (AO.YI g4 (fun p s hp=>?_) fun p s hp=>hp)⟩; refine ⟨j + 1,by omega,fun q hq hq2=>?_,TF.less (K:=fun e σ2=>AR P n L.toArray (L.drop k2) e (σ1 ++ σ2) ds Q) (fun _ _ _ h' k'=>AR.less h' k') ?_ hp⟩
  ·
   by_cases e:k + j=q
   · simp [e]; omega
   ·
    simp only [e,if_false]; rw [h4 q hq hq2]; omega
  ·
   cases o.dst with
   | none=>exact g3
   | some t=>exact g3.cons t p
 ·
  rintro S e s hS ⟨j,h3,h4,h5⟩
  have:j=k2 - k:=by
   rcases Nat.lt_or_ge j (k2 - k) with h | h
   ·
    have:=(h4 (k + j) (by omega) (by omega)).1 (hS _ (by omega) (by omega)); omega
   · omega
  subst this; rw [List.drop_eq_nil_of_le (by omega)] at h5; exact h5
 · simp
 ·
  intro j _ hj; simp [Array.getD,hj]
 ·
  intro i o hoi hl
  have MI:i < L.length:=by
   rcases Nat.lt_or_ge i L.length with h | h
   · exact h
   · simp [List.getElem?_eq_none h] at hoi
  simp [Array.getD,MI] at hl
 ·
  intro i o hi hoi _; obtain ⟨f1,f2,f3⟩:=h1 i o hi hoi
  have hother:∀ t,(o.dst=some t∨t∈readsOf L o)→∀ j,(i≤j∧t∈readsOf L o∨i + 1≤j)→j < k→d j≠t:=by
   intro t ht j hj hjk hdj; have hoj:L[j]?=some L[j]:=List.getElem?_eq_getElem (by omega); have e1:=(hd j _ hjk hoj).1; rw [hdj] at e1; by_cases e:i=j
   ·
    subst e; have e9:=Option.some.inj (hoi.symm.trans hoj); rw [←e9] at e1; rcases hj with ⟨_,hj⟩ | hj
    · exact ho.self i o t hi hoi e1 hj
    · omega
   ·
    obtain ⟨e2,e3⟩:=ho.apart i o j _ t hi hoi (by omega) hoj e e1; rcases ht with ht | ht
    · exact e2 ht
    ·
     have:=ho.before i o hoi j (e3 ht).2; omega
  have acO:(o8 (fun _=>true) d p env k).get (d i)=p i:=by
   rw [jB (i:=i + 1) (by omega) fun j h4 h5 _=>hother (d i) (.inl f1) j (.inr h4) h5]; simp [o8,Env.get]
  rw [acO]
  have f4:uH P L.toArray (o8 (fun _=>true) d p env i) (if i < k0 then σ1 ++ σ2 else σ1) o (p i):=by
   split
   ·
    rename_i hh; rw [if_pos hh] at f3; exact uH.Yu hperm.symm f3
   ·
    rename_i hh; rw [if_neg hh] at f3; exact f3
  refine uH.QM rfl f4 fun t ht=>?_; exact jB (by omega) fun j h4 h5 _=>hother t (.inr ht) j (.inl ⟨h4,ht⟩) h5
 ·
  refine ⟨0,by omega,fun i hi hi2=>?_,by rw [List.drop_zero]; exact h2⟩; have MI:i < L.length:=by omega
  simp [Array.getD,MI]; omega
 ·
  refine ⟨hs.size,hs.ds,fun t=>?_,hc'.perm hperm⟩; rw [sD]; split
  · simp [dU]
  ·
   rename_i hh; rw [jB (i:=0) (Nat.zero_le _)]
   · exact hs.env.mono AA.le t
   ·
    intro j _ hj _ hdj; apply hh; rw [List.any_eq_true]; have hjL:j < L.length:=by omega
    exact ⟨j,by simpa using hj,by simp [Array.getD,hjL,hdj]⟩
theorem Si {σ:List bA} {i:Nat} {r:bA} (hi0:σ[i]?=some r):σ.Perm (σ.eraseIdx i ++ [r]):=by
 induction σ generalizing i with
 | nil=>simp at hi0
 | cons x xs ih=>
  cases i with
  | zero=>
   simp at hi0; subst hi0; simpa using (List.perm_append_comm (l₁:=[x]) (l₂:=xs))
  | succ i=>
   simp at hi0; simpa using (ih hi0).cons x
theorem AW.J9 {env:Env} {σ:List bA} {Q:Post} {id:Nat} (k0 k k2 i0:Nat) {r:bA} (hm:P.follows .mixedOrders=true) (ho:Ja L k k2=true) (hch:QT L k k2=true) (hea:QI L k0 k k2=true) (hk0:Nat.ble k0 k=true) (hk:Nat.ble k k2=true) (hk2:Nat.ble k2 L.length=true)
  (hi0:σ[i0]?=some r)
  (h:Ev P n L.toArray σ env (L.take k0) fun env'=>Ev P n L.toArray (σ.eraseIdx i0) env' ((L.drop k0).take (k - k0)) fun env'=>TF P n ds Q (σ.eraseIdx i0) ((L.drop k).take (k2 - k)) env' [r] fun e σ2=>AR P n L.toArray (L.drop k2) e (σ.eraseIdx i0 ++ σ2) ds Q):
  AW P n (.region id L.toArray true) env σ ds Q:=
 AW.Y4 k0 k k2 (σ.eraseIdx i0) [r] hm ho hch hea hk0 hk hk2 (Si hi0) h
def TW :Nat→(List Nat→Prop)→Prop
 | 0,K=>K []
 | m + 1,K=>∀ b,TW m fun bs=>K (b :: bs)
theorem TW.at {K:List Nat→Prop}:∀ {m:Nat},TW m K→∀ bs:List Nat,bs.length=m→K bs
 | 0,h,[],_=>h
 | m + 1,h,b :: bs,hl=>TW.at (K:=fun bs=>K (b :: bs)) (h b) bs (by simpa using hl)
section
variable {Q : Post} {σ1 σ2 : List bA} {K : Env → List bA → Prop} {o : Oper} {r : List Oper} {e : Env}
theorem TF.nil (h:K e σ2):TF P n ds Q σ1 [] e σ2 K:=h
theorem TF.step {t:Nat} (hg:o.guard=none) (hd:o.dst=some t) (ht:Nat.blt t n=true) (h:AO P o e.ev σ2 (fun p uN=>TF P n ds Q σ1 r ((t,p) :: e) uN K) (fun p uN=>Q (.panic p) [] (σ1 ++ uN) ds)):TF P n ds Q σ1 (o :: r) e σ2 K:=
 ⟨hg,fun u hu=>by rw [hd] at hu; cases hu; exact oM.1 ht,e,Less.refl e,by rw [hd]; exact h⟩
theorem TF.dx (hg:o.guard=none) (hd:o.dst=none) (h:AO P o e.ev σ2 (fun _ uN=>TF P n ds Q σ1 r e uN K) (fun p uN=>Q (.panic p) [] (σ1 ++ uN) ds)):TF P n ds Q σ1 (o :: r) e σ2 K:=
 ⟨hg,fun u hu=>absurd (hd.symm.trans hu) (by simp),e,Less.refl e,by rw [hd]; exact h⟩
theorem TW.mono {K K':List Nat→Prop}:∀ {m:Nat},(∀ bs,K bs→K' bs)→TW m K→TW m K'
 | 0,h,k=>h _ k
 | _ + 1,h,k=>fun b=>TW.mono (fun bs=>h (b :: bs)) (k b)
end
end
end Go.Abs
namespace Go.Abs
variable [iG]
open Go
def TV (r:Option Nat):Fence:={Fence.wide with round:=r}
def vY (o:Oper):Bool:=match o.op with | .defer _=>false | _=>true
theorem GH {o:Oper} (h:vY o=true):∀ c,o.op≠.defer c:=by
 intro c hc; unfold vY at h; rw [hc] at h; cases h
section
variable {P : Program} {n : Nat} {r : Option Nat} {env : Env} {σ : List bA} {ds : List Deferred} {Q : Post} {all : Array Oper} {rest : List Oper} {o : Oper}
theorem Ze {f:FuncId} {args:Array Value} {w:World} {R:Ending→World→Prop} {n:Nat} (h:Calls P f args w R):CallsIn (TV r) n P f args w R:=by
 have:=(callsIn_wide (n:=n)).2 h; exact this
theorem aad {row:String} {args:Array Value} {w:World} {R:Value→World→Prop} {n:Nat} (h:Rows P row args w R):RowsIn (TV r) n P row args w R:=
 fun c cs _=>let ⟨v,w',r,s⟩:=h c cs; ⟨v,w',r,stepsIn_wide.2 s⟩
theorem Qp {a:Act} {w:World} {K:Act→World→Prop} {Q:Exit→Act→World→Prop} (hd:vY o=true) (h:o.wp P a w K Q):o.wpIn (TV r) 0 P a w K Q:=by
 refine ⟨fun _ _=>trivial,?_⟩; rw [Oper.semAt_eq _ _ _ (GH hd)]; unfold Oper.wp at h; generalize (execOp a.eval o).run P w=x at h ⊢; cases x with
 | ok v w'=>
  cases v <;> simp only [Oper.upon,Oper.uponIn] at h ⊢ <;> first
   | exact h
   | exact ⟨fun hh=>by simp [TV,Fence.wide] at hh,Ze h⟩
   | exact ⟨fun hh=>by simp [TV,Fence.wide] at hh,aad h⟩
 | halt v w'=>cases v <;> simp only [Oper.upon,Oper.uponIn] at h ⊢ <;> exact h
theorem KR {Q:Exit→Act→World→Prop} (hno:¬ LetsOut Q):∀ (l:List Oper) (a:Act) (w:World),(∀ o∈l,vY o=true)→wpList P all Q l a w→wpListIn (TV r) 0 P all Q l a w
 | [],a,w,_,h=>h
 | o :: rest,a,w,hd,h=>by
  unfold wpList at h; unfold wpListIn; split
  ·
   rename_i hw; rw [if_pos hw] at h; rcases h with h | ⟨_,h⟩
   · exact Oper.wpIn_mono (fun a w h=>KR hno rest a w (fun o ho=>hd o (by simp [ho])) h) (Qp (hd o (by simp)) h)
   · exact (hno h).elim
  ·
   rename_i hw; rw [if_neg hw] at h; exact ⟨fun _ _=>trivial,KR hno rest _ _ (fun o ho=>hd o (by simp [ho])) h⟩
def rF (P:Program) (r:Option Nat) (n:Nat) (c:Code) (env:Env) (σ:List bA) (ds:List Deferred) (Q:Post):Prop:=
 ∀ w m a QC,p9 w m n env σ ds a→Acc n Q w m σ QC→c.wpIn (TV r) 0 P QC a w
def Mc (Q:Exit→Act→World→Prop):Exit→Act→World→Prop:=fun e a w=>e≠.outgrown∧Q e a w
theorem B_ (Q:Exit→Act→World→Prop):¬ LetsOut (Mc Q):=fun ⟨_,_,h,_⟩=>h rfl
theorem Acc.Mc {w:World} {m:jO} {QC:Exit→Act→World→Prop} (h:Acc n Q w m σ QC):Acc n Q w m σ (Abs.Mc QC):=by
 intro x ex env' σ' ds' a' w' m' hq hx hs ht; refine ⟨?_,h x ex env' σ' ds' a' w' m' hq hx hs ht⟩; rintro rfl; cases x <;> simp [aeF] at hx
theorem rF.region {id:Nat} {l:List Oper} (hd:(l.all vY)=true) (h:AR P n l.toArray l env σ ds Q):rF P r n (.region id l.toArray false) env σ ds Q:=by
 intro w m a QC hs ha; rw [List.all_eq_true] at hd; refine wpIn_mono (wpIn_region_lit (KR (B_ QC) l a w hd (h w m a _ hs ha.Mc))) fun e a w h=>h.2
theorem rF.skip (h:Q .normal env σ ds):rF P r n .skip env σ ds Q:=
 fun w m a _ hs ha=>wpIn_skip (ha .normal .normal env σ ds a w m h rfl hs (Trans.refl ..))
theorem rF.exit {id:Nat} (h:Q (.exit id) env σ ds):rF P r n (.exit id) env σ ds Q:=
 fun w m a _ hs ha=>wpIn_exit (ha (.exit id) (.exit id) env σ ds a w m h rfl hs (Trans.refl ..))
theorem rF.ret (h:Q .ret env σ ds):rF P r n .ret env σ ds Q:=
 fun w m a _ hs ha=>wpIn_ret (ha .ret .ret env σ ds a w m h rfl hs (Trans.refl ..))
theorem rF.seq {c d:Code} (h:rF P r n c env σ ds (AX.then (fun e s ds=>rF P r n d e s ds Q) Q)):rF P r n (.seq c d) env σ ds Q:=by
 intro w m a QC hs ha; refine wpIn_seq (h w m a _ hs ?_); intro x ex e1 σ1 d1 a1 w1 m1 hq hx hs1 ht; cases x with
 | normal=>cases hx; exact hq w1 m1 a1 QC hs1 (ha.step ht)
 | exit id=>cases hx; exact ha (.exit id) _ e1 σ1 d1 a1 w1 m1 hq rfl hs1 ht
 | ret=>cases hx; exact ha .ret _ e1 σ1 d1 a1 w1 m1 hq rfl hs1 ht
 | panic p=>obtain ⟨v,rfl,hv⟩:=hx; exact ha (.panic p) _ e1 σ1 d1 a1 w1 m1 hq ⟨v,rfl,hv⟩ hs1 ht
theorem rF.cond {c:Operand} {x y:Code} {b:Bool} (hc:env.ev c=.bool b) (ht:b=true→rF P r n x env σ ds Q) (hf:b=false→rF P r n y env σ ds Q):
  rF P r n (.cond c x y) env σ ds Q:=by
 intro w m a QC hs ha; have he:=hs.env.ev c; rw [hc] at he; simp only [dU] at he; exact wpIn_cond_split he (fun h=>ht h w m a QC hs ha) (fun h=>hf h w m a QC hs ha)
theorem rF.block {id:Nat} {c:Code} (h:rF P r n c env σ ds (AX.inBlock id Q)):rF P r n (.block id c) env σ ds Q:=by
 intro w m a QC hs ha; refine wpIn_block (h w m a _ hs ?_); intro x ex e1 σ1 d1 a1 w1 m1 hq hx hs1 ht; cases x with
 | normal=>cases hx; exact ha .normal _ e1 σ1 d1 a1 w1 m1 hq rfl hs1 ht
 | exit id'=>
  cases hx; simp only [Exit.inBlock]; simp only [AX.inBlock] at hq; by_cases e:id'=id
  ·
   subst e; simp only [Nat.beq_refl,cond_true] at hq; rw [if_pos rfl]; exact ha .normal _ e1 σ1 d1 a1 w1 m1 hq rfl hs1 ht
  ·
   have:Nat.beq id' id=false:=uX e; simp only [this,cond_false] at hq; rw [if_neg e]; exact ha (.exit id') _ e1 σ1 d1 a1 w1 m1 hq rfl hs1 ht
 | ret=>cases hx; exact ha .ret _ e1 σ1 d1 a1 w1 m1 hq rfl hs1 ht
 | panic p=>obtain ⟨v,rfl,hv⟩:=hx; exact ha (.panic p) _ e1 σ1 d1 a1 w1 m1 hq ⟨v,rfl,hv⟩ hs1 ht
theorem rF.mono {c:Code} {Q':Post} (h:rF P r n c env σ ds Q) (hq:∀ x e s d,Q x e s d→Q' x e s d):rF P r n c env σ ds Q':=
 fun w m a QC hs ha=>h w m a QC hs fun x ex env' σ' ds' a' w' m' h1 h2 h3 h4=>ha x ex env' σ' ds' a' w' m' (hq _ _ _ _ h1) h2 h3 h4
theorem rF.settle {c:Code} {env':Env} (ps:List Nat) (hs:Abs.settle ps env=some env') (h:rF P r n c env' σ ds Q):rF P r n c env σ ds Q:=
 fun w m a QC qK ha=>h w m a QC ⟨qK.size,qK.ds,qK.env.settle hs,qK.jm⟩ ha
theorem rF.frame {c:Code} {τ:List bA} (h:rF P r n c env σ ds Q):rF P r n c env (σ ++ τ) ds (fun x e s d=>∃ s0,s=s0 ++ τ∧Q x e s0 d):=by
 intro w m a QC hs ha; refine h w m a QC ⟨hs.size,hs.ds,hs.env,hs.jm.left⟩ fun x ex e' σ' ds' a' w' m' hq hx hs' ht=>?_; obtain ⟨k1,k2⟩:=Conc.frame hs.jm hs'.jm ht; exact ha x ex e' (σ' ++ τ) ds' a' w' m' ⟨σ',rfl,hq⟩ hx ⟨hs'.size,hs'.ds,hs'.env,k1⟩ k2
def Ct (P:Program) (r:Option Nat) (n:Nat) (all:Array Oper) (l:List Oper) (env:Env) (σ:List bA) (ds:List Deferred) (Q:Post):Prop:=
 ∀ w m a QC,p9 w m n env σ ds a→Acc n Q w m σ QC→wpListIn (TV r) 0 P all QC l a w
theorem Ct.of {l:List Oper} (hd:(l.all vY)=true) (h:AR P n all l env σ ds Q):Ct P r n all l env σ ds Q:=by
 intro w m a QC hs ha; rw [List.all_eq_true] at hd; have:=KR (r:=r) (B_ QC) l a w hd (h w m a _ hs ha.Mc)
 have key:∀ (l:List Oper) (a:Act) (w:World),wpListIn (TV r) 0 P all (Mc QC) l a w→wpListIn (TV r) 0 P all QC l a w:=by
  intro l
  induction l with
  | nil=>intro a w h; exact h.2
  | cons o l ih=>
   intro a w h; unfold wpListIn at h ⊢; split
   ·
    rename_i hw; rw [if_pos hw] at h; refine ⟨h.1,?_⟩; have h2:=h.2; generalize (o.semAt (TV r).round a.eval).run P w=x at h2 ⊢; cases x with
    | ok v w'=>
     cases v <;> simp only [Oper.uponIn] at h2 ⊢ <;> first
      | exact ih _ _ h2
      | exact ⟨h2.1,CallsIn.mono h2.2 fun e w'' he=>by
        cases e with
        | returned v=>exact ih _ _ he
        | panicked c=>exact he.2
        | outgrown=>exact (B_ QC he).elim⟩
      | exact ⟨h2.1,RowsIn.mono h2.2 fun v w'' he=>ih _ _ he⟩
      | exact ⟨h2.1,RoundIn.mono h2.2 fun e w'' he=>by
        cases e with
        | returned v=>exact ih _ _ he
        | panicked c=>exact he.2
        | outgrown=>exact (B_ QC he).elim⟩
    | halt v w'=>
     cases v <;> simp only [Oper.uponIn] at h2 ⊢ <;> exact h2.2
   ·
    rename_i hw; rw [if_neg hw] at h; exact ⟨h.1,ih _ _ h.2⟩
 exact key l a w this
theorem AW.Vr {id:Nat} {l:List Oper} (h:Ct P none n l.toArray l env σ ds Q):AW P n (.region id l.toArray false) env σ ds Q:=
 fun w m a QC hs ha=>wpIn_wide.1 (wpIn_region_lit (F:=TV none) (n:=0) (h w m a QC hs ha))
theorem Ct.step {t:Nat} (hnd:vY o=true) (hg:o.guard=none) (hd:o.dst=some t) (ht:Nat.blt t n=true)
  (h:AO P o env.ev σ (fun p σ'=>Ct P r n all rest ((t,p) :: env) σ' ds Q) (fun p σ'=>Q (.panic p) env σ' ds)):
  Ct P r n all (o :: rest) env σ ds Q:=by
 intro w m a QC hs ha; have ht:t < n:=Nat.le_of_ble_eq_true ht; refine wpListIn_plain hg fun K hK=>Qp hnd ?_; refine h w m a K QC (fun x _=>hs.env.ev x) hs.jm ?_ ?_
 ·
  intro p σ' v w' m' hr hv hc htr; exact hK _ _ (hr w' m' _ QC (hs.put hd ht hv hc htr.le) (ha.step htr))
 ·
  intro p σ' v w' m' hr hv hc htr; exact ha (.panic p) _ _ _ _ a w' m' hr ⟨v,rfl,hv⟩ ⟨hs.size,hs.ds,hs.env.mono htr.le,hc⟩ htr
def AY (P:Program) (l:Nat) (args:List PV) (σ:List bA) (R:eT→List bA→Prop):Prop:=
 ∀ w m vs,Conc w m σ→bC w m args vs→∃ fn tmps assign body,(Instr.yield l vs.toArray).run P w=.ok (.round l fn tmps assign body) w∧
  RoundIn Fence.wide 0 P l fn tmps assign body w fun e w'=>∃ out σ' m',R out σ'∧Br w' m' out e∧Conc w' m' σ'∧Trans w m σ w' m' σ'
theorem Ct.yield {t l:Nat} {c:Call} {σ':List bA} {p:PV} (hnd:vY o=true) (hg:o.guard=none) (hd:o.dst=some t) (ht:Nat.blt t n=true) (ho:o.op=.call c) (M9:Operand) (kG:c.callee=.value M9)
  (hf:env.ev M9=.val (.func (.yield l) #[] #[])) (h:AY P l ((c.args.toList.map env.ev).map PV.weak) σ (fun out s=>out=.ret p∧s=σ'))
  (hk:Ct P r n all rest ((t,p) :: env) σ' ds Q):Ct P r n all (o :: rest) env σ ds Q:=by
 intro w m a QC hs ha; have ht:t < n:=Nat.le_of_ble_eq_true ht; refine wpListIn_plain hg fun K hK=>⟨fun _ _=>trivial,?_⟩; rw [Oper.semAt_eq _ _ _ (GH hnd)]; have hcv:=hs.env.ev M9; rw [hf] at hcv; simp only [dU] at hcv; have hargs:bC w m (c.args.toList.map env.ev) (c.args.toList.map a.eval):=bC.map fun x _=>hs.env.ev x; obtain ⟨fn,tmps,assign,body,h1,h2⟩:=h w m _ hs.jm hargs.weak
 have hrun:(execOp a.eval o).run P w=.ok (.round l fn tmps assign body) w:=by
  unfold execOp; simp only [ho,resolve,kG,hcv,Deferred.ofValue,invoke,Sem.run_bind,Sem.run_pure,Result.andThen_ok]; rw [←h1]; congr 2; apply Array.ext'; simp
 rw [hrun]; simp only [Oper.uponIn]; refine ⟨fun hh=>by simp [TV,Fence.wide] at hh,?_⟩; refine RoundIn.mono (show RoundIn (TV r) (0 - 1) P l fn tmps assign body w _ from h2) ?_; rintro e w' ⟨out,s,m',⟨rfl,rfl⟩,⟨v,rfl,hv⟩,hc,htr⟩; exact hK _ _ (hk w' m' _ QC (hs.put hd ht hv hc htr.le) (ha.step htr))
end
def NK :List Nat→List PV→Env→Env
 | t :: ts,p :: ps,e=>NK ts ps ((t,p) :: e)
 | _,_,e=>e
theorem IX {w:World} {m:jO} {n:Nat}:∀ {ts:List Nat} {ps:List PV} {vs:List Value} {env:Env} {tmps:Array Value},tmps.size=n→(∀ t∈ts,t < n)→bC w m ps vs→Af w m env tmps→
  Af w m (NK ts ps env) ((ts.zip vs).foldl (fun t (p,v)=>t.setIfInBounds p v) tmps)∧((ts.zip vs).foldl (fun t (p,v)=>t.setIfInBounds p v) tmps).size=n
 | [],_,_,_,_,hn,_,_,h=>by simpa [NK] using ⟨h,hn⟩
 | t :: ts,[],vs,env,tmps,hn,_,hr,h=>by
  simp only [bC] at hr; subst hr; simpa [NK] using ⟨h,hn⟩
 | t :: ts,p :: ps,vs,env,tmps,hn,hlt,hr,h=>by
  simp only [bC] at hr; obtain ⟨v,vs',rfl,h1,h2⟩:=hr; simp only [NK,List.zip_cons_cons,List.foldl_cons]; refine IX (by simpa using hn) (fun u hu=>hlt u (by simp [hu])) h2 ?_; exact h.put h1 (by rw [hn]; exact hlt t (by simp))
def codeOf :Option AX→Option Code
 | some .ret=>some .ret
 | some (.exit id)=>some (.exit id)
 | _=>none
def tQ (D:Nat):Deferred:={target:=.collected D,args:=#[]}
def tK (fn:FuncId) (tmps:Array Value) (ps:Array Tmp) (assign body:Code) (D:Nat) (x:Option AX):Loop:=
 {state:=if (codeOf x).isNone then .ready else .done,pending:=codeOf x,fn,tmps,params:=ps,assign,body,defers:=D}
def roundEnd {β:Type} (T:β→List bA) (pend:β→Option AX) (b:Bool) (s':β):Post:=fun x _ σ d=>d=[]∧(T s').Sublist σ∧
 match x with
 | .normal=>b=true∧pend s'=none
 | .ret=>b=false∧pend s'=some .ret
 | .exit id=>b=false∧pend s'=some (.exit id)
 | .panic _=>False
theorem uZ {w:World} {m:jO} {σ:List bA} (hc:Conc w m σ) {i b:Nat} {o o':Obj} (hi:σ[i]?=some (.obj b o)):
  Conc (w.putObj b o') m (σ.set i (.obj b o'))∧Trans w m σ (w.putObj b o') m (σ.set i (.obj b o')):=by
 obtain ⟨hb,hm⟩:=hc.each _ (List.mem_of_getElem? hi)
 have hblt:b < w.heap.size:=by
  rcases Nat.lt_or_ge b w.heap.size with h | h
  · exact h
  · simp [Array.getElem?_eq_none h] at hb
 exact Conc.write (w':=w.putObj b o') (r':=.obj b o') hc hi rfl rfl hm ⟨World.putObj_heap_same hblt,hm⟩ ⟨rfl,rfl,rfl⟩ (by simp) (fun k hk=>World.putObj_heap_other hk)
section
variable {P : Program} {n : Nat} {env : Env} {σ : List bA} {ds : List Deferred} {Q : Post}
theorem AW.rangeFunc {β X:Type} {g:Operand} {ps:Array Tmp} {assign body:Code} {gf:Nat} {caps:List PV} (hg:env.ev g=.fn gf caps) (hp:bM P gf=true)
  (enc:X→List PV) (henc:∀ x,(enc x).length=ps.toList.length) (hps:∀ t∈ps.toList,t < n) (y:β→X→Option (Bool × β)) (T:β→List bA) (pend:β→Option AX) {s0 s1:β} (hσ:σ=T s0) (hs0:pend s0=none)
  (hit:∀ (l:Nat) (T':β→List bA),(∀ s x b s',y s x=some (b,s')→AY P l (enc x) (T' s) (fun out σ'=>out=.ret (.bool b)∧σ'=T' s'))→
   AC P gf (.val (.func (.yield l) #[] #[]) :: caps) (T' s0) (fun out σ'=>(∃ p,out=.ret p)∧σ'=T' s1))
  (round:∀ l s x b s',y s x=some (b,s')→pend s=none∧
   rF P (some l) n assign (NK ps.toList (enc x) env) (T s) [] (fun ax e σ' d=>ax=.normal∧rF P (some l) n body e σ' d (roundEnd T pend b s')))
  (hq:∀ D,(match pend s1 with | none=>Q .normal env | some .ret=>Q .ret env | some (.exit id)=>Q (.exit id) env | some _=>fun _ _=>False) (T s1 ++ [bA.obj D (.deferred (some []))]) (tQ D :: ds)):
  AW P n (.rangeFunc g ps assign body) env σ ds Q:=by
 subst hσ; intro w m a QC hs ha; refine (wpIn_wide (n:=0)).1 (wpIn_rangeFunc fun fn _=>?_); have hge:=hs.env.ev g; rw [hg] at hge; simp only [dU] at hge; obtain ⟨cs,hcv,hcs⟩:=hge; have c1:=zu hs.jm (.deferred (some []))
 have t1:=jh (σ':=bA.obj w.heap.size (.deferred (some [])) :: T s0) hs.jm (.deferred (some [])) (fun _=>False) (fun b hb=>by
  simp [kI,bA.fp] at hb ⊢; rcases hb with hb | hb
  · exact .inr hb
  · exact .inl hb)
 have c2:=zu c1 (.loop (tK fn a.tmps ps assign body w.heap.size none))
 have t2:=jh (σ':=.obj (w.alloc (.deferred (some []))).heap.size (.loop (tK fn a.tmps ps assign body w.heap.size none)) :: bA.obj w.heap.size (.deferred (some [])) :: T s0) c1 (.loop (tK fn a.tmps ps assign body w.heap.size none)) (fun _=>False) (fun b hb=>by
  simp [kI,bA.fp] at hb ⊢; rcases hb with hb | hb | hb
  · exact .inr hb
  · exact .inl (.inl hb)
  · exact .inl (.inr hb))
 have hsz:(w.alloc (.deferred (some []))).heap.size=w.heap.size + 1:=by simp
 rw [hsz] at c2 t2; generalize hW:(w.alloc (.deferred (some []))).alloc (.loop (tK fn a.tmps ps assign body w.heap.size none))=W at c2 t2; generalize hM:(fun b off=>(m b off∨b=w.heap.size∧False)∨b=w.heap.size + 1∧False)=M at c2 t2; have tW:=t1.trans t2; let rec' (s:β):Loop:=tK fn a.tmps ps assign body w.heap.size (pend s); let T' (s:β):List bA:=T s ++ [bA.obj (w.heap.size + 1) (.loop (rec' s)),bA.obj w.heap.size (.deferred (some [])),bA.since w m]
 have hT0:(T' s0).Perm (.obj (w.heap.size + 1) (.loop (tK fn a.tmps ps assign body w.heap.size none)) :: bA.obj w.heap.size (.deferred (some [])) :: T s0 ++ [bA.since w m]):=by
  simp only [T',rec',hs0]; refine List.perm_append_comm.trans ?_; simp only [List.cons_append,List.nil_append]; refine List.Perm.cons _ (List.Perm.cons _ ?_); exact (List.perm_append_comm (l₁:=[bA.since w m]) (l₂:=T s0))
 have cT:Conc W M (T' s0):=by
  refine Conc.perm hT0.symm ?_; refine ⟨fun r hr=>?_,?_,c2.wf,c2.rE⟩
  ·
   rcases List.mem_append.1 hr with h | h
   · exact c2.each r h
   ·
    rw [List.mem_singleton] at h; subst h; exact tW.le
  ·
   have:=c2.apart; simpa [kI,bA.fp] using this
 have tT:Trans w m (T s0) W M (T' s0):=by
  refine Trans.perm (.refl _) hT0.symm ⟨tW.os,tW.tape,tW.output,tW.size,tW.le,tW.keep,fun b hb=>tW.fresh b ?_,tW.drawn⟩; simpa [kI,bA.fp] using hb
 refine ⟨w.heap.size + 1,[tQ w.heap.size],W,{target:=.fn (.func gf) cs.toArray,args:=#[.func (.yield (w.heap.size + 1)) #[] #[]]},W,gf,
  #[.func (.yield (w.heap.size + 1)) #[] #[]] ++ cs.toArray,W,?_,?_,fun _ _=>trivial,?_,fun hh=>by simp [Fence.wide] at hh,?_⟩
 · rw [←hW]; exact run_enterLoop_outer _ _ _ _ _
 ·
  simp only [resolve,hcv]; simp [go_sem]
 ·
  simp only [invoke]; rw [vI hp]
 ·
  refine callsIn_wide.2 ?_; have hac:=hit (w.heap.size + 1) T' ?_
  ·
   have hcs':bC W M (.val (.func (.yield (w.heap.size + 1)) #[] #[]) :: caps) (.func (.yield (w.heap.size + 1)) #[] #[] :: cs):=bC.cons (by simp [dU]) (bC.mono tW.le _ _ hcs); have:=hac W M _ cT hcs'; rw [show (Value.func (.yield (w.heap.size + 1)) #[] #[] :: cs).toArray=#[.func (.yield (w.heap.size + 1)) #[] #[]] ++ cs.toArray from by apply Array.ext'; simp] at this; refine this.mono ?_; rintro e w' ⟨out,σ',m',⟨⟨p,rfl⟩,rfl⟩,⟨v,rfl,hv⟩,hc',ht'⟩; have hi:(T' s1)[(T s1).length]?=some (.obj (w.heap.size + 1) (.loop (rec' s1))):=by simp [T']
   obtain ⟨hb,_⟩:=hc'.each _ (List.mem_of_getElem? hi); obtain ⟨k1,k2⟩:=uZ (o':=.loop {rec' s1 with state:=.exhausted}) hc' hi
   have hsub:(T s1 ++ [bA.obj w.heap.size (.deferred (some []))]).Sublist ((T' s1).set (T s1).length (.obj (w.heap.size + 1) (.loop {rec' s1 with state:=.exhausted}))):=by
    simp only [T']; rw [List.set_append_right _ _ (Nat.le_refl _),Nat.sub_self]; refine List.Sublist.append (List.Sublist.refl _) ?_; simp only [List.set_cons_zero]; exact .cons _ (.cons_cons _ (.cons _ .slnil))
   have k3:=k1.sub hsub; have k4:=(tT.trans (ht'.trans k2)).sub hsub
   have hse:∀ todo,p9 (w'.putObj (w.heap.size + 1) (.loop {rec' s1 with state:=.exhausted})) m' n env (T s1 ++ [bA.obj w.heap.size (.deferred (some []))]) (tQ w.heap.size :: ds) {a with defers:=todo}∨todo≠[tQ w.heap.size] ++ a.defers:=by
    intro todo; by_cases e:todo=[tQ w.heap.size] ++ a.defers
    ·
     subst e; exact .inl ⟨hs.size,by simp [hs.ds],hs.env.mono k4.le,k3⟩
    · exact .inr e
   have hse:=(hse ([tQ w.heap.size] ++ a.defers)).resolve_right (by simp); refine ⟨codeOf (pend s1),w'.putObj (w.heap.size + 1) (.loop {rec' s1 with state:=.exhausted}),?_,?_⟩
   ·
    have:=run_endLoop (P:=P) (w:=w') (l:=w.heap.size + 1) (r:=rec' s1) hb (by simp only [rec',tK]; split <;> simp); exact this
   ·
    have UH:=hq w.heap.size; cases hpe:pend s1 with
    | none=>
     rw [hpe] at UH; exact ha .normal _ env _ _ _ _ m' UH rfl hse k4
    | some x=>
     rw [hpe] at UH; cases x with
     | ret=>exact wpIn_ret (ha .ret _ env _ _ _ _ m' UH rfl hse k4)
     | exit id=>exact wpIn_exit (ha (.exit id) _ env _ _ _ _ m' UH rfl hse k4)
     | normal=>exact UH.elim
     | panic p=>exact UH.elim
  ·
   
   intro s x b s' hy w1 m1 vs hc1 hv1; obtain ⟨acJ,UG⟩:=round (w.heap.size + 1) s x b s' hy; have hi:(T' s)[(T s).length]?=some (.obj (w.heap.size + 1) (.loop (rec' s))):=by simp [T']
   obtain ⟨hb1,_⟩:=hc1.each _ (List.mem_of_getElem? hi); have UF:Le w m w1 m1:=hc1.each (.since w m) (by simp [T']); have hvl:=hv1.length_eq
   have hsz':vs.toArray.size=(rec' s).params.size:=by
    simp only [rec',tK,List.size_toArray]; rw [hvl,henc x]; simp
   have hyr:=run_yield (P:=P) hb1 hsz'; refine ⟨_,_,_,_,hyr,?_⟩; refine roundIn_of_wpIn trivial ?_
   have YR:((rec' s).params.zip vs.toArray).foldl (fun tmps (t,a)=>tmps.setIfInBounds t a) (rec' s).tmps=(ps.toList.zip vs).foldl (fun t (p,v)=>t.setIfInBounds p v) a.tmps:=by
    simp only [rec',tK]; rw [←Array.foldl_toList,Array.toList_zip]
   obtain ⟨hb2,hb3⟩:=IX (n:=n) (ts:=ps.toList) hs.size (fun t ht=>hps t ht) hv1 (hs.env.mono UF); have hA:=rF.frame (τ:=[bA.obj (w.heap.size + 1) (.loop (rec' s)),bA.obj w.heap.size (.deferred (some [])),bA.since w m]) UG; refine hA w1 m1 _ _ ⟨?_,rfl,?_,hc1⟩ ?_
   · rw [YR]; exact hb3
   · rw [YR]; exact hb2
   ·
    rintro ax ex e2 σ2 d2 a2 w2 m2 ⟨KY,rfl,rfl,hbody⟩ hx hs2 ht2; cases hx; have hi2:(KY ++ [bA.obj (w.heap.size + 1) (.loop (rec' s)),bA.obj w.heap.size (.deferred (some [])),bA.since w m])[KY.length]?=some (.obj (w.heap.size + 1) (.loop (rec' s))):=by simp
    obtain ⟨hb4,_⟩:=hs2.jm.each _ (List.mem_of_getElem? hi2); have MH:(rec' s).state=.ready:=by simp [rec',tK,acJ,codeOf]
    refine ⟨_,run_beginRound hb4 MH,?_⟩; obtain ⟨k1,k2⟩:=uZ (o':=.loop {rec' s with state:=.busy}) hs2.jm hi2
    have hset:(KY ++ [bA.obj (w.heap.size + 1) (.loop (rec' s)),bA.obj w.heap.size (.deferred (some [])),bA.since w m]).set KY.length (.obj (w.heap.size + 1) (.loop {rec' s with state:=.busy}))=
      KY ++ [bA.obj (w.heap.size + 1) (.loop {rec' s with state:=.busy}),bA.obj w.heap.size (.deferred (some [])),bA.since w m]:=by
     rw [List.set_append_right _ _ (Nat.le_refl _),Nat.sub_self]; rfl
    rw [hset] at k1 k2; have hB:=rF.frame (τ:=[bA.obj (w.heap.size + 1) (.loop {rec' s with state:=.busy}),bA.obj w.heap.size (.deferred (some [])),bA.since w m]) hbody; refine hB _ m2 a2 _ ⟨hs2.size,hs2.ds,hs2.env.mono k2.le,k1⟩ ?_; rintro ax3 ex3 e3 σ3 d3 a3 w3 m3 ⟨IC,rfl,hd3,YS,hend⟩ hx3 hs3 ht3; have hi3:(IC ++ [bA.obj (w.heap.size + 1) (.loop {rec' s with state:=.busy}),bA.obj w.heap.size (.deferred (some [])),bA.since w m])[IC.length]?=some (.obj (w.heap.size + 1) (.loop {rec' s with state:=.busy})):=by simp
    obtain ⟨hb5,_⟩:=hs3.jm.each _ (List.mem_of_getElem? hi3)
    have fin:∀ jump:Option Code,jump=codeOf (pend s')→b=jump.isNone→∃ v w',(Instr.endRound (w.heap.size + 1) jump).run P w3=.ok v w'∧∃ out σ' m',(out=eT.ret (.bool b)∧σ'=T' s')∧Br w' m' out (.returned v)∧Conc w' m' σ'∧Trans w1 m1 (T' s) w' m' σ':=by
     intro jump hj hbj; refine ⟨_,_,run_endRound jump hb5,.ret (.bool b),T' s',m3,⟨rfl,rfl⟩,⟨_,rfl,by simp [dU,hbj]⟩,?_⟩; obtain ⟨q1,q2⟩:=uZ (o':=.loop {rec' s with state:=if jump.isNone then .ready else .done,pending:=jump}) hs3.jm hi3
     have hrec:({rec' s with state:=if jump.isNone then .ready else .done,pending:=jump}:Loop)=rec' s':=by
      simp only [rec',tK,hj]
     have YT:(IC ++ [bA.obj (w.heap.size + 1) (.loop {rec' s with state:=.busy}),bA.obj w.heap.size (.deferred (some [])),bA.since w m]).set IC.length (.obj (w.heap.size + 1) (.loop {rec' s with state:=if jump.isNone then .ready else .done,pending:=jump}))=
       IC ++ [bA.obj (w.heap.size + 1) (.loop (rec' s')),bA.obj w.heap.size (.deferred (some [])),bA.since w m]:=by
      rw [List.set_append_right _ _ (Nat.le_refl _),Nat.sub_self,hrec]; rfl
     rw [YT] at q1 q2; have hsub:(T' s').Sublist (IC ++ [bA.obj (w.heap.size + 1) (.loop (rec' s')),bA.obj w.heap.size (.deferred (some [])),bA.since w m]):=List.Sublist.append YS (List.Sublist.refl _); exact ⟨q1.sub hsub,(ht2.trans (k2.trans (ht3.trans q2))).sub hsub⟩
    cases ax3 with
    | normal=>
     cases hx3; obtain ⟨h5,h6⟩:=hend; exact fin none (by rw [h6]; rfl) (by rw [h5]; rfl)
    | ret=>
     cases hx3; obtain ⟨h5,h6⟩:=hend; exact fin (some .ret) (by rw [h6]; rfl) (by rw [h5]; rfl)
    | exit id=>
     cases hx3; obtain ⟨h5,h6⟩:=hend; exact fin (some (.exit id)) (by rw [h6]; rfl) (by rw [h5]; rfl)
    | panic p=>exact hend.elim
end
end Go.Abs
namespace Go.Abs
variable [iG]
open Go
theorem Hf {P:Program} {fn:Func} {rs:List ResultVar} {env:Env} {σ:List bA} {w:World} {m:jO} {tmps:Array Value} {ps:List PV} (hrs:fn.results.toList=rs) (he:Af w m env tmps) (hc:Conc w m σ) (h1:Bq P env σ rs ps):
  ∃ v,(results fn tmps).run P w=.ok v w∧dU w m (mI (ps.map PV.weak)) v:=by
 obtain ⟨us,k1,k2⟩:=Eh he hc h1; have hl2:=k2.length_eq
 have hrun:(results fn tmps).run P w=.ok (if h:us.toArray.size=1 then us.toArray[0] else .tuple us.toArray) w:=by
  unfold results; rw [Array.mapM_eq_mapM_toList,hrs]; have k1':=k1; simp only [Sem.run_bind,Sem.run_map]
  erw [k1']
  rfl
 have k2:=k2.weak; have hl2:us.length=(ps.map PV.weak).length:=by simpa using hl2
 refine ⟨_,hrun,?_⟩; clear h1 hrun; generalize ps.map PV.weak=ps at k2 hl2 ⊢
 match ps,us,k2,hl2 with
 | [],us,k2,hl2=>
  simp only [bC] at k2; subst k2; simp only [mI,dU]; exact ⟨[],by simp,bC.nil⟩
 | [p],us,k2,hl2=>
  simp only [bC] at k2; obtain ⟨v,vs',rfl,h3,rfl⟩:=k2; simpa [mI] using h3
 | p :: q :: ps,us,k2,hl2=>
  rw [dif_neg (by simp [hl2])]; simp only [mI,dU]; exact ⟨us,rfl,k2⟩
def ac2 (P:Program) (rs:List ResultVar) (R:eT→List bA→Prop):Post
 | .normal,e,s,d | .ret,e,s,d=>∃ D s1,d=[tQ D]∧s=s1 ++ [.obj D (.deferred (some []))]∧∃ ps,Bq P e s1 rs ps∧∃ s',s'.Sublist s1∧R (.ret (mI (ps.map PV.weak))) s'
 | _,_,_,_=>False
theorem AC.N_ {P:Program} {f:FuncId} {fn:Func} {c:Code} {args:List PV} {σ:List bA} {R:eT→List bA→Prop} (n:Nat) (rs:List ResultVar) (ts:List Nat) {env:Env}
  (hf:P.funcs[f]?=some fn) (hb:fn.body=some c) (hn:fn.ntmps=n) (hl:Nat.ble args.length n=true) (hrs:fn.results.toList=rs) (Jf:settle ts (yx 0 args)=some env)
  (h:AW P n c env σ [] (ac2 P rs R)):AC P f args σ R:=by
 intro w m vs hc hv; have hl:args.length≤n:=Nat.le_of_ble_eq_true hl; have hvl:=hv.length_eq; refine callsIn_wide.1 (callsIn_of_wp_marks (n:=0) hf hb trivial (wpIn_wide.2 ?_)); refine h w m _ _ ⟨?_,rfl,?_,hc⟩ ?_
 · simp [hvl,hn]; omega
 ·
  have:=yY (List.replicate (fn.ntmps - vs.toArray.size) Go.undef) [] hv; rw [show vs.toArray ++ Array.replicate (fn.ntmps - vs.toArray.size) Go.undef=([] ++ vs ++ List.replicate (fn.ntmps - vs.toArray.size) Go.undef).toArray from by simp]; exact Af.settle Jf this
 ·
  intro x ex env' σ' ds' a' w' m' hq hx hs ht
  have hend:∀ D s1,ds'=[tQ D]→σ'=s1 ++ [.obj D (.deferred (some []))]→∀ ps s',Bq P env' s1 rs ps→s'.Sublist s1→R (.ret (mI (ps.map PV.weak))) s'→
    LeavesInM Fence.wide 0 P fn a'.tmps (fun e w'=>∃ out σ' m',R out σ'∧Br w' m' out e∧Conc w' m' σ'∧Trans w m σ w' m' σ') a'.defers .returning w':=by
   intro D s1 hd hs1 ps s' h1 hsub h2; subst hs1; rw [hs.ds,hd]; have hi:(s1 ++ [bA.obj D (.deferred (some []))])[s1.length]?=some (.obj D (.deferred (some []))):=by simp
   obtain ⟨hbD,_⟩:=hs.jm.each _ (List.mem_of_getElem? hi); obtain ⟨k1,k2⟩:=uZ (o':=.deferred Option.none) hs.jm hi
   have hset:(s1 ++ [bA.obj D (.deferred (some []))]).set s1.length (.obj D (.deferred Option.none))=s1 ++ [.obj D (.deferred Option.none)]:=by
    rw [List.set_append_right _ _ (Nat.le_refl _),Nat.sub_self]; rfl
   rw [hset] at k1 k2; refine ⟨by simp,.inl ⟨D,_,rfl,run_takeDeferred hbD,?_⟩⟩; have k3:=k1.left; obtain ⟨v,hv1,hv2⟩:=Hf hrs (hs.env.mono k2.le) k3 h1; refine ⟨v,hv1,.ret _,s',m',h2,⟨v,rfl,hv2⟩,k3.sub hsub,?_⟩; exact (ht.trans k2).sub (hsub.trans (List.sublist_append_left _ _))
  cases x with
  | normal=>cases hx; obtain ⟨D,s1,hd,hs1,ps,h1,s',hsub,h2⟩:=hq; exact hend D s1 hd hs1 ps s' h1 hsub h2
  | ret=>cases hx; obtain ⟨D,s1,hd,hs1,ps,h1,s',hsub,h2⟩:=hq; exact hend D s1 hd hs1 ps s' h1 hsub h2
  | exit id=>exact hq.elim
  | panic p=>exact hq.elim
theorem Vh {w:World} {m:jO}:∀ {vs cs:List Value},bC w m (vs.map PV.val) cs→cs=vs
 | [],cs,h=>by simpa [bC] using h
 | v :: vs,cs,h=>by
  simp only [List.map_cons,bC,dU] at h; obtain ⟨u,us,rfl,h1,h2⟩:=h; rw [Vh h2,h1]
theorem AR.defer {P:Program} {n:Nat} {env:Env} {σ:List bA} {ds:List Deferred} {Q:Post} {all:Array Oper} {rest:List Oper} {o:Oper} {c:Call} {M9:Operand} {g:FuncId} {vs:List Value}
  (hg:o.guard=Option.none) (hd:o.dst=Option.none) (ho:o.op=.defer c) (kG:c.callee=.value M9) (hargs:c.args=#[]) (hf:env.ev M9=.fn g (vs.map PV.val))
  (h:AR P n all rest env σ ({target:=.fn (.func g) vs.toArray,args:=#[]} :: ds) Q):AR P n all (o :: rest) env σ ds Q:=by
 intro w m a QC hs ha; refine wpList_plain hg fun K hK=>?_; have hcv:=hs.env.ev M9; rw [hf] at hcv; simp only [dU] at hcv; obtain ⟨cs,hcv,hcs⟩:=hcv; have hcs':=Vh hcs; subst hcs'
 have hrun:(execOp a.eval o).run P w=.ok (.defer {target:=.fn (.func g) cs.toArray,args:=#[]}) w:=by
  unfold execOp; simp [ho,resolve,kG,hcv,hargs,Deferred.ofValue]
 unfold Oper.wp; rw [hrun]; refine hK _ _ (h w m _ QC ⟨?_,?_,?_,hs.jm⟩ ha)
 · rw [hd]; exact hs.size
 · rw [hd]; simp [Act.put,hs.ds]
 · rw [hd]; exact hs.env
def ac0 (P:Program) (rs:List ResultVar) (R:eT→List bA→Prop) (g:FuncId) (nt t:Nat) (ops:List Oper) (o:Oper) (X:Code) (vs:List Value) (UM:Env):Post
 | .normal,e,s,d | .ret,e,s,d=>d=[{target:=.fn (.func g) vs.toArray,args:=#[]}]∧
   AR P nt (o :: ops).toArray ops ((t,.val .nilIface) :: UM) s [] (AX.then (fun e' s d=>AW P nt X e' s d (QD fun s'=>∃ ps,Bq P e s' rs ps∧∃ s'',s''.Sublist s'∧R (.ret (mI (ps.map PV.weak))) s'')) (QD fun s'=>∃ ps,Bq P e s' rs ps∧∃ s'',s''.Sublist s'∧R (.ret (mI (ps.map PV.weak))) s''))
 | .panic p,e,s,d=>d=[{target:=.fn (.func g) vs.toArray,args:=#[]}]∧
   AR P nt (o :: ops).toArray ops ((t,p) :: UM) s [] (AX.then (fun e' s d=>AW P nt X e' s d (QD fun s'=>∃ ps,Bq P e s' rs ps∧∃ s'',s''.Sublist s'∧R (.ret (mI (ps.map PV.weak))) s'')) (QD fun s'=>∃ ps,Bq P e s' rs ps∧∃ s'',s''.Sublist s'∧R (.ret (mI (ps.map PV.weak))) s''))
 | _,_,_,_=>False
theorem Sb (w:World) (m:jO):∀ vs:List Value,bC w m (vs.map PV.val) vs
 | []=>bC.nil
 | v :: vs=>bC.cons (by simp [dU]) (Sb w m vs)
theorem AC.J3 {P:Program} {f g:FuncId} {fn fd:Func} {c X:Code} {args:List PV} {σ:List bA} {R:eT→List bA→Prop} {id nt t:Nat} {ops:List Oper} {o:Oper} (n:Nat) (rs:List ResultVar) (ts td:List Nat) {env:Env}
  (hf:P.funcs[f]?=some fn) (hb:fn.body=some c) (hn:fn.ntmps=n) (hl:Nat.ble args.length n=true) (hrs:fn.results.toList=rs) (Jf:settle ts (yx 0 args)=some env)
  (hfd:P.funcs[g]?=some fd) (hbd:fd.body=some (.seq (.region id (o :: ops).toArray false) X)) (hnd:fd.ntmps=nt) (hrsd:fd.results.toList=[])
  (hg:o.guard=Option.none) (ho:isRecover o=true) (hd:o.dst=some t) (ht:Nat.blt t nt=true) (hp:bM P g=true)
  (h:AW P n c env σ [] (fun x e s d=>∃ vs UM,Nat.ble vs.length nt=true∧settle td (yx 0 (vs.map PV.val))=some UM∧ac0 P rs R g nt t ops o X vs UM x e s d)):AC P f args σ R:=by
 intro w m us hc hv; have hl:args.length≤n:=Nat.le_of_ble_eq_true hl; have hvl:=hv.length_eq; refine calls_of_wp_defers hf hb ?_; refine h w m _ _ ⟨?_,rfl,?_,hc⟩ ?_
 · simp [hvl,hn]; omega
 ·
  have:=yY (List.replicate (fn.ntmps - us.toArray.size) Go.undef) [] hv; rw [show us.toArray ++ Array.replicate (fn.ntmps - us.toArray.size) Go.undef=([] ++ us ++ List.replicate (fn.ntmps - us.toArray.size) Go.undef).toArray from by simp]; exact Af.settle Jf this
 ·
  intro x ex env' σ' ds' a' w' m' hq hx hs htr; obtain ⟨vs,UM,hvn,aeh,hq⟩:=hq
  have key:∀ (q:Option Value) (p:PV),(match q with | Option.none=>p=.val .nilIface | some v=>dU w' m' p v)→ds'=[{target:=.fn (.func g) vs.toArray,args:=#[]}]→
    AR P nt (o :: ops).toArray ops ((t,p) :: UM) σ' [] (AX.then (fun e' s d=>AW P nt X e' s d (QD fun s'=>∃ ps,Bq P env' s' rs ps∧∃ s'',s''.Sublist s'∧R (.ret (mI (ps.map PV.weak))) s'')) (QD fun s'=>∃ ps,Bq P env' s' rs ps∧∃ s'',s''.Sublist s'∧R (.ret (mI (ps.map PV.weak))) s''))→
    Leaves P fn a'.tmps (fun e w'=>∃ out σ' m',R out σ'∧Br w' m' out e∧Conc w' m' σ'∧Trans w m σ w' m' σ') a'.defers (Hr q) w':=by
   intro q p hqp hds har; rw [hs.ds,hds]; refine leaves_cons (f:=g) (args:=vs.toArray) (by cases q <;> simp [Hr]) ?_ ?_
   ·
    simp only [invoke]; rw [vI hp]; simp
   ·
    refine CallsD.mono (CD.rec (args:=vs.map PV.val) td hfd hbd hnd (by simpa using hvn) hrsd aeh hg ho hd ht har w' m' vs q hqp hs.jm (Sb w' m' vs)) ?_; rintro e u' w2 ⟨rfl,rfl,σ2,m2,⟨ps,h1,s'',hsub,h2⟩,hc2,ht2⟩; obtain ⟨v,hv1,hv2⟩:=Hf hrs (hs.env.mono ht2.le) hc2 h1; have hset:Go.settle (zC q)=.returning:=by cases q <;> simp [zC,Go.settle]
    simp only [hset]; exact ⟨v,hv1,.ret _,s'',m2,h2,⟨v,rfl,hv2⟩,hc2.sub hsub,(htr.trans ht2).sub hsub⟩
  cases x with
  | normal=>cases hx; exact key Option.none _ rfl hq.1 hq.2
  | ret=>cases hx; exact key Option.none _ rfl hq.1 hq.2
  | exit id=>exact hq.elim
  | panic p=>
   obtain ⟨v,rfl,hv'⟩:=hx; exact key (some v) p hv' hq.1 hq.2
theorem Lc {w:World} {m:jO} {σ:List bA} {i b:Nat} {cs:List PV} (hi:σ[i]?=some (.box b cs)) (hc:Conc w m σ):Conc w m (σ.set i (.box b (cs.map PV.uf)))∧Trans w m σ w m (σ.set i (.box b (cs.map PV.uf))):=by
 have hf:kI (σ.set i (.box b (cs.map PV.uf)))=kI σ:=by
  clear hc
  induction σ generalizing i with
  | nil=>rfl
  | cons r σ ih=>
   cases i with
   | zero=>
    simp only [List.getElem?_cons_zero,Option.some.injEq] at hi; subst hi; simp [kI,bA.fp]
   | succ i=>
    simp only [List.getElem?_cons_succ] at hi; have:=ih hi; simp only [kI,List.set_cons_succ,List.flatMap_cons] at this ⊢; rw [this]
 refine ⟨⟨fun r hr=>?_,by rw [hf]; exact hc.apart,hc.wf,hc.rE⟩,⟨rfl,rfl,rfl,Nat.le_refl _,Le.refl _ _,fun _ _ _=>⟨rfl,fun _ h=>h⟩,fun x hx=>.inl (by rw [←hf]; exact hx),fun _=>Nat.le_refl _⟩⟩; rcases List.mem_or_eq_of_mem_set hr with h | h
 · exact hc.each r h
 ·
  subst h; obtain ⟨vs,ty,h1,h2,h3⟩:=hc.each _ (List.mem_of_getElem? hi); exact ⟨vs,ty,h1,h2.uf,h3⟩
section
variable {P : Program} {n : Nat} {env : Env} {σ : List bA} {ds : List Deferred} {Q : Post} {all : Array Oper} {l : List Oper}
theorem AR.JL (i:Nat) {b:Nat} {cs:List PV} (hi:σ[i]?=some (.box b cs)) (h:AR P n all l env (σ.set i (.box b (cs.map PV.uf))) ds Q):AR P n all l env σ ds Q:=by
 intro w m a QC hs ha; obtain ⟨k1,k2⟩:=Lc hi hs.jm; exact h w m a QC ⟨hs.size,hs.ds,hs.env,k1⟩ (ha.step k2)
theorem AW.JL {c:Code} (i:Nat) {b:Nat} {cs:List PV} (hi:σ[i]?=some (.box b cs)) (h:AW P n c env (σ.set i (.box b (cs.map PV.uf))) ds Q):AW P n c env σ ds Q:=by
 intro w m a QC hs ha; obtain ⟨k1,k2⟩:=Lc hi hs.jm; exact h w m a QC ⟨hs.size,hs.ds,hs.env,k1⟩ (ha.step k2)
end
section
variable {P : Program} {o : Oper} {ρ : Operand → PV} {σ : List bA} {R S : PV → List bA → Prop}
theorem AO.Vm {x:Operand} {xt t:TypeId} {p:PV} (ho:o.op=.typeAssert x xt t true) (hx:ρ x=.iface t p) (hrun:∀ v w,(Instr.typeAssert (.iface t v) xt t true).run P w=.ok (.tuple #[v,.bool true]) w)
  (hR:R (.tuple [p,.bool true]) σ):AO P o ρ σ R S:=by
 refine AO.of_same hR fun w m ev hr hc=>?_; have h1:=hr x (by simp [ho,Op.operands]); rw [hx] at h1; simp only [dU] at h1; obtain ⟨v,h1,h2⟩:=h1; refine ⟨.tuple #[v,.bool true],?_,?_⟩
 · simp only [execOp,ho,h1,Sem.run_bind,hrun,Result.andThen_ok,Sem.run_pure]
 ·
  simp only [dU]; exact ⟨[v,.bool true],rfl,bC.cons h2 (bC.cons (by simp [dU]) bC.nil)⟩
theorem AO.RY {x:Operand} {xt t:TypeId} {p:PV} {z:Value} (ho:o.op=.typeAssert x xt t true) (hx:ρ x=.val .nilIface) (hrun:∀ w,(Instr.typeAssert .nilIface xt t true).run P w=.ok (.tuple #[z,.bool false]) w)
  (hz:∀ w m,dU w m p z) (hR:R (.tuple [p,.bool false]) σ):AO P o ρ σ R S:=by
 refine AO.of_same hR fun w m ev hr hc=>?_; have h1:=hr x (by simp [ho,Op.operands]); rw [hx] at h1; simp only [dU] at h1; refine ⟨.tuple #[z,.bool false],?_,?_⟩
 · simp only [execOp,ho,h1,Sem.run_bind,hrun,Result.andThen_ok,Sem.run_pure]
 ·
  simp only [dU]; exact ⟨[z,.bool false],rfl,bC.cons (hz w m) (bC.cons (by simp [dU]) bC.nil)⟩
end
end Go.Abs
namespace Go.Abs
variable [iG]
open Go
section
variable {P : Program} {n : Nat} {all : Array Oper} {l : List Oper} {env : Env} {σ : List bA} {ds : List Deferred} {Q : Post} {c : Code}
def Jm :List bA→Nat→Option (List bA)
 | [],_=>none
 | _ :: σ,0=>some σ
 | r :: σ,i + 1=>match Jm σ i with
  | some σ'=>some (r :: σ')
  | none=>none
theorem CZ :∀ {σ σ':List bA} {i:Nat},Jm σ i=some σ'→σ'.Sublist σ
 | [],_,_,h=>by cases h
 | r :: σ,_,0,h=>by simp only [Jm,Option.some.injEq] at h; subst h; exact List.sublist_cons_self _ _
 | r :: σ,σ',i + 1,h=>by
  simp only [Jm] at h; split at h
  ·
   rename_i t ht; simp only [Option.some.injEq] at h; subst h; exact (CZ ht).cons_cons r
  · cases h
theorem AR.Y3 (i:Nat) {σ':List bA} (he:Jm σ i=some σ') (h:AR P n all l env σ' ds Q):AR P n all l env σ ds Q:=
 fun w m a QC qK ha=>h w m a QC ⟨qK.size,qK.ds,qK.env,qK.jm.sub (CZ he)⟩ (ha.step (Trans.sub (Trans.refl w m σ) (CZ he)))
theorem AW.Y3 (i:Nat) {σ':List bA} (he:Jm σ i=some σ') (h:AW P n c env σ' ds Q):AW P n c env σ ds Q:=AW.drop _ (CZ he) h
end
end Go.Abs
namespace Go.Abs
variable [iG]
open Go Go.Proofs Go.Sort Go.Lib Go.Shelf
theorem Lu {w:World} {m:jO}:∀ {l:List (List UInt8)} {xs:List Value},bC w m (l.map PV.str) xs→xs=l.map fun s=>Value.string ⟨s.toArray⟩
 | [],xs,h=>by simpa only [List.map_nil,bC] using h
 | s :: l,xs,h=>by
  simp only [List.map_cons,bC] at h; obtain ⟨v,vs,rfl,h1,h2⟩:=h; simp only [dU] at h1; rw [h1,Lu h2,List.map_cons]
theorem LJ {w:World} {m:jO}:∀ l:List (List UInt8),bC w m (l.map PV.str) (l.map fun s=>Value.string ⟨s.toArray⟩)
 | []=>bC.nil
 | s :: l=>bC.cons (by simp [dU]) (LJ l)
@[reducible] def VD :iG:={G:=fun _ _=>True,mono:=fun _ h=>h,D:=True}
theorem Trans.grown (hD:iG.D) {w w':World} {m m':jO} {σ':List bA} (h:Trans w m [] w' m' σ'):∃ q os,w'=Sort.grow (w.drewN q) os:=by
 refine ⟨w'.drawn - w.drawn,w'.heap.extract w.heap.size w'.heap.size,?_⟩; have h1:=h.os; have h2:=h.tape; have h3:=h.output; have h4:=h.drawn hD; have h5:=h.size; have h6:=h.keep; cases w'; cases w; simp only [World.drewN,Sort.grow] at *; subst h1 h2 h3; congr 1
 ·
  apply Array.ext_getElem?; intro k; rw [Array.getElem?_append]; split
  ·
   rename_i hk; exact (h6 k hk (by simp [kI])).1
  ·
   rename_i hk; rw [Array.getElem?_extract]; split
   · congr 1; omega
   · rw [Array.getElem?_eq_none (by omega)]
 · omega
abbrev uP :Type:={s:List UInt8 // s.length < 4611686018427387904}
instance : Inhabited uP:=⟨⟨[],by decide⟩⟩
def EN (s:uP):Value:=.string ⟨s.1.toArray⟩
theorem Mq :∀ {l:List (List UInt8)},(∀ s∈l,s.length < 4611686018427387904)→∃ k:List uP,k.map (·.1)=l
 | [],_=>⟨[],rfl⟩
 | s :: l,h=>by
  obtain ⟨k,hk⟩:=Mq (l:=l) fun x hx=>h x (List.mem_cons_of_mem _ hx); exact ⟨⟨s,h s List.mem_cons_self⟩ :: k,by rw [List.map_cons,hk]⟩
theorem Og (f:List UInt8→List UInt8→Bool) (k:List uP):(k.mergeSort fun x y=>f x.1 y.1).map (·.1)=(k.map (·.1)).mergeSort f:=by
 rw [List.map_mergeSort (r:=fun x y:uP=>f x.1 y.1) (s:=f)]; intro a _ b _; rfl
theorem VQ {w:World} {m:jO} {g n cap:Nat} {e:TypeId} {l l':List (List UInt8)} {cur:Array Value} {fz:Nat × Nat} {α:Type} [Inhabited α] (enc:α→Value) (dk:Array α) (q:Nat) (os:Array Obj)
  (hc:Conc w m [.buf (.slice (some ⟨g,0,none⟩) n cap) n 1 e (l.map PV.str)]) (hg:w.heap[g]?=some (.cells cur e fz)) (hfz:fz.1=fz.2∨cur.size≤fz.1) (hn:n≤cap) (hcap:cap≤maxLen) (hcur:cur.size=cap * 1)
  (hm:∀ off,¬ m g off) (hdk:dk.size≤cap) {n':Nat} (hn':n'≤n) (hl':l'.length=n') (hput:(Go.Sort.putCells enc 0 dk cur).toList.take n'=l'.map fun s=>Value.string ⟨s.toArray⟩):
  let w':=Sort.grow (putRow enc (Sort.ahead w q) g 0 dk) os
  Conc w' m [.buf (.slice (some ⟨g,0,none⟩) n' cap) n' 1 e (l'.map PV.str)]∧Trans w m [.buf (.slice (some ⟨g,0,none⟩) n cap) n 1 e (l.map PV.str)] w' m [.buf (.slice (some ⟨g,0,none⟩) n' cap) n' 1 e (l'.map PV.str)]:=by
 intro w'
 have hgs:g < w.heap.size:=by
  rcases Nat.lt_or_ge g w.heap.size with h | h
  · exact h
  · rw [Array.getElem?_eq_none h] at hg; cases hg
 have hold:∀ b,b < w.heap.size→b≠g→w'.heap[b]?=w.heap[b]?:=by
  intro b hb hne; show (Sort.grow _ _).heap[b]?=_; rw [heap_grow_old _ _ (by simpa using hb)]; show (w.heap.modify g _)[b]?=_; rw [Array.getElem?_modify,if_neg (Ne.symm hne)]
 have hnew:w'.heap[g]?=some (.cells (Go.Sort.putCells enc 0 dk cur) e fz):=by
  show (Sort.grow _ _).heap[g]?=_; rw [heap_grow_old _ _ (by simpa using hgs)]; show (w.heap.modify g _)[g]?=_; rw [Array.getElem?_modify,if_pos rfl,hg]; rfl
 have hle:Le w m w' m:=by
  intro b off hb; have hlt:=hc.wf b off hb; have hne:b≠g:=fun h=>hm off (h ▸ hb); refine ⟨hb,?_⟩; simp only [World.cell?,hold b hlt hne]
 have hsz:w.heap.size≤w'.heap.size:=by
  show w.heap.size≤(Sort.grow _ _).heap.size; simp
 refine ⟨⟨?_,?_,?_,iG.mono hle hc.rE⟩,⟨rfl,rfl,rfl,hsz,hle,?_,?_,?_⟩⟩
 ·
  intro r hr; simp only [List.mem_singleton] at hr; subst hr; refine ⟨_,⟨?_,.inr ⟨g,cap,_,fz,rfl,hnew,?_,by omega,hcap,?_,?_⟩⟩,LJ l',?_⟩
  · simp [hl']
  · simpa [Go.Sort.putCells] using hfz
  · simpa [Go.Sort.putCells] using hcur
  · simpa using hput
  ·
   intro b hb off; simp only [Value.ownBlock,Option.some.injEq] at hb; subst hb; exact hm off
 · simp [kI,bA.fp,Value.ownBlock]
 ·
  intro b off hb; have:=hc.wf b off hb; omega
 ·
  intro b hb hf; have hne:b≠g:=fun h=>hf (by subst h; simp [kI,bA.fp,Value.ownBlock]); exact ⟨hold b hb hne,fun _ h=>h⟩
 ·
  intro b hb; left; simpa [kI,bA.fp,Value.ownBlock] using hb
 ·
  intro _; show w.drawn≤w.drawn + q; omega
theorem AC.X7 {P:Program} {ρ:Ren} (L:SlLaysF.n6 P ρ) {g:FuncId} (hp:bM P g=true) {cf:List UInt8→List UInt8→Int}
  (hcmp:∀ a b:List UInt8,a.length < 4611686018427387904→b.length < 4611686018427387904→@AC VD P g [.str a,.str b] [] fun out _=>out=.ret (.int .i64 (cf a b)))
  (hS:SWO (ltOf fun a b:uP=>cf a.1 b.1)) (hT:∀ x y:uP,cf x.1 y.1 ≥ 0→cf y.1 x.1 ≥ 0→x.1=y.1)
  {l:List (List UInt8)} (hl:∀ s∈l,s.length < 4611686018427387904) (hb:l.length < 4611686018427387904) {v:Value} {e:TypeId} {R:eT→List bA→Prop}
  (h:R (.ret (.tuple [])) [.buf v (l.mergeSort fun x y=>!decide (cf y x < 0)).length 1 e ((l.mergeSort fun x y=>!decide (cf y x < 0)).map PV.str)]):
  AC P (ρ.f 6) [.val v,.fn g []] [.buf v l.length 1 e (l.map PV.str)] R:=by
 rw [List.length_mergeSort] at h; intro w m vs hc hv; simp only [bC,dU] at hv; obtain ⟨v0,vs0,rfl,rfl,v1,vs1,rfl,⟨cs,rfl,rfl⟩,rfl⟩:=hv; obtain ⟨xs,⟨hx1,hx2⟩,hrep,hm⟩:=hc.each _ (List.mem_singleton.2 rfl); have hxs:=Lu hrep; rcases hx2 with ⟨rfl,hn⟩ | ⟨gb,cap,cur,fz,rfl,hg,hfz,hn,hcap,hcur,htake⟩
 ·
  have hl0:l=[]:=List.eq_nil_of_length_eq_zero hn; subst hl0; refine (AnyF.slices_SortFunc_none (P:=P) (ρ:=ρ) {L with} Option.none 0 (.func (.func g) #[] #[]) w).mono ?_; rintro en w' ⟨rfl,rfl⟩; have hnil:([]:List (List UInt8)).mergeSort (fun x y=>!decide (cf y x < 0))=[]:=by simp
  rw [hnil] at h; exact ⟨_,_,m,h,⟨_,rfl,by simp only [dU]; exact ⟨[],rfl,bC.nil⟩⟩,hc,Trans.refl _ _ _⟩
 ·
  obtain ⟨k,hk⟩:=Mq hl; have hkl:k.length=l.length:=by rw [←hk]; simp
  have hgs:gb < w.heap.size:=by
   rcases Nat.lt_or_ge gb w.heap.size with h | h
   · exact h
   · rw [Array.getElem?_eq_none h] at hg; cases hg
  have hm':∀ off,¬ m gb off:=hm gb rfl
  have hcell:∀ j (hj:j < l.length),cur[j]?=some (.string ⟨(l[j]).toArray⟩):=by
   intro j hj; have:(cur.toList.take (l.length * 1))[j]?=xs[j]?:=by rw [htake]
   rw [List.getElem?_take,if_pos (by omega),hxs] at this; rw [←Array.getElem?_toList,this]; simp [hj]
  have hH:Holds EN w gb 0 k.toArray:=by
   intro j hj; have hj':j < l.length:=by simpa [hkl] using hj
   refine ⟨?_,?_⟩
   ·
    simp only [World.cell?,hg,Nat.zero_add]; rw [if_neg (by simp),hcell j hj']; congr 1; rw [getElem!_pos k.toArray j hj]; unfold EN; congr 3; have:(k.map (·.1))[j]?=l[j]?:=by rw [hk]
    simpa [hj',hkl] using this.symm
   ·
    simp only [World.frozen?,hg]; rcases hfz with h | h
    ·
     rcases fz with ⟨a,b⟩; simp only at h ⊢; subst h; simp only [Bool.and_eq_false_iff,decide_eq_false_iff_not]; omega
    ·
     rcases fz with ⟨a,b⟩; simp only at h ⊢; simp only [Bool.and_eq_false_iff,decide_eq_false_iff_not]; omega
  have aef:CmpLays1 P g #[] EN (fun a b:uP=>cf a.1 b.1) gb 0 k.toArray.size w:=by
   intro m0 os dk _ x y; refine (hcmp x.1 y.1 x.2 y.2 (sortWorld EN w gb 0 m0 dk os) (fun _ _=>False) [EN x,EN y] (@Conc.mk VD _ _ _ (fun r hr=>by simp at hr) (by simp [kI]) (fun _ _ h=>h.elim) trivial) (bC.cons (by simp [dU,EN]) (bC.cons (by simp [dU,EN]) bC.nil))).mono ?_; rintro en w' ⟨out,σ',m',rfl,hout,_,ht⟩; obtain ⟨r,rfl,hr⟩:=hout; simp only [dU] at hr; exact ⟨by rw [hr],@Trans.grown VD trivial _ _ _ _ _ ht⟩
  have key:=Any.slices_SortFunc_total L EN (fun x=>rfl) (fun a b:uP=>cf a.1 b.1) hS g #[] gb 0 cap k.toArray w (vI hp) aef hH hgs (by simpa [hkl] using hb)
   (fun x y h1 h2=>Subtype.ext (hT x y (by simpa [ltOf] using h1) (by simpa [ltOf] using h2)))
  have e0:k.toArray.size=l.length:=by simpa using hkl
  rw [e0] at key; refine key.mono ?_; rintro en w' ⟨rfl,q,os,rfl⟩
  have hms:(k.mergeSort fun x y=>!(ltOf (fun a b:uP=>cf a.1 b.1)) y x).map (·.1)=l.mergeSort fun x y=>!decide (cf y x < 0):=by
   rw [←hk]; exact Og (fun x y=>!decide (cf y x < 0)) k
  have hlen:(k.mergeSort fun x y=>!(ltOf (fun a b:uP=>cf a.1 b.1)) y x).length=l.length:=by rw [List.length_mergeSort,hkl]
  obtain ⟨c1,c2⟩:=VQ (l':=l.mergeSort fun x y=>!decide (cf y x < 0)) EN (k.mergeSort fun x y=>!(ltOf (fun a b:uP=>cf a.1 b.1)) y x).toArray q os hc hg hfz hn hcap hcur hm' (by simpa [hlen] using hn) (n':=l.length) (Nat.le_refl _) (by simp) (by
   apply List.ext_getElem?; intro j; rw [←hms,List.getElem?_take]; split
   ·
    rename_i hj; have h1:j < cur.size:=by omega
    simp only [Go.Sort.putCells,Array.getElem?_toList,Array.getElem?_mapIdx,Array.getElem?_eq_getElem h1,Option.map_some]; rw [if_pos ⟨Nat.zero_le _,by simpa [hlen] using hj⟩]; have h2:j < (k.mergeSort fun x y=>!(ltOf (fun a b:uP=>cf a.1 b.1)) y x).length:=by omega
    rw [Nat.sub_zero,getElem!_pos _ j (by simpa using h2)]; simp only [List.map_map,List.getElem?_map,List.getElem?_eq_getElem h2,Option.map_some,EN,List.getElem_toArray,Function.comp_apply]
   ·
    rename_i hj
    rw [List.getElem?_eq_none (by simp [hlen]; omega)])
  exact ⟨_,_,m,h,⟨_,rfl,by simp only [dU]; exact ⟨[],rfl,bC.nil⟩⟩,c1,c2⟩
end Go.Abs
namespace Go.Ft
open Go.Lib
theorem VI :∀ (l:List Str) (x:Str),dd (l ++ [x])=if l.getLast?=some x then dd l else dd l ++ [x]
 | [],x=>by simp [dd]
 | [a],x=>by
  by_cases h:a=x <;> simp [dd,h]
 | a :: b :: l,x=>by
  have ih:=VI (b :: l) x; simp only [List.cons_append] at ih ⊢; simp only [dd]; rw [ih]; have:(a :: b :: l).getLast?=(b :: l).getLast?:=by simp [List.getLast?_cons]
  rw [this]; by_cases h:a=b <;> simp only [h,if_true,if_false] <;> split <;> simp
theorem UR (l:List Str):Go.Lib.compact l=dd l:=by
 have key:∀ m,m≤l.length→compactUpTo l.toArray m=dd (l.take m):=by
  intro m
  induction m with
  | zero=>intro _; simp [compactUpTo,dd]
  | succ m ih=>
   intro hm; have h1:l.take (m + 1)=l.take m ++ [l[m]]:=by rw [List.take_succ_eq_append_getElem (by omega)]
   rw [h1,VI,←ih (by omega)]; have e1:l.toArray[m]! =l[m]:=by rw [getElem!_pos _ m (by simp; omega)]; simp
   simp only [compactUpTo,List.range_succ,List.filter_append,List.map_append]; by_cases h0:m=0
   ·
    subst h0; simp [keeps]; rw [List.getElem?_eq_getElem (by omega)]; rfl
   ·
    have e2:l.toArray[m - 1]! =l[m - 1]:=by rw [getElem!_pos _ (m - 1) (by simp; omega)]; simp
    have e3:(l.take m).getLast?=some l[m - 1]:=by
     rw [List.getLast?_eq_getElem?,List.length_take,Nat.min_eq_left (by omega),List.getElem?_take,if_pos (by omega),List.getElem?_eq_getElem]
    by_cases hk:l[m]=l[m - 1]
    ·
     have:keeps l.toArray m=false:=by simp only [keeps,e1,e2,hk]; simp [h0]
     simp only [e3,hk,if_true,List.filter_cons,this,Bool.false_eq_true,if_false,List.filter_nil,List.map_nil,List.append_nil]
    ·
     have:keeps l.toArray m=true:=by simp only [keeps,e1,e2]; simp [hk]
     have hne:¬ (some l[m - 1]=some l[m]):=fun h=>hk (Option.some.inj h).symm; simp only [e3,hne,if_false,List.filter_cons,this,if_true,List.filter_nil,List.map_cons,List.map_nil,e1]
 rw [Go.Lib.compact,key _ (Nat.le_refl _),List.take_length]
end Go.Ft
namespace Go.Abs
variable [iG]
open Go Go.Proofs Go.Sort Go.Lib Go.Shelf
theorem Y9 :∀ l:List Ft.Str,(Ft.dd l).length≤l.length
 | []=>by simp [Ft.dd]
 | [_]=>by simp [Ft.dd]
 | x :: y :: l=>by
  have:=Y9 (y :: l); simp only [Ft.dd]; split <;> simp only [List.length_cons] at * <;> omega
theorem AC.Za {P:Program} {ρ:Ren} (L:Lays.n194 P ρ) {l:List (List UInt8)} (hb:l.length≤9223372036854775807) {v:Value} {e:TypeId} {R:eT→List bA→Prop}
  (h:∀ v',R (.ret (.val v')) [.buf v' (Ft.dd l).length 1 e ((Ft.dd l).map PV.str)]):
  AC P (ρ.f 194) [.val v] [.buf v l.length 1 e (l.map PV.str)] R:=by
 intro w m vs hc hv; simp only [bC,dU] at hv; obtain ⟨v0,vs0,rfl,rfl,rfl⟩:=hv; obtain ⟨xs,⟨hx1,hx2⟩,hrep,hm⟩:=hc.each _ (List.mem_singleton.2 rfl); have hxs:=Lu hrep; rcases hx2 with ⟨rfl,hn⟩ | ⟨gb,cap,cur,fz,rfl,hg,hfz,hn,hcap,hcur,htake⟩
 ·
  have hl0:l=[]:=List.eq_nil_of_length_eq_zero hn; subst hl0; refine (Any.slices_Compact_string_empty (P:=P) (ρ:=ρ) L Option.none 0 w).mono ?_; rintro en w' ⟨rfl,rfl⟩; exact ⟨_,_,m,h _,⟨_,rfl,by simp only [dU]⟩,by simpa [Ft.dd] using hc,Trans.refl _ _ _⟩
 ·
  have hm':∀ off,¬ m gb off:=hm gb rfl
  have hcell:∀ j (hj:j < l.length),cur[j]?=some (.string ⟨(l[j]).toArray⟩):=by
   intro j hj; have:(cur.toList.take (l.length * 1))[j]?=xs[j]?:=by rw [htake]
   rw [List.getElem?_take,if_pos (by omega),hxs] at this; rw [←Array.getElem?_toList,this]; simp [hj]
  have hH:Holds encStr w gb 0 l.toArray:=by
   intro j hj; have hj':j < l.length:=by simpa using hj
   refine ⟨?_,?_⟩
   ·
    simp only [World.cell?,hg,Nat.zero_add]; rw [if_neg (by simp),hcell j hj']; congr 1; rw [getElem!_pos l.toArray j hj]; rfl
   ·
    simp only [World.frozen?,hg]; rcases hfz with h | h
    ·
     rcases fz with ⟨a,b⟩; simp only at h ⊢; subst h; simp only [Bool.and_eq_false_iff,decide_eq_false_iff_not]; omega
    ·
     rcases fz with ⟨a,b⟩; simp only at h ⊢; simp only [Bool.and_eq_false_iff,decide_eq_false_iff_not]; omega
  refine (Any.slices_Compact_string L gb 0 cap l w hH hb hn).mono ?_; rintro en w' ⟨rfl,q,rfl⟩; rw [Ft.UR]; have hdl:=Y9 l
  obtain ⟨c1,c2⟩:=VQ (l':=Ft.dd l) encStr (Ft.dd l ++ List.replicate (l.length - (Ft.dd l).length) []).toArray q #[] hc hg hfz hn hcap hcur hm' (by simp; omega) hdl rfl (by
   apply List.ext_getElem?; intro j; rw [List.getElem?_take]; split
   ·
    rename_i hj; have h1:j < cur.size:=by omega
    simp only [Go.Sort.putCells,Array.getElem?_toList,Array.getElem?_mapIdx,Array.getElem?_eq_getElem h1,Option.map_some]; rw [if_pos ⟨Nat.zero_le _,by simp; omega⟩]; rw [Nat.sub_zero,getElem!_pos _ j (by simp; omega)]; simp [encStr,List.getElem?_map,hj,List.getElem_append]
   ·
    rename_i hj
    rw [List.getElem?_eq_none (by simp; omega)])
  rw [Sort.grow_empty] at c1 c2; exact ⟨_,_,m,h _,⟨_,rfl,by simp only [dU]⟩,c1,c2⟩
end Go.Abs
namespace Go.Abs
variable [iG]
open Go
section
variable {P : Program} {o : Oper} {ρ : Operand → PV} {σ : List bA} {R S : PV → List bA → Prop}
theorem LC (w:World) (t e:TypeId) (a:Option Addr) (l c:Nat) (h:P.underlying t=some (.slice e)):(binOp .eql t (.slice a l c) (.slice none 0 0)).run P w=.ok (.bool a.isNone) w:=by
 have h:∀ d:Nat,(Op.equalIn (d + 1) t (.slice a l c) (.slice none 0 0)).run P w=.ok a.isNone w:=fun d=>by
  cases a <;> simp [Op.equalIn,run_underlying h]
 simp only [binOp]; simp [Op.equal,Op.maxDepth,h 9999]
theorem AO.QH {t e yt:TypeId} {x:Operand} {l:List (List PV)} (ho:o.op=.binOp .eql t x (.const (.slice none 0 0)) yt) (hx:(ρ x).els=some l) (hu:P.underlying t=some (.slice e))
  (hR:∀ b:Bool,(b=true→l=[])→R (.bool b) σ):AO P o ρ σ R S:=by
 intro w m a K QC hr hc hK _; have hv:=hr x (by simp [ho,Op.operands]); obtain ⟨ad,cap,e1,e2,e3⟩:=hv.els hx; have hev:a.eval (.const (.slice none 0 0))=.slice none 0 0:=rfl
 have hrun:(execOp a.eval o).run P w=.ok (.value (.bool ad.isNone)) w:=by
  simp only [execOp,ho,hev,e1,Sem.run_bind]; rw [show eqGuard .eql t x (.const (.slice none 0 0)) (.slice ad l.length cap) (.slice none 0 0)=pure () from rfl]; simp only [Sem.run_pure,Result.andThen_ok,LC w t e ad l.length cap hu]
 unfold Oper.wp; rw [hrun]; refine hK (.bool ad.isNone) σ _ w m (hR _ fun h=>?_) (by simp only [dU]) hc (Trans.refl _ _ _); rcases e3 with rfl | ⟨bk,off,sz,rfl,_⟩
 · rfl
 · cases h
theorem AO.HY {x:Operand} {v:Value} {l:List (List PV)} (ho:o.op=.assign x) (hx:ρ x=.own v l) (hR:R (.val v) σ):AO P o ρ σ R S:=by
 refine AO.of_same hR fun w m ev hr _=>?_; have h1:=hr x (by simp [ho,Op.operands]); rw [hx] at h1; simp only [dU] at h1; exact ⟨ev x,by simp [execOp,ho],by simp only [dU]; exact h1.1⟩
theorem AO.clip {t:TypeId} {x y z:Operand} {l:List (List PV)} {sz:Nat} {k k':IntKind} (ho:o.op=.slice t x none (some y) (some z)) (hs:elemSize P t=some sz) (hx:(ρ x).els=some l)
  (hy:ρ y=.int k l.length) (hz:ρ z=.int k' l.length) (hR:R (.list l) σ):AO P o ρ σ R S:=by
 refine AO.of_same hR fun w m ev hr _=>?_; have hv:=hr x (by simp [ho,Op.operands]); obtain ⟨ad,cap,e1,e2,e3⟩:=hv.els hx; obtain ⟨el,inf,g1,g2,g3⟩:=nY hs; have h1:=hr y (by simp [ho,Op.operands]); have h2:=hr z (by simp [ho,Op.operands]); rw [hy] at h1; rw [hz] at h2; simp only [dU] at h1 h2
 have hb:(Instr.sliceBounds true l.length cap none (some (ev y)) (some (ev z))).run P w=.ok (0,l.length,l.length) w:=by
  simp [Instr.sliceBounds,h1,h2,Instr.sliceBound,asIntOf,e2]
 refine ⟨.slice (if l.length=0 then ad else ad.map (·.add (0 * sz))) (l.length - 0) (l.length - 0),?_,?_⟩
 · simp only [execOp,ho,Instr.sliceAt,Sem.run_bind,run_underlying g1,Result.andThen_ok,Instr.slice,e1,Option.map_some,Option.map_none,hb,Sem.run_pure,sizeOf,run_typeInfo g2,g3]
 ·
  simp only [dU]; refine ⟨_,l.length,rfl,Nat.le_refl _,?_⟩; rcases e3 with rfl | ⟨bk,off,sz',rfl,e4⟩
  · exact .inl rfl
  ·
   right; refine ⟨bk,off,sz',?_,e4⟩; split <;> simp [Addr.add_lit]
end
theorem AW.acU {P:Program} {n:Nat} {c:Code} {env:Env} {σ:List bA} {ds:List Deferred} {Q:Post} (sz e:Nat) (h:AW P n c env (.buf (.slice none 0 0) 0 sz e [] :: σ) ds Q):AW P n c env σ ds Q:=by
 intro w m a QC hs ha
 have hc:Conc w m (.buf (.slice none 0 0) 0 sz e [] :: σ):=by
  refine ⟨fun r hr=>?_,by simpa [kI,bA.fp,Value.ownBlock] using hs.jm.apart,hs.jm.wf,hs.jm.rE⟩; rcases List.mem_cons.1 hr with rfl | hr
  · exact ⟨[],⟨by simp,.inl ⟨rfl,rfl⟩⟩,bC.nil,fun b hb=>by cases hb⟩
  · exact hs.jm.each r hr
 exact h w m a QC ⟨hs.size,hs.ds,hs.env,hc⟩ (ha.step ⟨rfl,rfl,rfl,Nat.le_refl _,Le.refl _ _,fun b _ _=>⟨rfl,fun _ h=>h⟩,fun b hb=>.inl (by simpa [kI,bA.fp,Value.ownBlock] using hb),fun _=>Nat.le_refl _⟩)
theorem AR.freeze {P:Program} {k:Nat} {all:Array Oper} {lo:List Oper} {env:Env} {σ:List bA} {ds:List Deferred} {Q:Post} {v:Value} {n sz e:Nat} {cs:List PV} (t i:Nat) (l:List (List PV)) (ht:env.get t=.val v) (hi:σ[i]?=some (bA.buf v n sz e cs))
  (hl:l.flatten=cs) (hsz:∀ x∈l,x.length=sz) (hn:l.length=n) (h:AR P k all lo ((t,.own v l) :: env) (σ.set i (.row v n sz e)) ds Q):AR P k all lo env σ ds Q:=by
 intro w m a QC hs ha; obtain ⟨m',h1,h2,h3⟩:=hs.jm.freeze hi hl hsz hn; refine h w m' a QC ⟨hs.size,hs.ds,fun u=>?_,h2⟩ (ha.step h3); have hu:=hs.env u; simp only [Env.get]; cases hb:Nat.beq t u with
 | false=>exact dU.mono h3.le _ _ hu
 | true=>
  have:=Nat.eq_of_beq_eq_true hb; subst this; rw [ht] at hu; simp only [dU] at hu; rw [hu]; exact h1
end Go.Abs
namespace Go.Abs
variable [iG]
open Go
def zw :List Bool→List PV→List PV
 | true :: ms,c :: cs=>c.uf :: zw ms cs
 | false :: ms,c :: cs=>c :: zw ms cs
 | [],cs=>cs
 | _ :: _,[]=>[]
theorem bC.zw {w:World} {m:jO}:∀ {ms:List Bool} {ps:List PV} {vs:List Value},bC w m ps vs→bC w m (Abs.zw ms ps) vs
 | [],_,_,h=>h
 | true :: ms,[],_,h=>h
 | false :: ms,[],_,h=>h
 | true :: ms,p :: ps,_,h=>by
  simp only [bC] at h; obtain ⟨v,vs',rfl,h1,h2⟩:=h; exact bC.cons h1.uf (bC.zw h2)
 | false :: ms,p :: ps,_,h=>by
  simp only [bC] at h; obtain ⟨v,vs',rfl,h1,h2⟩:=h; exact bC.cons h1 (bC.zw h2)
theorem Lb {w:World} {m:jO} {σ:List bA} {i b:Nat} {ms:List Bool} {cs:List PV} (hi:σ[i]?=some (.box b cs)) (hc:Conc w m σ):Conc w m (σ.set i (.box b (Abs.zw ms cs)))∧Trans w m σ w m (σ.set i (.box b (Abs.zw ms cs))):=by
 have hf:kI (σ.set i (.box b (Abs.zw ms cs)))=kI σ:=by
  clear hc
  induction σ generalizing i with
  | nil=>rfl
  | cons r σ ih=>
   cases i with
   | zero=>
    simp only [List.getElem?_cons_zero,Option.some.injEq] at hi; subst hi; simp [kI,bA.fp]
   | succ i=>
    simp only [List.getElem?_cons_succ] at hi; have:=ih hi; simp only [kI,List.set_cons_succ,List.flatMap_cons] at this ⊢; rw [this]
 refine ⟨⟨fun r hr=>?_,by rw [hf]; exact hc.apart,hc.wf,hc.rE⟩,⟨rfl,rfl,rfl,Nat.le_refl _,Le.refl _ _,fun _ _ _=>⟨rfl,fun _ h=>h⟩,fun x hx=>.inl (by rw [←hf]; exact hx),fun _=>Nat.le_refl _⟩⟩; rcases List.mem_or_eq_of_mem_set hr with h | h
 · exact hc.each r h
 ·
  subst h; obtain ⟨vs,ty,h1,h2,h3⟩:=hc.each _ (List.mem_of_getElem? hi); exact ⟨vs,ty,h1,h2.zw,h3⟩
section
variable {P : Program} {n : Nat} {env : Env} {σ : List bA} {ds : List Deferred} {Q : Post} {all : Array Oper} {l : List Oper}
theorem AR.zw (i:Nat) (ms:List Bool) {b:Nat} {cs:List PV} (hi:σ[i]?=some (.box b cs)) (h:AR P n all l env (σ.set i (.box b (Abs.zw ms cs))) ds Q):AR P n all l env σ ds Q:=by
 intro w m a QC hs ha; obtain ⟨k1,k2⟩:=Lb hi hs.jm; exact h w m a QC ⟨hs.size,hs.ds,hs.env,k1⟩ (ha.step k2)
theorem AW.zw {c:Code} (i:Nat) (ms:List Bool) {b:Nat} {cs:List PV} (hi:σ[i]?=some (.box b cs)) (h:AW P n c env (σ.set i (.box b (Abs.zw ms cs))) ds Q):AW P n c env σ ds Q:=by
 intro w m a QC hs ha; obtain ⟨k1,k2⟩:=Lb hi hs.jm; exact h w m a QC ⟨hs.size,hs.ds,hs.env,k1⟩ (ha.step k2)
end
end Go.Abs
namespace Go.Abs
variable [iG]
open Go
section
variable {P : Program} {n : Nat} {ds : List Deferred} {L : List Oper} {k : Nat}
end
end Go.Abs
namespace Go.Abs
variable [iG]
open Go
section
variable {P : Program} {o : Oper} {ρ : Operand → PV} {σ : List bA} {R S : PV → List bA → Prop}
end
end Go.Abs
namespace Go.Abs
variable [iG]
open Go
end Go.Abs
namespace Go.Abs
variable [iG]
open Go
section
variable {P : Program} {n : Nat} {all : Array Oper} {l : List Oper} {env : Env} {σ : List bA} {ds : List Deferred} {Q : Post} {c : Code}
end
end Go.Abs
namespace Go.Abs
variable [iG]
open Go Go.Proofs Go.Sort Go.Lib Go.Shelf
end Go.Abs
namespace Go.Ft
open Go Go.Lib
theorem FJ :∀ s t:Str,Go.Lib.index s t=match zP s t with | none=>-1 | some i=>(i:Int)
 | [],t=>by
  unfold Go.Lib.index zP; cases t.isEmpty <;> rfl
 | b :: l,t=>by
  unfold Go.Lib.index zP; rw [FJ l t]; cases t.isPrefixOf (b :: l) with
  | true=>rfl
  | false=>
   simp only [Bool.false_eq_true,if_false]; cases zP l t with
   | none=>rfl
   | some i=>
    have:(((i:Nat):Int) == -1)=false:=by rw [beq_eq_false_iff_ne]; omega
    simp only [this,Bool.false_eq_true,if_false,Option.map_some]; show (i:Int) + 1=((i + 1:Nat):Int); omega
theorem UQ (s t:Str):Go.Lib.contains s t=(zP s t).isSome:=by
 unfold Go.Lib.contains; rw [FJ]; cases zP s t with
 | none=>rfl
 | some i=>simp
theorem SK {s t:Str} {i:Nat} (h:zP s t=some i):i + t.length≤s.length:=by
 have:=index_room s t (by rw [FJ,h]; exact Int.natCast_nonneg i); rw [FJ,h] at this; simp only at this; omega
theorem Vn {t:Str} (ht:t≠[]):∀ (n:Nat) (s:Str) (f k:Nat),s.length < n→n≤f→n≤k→splitK t 0 (countFrom t f s) s=Ec t k s
 | 0,s,f,k,h,_,_=>by omega
 | n + 1,s,f,k,h,hf,hk=>by
  obtain ⟨f,rfl⟩:∃ g,f=g + 1:=⟨f - 1,by omega⟩; obtain ⟨k,rfl⟩:∃ g,k=g + 1:=⟨k - 1,by omega⟩; rw [countFrom,Ec,FJ]; cases hi:zP s t with
  | none=>simp [splitK]
  | some i=>
   have hr:=SK hi; have htl:0 < t.length:=List.length_pos_iff.2 ht; have hb:(((i:Nat):Int) == -1)=false:=by rw [beq_eq_false_iff_ne]; omega
   simp only [hb,Bool.false_eq_true,if_false,Int.toNat_natCast]; rw [Nat.add_comm 1,splitK,FJ,hi]; simp only [hb,Bool.false_eq_true,if_false,Int.toNat_natCast,Nat.add_zero]; rw [Vn ht n (s.drop (i + t.length)) f k (by simp; omega) (by omega) (by omega)]
theorem UD :∀ (l:List Str) (t:Str),Go.Lib.join l t=J6 l t
 | [],_=>rfl
 | [x],t=>by rw [J6,join_one]
 | x :: y :: r,t=>by
  rw [J6,←UD (y :: r) t,join_cons,join_cons]; simp [joinTail]
theorem Y5 :∀ (k u:Nat),u < 10 ^ (k + 1)→tY (k + 1) u=decDigits u
 | 0,u,h=>by rw [tY,decDigits,if_pos (by simpa using h),dif_pos (by simpa using h)]
 | k + 1,u,h=>by
  rw [tY,decDigits]; by_cases hu:u < 10
  · rw [if_pos hu,dif_pos hu]
  · rw [if_neg hu,dif_neg hu,Y5 k (u / 10) (by rw [Nat.pow_succ] at h; omega)]
theorem acH {n:Int} (h1:-9223372036854775808≤n) (h2:n≤9223372036854775807):VA n=itoa n:=by
 unfold VA itoa; rw [Y5 19 _ (by have:(10:Nat) ^ 20=100000000000000000000:=(by decide); omega),Y5 19 _ (by have:(10:Nat) ^ 20=100000000000000000000:=(by decide); omega)]
theorem abd :∀ (l:Str) (acc:Nat),GK acc l=match parseUint10 acc l with | .ok v=>(0,v) | .range=>(2,0) | _=>(1,0)
 | [],acc=>rfl
 | c :: r,acc=>by
  rw [GK,parseUint10]; split
  ·
   split
   · rfl
   ·
    split
    · rfl
    · exact abd r _
  · rfl
theorem acX (l:Str):Cn l=match atoiAll l with | .ok v=>(0,v) | .range=>(2,atoiSat l) | _=>(1,0):=by
 cases l with
 | nil=>rfl
 | cons c r=>
  have afd:atoiSat (c :: r)=if c.toNat=45 then -9223372036854775808 else 9223372036854775807:=by
   unfold atoiSat; simp
  rw [afd]; unfold Cn atoiAll parseMag; simp only; generalize (if c.toNat=43∨c.toNat=45 then r else c :: r)=body; by_cases hb:body=[]
  · simp [hb]
  ·
   rw [if_neg hb,if_neg hb,abd]; cases parseUint10 0 body with
   | ok u=>
    simp only; by_cases h1:¬c.toNat=45∧9223372036854775808≤u
    · simp [h1]
    ·
     by_cases h2:c.toNat=45∧9223372036854775808 < u
     · simp [h1,h2]
     · simp [h1,h2]
   | _=>rfl
end Go.Ft
namespace Go.Abs
variable [iG]
open Go Go.Proofs Go.Lib Go.Shelf Go.RowKit
theorem vD (hD:¬ iG.D) {w w':World} {m:jO} (hc:Conc w m []) (hb:Below w.heap.size w w'):Conc w' m []∧Trans w m [] w' m []:=by
 have hle:Le w m w' m:=fun b off hm=>⟨hm,World.cell?_of_block (w:=w) (hb.block b (hc.wf b off hm))⟩
 exact ⟨⟨fun r hr=>by simp at hr,by simp [kI],fun b off hm=>Nat.lt_of_lt_of_le (hc.wf b off hm) hb.size,iG.mono hle hc.rE⟩,
  ⟨hb.os,hb.tape,hb.output,hb.size,hle,fun b hlt _=>⟨hb.block b hlt,fun _ h=>h⟩,fun b hb=>by simp [kI] at hb,fun d=>absurd d hD⟩⟩
section
variable {P : Program} {ρ : Ren} {R : eT → List bA → Prop}
theorem AC.contains (L:Lays.n144 P ρ) {s t:List UInt8} (hs:s.length < 4294967281) (hm:∀ (w:World) (m:jO),iG.G w m→∃ n:Int,w.cell? ⟨ρ.g 1,0,Option.none⟩=some (.int .i64 n))
  (h:R (.ret (.bool (Ft.zP s t).isSome)) []):AC P (ρ.f 144) [.str s,.str t] [] R:=by
 intro w m vs hc hv; simp only [bC,dU] at hv; obtain ⟨v0,vs0,rfl,rfl,v1,vs1,rfl,rfl,rfl⟩:=hv; obtain ⟨n,hn⟩:=hm w m hc.rE; refine (Any.strings_Contains L ⟨s.toArray⟩ ⟨t.toArray⟩ n w (by simpa [ByteArray.size] using hs) hn).mono ?_; rintro en w' ⟨rfl,rfl⟩; exact ⟨_,_,m,h,⟨_,rfl,by simp only [dU]; rw [Ft.UQ]⟩,hc,Trans.refl _ _ _⟩
theorem AC.itoa (hD:¬ iG.D) (L:LaysM.n171 P ρ) {n:Int} (h0:-9223372036854775808≤n) (h1:n≤9223372036854775807) (ht:∀ (w:World) (m:jO),iG.G w m→Lib.TabIs P w "internal/strconv.uint64pow10" .u64 Lib.pow10Tab)
  (h:R (.ret (.str (Ft.VA n))) []):AC P (ρ.f 171) [.int .i64 n] [] R:=by
 intro w m vs hc hv; simp only [bC,dU] at hv; obtain ⟨v0,vs0,rfl,rfl,rfl⟩:=hv; refine (Any.strconv_Itoa L n h0 h1 w (ht w m hc.rE)).mono ?_; rintro en w' ⟨rfl,k,os,rfl⟩; have hb:Below w.heap.size w (Sort.grow (w.drewN k) os):=⟨rfl,rfl,rfl,by rw [Sort.size_grow]; exact Nat.le_add_right _ _,fun j hj=>Sort.heap_grow_old (w.drewN k) os hj⟩; obtain ⟨c1,c2⟩:=vD hD hc hb; exact ⟨_,_,m,h,⟨_,rfl,by simp only [dU]; rw [Ft.acH h0 h1]⟩,c1,c2⟩
theorem AC.atoi (hD:¬ iG.D) (L:LaysC.n172 P ρ) {s:List UInt8} (hs:s.length≤281474976710656) {E:TypeId} (hE:ρ.t 168=E)
  (hv1:∀ (w:World) (m:jO),iG.G w m→∃ ev,w.cell? ⟨ρ.g 15,0,Option.none⟩=some ev∧(ev=.nilIface∨∃ te pe,ev=.iface te pe)) (hv2:∀ (w:World) (m:jO),iG.G w m→∃ ev,w.cell? ⟨ρ.g 16,0,Option.none⟩=some ev∧(ev=.nilIface∨∃ te pe,ev=.iface te pe))
  (h:R (.ret (.tuple [.int .i64 (Ft.Cn s).2,.err (if (Ft.Cn s).1=0 then Option.none else some E)])) []):AC P (ρ.f 172) [.str s] [] R:=by
 subst hE; intro w m vs hc hv; simp only [bC,dU] at hv; obtain ⟨v0,vs0,rfl,rfl,rfl⟩:=hv; have hF:=Ft.acX s; have hsz:(⟨s.toArray⟩:ByteArray).size=s.length:=by simp [ByteArray.size]
 have tup:∀ (w':World) (a:Int) (e:Option TypeId) (x:Value),dU w' m (.err e) x→dU w' m (.tuple [.int .i64 a,.err e]) (.tuple #[.int .i64 a,x]):=fun w' a e x hx=>by
  simp only [dU]; exact ⟨[.int .i64 a,x],rfl,bC.cons (by simp only [dU]) (bC.cons hx bC.nil)⟩
 cases ha:atoiAll s with
 | ok v=>
  rw [ha] at hF; simp only at hF; rw [hF] at h; refine (Any.strconv_Atoi_ok L ⟨s.toArray⟩ (by rw [hsz]; omega) v (by simpa using ha) w).mono ?_; rintro en w' ⟨rfl,hw⟩
  have hb:Below w.heap.size w w':=by
   rcases hw with rfl | ⟨t,rfl⟩
   · exact Below.refl _ _
   ·
    refine ⟨rfl,rfl,rfl,?_,fun j hj=>Lib.bytesWorld_at_old w _ _ j hj⟩; have hsz2:(Lib.bytesWorld w (ρ.t 5) t).heap.size=w.heap.size + 1:=Lib.bytesWorld_size ..; omega
  obtain ⟨c1,c2⟩:=vD hD hc hb; exact ⟨_,_,m,h,⟨_,rfl,tup _ _ Option.none _ (by simp only [dU])⟩,c1,c2⟩
 | range=>
  rw [ha] at hF; simp only at hF; rw [hF] at h; obtain ⟨ev,e1,e2⟩:=hv2 w m hc.rE; refine (Any.strconv_Atoi_range L ⟨s.toArray⟩ (by rw [hsz]; exact hs) (by simpa using ha) ev w e1 e2).mono ?_; rintro en w' ⟨N,rfl,_,_,hb⟩; obtain ⟨c1,c2⟩:=vD hD hc hb; exact ⟨_,_,m,h,⟨_,rfl,tup _ _ (some _) _ (by simp only [dU]; exact ⟨_,rfl⟩)⟩,c1,c2⟩
 | _=>
  rw [ha] at hF; simp only at hF; rw [hF] at h; obtain ⟨ev,e1,e2⟩:=hv1 w m hc.rE; refine (Any.strconv_Atoi_syntax L ⟨s.toArray⟩ (by rw [hsz]; exact hs) (by simpa using ha) ev w e1 e2).mono ?_; rintro en w' ⟨N,rfl,_,_,hb⟩; obtain ⟨c1,c2⟩:=vD hD hc hb; exact ⟨_,_,m,h,⟨_,rfl,tup _ _ (some _) _ (by simp only [dU]; exact ⟨_,rfl⟩)⟩,c1,c2⟩
theorem RZ {w:World} {m:jO} {b:Nat}:∀ {l:List (List UInt8)} {off:Nat},kD w m b 1 off (l.map fun s=>[PV.str s])→∀ (j:Nat) (x:ByteArray),(l.map fun s=>(⟨s.toArray⟩:ByteArray))[j]?=some x→m b (off + j)∧w.cell? ⟨b,off + j,Option.none⟩=some (.string x)
 | [],_,_,j,x,h=>by simp at h
 | s :: l,off,hr,j,x,h=>by
  simp only [List.map_cons,kD,oN,dU] at hr; obtain ⟨⟨_,⟨v,h1,h2,h3⟩,_⟩,h4⟩:=hr; cases j with
  | zero=>
   simp only [List.map_cons,List.getElem?_cons_zero,Option.some.injEq] at h; subst h; rw [h3] at h2; exact ⟨h1,h2⟩
  | succ j=>
   simp only [List.map_cons,List.getElem?_cons_succ] at h; have:=RZ h4 j x h; rw [show off + (j + 1)=off + 1 + j from by omega]; exact this
theorem AC.join (hD:¬ iG.D) (L:Lays.n156 P ρ) (X:Builder.Extra P ρ) {l:List (List UInt8)} {t:List UInt8} (hl:l.length≤140737488355328) (hj:(Ft.J6 l t).length≤140737488355328)
  (h:R (.ret (.str (Ft.J6 l t))) []):AC P (ρ.f 156) [.list (l.map fun s=>[PV.str s]),.str t] [] R:=by
 intro w m vs hc hv; simp only [bC] at hv; obtain ⟨v0,vs0,rfl,h1,v1,vs1,rfl,h2,rfl⟩:=hv; simp only [dU] at h1 h2; obtain ⟨a,cap,rfl,hcap,hel⟩:=h1; subst h2; have hml:(l.map fun s=>[PV.str s]).length=l.length:=List.length_map _; rw [hml] at hcap ⊢
 have hdata:(l.map fun s=>(⟨s.toArray⟩:ByteArray)).map (·.data.toList)=l:=by
  rw [List.map_map]; exact (List.map_congr_left (fun s _=>by simp)).trans (List.map_id l)
 rcases hel with he | ⟨b,off,sz,rfl,he⟩
 ·
  have hl0:l=[]:=List.map_eq_nil_iff.1 he; subst hl0; refine (Any.strings_Join_none L X a cap ⟨t.toArray⟩ w).mono ?_; rintro en w' ⟨rfl,rfl⟩; exact ⟨_,_,m,h,⟨_,rfl,by simp only [dU]; rfl⟩,hc,Trans.refl _ _ _⟩
 ·
  cases hl0:l with
  | nil=>
   subst hl0; refine (Any.strings_Join_none L X _ cap ⟨t.toArray⟩ w).mono ?_; rintro en w' ⟨rfl,rfl⟩; exact ⟨_,_,m,h,⟨_,rfl,by simp only [dU]; rfl⟩,hc,Trans.refl _ _ _⟩
  | cons x r=>
   have hsz:sz=1:=by
    rw [hl0] at he; simp only [List.map_cons,kD] at he; exact he.1.1.symm
   subst hsz; rw [←hl0]; have hcell:=RZ he; have hbk:b < w.heap.size:=hc.wf b (off + 0) (hcell 0 ⟨x.toArray⟩ (by simp [hl0])).1; have hlm:(l.map fun s=>(⟨s.toArray⟩:ByteArray)).length=l.length:=List.length_map _
   have key:=Any.strings_Join L X b off cap (l.map fun s=>(⟨s.toArray⟩:ByteArray)) ⟨t.toArray⟩ w (fun j x hx=>(hcell j x hx).2) hbk (by rw [hlm]; exact hl) (by rw [hlm]; exact hcap)
    (by rw [hdata]; simpa [Ft.UD] using hj)
   rw [hlm,hdata] at key; refine key.mono ?_; rintro en w' ⟨rfl,hb⟩; obtain ⟨c1,c2⟩:=vD hD hc hb; exact ⟨_,_,m,h,⟨_,rfl,by simp only [dU]; rw [Ft.UD]⟩,c1,c2⟩
theorem AC.split (L:Lays.n146 P ρ) (hi9:(P.info? (ρ.t 9)).map (fun i=>(i.zero,i.size,i.bytes))=some (some (.string ByteArray.empty),1,16)) {s t:List UInt8} (hs:s.length < 4294967281) (ht:t≠[])
  (hm:∀ (w:World) (m:jO),iG.G w m→∃ n:Int,w.cell? ⟨ρ.g 1,0,Option.none⟩=some (.int .i64 n))
  (h:R (.ret (.list ((Ft.Ec t (s.length + 1) s).map fun s=>[PV.str s]))) []):AC P (ρ.f 146) [.str s,.str t] [] R:=by
 intro w m vs hc hv; simp only [bC,dU] at hv; obtain ⟨v0,vs0,rfl,rfl,v1,vs1,rfl,rfl,rfl⟩:=hv; obtain ⟨n,hn⟩:=hm w m hc.rE; have htl:1≤t.length:=List.length_pos_iff.2 ht; have hts:1≤(⟨t.toArray⟩:ByteArray).size:=by simpa [ByteArray.size] using htl
 refine (Any.strings_Split L hi9 ⟨s.toArray⟩ ⟨t.toArray⟩ n w (by simpa [ByteArray.size] using hs) hn hts).mono ?_; rintro en w' ⟨rfl,rfl⟩; have hall:=Lib.splitB_all ⟨t.toArray⟩ hts 0 _ ⟨s.toArray⟩ rfl
 have hdata:(Lib.splitB ⟨t.toArray⟩ 0 (Lib.countB ⟨s.toArray⟩ ⟨t.toArray⟩) ⟨s.toArray⟩).map (·.data.toList)=Ft.Ec t (s.length + 1) s:=by
  rw [splitB_data]; exact Ft.Vn ht (s.length + 1) s (s.length + 1) (s.length + 1) (Nat.lt_succ_self _) (Nat.le_refl _) (Nat.le_refl _)
 have hlen:Lib.countB ⟨s.toArray⟩ ⟨t.toArray⟩ + 1=(Ft.Ec t (s.length + 1) s).length:=by rw [←hdata,List.length_map,hall]
 have aec:(Lib.splitB ⟨t.toArray⟩ 0 (Lib.countB ⟨s.toArray⟩ ⟨t.toArray⟩) ⟨s.toArray⟩).map Value.string=(Ft.Ec t (s.length + 1) s).map fun s=>Value.string ⟨s.toArray⟩:=by
  rw [←hdata,List.map_map]; exact List.map_congr_left fun x _=>by simp
 rw [hlen,aec]; generalize Ft.Ec t (s.length + 1) s=r at h ⊢; have hcl:=qA hc (.cells (r.map fun s=>Value.string ⟨s.toArray⟩).toArray (ρ.t 9)) (fun _=>True); have htr:=jh (σ':=[]) hc (.cells (r.map fun s=>Value.string ⟨s.toArray⟩).toArray (ρ.t 9)) (fun _=>True) (fun b hb=>by simp [kI] at hb); have href:=Cq hc (r.map fun s=>Value.string ⟨s.toArray⟩) (r.map PV.str) (LJ r) (ρ.t 9); refine ⟨_,_,_,h,⟨_,rfl,?_⟩,hcl,htr⟩; simp only [dU]; have hml:(r.map fun s=>[PV.str s]).length=r.length:=List.length_map _; rw [hml]; refine ⟨_,_,rfl,Nat.le_refl _,.inr ⟨w.heap.size,0,1,rfl,oZ.2 ⟨fun e he=>?_,?_⟩⟩⟩
 · obtain ⟨x,_,rfl⟩:=List.mem_map.1 he; rfl
 ·
  have hfl:(r.map fun s=>[PV.str s]).flatten=r.map PV.str:=by
   clear h hcl htr href hml
   induction r with
   | nil=>rfl
   | cons x r ih=>simp [ih]
  rw [hfl]; exact href
end
end Go.Abs
namespace Go.Abs
open Go
@[reducible] def aep (ints errs:List Nat) (tabs:List (Nat × List Value)):iG where
 G:=fun w m=>(∀ g∈ints,m g 0∧∃ n:Int,w.cell? ⟨g,0,none⟩=some (.int .i64 n))∧(∀ g∈errs,m g 0∧∃ u v,w.cell? ⟨g,0,none⟩=some (.iface u v))∧∀ p∈tabs,∀ off,m p.1 off∧w.cell? ⟨p.1,off,none⟩=p.2[off]?
 mono:=fun {w w' m m'} hle ⟨h1,h2,h3⟩=>⟨fun g hg=>by
   obtain ⟨a,n,b⟩:=h1 g hg; obtain ⟨c,d⟩:=hle g 0 a
   exact ⟨c,n,by rw [d,b]⟩,fun g hg=>by
   obtain ⟨a,u,v,b⟩:=h2 g hg; obtain ⟨c,d⟩:=hle g 0 a
   exact ⟨c,u,v,by rw [d,b]⟩,fun p hp off=>by
   obtain ⟨a,b⟩:=h3 p hp off; obtain ⟨c,d⟩:=hle p.1 off a
   exact ⟨c,by rw [d,b]⟩⟩
 D:=False
theorem M7 {W:World} {g off:Nat} {v:Value} (h:W.cell? ⟨g,off,none⟩=some v):uY W g 0:=by
 unfold World.cell? at h; show g < W.heap.size; rcases Nat.lt_or_ge g W.heap.size with hl | hl
 · exact hl
 ·
  simp only at h; rw [Array.getElem?_eq_none hl] at h; cases h
theorem Mv {P:Program} {n nm:String} {d:DataW Unit} {r:List (String × DataW Unit)} {W:World} {g t:Nat} {ms:Array (String × TypeId)} (h:laidMet P ((n,.iface nm d) :: r) W) (hg:P.globalNamed n=some g)
  (ht:(P.globals[g]?).map (·.type)=some t) (hi:P.underlying t=some (.interface ms)):∃ u v,W.cell? ⟨g,0,none⟩=some (.iface u v):=by
 obtain ⟨ps,⟨g0,t0,cs0,f0,p0,q0,hg0,ht0,hv0,hd0,_,e0⟩,_,_⟩:=h; obtain rfl:=Option.some.inj (hg.symm.trans hg0); obtain rfl:=Option.some.inj (ht.symm.trans ht0); obtain ⟨l0⟩:=cs0; cases f0 with
 | zero=>simp [DataW.trod] at hd0
 | succ f0=>
  unfold DataW.trod at hd0; rw [hi] at hd0; simp only at hd0; split at hd0 <;> first | (cases hd0; done) | skip
  all_goals first
   | (rename_i e; cases e; done)
   | skip
  all_goals simp_all
  all_goals exact ⟨_,_,by simpa using World.var?_cell hg0 hv0 0⟩
theorem V9 {P:Program} {w:World} {name:String} {k:IntKind} {zs:List Int} {g:Nat} (hg:P.globalNamed name=some g) (h:Lib.TabIs P w name k zs):∀ off,uY w g off∧w.cell? ⟨g,off,none⟩=(zs.map fun z=>Value.int k z)[off]?:=by
 intro off; unfold Lib.TabIs World.var? at h; rw [hg] at h; simp only [Option.bind_some] at h; split at h
 ·
  rename_i cs t f hc; cases h; refine ⟨?_,?_⟩
  ·
   show g < w.heap.size; rcases Nat.lt_or_ge g w.heap.size with hl | hl
   · exact hl
   · rw [Array.getElem?_eq_none hl] at hc; cases hc
  ·
   unfold World.cell?; simp only [hc]; simp
 · cases h
theorem Xo {P:Program} {w:World} {name:String} {k:IntKind} {zs:List Int} {g:Nat} (hg:P.globalNamed name=some g) (hne:zs≠[]) (h:∀ off,w.cell? ⟨g,off,none⟩=(zs.map fun z=>Value.int k z)[off]?):Lib.TabIs P w name k zs:=by
 unfold Lib.TabIs World.var?; rw [hg]; simp only [Option.bind_some]; have h0:=h 0
 obtain ⟨z,r,rfl⟩:∃ z r,zs=z :: r:=by
  cases zs with
  | nil=>exact absurd rfl hne
  | cons z r=>exact ⟨z,r,rfl⟩
 unfold World.cell? at h0; simp only at h0; split at h0
 ·
  rename_i cs t f hc; rw [hc]; simp only [Option.some.injEq]; apply Array.ext_getElem?; intro i; have hi:=h i; unfold World.cell? at hi; simp only [hc] at hi; simpa using hi
 · simp at h0
end Go.Abs
namespace Go.Abs
variable [iG]
open Go
section
variable {P : Program} {o : Oper} {ρ : Operand → PV} {σ : List bA} {R S : PV → List bA → Prop}
theorem X4 {α:Type} (C L:List α) (N off:Nat) (h1:off + L.length≤N) (h2:N≤C.length):(C.take N).take off ++ (L ++ (C.take N).drop (off + L.length))=(C.take off ++ (L ++ C.drop (off + L.length))).take N:=by
 have a1:(C.take off).length=off:=by rw [List.length_take]; omega
 rw [List.take_append,List.take_append,a1,List.take_of_length_le (l:=C.take off) (by omega),List.take_of_length_le (l:=L) (by omega),List.take_take,Nat.min_eq_left (by omega),List.drop_take,Nat.sub_sub]
theorem AO.Pj {t:TypeId} {x:Operand} {v:Value} {n sz e i off k:Nat} {ag:Bool} {cs:List PV} {p:PV} (ho:o.op=.load t x) (hx:ρ x=.val (.pointer (some ⟨v.blk,off,none⟩))) (hi:σ[i]?=some (bA.buf v n sz e cs))
  (ht:iW P t=some (ag,k)) (hlt:off < cs.length) (hp:vZ ag k (cs.drop off)=some p) (hR:R p σ):AO P o ρ σ R S:=by
 refine AO.of_same hR fun w m ev hr hc=>?_; have h:=hr x (by simp [ho,Op.operands]); rw [hx] at h; simp only [dU] at h; obtain ⟨xs,hrow,hrep,_⟩:=hc.each _ (List.mem_of_getElem? hi); have hl:=hrep.length_eq; have hn:=hrow.1
 have hb:v.ownBlock=some v.blk:=by
  rcases hrow.2 with ⟨_,rfl⟩ | ⟨g,cap,cur,fz,rfl,_⟩
  · omega
  · rfl
 obtain ⟨u,h5,h6⟩:=vH ht hp (hrep.drop off) (b:=v.blk) (off:=off) fun i u hu=>by
  rw [List.getElem?_drop] at hu; have hlt2:=(List.getElem?_eq_some_iff.1 hu).1; rw [hrow.cell hb (by omega)]; exact hu
 exact ⟨u,by simp [execOp,ho,Instr.loadAt,h,Instr.sureAddr,h5],h6⟩
theorem AO.Lv {t:TypeId} {x y:Operand} {v:Value} {n sz e i off k:Nat} {ag:Bool} {cs new cs':List PV} {σ':List bA} (ho:o.op=.store t x y) (hx:ρ x=.val (.pointer (some ⟨v.blk,off,none⟩))) (hi:σ[i]?=some (bA.buf v n sz e cs))
  (ht:iW P t=some (ag,k)) (hnew:(ρ y).wG=some new) (hone:new.all PV.one=true) (hk:new.length=k) (h0:0 < new.length) (hfit:off + new.length≤cs.length) (hput:putCells cs off new=cs') (hset:yI σ i (.buf v n sz e cs')=some σ') (hR:R .undef σ'):AO P o ρ σ R S:=by
 obtain ⟨hnew,hok⟩:=zo hnew; have hnew:=hnew.symm; have hset:=KP hset; subst hset; subst hput; intro w m a K QC hr hc hK _; have h:=hr x (by simp [ho,Op.operands]); have hy:=hr y (by simp [ho,Op.operands]); rw [hx] at h; simp only [dU] at h; obtain ⟨xs,hrow,hrep,hm⟩:=hc.each _ (List.mem_of_getElem? hi); have hyl:=hy.cells hok; rw [hnew] at hyl; have hl:=hyl.length_eq; have hl2:=hrep.length_eq; have hn:=hrow.1; rcases hrow.2 with ⟨_,rfl⟩ | ⟨g,cap,cur,fz,rfl,hg,hfz,hnc,hcm,hcs,htake⟩
 · omega
 have hle:n * sz≤cap * sz:=Nat.mul_le_mul_right _ hnc; have hst:=vG P g off e fz (a.eval y).cells.toList 0 cur w hg (by simp at hl ⊢; omega) (fun j hj=>by rcases hfz with h | h <;> omega) (hyl.oneCell hone); obtain ⟨_,hsz⟩:=yZ ht w; have hsize:(a.eval y).cells.size=k:=by rw [←Array.length_toList,hl,hk]
 generalize hL:(a.eval y).cells.toList=L at *
 have hrun:(execOp a.eval o).run P w=.ok .skip (w.setRow g (cur.toList.take off ++ (L ++ cur.toList.drop (off + L.length))).toArray):=by
  simp only [execOp,ho,Instr.storeAt,h,Instr.sureAddr,storeVar,Sem.run_bind,Sem.run_pure,Result.andThen_ok,hsz,hsize,ne_eq,not_true_eq_false,if_false]; rw [show Go.Value.blk (.slice (some ⟨g,0,none⟩) n cap)=g from rfl,hL,hst]; simp
 have hxs:xs.take off ++ (L ++ xs.drop (off + L.length))=(cur.toList.take off ++ (L ++ cur.toList.drop (off + L.length))).take (n * sz):=by
  have hcl:cur.toList.length=cap * sz:=by simpa using hcs
  rw [←htake]; exact X4 _ _ _ _ (by omega) (by omega)
 have hl':bC w m (putCells cs off new) (xs.take off ++ (L ++ xs.drop (off + L.length))):=by
  unfold putCells; refine (hrep.take off).append (hyl.append ?_); rw [hl]; exact hrep.drop _
 have hother:∀ k,k≠g→(w.setRow g (cur.toList.take off ++ (L ++ cur.toList.drop (off + L.length))).toArray).heap[k]?=w.heap[k]?:=fun k hk=>setRow_other w g k _ hk; have hmg:∀ off,¬ m g off:=hm g rfl; have hle':Le w m (w.setRow g (cur.toList.take off ++ (L ++ cur.toList.drop (off + L.length))).toArray) m:=fun c off' hco=>⟨hco,World.cell?_of_block (w:=w) (hother c (fun e=>by subst e; exact hmg off' hco))⟩
 have hsz':(cur.toList.take off ++ (L ++ cur.toList.drop (off + L.length))).length=cur.size:=by
  simp only [List.length_append,List.length_take,List.length_drop,Array.length_toList]; omega
 obtain ⟨k1,k2⟩:=Conc.write (b:=g) (r':=.buf (.slice (some ⟨g,0,none⟩) n cap) n sz e (putCells cs off new)) (w':=w.setRow g (cur.toList.take off ++ (L ++ cur.toList.drop (off + L.length))).toArray) hc hi rfl rfl hmg
  ⟨xs.take off ++ (L ++ xs.drop (off + L.length)),⟨by simp only [List.length_append,List.length_take,List.length_drop]; omega,.inr ⟨g,cap,_,fz,rfl,setRow_heap w g cur _ e _ hg,by
   rcases hfz with h | h
   · exact .inl h
   · right; rw [List.size_toArray,hsz']; exact h,hnc,hcm,by rw [List.size_toArray,hsz']; exact hcs,hxs.symm⟩⟩,bC.mono hle' _ _ hl',hm⟩ ⟨rfl,rfl,rfl⟩ (by simp [World.setRow]) hother
 unfold Oper.wp; rw [hrun]; exact hK .undef _ _ _ m hR trivial k1 k2
end
theorem MW {w:World} {m:jO} {σ:List bA} {i b:Nat} {cs cs':List PV} (hi:σ[i]?=some (.box b cs)) (hc:Conc w m σ) (h:∀ vs,bC w m cs vs→bC w m cs' vs):Conc w m (σ.set i (.box b cs'))∧Trans w m σ w m (σ.set i (.box b cs')):=by
 have hf:kI (σ.set i (.box b cs'))=kI σ:=by
  clear hc h
  induction σ generalizing i with
  | nil=>rfl
  | cons r σ ih=>
   cases i with
   | zero=>
    simp only [List.getElem?_cons_zero,Option.some.injEq] at hi; subst hi; simp [kI,bA.fp]
   | succ i=>
    simp only [List.getElem?_cons_succ] at hi; have:=ih hi; simp only [kI,List.set_cons_succ,List.flatMap_cons] at this ⊢; rw [this]
 refine ⟨⟨fun r hr=>?_,by rw [hf]; exact hc.apart,hc.wf,hc.rE⟩,⟨rfl,rfl,rfl,Nat.le_refl _,Le.refl _ _,fun _ _ _=>⟨rfl,fun _ h=>h⟩,fun x hx=>.inl (by rw [←hf]; exact hx),fun _=>Nat.le_refl _⟩⟩; rcases List.mem_or_eq_of_mem_set hr with h' | h'
 · exact hc.each r h'
 ·
  subst h'; obtain ⟨vs,ty,h1,h2,h3⟩:=hc.each _ (List.mem_of_getElem? hi); exact ⟨vs,ty,h1,h vs h2,h3⟩
theorem bC.atV {w:World} {m:jO} {v:Value} {l:List (List PV)} (hv:dU w m (.list l) v):∀ (k:Nat) (cs:List PV) (vs:List Value),cs[k]?=some (.val v)→bC w m cs vs→bC w m (cs.set k (.list l)) vs
 | 0,[],_,h,_=>by simp at h
 | k + 1,[],_,h,_=>by simp at h
 | 0,c :: cs,vs,h,hr=>by
  simp only [List.getElem?_cons_zero,Option.some.injEq] at h; subst h; simp only [bC] at hr; obtain ⟨u,vs',rfl,h1,h2⟩:=hr; simp only [dU] at h1; subst h1; exact bC.cons hv h2
 | k + 1,c :: cs,vs,h,hr=>by
  simp only [bC] at hr; obtain ⟨u,vs',rfl,h1,h2⟩:=hr; exact bC.cons h1 (bC.atV hv k cs vs' (by simpa using h) h2)
theorem AW.aas {P:Program} {k:Nat} {c:Code} {env:Env} {σ:List bA} {ds:List Deferred} {Q:Post} {v:Value} {n sz e b q:Nat} {cs cells:List PV} (i j:Nat) (l:List (List PV)) (hi:σ[i]?=some (bA.buf v n sz e cs)) (hj:(σ.set i (.row v n sz e))[j]?=some (.box b cells)) (hq:cells[q]?=some (.val v))
  (hl:l.flatten=cs) (hsz:∀ x∈l,x.length=sz) (hn:l.length=n) (h:AW P k c env ((σ.set i (.row v n sz e)).set j (.box b (cells.set q (.list l)))) ds Q):AW P k c env σ ds Q:=by
 intro w m a QC hs ha; obtain ⟨m',h1,h2,h3⟩:=hs.jm.freeze hi hl hsz hn; obtain ⟨k1,k2⟩:=MW hj h2 fun vs hvs=>bC.atV h1.weak q cells vs hq hvs; exact h w m' a QC ⟨hs.size,hs.ds,fun u=>dU.mono h3.le _ _ (hs.env u),k1⟩ (ha.step (h3.trans k2))
end Go.Abs
namespace Go.Abs
theorem Ii {α:Type} {f:α→List PV} {k:Nat} (hf:∀ x,(f x).length=k):∀ l:List α,(l.flatMap f).length=l.length * k
 | []=>by simp
 | x :: r=>by rw [List.flatMap_cons,List.length_append,hf,Ii hf r,List.length_cons,Nat.add_mul]; omega
end Go.Abs
namespace Go.Abs
variable [iG]
theorem AR.VR {P:Program} {n:Nat} {all:Array Oper} {lo:List Oper} {env:Env} {σ:List bA} {ds:List Deferred} {Q:Post} {v:Value} {k sz e:Nat} {cs:List PV} (i:Nat) (hi:σ[i]?=some (bA.buf v k sz e cs)) (h:PV.wG (.val v)=some [.val v]→[PV.val v].all PV.one=true→AR P n all lo env σ ds Q):AR P n all lo env σ ds Q:=by
 intro w m a QC hs ha; obtain ⟨xs,hrow,_,_⟩:=hs.jm.each _ (List.mem_of_getElem? hi)
 have hv:v.oneCell'=true:=by
  rcases hrow.2 with ⟨rfl,_⟩ | ⟨g,cap,cur,fz,rfl,_⟩ <;> rfl
 exact h (by simp [PV.wG,hv]) (by simp [PV.one,hv]) w m a QC hs ha
end Go.Abs
namespace Go.Abs
variable [iG]
open Go
theorem Less.nil {e:Env}:Less [] e:=fun _=>.inl rfl
theorem Less.add {e e':Env} {t:Nat} {p:PV} (h:e.get t=p) (k:Less e' e):Less ((t,p) :: e') e:=by
 intro u; simp only [Env.get]; cases hb:Nat.beq t u with
 | false=>exact k u
 | true=>
  have:=Nat.eq_of_beq_eq_true hb; subst this; exact .inr h.symm
section
variable {P : Program} {n : Nat} {ds : List Deferred} {L : List Oper}
def AD (P:Program) (n:Nat) (L:List Oper) (env:Env) (σ:List bA) (ds:List Deferred) (Q:Post):Prop:=
 ∀ w m a QC,p9 w m n env σ ds a→Acc n Q w m σ QC→wpAny P .any L.toArray QC L.toArray.size (Array.replicate L.toArray.size false) a {w with drawn:=w.drawn + 1}
theorem AD.VG {env:Env} {σ:List bA} {Q:Post} (k k2:Nat) (σ1 σ2:List bA) (J:(Nat→Bool)→Env→List bA→Prop) (ho:Ja L k k2=true) (hk:Nat.ble k k2=true) (hk2:Nat.ble k2 L.length=true)
  (hperm:σ.Perm (σ1 ++ σ2))
  (h:Ev P n L.toArray σ1 env (L.take k) fun env'=>J (fun i=>Nat.blt i k) env' σ2)
  (hI:∀ S S' e s,(∀ i,k≤i→i < k2→S i=S' i)→J S e s→J S' e s)
  (hT:∀ S e σ2 i o,J S e σ2→k≤i→i < k2→S i=false→(∀ j∈gT o,k≤j→S j=true)→L[i]?=some o→o.guard=none∧(∀ t,o.dst=some t→t < n)∧
   AO P o e.ev σ2 (fun p uN=>J (fun j=>if i=j then true else S j) (Ku o.dst p e) uN) (fun p uN=>Q (.panic p) [] (σ1 ++ uN) ds))
  (hend:∀ S e σ2,(∀ i,k≤i→i < k2→S i=true)→J S e σ2→AR P n L.toArray (L.drop k2) e (σ1 ++ σ2) ds Q):
  AD P n L env σ ds Q:=by
 intro w m a QC hs ha; have hk:k≤k2:=Nat.le_of_ble_eq_true hk; have hk2:k2≤L.length:=Nat.le_of_ble_eq_true hk2; have ho:=Pd hk ho; obtain ⟨d,p,h1,h2⟩:=Ev.facts h; rw [List.length_take,Nat.min_eq_left (by omega)] at h2; have AA:Trans w m σ {w with drawn:=w.drawn + 1} m σ:=⟨rfl,rfl,rfl,Nat.le_refl _,fun _ _ h=>⟨h,rfl⟩,fun _ _ _=>⟨rfl,fun _ h=>h⟩,fun _ h=>.inl h,fun _=>Nat.le_succ _⟩; have hc':Conc {w with drawn:=w.drawn + 1} m σ:=⟨fun r hr=>bA.uT (hs.jm.each r hr) AA.le fun _ _=>⟨rfl,fun _ h=>h⟩,hs.jm.apart,hs.jm.wf,iG.mono AA.le hs.jm.rE⟩; have MG:Trans w m σ {w with drawn:=w.drawn + 1} m (σ1 ++ σ2):=AA.perm (.refl _) hperm; have h1':∀ i o,i < k→L[i]?=some o→o.dst=some (d i)∧d i < n∧uH P L.toArray (o8 (fun _=>true) d p env i) σ1 o (p i):=fun i o hi hoi=>h1 i o (by rw [List.getElem?_take_of_lt hi]; exact hoi); have hd:∀ i o,i < k→L[i]?=some o→o.dst=some (d i)∧d i < n:=fun i o hi hoi=>⟨(h1' i o hi hoi).1,(h1' i o hi hoi).2.1⟩; refine Vd 0 (fun _ _ _ _ h=>by omega) (ds:=ds) (d:=d) (σ1:=σ1) (Q:=Q) hk hk2 ho hd J hI hT hend _ _ a _ m (o8 (fun _=>true) d p env k) σ2 (by simp) ?_ ?_ ?_ ?_ ?_ ?_ (ha.step MG)
 · simp
 ·
  intro j _ hj; simp [Array.getD,hj]
 ·
  intro i o hoi hl
  have MI:i < L.length:=by
   rcases Nat.lt_or_ge i L.length with h | h
   · exact h
   · simp [List.getElem?_eq_none h] at hoi
  simp [Array.getD,MI] at hl
 ·
  intro i o hi hoi _; obtain ⟨f1,f2,f3⟩:=h1' i o hi hoi
  have hother:∀ t,(o.dst=some t∨t∈readsOf L o)→∀ j,(i≤j∧t∈readsOf L o∨i + 1≤j)→j < k→d j≠t:=by
   intro t ht j hj hjk hdj; have hoj:L[j]?=some L[j]:=List.getElem?_eq_getElem (by omega); have e1:=(hd j _ hjk hoj).1; rw [hdj] at e1; by_cases e:i=j
   ·
    subst e; have e9:=Option.some.inj (hoi.symm.trans hoj); rw [←e9] at e1; rcases hj with ⟨_,hj⟩ | hj
    · exact ho.self i o t hi hoi e1 hj
    · omega
   ·
    obtain ⟨e2,e3⟩:=ho.apart i o j _ t hi hoi (by omega) hoj e e1; rcases ht with ht | ht
    · exact e2 ht
    ·
     have:=ho.before i o hoi j (e3 ht).2; omega
  have acO:(o8 (fun _=>true) d p env k).get (d i)=p i:=by
   rw [jB (i:=i + 1) (by omega) fun j h4 h5 _=>hother (d i) (.inl f1) j (.inr h4) h5]; simp [o8,Env.get]
  rw [acO,if_neg (by omega)]; refine uH.QM rfl f3 fun t ht=>?_; exact jB (by omega) fun j h4 h5 _=>hother t (.inr ht) j (.inl ⟨h4,ht⟩) h5
 ·
  refine hI _ _ _ _ (fun i hi hi2=>?_) h2; have MI:i < L.length:=by omega
  have hb:Nat.blt i k=false:=by
   cases e:Nat.blt i k with
   | false=>rfl
   | true=>have:=oM.1 e; omega
  rw [hb]; simp [Array.getD,MI]
 ·
  refine ⟨hs.size,hs.ds,fun t=>?_,hc'.perm hperm⟩; rw [sD]; split
  · simp [dU]
  ·
   rename_i hh; rw [jB (i:=0) (Nat.zero_le _)]
   · exact hs.env.mono AA.le t
   ·
    intro j _ hj _ hdj; apply hh; rw [List.any_eq_true]; have hjL:j < L.length:=by omega
    exact ⟨j,by simpa using hj,by simp [Array.getD,hjL,hdj]⟩
theorem AW.VG {env:Env} {σ:List bA} {Q:Post} {id:Nat} (k k2:Nat) (σ1 σ2:List bA) (J:(Nat→Bool)→Env→List bA→Prop) (hm:P.follows .mixedOrders=true) (ho:Ja L k k2=true) (hk:Nat.ble k k2=true) (hk2:Nat.ble k2 L.length=true)
  (hperm:σ.Perm (σ1 ++ σ2))
  (h:Ev P n L.toArray σ1 env (L.take k) fun env'=>J (fun i=>Nat.blt i k) env' σ2)
  (hI:∀ S S' e s,(∀ i,k≤i→i < k2→S i=S' i)→J S e s→J S' e s)
  (hT:∀ S e σ2 i o,J S e σ2→k≤i→i < k2→S i=false→(∀ j∈gT o,k≤j→S j=true)→L[i]?=some o→o.guard=none∧(∀ t,o.dst=some t→t < n)∧
   AO P o e.ev σ2 (fun p uN=>J (fun j=>if i=j then true else S j) (Ku o.dst p e) uN) (fun p uN=>Q (.panic p) [] (σ1 ++ uN) ds))
  (hend:∀ S e σ2,(∀ i,k≤i→i < k2→S i=true)→J S e σ2→AR P n L.toArray (L.drop k2) e (σ1 ++ σ2) ds Q):
  AW P n (.region id L.toArray true) env σ ds Q:=
 fun w m a QC hs ha=>wp_region_any hm (AD.VG k k2 σ1 σ2 J ho hk hk2 hperm h hI hT hend w m a QC hs ha)
end
end Go.Abs
namespace Go.Abs
variable [iG]
open Go Go.Ft
theorem WE {α:Type} (a b c d:α):[a,b,c,d].Perm ([b,c,d] ++ [a]):=by
 show (a :: [b,c,d]).Perm ([b,c,d] ++ [a]); exact (List.perm_append_singleton a [b,c,d]).symm
section
variable {P : Program} {o : Oper} {ρ : Operand → PV} {σ : List bA} {R S : PV → List bA → Prop}
theorem AO.Uj {src dst t e:TypeId} {x:Operand} {b i n k:Nat} {cs:List PV} {j:TypeInfo} (ho:o.op=.convert src dst x) (hs:P.underlying src=some (.pointer t)) (hd:P.underlying dst=some .unsafePointer) (ht:P.info? t=some j) (hj:(j.size != 0)=true)
  (hx:ρ x=.val (.pointer (some ⟨b,k,none⟩))) (hi:σ[i]?=some (bA.kY b e cs)) (hn:cs.length=k + n + 1) (hR:R (.val (.pointer (some ⟨b,k,none⟩))) σ):AO P o ρ σ R S:=by
 refine AO.of_same hR fun w m ev hr hc=>?_; have h1:=hr x (by simp [ho,Op.operands]); rw [hx] at h1; simp only [dU] at h1; obtain ⟨vs,g1,g2,_⟩:=hc.kY hi; have hsh:w.shape? b=some (e,vs.length):=by simp [World.shape?,g1]
 have hl:=g2.length_eq; refine ⟨.pointer (some ⟨b,k,none⟩),?_,by simp only [dU]⟩; have:=Lib.run_to_unsafe w ⟨b,k,none⟩ hs hd ht (by simpa using hj) hsh (by show k < vs.length; omega); simp [execOp,ho,h1,this]
theorem AO.QA {src dst u e:TypeId} {x:Operand} {b i n k:Nat} {cs:List PV} {j:TypeInfo} (ho:o.op=.convert src dst x) (hs:P.underlying src=some .unsafePointer) (hd:P.underlying dst=some (.pointer u)) (hu:P.info? u=some j)
  (hx:ρ x=.val (.pointer (some ⟨b,k,none⟩))) (hi:σ[i]?=some (bA.kY b e cs)) (hn:cs.length=n) (hlies:liesAt P P.depth e (n / P.cellsOf e) k u 1=true) (hR:R (.val (.pointer (some ⟨b,k,none⟩))) σ):AO P o ρ σ R S:=by
 refine AO.of_same hR fun w m ev hr hc=>?_; have h1:=hr x (by simp [ho,Op.operands]); rw [hx] at h1; simp only [dU] at h1; obtain ⟨vs,g1,g2,_⟩:=hc.kY hi; have hsh:w.shape? b=some (e,n):=by simp [World.shape?,g1,←hn,g2.length_eq]
 refine ⟨.pointer (some ⟨b,k,none⟩),?_,by simp only [dU]⟩; have:=Lib.run_from_unsafe w ⟨b,k,none⟩ hs hd hu hsh hlies; simp [execOp,ho,h1,this]
theorem AO.NZ {c:Call} {x y:Operand} {pt it e eu:TypeId} {b:Nat} {v p:Value} {q:PV} {bs:List UInt8} (ho:o.op=.call c) (kG:c.callee=.builtin .unsafeString) (hargs:c.args=#[x,y]) (hty:c.argTypes=#[pt,it])
  (hp:P.underlying pt=some (.pointer eu)) (hce:P.cellsOf eu=1) (hσ:σ=[.row v bs.length 1 eu,.kY b e [q,.val p,.own v (bs.map iQ)]]) (hx:ρ x=.val (.pointer (J2 v))) (hy:ρ y=.int .i64 bs.length)
  (hR:R (.str bs) [.kY b e [q,.val p,.own v (bs.map iQ)]]):AO P o ρ σ R S:=by
 subst hσ; refine AO.of_run' fun w m ev hr hc=>?_; have h1:=hr x (by simp [ho,Op.operands,Call.operands,kG,hargs]); have h2:=hr y (by simp [ho,Op.operands,Call.operands,kG,hargs]); rw [hx] at h1; rw [hy] at h2; simp only [dU] at h1 h2; have htb:=hc.each (.kY b e [q,.val p,.own v (bs.map iQ)]) (by simp); obtain ⟨vs,g1,g2,g2m⟩:=hc.each (.kY b e [q,.val p,.own v (bs.map iQ)]) (by simp); obtain ⟨xs,hrow,Oj⟩:=hc.each (.row v bs.length 1 eu) (by simp); have g2':=g2; simp only [bC] at g2; obtain ⟨v0,vs0,rfl,g0,v1,vs1,rfl,g3,v2,vs2,rfl,g4,rfl⟩:=g2; have hvv:v2=v:=by simp only [dU] at g4; exact g4.1
 rw [hvv] at g4; have hxs:=L6 hrow (by simp) (zq bs) g4; rw [z8] at hxs; have hxs:=(wS bs xs).1 hxs; subst hxs; have hap:=hc.apart; simp only [kI,bA.fp,List.flatMap_cons,List.flatMap_nil,List.append_nil] at hap; have hbn:v.ownBlock≠some b:=fun h=>(List.nodup_append.1 hap).2.2 b (by simp [h]) b (by simp) rfl
 have ex:∀ r,(Builtin.unsafeString_ #[pt,it] o.type #[.pointer (J2 v),.int .i64 bs.length]).run P w=r→(execOp ev o).run P w=r.andThen fun v w'=>.ok (.value v) w':=by
  intro r hr'; simp [execOp,ho,resolve,kG,hargs,hty,invoke,builtin,h1,h2]; rw [←hr']
 have fin:∀ w',w'.os=w.os→w'.tape=w.tape→w'.output=w.output→w'.heap.size=w.heap.size→w'.drawn=w.drawn→(∀ k a,(w'.cell? ⟨k,a,none⟩)=w.cell? ⟨k,a,none⟩)→(∀ k,v.ownBlock≠some k→w'.heap[k]?=w.heap[k]?)→
   Conc w' m [.kY b e [q,.val p,.own v (bs.map iQ)]]∧Trans w m [.row v bs.length 1 eu,.kY b e [q,.val p,.own v (bs.map iQ)]] w' m [.kY b e [q,.val p,.own v (bs.map iQ)]]:=by
  intro w' e1 e2 e3 e4 ed e5 e6; have hle:Le w m w' m:=fun c off h=>⟨h,e5 c off⟩; refine ⟨⟨fun r hr=>?_,by simp [kI,bA.fp],fun c off h=>by rw [e4]; exact hc.wf c off h,iG.mono hle hc.rE⟩,⟨e1,e2,e3,by omega,hle,fun c hcl hn=>⟨e6 c fun h=>hn ?_,fun _ h=>h⟩,fun c hcf=>.inl ?_,fun _=>Nat.le_of_eq ed.symm⟩⟩
  ·
   obtain rfl:=List.mem_singleton.1 hr; exact ⟨_,by rw [e6 b hbn]; exact g1,bC.mono hle _ _ g2',g2m⟩
  · simp [kI,bA.fp,h]
  ·
   simp only [kI,bA.fp,List.flatMap_cons,List.flatMap_nil,List.append_nil,List.mem_singleton] at hcf; simp [kI,bA.fp,hcf]
 by_cases h0:bs=[]
 ·
  subst h0; have hrun:=Lib.run_unsafeString_none (P:=P) w pt it o.type (J2 v); obtain ⟨k1,k2⟩:=fin w rfl rfl rfl rfl rfl (fun _ _=>rfl) (fun _ _=>rfl); exact ⟨.str [],_,.string .empty,w,m,hR,by rw [ex _ (by simpa using hrun)]; rfl,by simp only [dU]; rfl,k1,k2⟩
 ·
  rcases hrow.2 with ⟨_,hn⟩ | ⟨g,cap,cur,fz,rfl,hg,hfz,hnc,hcm,hcs,htake⟩
  · exact absurd (List.eq_nil_of_length_eq_zero hn) h0
  ·
   have hsh:w.shape? g=some (eu,cur.size):=by simp [World.shape?,hg]
   have hrun:=Lib.run_unsafeString_row (P:=P) w pt it o.type eu hp hce g cur.size hsh bs h0 (by omega) (by unfold maxLen at hcm; omega) (fun j x hj=>by
    rw [Addr.add_lit,Nat.zero_add,hrow.cell (b:=g) rfl (by have:=(List.getElem?_eq_some_iff.1 hj).1; omega)]
    simp [hj])
   have hz:bs.length≠0:=by simpa using h0
   have hsame:∀ k,k≠g→(w.freeze ⟨g,0,none⟩ bs.length).heap[k]?=w.heap[k]?:=by
    intro k hk; simp [World.freeze,hz,Array.getElem?_modify,Ne.symm hk]
   have hcell:∀ k a,(w.freeze ⟨g,0,none⟩ bs.length).cell? ⟨k,a,none⟩=w.cell? ⟨k,a,none⟩:=by
    intro k a; by_cases hk:k=g
    ·
     subst hk; simp [World.cell?,World.freeze,hz,Array.getElem?_modify,hg]
    · simp only [World.cell?,hsame k hk]
   obtain ⟨k1,k2⟩:=fin (w.freeze ⟨g,0,none⟩ bs.length) (by simp [World.freeze,hz]) (by simp [World.freeze,hz]) (by simp [World.freeze,hz]) (by simp [World.freeze,hz]) (by simp [World.freeze,hz]) hcell (fun k hk=>hsame k fun e=>hk (by subst e; rfl)); refine ⟨.str bs,_,.string ⟨bs.toArray⟩,_,m,hR,?_,by simp only [dU],k1,k2⟩; rw [ex _ hrun]; rfl
theorem AO.U6 {e:TypeId} {cs:List PV} (ho:o.op=.alloc e) (hz:l6 P e=some cs) (hR:∀ b,R (.val (.pointer (some ⟨b,0,none⟩))) (.kY b e cs :: σ)):AO P o ρ σ R S:=by
 refine AO.of_run' fun w m ev hr hc=>?_; obtain ⟨z,h1,h2⟩:=Bz hz w; have hc':=qA hc (.cells z.cells e) (fun _=>False); have hle:Le w m (w.alloc (.cells z.cells e)) (fun b off=>m b off∨(b=w.heap.size∧False)):=(jh (σ':=σ) hc (.cells z.cells e) (fun _=>False) fun b hb=>.inl hb).le
 have hnew:Conc (w.alloc (.cells z.cells e)) (fun b off=>m b off∨(b=w.heap.size∧False)) (.kY w.heap.size e cs :: σ):=by
  refine FM ⟨z.cells.toList,?_,bC.mono hle _ _ (h2 m),fun off ho=>?_⟩ (by simp [bA.fp]) (fun b hb hm=>?_) hc'
  · rw [heap_alloc_new w _,Array.toArray_toList]
  ·
   rcases ho with ho | ⟨_,ho⟩
   · have:=hc.wf _ off ho; omega
   · exact ho
  ·
   simp [bA.fp] at hb; subst hb; have:=hc.Jj _ hm; omega
 refine ⟨_,_,.pointer (some ⟨w.heap.size,0,none⟩),_,_,hR w.heap.size,?_,by simp [dU],hnew,jh hc _ _ fun b hb=>?_⟩
 · simp [execOp,ho,Instr.alloc,newVar,newRow,h1,go_sem]
 ·
  simp [kI,bA.fp] at hb ⊢; rcases hb with hb | hb
  · exact .inr hb
  · exact .inl hb
end
end Go.Abs
namespace Go.Abs
variable [iG]
open Go
section
variable {P : Program} {o : Oper} {ρ : Operand → PV} {σ : List bA} {R S : PV → List bA → Prop}
theorem AO.NM {c:Call} {s x:Operand} {t tx e sz bytes:Nat} {v:Value} {l2:List (List PV)} {i n:Nat} {cs:List PV} (ho:o.op=.call c) (kG:c.callee=.builtin .append) (hargs:c.args=#[s,x]) (hty:c.argTypes=#[t,tx])
  (hs:ρ s=.val v) (hx:(ρ x).els=some l2) (hi:σ[i]?=some (bA.buf v n sz e cs)) (hf:iV P t e sz bytes) (htx:elemSize P tx=some sz)
  (h2:∀ y∈l2,y.length=sz) (h3:∀ y∈l2,y.all PV.one=true) (hb1:n + l2.length≤maxLen) (hb2:(n + l2.length) * bytes≤140737488355328)
  (hR:∀ v' σ',yI σ i (.buf v' (n + l2.length) sz e (cs ++ l2.flatten))=some σ'→R (.val v') σ'):AO P o ρ σ R S:=by
 refine AO.of_run' fun w m ev hr hc=>?_; have hsv:=hr s (by simp [ho,Op.operands,Call.operands,kG,hargs]); have hxv:=hr x (by simp [ho,Op.operands,Call.operands,kG,hargs]); rw [hs] at hsv; simp only [dU] at hsv; have hev:ev s=v:=hsv; obtain ⟨xs,hrow,hrep,hm0⟩:=hc.each _ (List.mem_of_getElem? hi); obtain ⟨inf,z,g1,g2,g3,g4,g5⟩:=hf.info; obtain ⟨ex,ix,q1,q2,q3⟩:=nY htx
 obtain ⟨news,hsrc,hnews⟩:∃ news,Src P sz tx (ev x) l2.length news w∧bC w m l2.flatten news:=by
  obtain ⟨a,cap,e1,e2,e3⟩:=hxv.els hx; by_cases hnil:l2=[]
  ·
   subst hnil; refine ⟨[],?_,by simpa using bC.nil⟩; rw [e1]; cases a with
   | none=>exact Src.ofNil w q1 _
   | some a=>exact Src.ofSlice w q1 a 0 cap [] (by simp) (by simp) (by simp)
  ·
   rcases e3 with e3 | ⟨b,off,sz',rfl,e4⟩
   · exact absurd e3 hnil
   ·
    have hsz':sz'=sz:=by
     cases l2 with
     | nil=>exact absurd rfl hnil
     | cons y ys=>
      simp only [kD] at e4; rw [←e4.1.1]; exact h2 y (by simp)
    subst hsz'; obtain ⟨vs,k1,k2,k3⟩:=A8 e4; refine ⟨vs,?_,k1⟩; rw [e1]; refine Src.ofSlice w q1 ⟨b,off,none⟩ _ cap vs k2 (fun j u hj=>by rw [Addr.add_lit]; exact (k3 j u hj).2) (k1.oneCell ?_); rw [List.all_eq_true]; intro p hp; rw [List.mem_flatten] at hp; obtain ⟨y,hy,hp⟩:=hp; exact List.all_eq_true.1 (h3 y hy) p hp
 subst g2 g3; obtain ⟨v',w',r1,r2,r3,_,r5⟩:=zB (ty:=o.type) hf.und g1 g4 g5 hrow hsrc (by omega) (by simpa using hb2); obtain ⟨p1,p2⟩:=xM hi (.buf v' (n + l2.length) inf.size e (cs ++ l2.flatten)); have hc1:=hc.perm p1
 have hos:w'.os=w.os∧w'.tape=w.tape∧w'.output=w.output∧w.heap.size≤w'.heap.size:=by
  rcases r3 with ⟨_,hg⟩ | ⟨_,hg⟩ <;> exact ⟨hg.os,hg.tape,hg.output,hg.size⟩
 have hkeep:∀ b,b < w.heap.size→v.ownBlock≠some b→w'.heap[b]?=w.heap[b]?:=by
  intro b hb hne; rcases r3 with ⟨_,hg⟩ | ⟨_,hg⟩
  · exact hg.block b hb (fun h=>hne h.symm)
  · exact hg.block b hb (by simp)
 have hle:Le w m w' m:=fun b off hm=>⟨hm,World.cell?_of_block (w:=w) (hkeep b (hc.wf b off hm) (fun h=>hm0 b h off hm))⟩
 have hm':∀ b,v'.ownBlock=some b→∀ off,¬ m b off:=by
  intro b hb off hm; rcases r3 with ⟨h1,_⟩ | ⟨h1,_⟩
  · exact hm0 b (h1 ▸ hb) off hm
  ·
   rw [h1] at hb; cases hb; have:=hc.wf _ off hm; omega
 have hk:Conc w' m [.buf v' (n + l2.length) inf.size e (cs ++ l2.flatten)]:=
  ⟨fun r hr=>by rw [List.mem_singleton] at hr; subst hr; exact ⟨xs ++ news,r2,(bC.mono hle _ _ hrep).append (bC.mono hle _ _ hnews),hm'⟩,by cases h:v'.ownBlock <;> simp [kI,bA.fp,h],fun b off hm=>by have:=hc.wf b off hm; omega,iG.mono hle hc.rE⟩
 have ht:Trans w m [.buf v n inf.size e cs] w' m [.buf v' (n + l2.length) inf.size e (cs ++ l2.flatten)]:=by
  refine ⟨hos.1,hos.2.1,hos.2.2.1,hos.2.2.2,hle,fun b hb hn=>⟨hkeep b hb fun h=>hn (by simp [kI,bA.fp,h]),fun _ h=>h⟩,fun b hb=>?_,fun _=>r5⟩; simp [kI,bA.fp] at hb; rcases r3 with ⟨h1,_⟩ | ⟨h1,_⟩
  · left; simp [kI,bA.fp,←h1,hb]
  · right; rw [h1] at hb; simp at hb; omega
 obtain ⟨f1,f2⟩:=Conc.frame hc1 hk ht
 have hilt:i < σ.length:=by
  rcases Nat.lt_or_ge i σ.length with h | h
  · exact h
  · simp [List.getElem?_eq_none h] at hi
 have hset:∀ (σ:List bA) (i:Nat) (r:bA),i < σ.length→yI σ i r=some (σ.set i r):=by
  intro σ
  induction σ with
  | nil=>intro i r h; simp at h
  | cons a σ ih=>
   intro i r h; cases i with
   | zero=>simp [yI]
   | succ i=>simp only [yI,ih i r (by simpa using h),List.set_cons_succ]
 refine ⟨.val v',_,v',w',m,hR v' _ (hset σ i _ hilt),?_,by simp only [dU],f1.perm p2.symm,f2.perm p1.symm p2.symm⟩; simp only [execOp,ho,resolve,kG,hargs,hty,invoke,builtin,Sem.run_bind,Sem.run_pure,Result.andThen_ok]; simp only [List.map_toArray,List.map_cons,List.map_nil,hev,r1,Result.andThen_ok]
theorem AO.VR {v:Value} {k sz e:Nat} {cs:List PV} (i:Nat) (hi:σ[i]?=some (bA.buf v k sz e cs)) (h:PV.wG (.val v)=some [.val v]→[PV.val v].all PV.one=true→AO P o ρ σ R S):AO P o ρ σ R S:=by
 intro w m a K QC hr hc hK hP; obtain ⟨xs,hrow,_,_⟩:=hc.each _ (List.mem_of_getElem? hi)
 have hv:v.oneCell'=true:=by
  rcases hrow.2 with ⟨rfl,_⟩ | ⟨g,cap,cur,fz,rfl,_⟩ <;> rfl
 exact h (by simp [PV.wG,hv]) (by simp [PV.one,hv]) w m a K QC hr hc hK hP
end
end Go.Abs
namespace Go.Abs
variable [iG]
open Go
def Wp {β:Type} (T:β→List bA→Prop) (pend:β→Option AX) (b:Bool) (s':β):Post:=fun x _ σ d=>d=[]∧(∃ τ,τ.Sublist σ∧T s' τ)∧
 match x with
 | .normal=>b=true∧pend s'=none
 | .ret=>b=false∧pend s'=some .ret
 | .exit id=>b=false∧pend s'=some (.exit id)
 | .panic _=>False
section
variable {P : Program} {n : Nat} {r : Option Nat} {env : Env} {σ : List bA} {ds : List Deferred} {Q : Post} {all : Array Oper} {rest : List Oper} {o : Oper}
theorem Ct.abA {t l:Nat} {c:Call} {K0:List bA→Prop} {p:PV} (hnd:vY o=true) (hg:o.guard=none) (hd:o.dst=some t) (ht:Nat.blt t n=true) (ho:o.op=.call c) (M9:Operand) (kG:c.callee=.value M9)
  (hf:env.ev M9=.val (.func (.yield l) #[] #[])) (h:AY P l ((c.args.toList.map env.ev).map PV.weak) σ (fun out s=>out=.ret p∧K0 s))
  (hk:∀ s,K0 s→Ct P r n all rest ((t,p) :: env) s ds Q):Ct P r n all (o :: rest) env σ ds Q:=by
 intro w m a QC hs ha; have ht:t < n:=Nat.le_of_ble_eq_true ht; refine wpListIn_plain hg fun K hK=>⟨fun _ _=>trivial,?_⟩; rw [Oper.semAt_eq _ _ _ (GH hnd)]; have hcv:=hs.env.ev M9; rw [hf] at hcv; simp only [dU] at hcv; have hargs:bC w m (c.args.toList.map env.ev) (c.args.toList.map a.eval):=bC.map fun x _=>hs.env.ev x; obtain ⟨fn,tmps,assign,body,h1,h2⟩:=h w m _ hs.jm hargs.weak
 have hrun:(execOp a.eval o).run P w=.ok (.round l fn tmps assign body) w:=by
  unfold execOp; simp only [ho,resolve,kG,hcv,Deferred.ofValue,invoke,Sem.run_bind,Sem.run_pure,Result.andThen_ok]; rw [←h1]; congr 2; apply Array.ext'; simp
 rw [hrun]; simp only [Oper.uponIn]; refine ⟨fun hh=>by simp [TV,Fence.wide] at hh,?_⟩; refine RoundIn.mono (show RoundIn (TV r) (0 - 1) P l fn tmps assign body w _ from h2) ?_; rintro e w' ⟨out,s,m',⟨rfl,hK0⟩,⟨v,rfl,hv⟩,hc,htr⟩; exact hK _ _ (hk s hK0 w' m' _ QC (hs.put hd ht hv hc htr.le) (ha.step htr))
theorem Ct.run {j u:Nat} {want:Bool} {oj:Oper} (hg:o.guard=some (j,want)) (hj:all[j]?=some oj) (hu:oj.dst=some u) (hb:env.get u=.bool want)
  (h:Ct P r n all ({o with guard:=none} :: rest) env σ ds Q):Ct P r n all (o :: rest) env σ ds Q:=by
 intro w m a QC hs ha; have h':=h w m a QC hs ha; unfold wpListIn at h' ⊢; rw [if_pos (by simp [Region.wanted])] at h'; rw [if_pos (by simp [Region.wanted,hg,yE hs hj hu hb])]; exact h'
theorem Ct.drop1 {l:List Oper} {x:bA} (h:Ct P r n all l env σ ds Q):Ct P r n all l env (x :: σ) ds Q:=
 fun w m a QC qK ha=>h w m a QC ⟨qK.size,qK.ds,qK.env,qK.jm.sub (List.sublist_cons_self x σ)⟩ (ha.step (Trans.sub (Trans.refl w m (x :: σ)) (List.sublist_cons_self x σ)))
theorem Ct.is {l:List Oper} {b want:Bool} (u:Nat) (h:b=want) (hu:env.get u=.bool b) (hr:Ct P r n all l ((u,.bool want) :: env) σ ds Q):Ct P r n all l env σ ds Q:=by
 subst h; intro w m a QC hs ha; refine hr w m a QC ⟨hs.size,hs.ds,fun t=>?_,hs.jm⟩ ha; simp only [Env.get]; cases e:Nat.beq u t with
 | false=>exact hs.env t
 | true=>have:=hs.env u; rw [hu,Nat.eq_of_beq_eq_true e] at this; exact this
theorem Rh {md:Region.Mode} {ops:Array Oper} {Q:Exit→Act→World→Prop} (hno:¬ LetsOut Q) (hd:∀ o∈ops.toList,vY o=true):∀ (fuel:Nat) (listed:Array Bool) (a:Act) (w:World),wpAny P md ops Q fuel listed a w→wpAnyIn (TV r) 0 P md ops Q fuel listed a w
 | 0,_,_,_,h=>h
 | fuel + 1,listed,a,w,h=>by
  refine ⟨h.1,fun i hi=>?_⟩; have h2:=h.2 i hi; unfold wpOp at h2; unfold wpOpIn; cases ho:ops[i]? with
  | none=>rw [ho] at h2; exact Rh hno hd fuel _ a w h2
  | some o=>
   rw [ho] at h2; have hdo:=hd o (by have:=Array.mem_of_getElem? ho; simpa using this); simp only at h2 ⊢; split
   ·
    rename_i hw; rw [if_pos hw] at h2; rcases h2 with h2 | ⟨_,h2⟩
    · exact Oper.wpIn_mono (fun a w h=>Rh hno hd fuel _ a w h) (Qp hdo h2)
    · exact (hno h2).elim
   ·
    rename_i hw; rw [if_neg hw] at h2; exact ⟨fun _ _=>trivial,Rh hno hd fuel _ _ w h2⟩
theorem rF.drawn {id:Nat} {L:List Oper} (hm:P.follows .mixedOrders=true) (hd:(L.all vY)=true) (h:AD P n L env σ ds Q):rF P r n (.region id L.toArray true) env σ ds Q:=by
 intro w m a QC hs ha; rw [List.all_eq_true] at hd; refine wpIn_mono (wpIn_region_any hm (Rh (B_ QC) (by simpa using hd) _ _ _ _ (h w m a _ hs ha.Mc))) fun e a w h=>h.2
end
section
variable {P : Program} {n : Nat} {env : Env} {σ : List bA} {ds : List Deferred} {Q : Post}
theorem AW.LQ {β X:Type} {g:Operand} {ps:Array Tmp} {assign body:Code} {gf:Nat} {caps:List PV} (hg:env.ev g=.fn gf caps) (hp:bM P gf=true)
  (enc:X→List PV) (henc:∀ x,(enc x).length=ps.toList.length) (hps:∀ t∈ps.toList,t < n) (y:β→X→Option (Bool × β)) (T:β→List bA→Prop) (pend:β→Option AX) {s0 s1:β} (hσ:T s0 σ) (hs0:pend s0=none)
  (hit:∀ (l:Nat) (T':β→List bA→Prop),(∀ s x b s' τ,y s x=some (b,s')→T' s τ→AY P l (enc x) τ (fun out σ'=>out=.ret (.bool b)∧T' s' σ'))→
   ∀ τ,T' s0 τ→AC P gf (.val (.func (.yield l) #[] #[]) :: caps) τ (fun out σ'=>(∃ p,out=.ret p)∧T' s1 σ'))
  (round:∀ l s x b s' τ,y s x=some (b,s')→T s τ→pend s=none∧
   rF P (some l) n assign (NK ps.toList (enc x) env) τ [] (fun ax e σ' d=>ax=.normal∧rF P (some l) n body e σ' d (Wp T pend b s')))
  (hq:∀ D τ,T s1 τ→(match pend s1 with | none=>Q .normal env | some .ret=>Q .ret env | some (.exit id)=>Q (.exit id) env | some _=>fun _ _=>False) (τ ++ [bA.obj D (.deferred (some []))]) (tQ D :: ds)):
  AW P n (.rangeFunc g ps assign body) env σ ds Q:=by
 intro w m a QC hs ha; refine (wpIn_wide (n:=0)).1 (wpIn_rangeFunc fun fn _=>?_); have hge:=hs.env.ev g; rw [hg] at hge; simp only [dU] at hge; obtain ⟨cs,hcv,hcs⟩:=hge; have c1:=zu hs.jm (.deferred (some []))
 have t1:=jh (σ':=bA.obj w.heap.size (.deferred (some [])) :: σ) hs.jm (.deferred (some [])) (fun _=>False) (fun b hb=>by
  simp [kI,bA.fp] at hb ⊢; rcases hb with hb | hb
  · exact .inr hb
  · exact .inl hb)
 have c2:=zu c1 (.loop (tK fn a.tmps ps assign body w.heap.size none))
 have t2:=jh (σ':=.obj (w.alloc (.deferred (some []))).heap.size (.loop (tK fn a.tmps ps assign body w.heap.size none)) :: bA.obj w.heap.size (.deferred (some [])) :: σ) c1 (.loop (tK fn a.tmps ps assign body w.heap.size none)) (fun _=>False) (fun b hb=>by
  simp [kI,bA.fp] at hb ⊢; rcases hb with hb | hb | hb
  · exact .inr hb
  · exact .inl (.inl hb)
  · exact .inl (.inr hb))
 have hsz:(w.alloc (.deferred (some []))).heap.size=w.heap.size + 1:=by simp
 rw [hsz] at c2 t2; generalize hW:(w.alloc (.deferred (some []))).alloc (.loop (tK fn a.tmps ps assign body w.heap.size none))=W at c2 t2; generalize hM:(fun b off=>(m b off∨b=w.heap.size∧False)∨b=w.heap.size + 1∧False)=M at c2 t2; have tW:=t1.trans t2; let rec' (s:β):Loop:=tK fn a.tmps ps assign body w.heap.size (pend s); let R' (s:β):List bA:=[bA.obj (w.heap.size + 1) (.loop (rec' s)),bA.obj w.heap.size (.deferred (some [])),bA.since w m]; let T' (s:β) (τ:List bA):Prop:=∃ τ0,T s τ0∧τ=τ0 ++ R' s
 have hT0:(σ ++ R' s0).Perm (.obj (w.heap.size + 1) (.loop (tK fn a.tmps ps assign body w.heap.size none)) :: bA.obj w.heap.size (.deferred (some [])) :: σ ++ [bA.since w m]):=by
  simp only [R',rec',hs0]; refine List.perm_append_comm.trans ?_; simp only [List.cons_append,List.nil_append]; refine List.Perm.cons _ (List.Perm.cons _ ?_); exact (List.perm_append_comm (l₁:=[bA.since w m]) (l₂:=σ))
 have cT:Conc W M (σ ++ R' s0):=by
  refine Conc.perm hT0.symm ?_; refine ⟨fun r hr=>?_,?_,c2.wf,c2.rE⟩
  ·
   rcases List.mem_append.1 hr with h | h
   · exact c2.each r h
   ·
    rw [List.mem_singleton] at h; subst h; exact tW.le
  ·
   have:=c2.apart; simpa [kI,bA.fp] using this
 have tT:Trans w m σ W M (σ ++ R' s0):=by
  refine Trans.perm (.refl _) hT0.symm ⟨tW.os,tW.tape,tW.output,tW.size,tW.le,tW.keep,fun b hb=>tW.fresh b ?_,tW.drawn⟩; simpa [kI,bA.fp] using hb
 refine ⟨w.heap.size + 1,[tQ w.heap.size],W,{target:=.fn (.func gf) cs.toArray,args:=#[.func (.yield (w.heap.size + 1)) #[] #[]]},W,gf,
  #[.func (.yield (w.heap.size + 1)) #[] #[]] ++ cs.toArray,W,?_,?_,fun _ _=>trivial,?_,fun hh=>by simp [Fence.wide] at hh,?_⟩
 · rw [←hW]; exact run_enterLoop_outer _ _ _ _ _
 ·
  simp only [resolve,hcv]; simp [go_sem]
 ·
  simp only [invoke]; rw [vI hp]
 ·
  refine callsIn_wide.2 ?_; have hac:=hit (w.heap.size + 1) T' ?_ _ ⟨σ,hσ,rfl⟩
  ·
   have hcs':bC W M (.val (.func (.yield (w.heap.size + 1)) #[] #[]) :: caps) (.func (.yield (w.heap.size + 1)) #[] #[] :: cs):=bC.cons (by simp [dU]) (bC.mono tW.le _ _ hcs); have:=hac W M _ cT hcs'; rw [show (Value.func (.yield (w.heap.size + 1)) #[] #[] :: cs).toArray=#[.func (.yield (w.heap.size + 1)) #[] #[]] ++ cs.toArray from by apply Array.ext'; simp] at this; refine this.mono ?_; rintro e w' ⟨out,σ',m',⟨⟨p,rfl⟩,τ1,ae8,rfl⟩,⟨v,rfl,hv⟩,hc',ht'⟩; have hi:(τ1 ++ R' s1)[τ1.length]?=some (.obj (w.heap.size + 1) (.loop (rec' s1))):=by simp [R']
   obtain ⟨hb,_⟩:=hc'.each _ (List.mem_of_getElem? hi); obtain ⟨k1,k2⟩:=uZ (o':=.loop {rec' s1 with state:=.exhausted}) hc' hi
   have hsub:(τ1 ++ [bA.obj w.heap.size (.deferred (some []))]).Sublist ((τ1 ++ R' s1).set τ1.length (.obj (w.heap.size + 1) (.loop {rec' s1 with state:=.exhausted}))):=by
    simp only [R']; rw [List.set_append_right _ _ (Nat.le_refl _),Nat.sub_self]; refine List.Sublist.append (List.Sublist.refl _) ?_; simp only [List.set_cons_zero]; exact .cons _ (.cons_cons _ (.cons _ .slnil))
   have k3:=k1.sub hsub; have k4:=(tT.trans (ht'.trans k2)).sub hsub
   have hse:∀ todo,p9 (w'.putObj (w.heap.size + 1) (.loop {rec' s1 with state:=.exhausted})) m' n env (τ1 ++ [bA.obj w.heap.size (.deferred (some []))]) (tQ w.heap.size :: ds) {a with defers:=todo}∨todo≠[tQ w.heap.size] ++ a.defers:=by
    intro todo; by_cases e:todo=[tQ w.heap.size] ++ a.defers
    ·
     subst e; exact .inl ⟨hs.size,by simp [hs.ds],hs.env.mono k4.le,k3⟩
    · exact .inr e
   have hse:=(hse ([tQ w.heap.size] ++ a.defers)).resolve_right (by simp); refine ⟨codeOf (pend s1),w'.putObj (w.heap.size + 1) (.loop {rec' s1 with state:=.exhausted}),?_,?_⟩
   ·
    have:=run_endLoop (P:=P) (w:=w') (l:=w.heap.size + 1) (r:=rec' s1) hb (by simp only [rec',tK]; split <;> simp); exact this
   ·
    have UH:=hq w.heap.size τ1 ae8; cases hpe:pend s1 with
    | none=>
     rw [hpe] at UH; exact ha .normal _ env _ _ _ _ m' UH rfl hse k4
    | some x=>
     rw [hpe] at UH; cases x with
     | ret=>exact wpIn_ret (ha .ret _ env _ _ _ _ m' UH rfl hse k4)
     | exit id=>exact wpIn_exit (ha (.exit id) _ env _ _ _ _ m' UH rfl hse k4)
     | normal=>exact UH.elim
     | panic p=>exact UH.elim
  ·
   
   rintro s x b s' _ hy ⟨τ,hτ,rfl⟩ w1 m1 vs hc1 hv1; obtain ⟨acJ,UG⟩:=round (w.heap.size + 1) s x b s' τ hy hτ; have hi:(τ ++ R' s)[τ.length]?=some (.obj (w.heap.size + 1) (.loop (rec' s))):=by simp [R']
   obtain ⟨hb1,_⟩:=hc1.each _ (List.mem_of_getElem? hi); have UF:Le w m w1 m1:=hc1.each (.since w m) (by simp [R']); have hvl:=hv1.length_eq
   have hsz':vs.toArray.size=(rec' s).params.size:=by
    simp only [rec',tK,List.size_toArray]; rw [hvl,henc x]; simp
   have hyr:=run_yield (P:=P) hb1 hsz'; refine ⟨_,_,_,_,hyr,?_⟩; refine roundIn_of_wpIn trivial ?_
   have YR:((rec' s).params.zip vs.toArray).foldl (fun tmps (t,a)=>tmps.setIfInBounds t a) (rec' s).tmps=(ps.toList.zip vs).foldl (fun t (p,v)=>t.setIfInBounds p v) a.tmps:=by
    simp only [rec',tK]; rw [←Array.foldl_toList,Array.toList_zip]
   obtain ⟨hb2,hb3⟩:=IX (n:=n) (ts:=ps.toList) hs.size (fun t ht=>hps t ht) hv1 (hs.env.mono UF); have hA:=rF.frame (τ:=[bA.obj (w.heap.size + 1) (.loop (rec' s)),bA.obj w.heap.size (.deferred (some [])),bA.since w m]) UG; refine hA w1 m1 _ _ ⟨?_,rfl,?_,hc1⟩ ?_
   · rw [YR]; exact hb3
   · rw [YR]; exact hb2
   ·
    rintro ax ex e2 σ2 d2 a2 w2 m2 ⟨KY,rfl,rfl,hbody⟩ hx hs2 ht2; cases hx; have hi2:(KY ++ [bA.obj (w.heap.size + 1) (.loop (rec' s)),bA.obj w.heap.size (.deferred (some [])),bA.since w m])[KY.length]?=some (.obj (w.heap.size + 1) (.loop (rec' s))):=by simp
    obtain ⟨hb4,_⟩:=hs2.jm.each _ (List.mem_of_getElem? hi2); have MH:(rec' s).state=.ready:=by simp [rec',tK,acJ,codeOf]
    refine ⟨_,run_beginRound hb4 MH,?_⟩; obtain ⟨k1,k2⟩:=uZ (o':=.loop {rec' s with state:=.busy}) hs2.jm hi2
    have hset:(KY ++ [bA.obj (w.heap.size + 1) (.loop (rec' s)),bA.obj w.heap.size (.deferred (some [])),bA.since w m]).set KY.length (.obj (w.heap.size + 1) (.loop {rec' s with state:=.busy}))=
      KY ++ [bA.obj (w.heap.size + 1) (.loop {rec' s with state:=.busy}),bA.obj w.heap.size (.deferred (some [])),bA.since w m]:=by
     rw [List.set_append_right _ _ (Nat.le_refl _),Nat.sub_self]; rfl
    rw [hset] at k1 k2; have hB:=rF.frame (τ:=[bA.obj (w.heap.size + 1) (.loop {rec' s with state:=.busy}),bA.obj w.heap.size (.deferred (some [])),bA.since w m]) hbody; refine hB _ m2 a2 _ ⟨hs2.size,hs2.ds,hs2.env.mono k2.le,k1⟩ ?_; rintro ax3 ex3 e3 σ3 d3 a3 w3 m3 ⟨IC,rfl,hd3,⟨τ2,YS,ae7⟩,hend⟩ hx3 hs3 ht3; have hi3:(IC ++ [bA.obj (w.heap.size + 1) (.loop {rec' s with state:=.busy}),bA.obj w.heap.size (.deferred (some [])),bA.since w m])[IC.length]?=some (.obj (w.heap.size + 1) (.loop {rec' s with state:=.busy})):=by simp
    obtain ⟨hb5,_⟩:=hs3.jm.each _ (List.mem_of_getElem? hi3)
    have fin:∀ jump:Option Code,jump=codeOf (pend s')→b=jump.isNone→∃ v w',(Instr.endRound (w.heap.size + 1) jump).run P w3=.ok v w'∧∃ out σ' m',(out=eT.ret (.bool b)∧T' s' σ')∧Br w' m' out (.returned v)∧Conc w' m' σ'∧Trans w1 m1 (τ ++ R' s) w' m' σ':=by
     intro jump hj hbj; refine ⟨_,_,run_endRound jump hb5,.ret (.bool b),τ2 ++ R' s',m3,⟨rfl,τ2,ae7,rfl⟩,⟨_,rfl,by simp [dU,hbj]⟩,?_⟩; obtain ⟨q1,q2⟩:=uZ (o':=.loop {rec' s with state:=if jump.isNone then .ready else .done,pending:=jump}) hs3.jm hi3
     have hrec:({rec' s with state:=if jump.isNone then .ready else .done,pending:=jump}:Loop)=rec' s':=by
      simp only [rec',tK,hj]
     have YT:(IC ++ [bA.obj (w.heap.size + 1) (.loop {rec' s with state:=.busy}),bA.obj w.heap.size (.deferred (some [])),bA.since w m]).set IC.length (.obj (w.heap.size + 1) (.loop {rec' s with state:=if jump.isNone then .ready else .done,pending:=jump}))=
       IC ++ [bA.obj (w.heap.size + 1) (.loop (rec' s')),bA.obj w.heap.size (.deferred (some [])),bA.since w m]:=by
      rw [List.set_append_right _ _ (Nat.le_refl _),Nat.sub_self,hrec]; rfl
     rw [YT] at q1 q2; have hsub:(τ2 ++ R' s').Sublist (IC ++ [bA.obj (w.heap.size + 1) (.loop (rec' s')),bA.obj w.heap.size (.deferred (some [])),bA.since w m]):=List.Sublist.append YS (List.Sublist.refl _); exact ⟨q1.sub hsub,(ht2.trans (k2.trans (ht3.trans q2))).sub hsub⟩
    cases ax3 with
    | normal=>
     cases hx3; obtain ⟨h5,h6⟩:=hend; exact fin none (by rw [h6]; rfl) (by rw [h5]; rfl)
    | ret=>
     cases hx3; obtain ⟨h5,h6⟩:=hend; exact fin (some .ret) (by rw [h6]; rfl) (by rw [h5]; rfl)
    | exit id=>
     cases hx3; obtain ⟨h5,h6⟩:=hend; exact fin (some (.exit id)) (by rw [h6]; rfl) (by rw [h5]; rfl)
    | panic p=>exact hend.elim
end
def ac1 (P:Program) (rs:List ResultVar) (R:eT→List bA→Prop):Post
 | .normal,e,s,d | .ret,e,s,d=>(d=[]∧∃ ps,Bq P e s rs ps∧∃ s',s'.Sublist s∧R (.ret (mI (ps.map PV.weak))) s')∨∃ D s1,d=[tQ D]∧s=s1 ++ [.obj D (.deferred (some []))]∧∃ ps,Bq P e s1 rs ps∧∃ s',s'.Sublist s1∧R (.ret (mI (ps.map PV.weak))) s'
 | _,_,_,_=>False
theorem AC.L_ {P:Program} {f:FuncId} {fn:Func} {c:Code} {args:List PV} {σ:List bA} {R:eT→List bA→Prop} (n:Nat) (rs:List ResultVar) (ts:List Nat) {env:Env}
  (hf:P.funcs[f]?=some fn) (hb:fn.body=some c) (hn:fn.ntmps=n) (hl:Nat.ble args.length n=true) (hrs:fn.results.toList=rs) (Jf:settle ts (yx 0 args)=some env)
  (h:AW P n c env σ [] (ac1 P rs R)):AC P f args σ R:=by
 intro w m vs hc hv; have hl:args.length≤n:=Nat.le_of_ble_eq_true hl; have hvl:=hv.length_eq; refine callsIn_wide.1 (callsIn_of_wp_marks (n:=0) hf hb trivial (wpIn_wide.2 ?_)); refine h w m _ _ ⟨?_,rfl,?_,hc⟩ ?_
 · simp [hvl,hn]; omega
 ·
  have:=yY (List.replicate (fn.ntmps - vs.toArray.size) Go.undef) [] hv; rw [show vs.toArray ++ Array.replicate (fn.ntmps - vs.toArray.size) Go.undef=([] ++ vs ++ List.replicate (fn.ntmps - vs.toArray.size) Go.undef).toArray from by simp]; exact Af.settle Jf this
 ·
  intro x ex env' σ' ds' a' w' m' hq hx hs ht
  have hend:∀ D s1,ds'=[tQ D]→σ'=s1 ++ [.obj D (.deferred (some []))]→∀ ps s',Bq P env' s1 rs ps→s'.Sublist s1→R (.ret (mI (ps.map PV.weak))) s'→
    LeavesInM Fence.wide 0 P fn a'.tmps (fun e w'=>∃ out σ' m',R out σ'∧Br w' m' out e∧Conc w' m' σ'∧Trans w m σ w' m' σ') a'.defers .returning w':=by
   intro D s1 hd hs1 ps s' h1 hsub h2; subst hs1; rw [hs.ds,hd]; have hi:(s1 ++ [bA.obj D (.deferred (some []))])[s1.length]?=some (.obj D (.deferred (some []))):=by simp
   obtain ⟨hbD,_⟩:=hs.jm.each _ (List.mem_of_getElem? hi); obtain ⟨k1,k2⟩:=uZ (o':=.deferred Option.none) hs.jm hi
   have hset:(s1 ++ [bA.obj D (.deferred (some []))]).set s1.length (.obj D (.deferred Option.none))=s1 ++ [.obj D (.deferred Option.none)]:=by
    rw [List.set_append_right _ _ (Nat.le_refl _),Nat.sub_self]; rfl
   rw [hset] at k1 k2; refine ⟨by simp,.inl ⟨D,_,rfl,run_takeDeferred hbD,?_⟩⟩; have k3:=k1.left; obtain ⟨v,hv1,hv2⟩:=Hf hrs (hs.env.mono k2.le) k3 h1; refine ⟨v,hv1,.ret _,s',m',h2,⟨v,rfl,hv2⟩,k3.sub hsub,?_⟩; exact (ht.trans k2).sub (hsub.trans (List.sublist_append_left _ _))
  have abf:ds'=[]→∀ ps s',Bq P env' σ' rs ps→s'.Sublist σ'→R (.ret (mI (ps.map PV.weak))) s'→
    LeavesInM Fence.wide 0 P fn a'.tmps (fun e w'=>∃ out σ' m',R out σ'∧Br w' m' out e∧Conc w' m' σ'∧Trans w m σ w' m' σ') a'.defers .returning w':=by
   intro hd ps s' h1 hsub h2; rw [hs.ds,hd]; obtain ⟨v,hv1,hv2⟩:=Hf hrs hs.env hs.jm h1; exact ⟨v,hv1,.ret _,s',m',h2,⟨v,rfl,hv2⟩,hs.jm.sub hsub,ht.sub hsub⟩
  cases x with
  | normal=>
   cases hx; rcases hq with ⟨hd,ps,h1,s',hsub,h2⟩ | ⟨D,s1,hd,hs1,ps,h1,s',hsub,h2⟩
   · exact abf hd ps s' h1 hsub h2
   · exact hend D s1 hd hs1 ps s' h1 hsub h2
  | ret=>
   cases hx; rcases hq with ⟨hd,ps,h1,s',hsub,h2⟩ | ⟨D,s1,hd,hs1,ps,h1,s',hsub,h2⟩
   · exact abf hd ps s' h1 hsub h2
   · exact hend D s1 hd hs1 ps s' h1 hsub h2
  | exit id=>exact hq.elim
  | panic p=>exact hq.elim
theorem AW.acQ {P:Program} {n:Nat} {c:Code} {env:Env} {σ:List bA} {ds:List Deferred} {Q:Post} (i:Nat) {b:Nat} {cs:List PV} (cs':List PV) (hi:σ[i]?=some (.box b cs)) (hc:∀ w m vs,bC w m cs vs→bC w m cs' vs)
  (h:AW P n c env (σ.set i (.box b cs')) ds Q):AW P n c env σ ds Q:=by
 intro w m a QC hs ha; obtain ⟨k1,k2⟩:=MW hi hs.jm fun vs=>hc w m vs; exact h w m a QC ⟨hs.size,hs.ds,hs.env,k1⟩ (ha.step k2)
theorem bC.HY {w:World} {m:jO} {v:Value} {l:List (List PV)}:∀ (k:Nat) (cs:List PV) (vs:List Value),cs[k]?=some (.own v l)→bC w m cs vs→bC w m (cs.set k (.val v)) vs
 | 0,[],_,h,_=>by simp at h
 | k + 1,[],_,h,_=>by simp at h
 | 0,c :: cs,vs,h,hr=>by
  simp only [List.getElem?_cons_zero,Option.some.injEq] at h; subst h; simp only [bC] at hr; obtain ⟨u,vs',rfl,h1,h2⟩:=hr; simp only [dU] at h1; exact bC.cons (by simp only [dU]; exact h1.1) h2
 | k + 1,c :: cs,vs,h,hr=>by
  simp only [bC] at hr; obtain ⟨u,vs',rfl,h1,h2⟩:=hr; exact bC.cons h1 (bC.HY k cs vs' (by simpa using h) h2)
end Go.Abs
namespace Go.Abs
variable [iG]
open Go Go.Proofs Go.Shelf
theorem AC.replaceAll {P:Program} {ρ:Ren} {R:eT→List bA→Prop} (hD:¬ iG.D) (L:Lays.n155 P ρ) (X:Builder.Extra P ρ) {s old new:List UInt8} (hs:s.length < 4294967281) (h1:1≤old.length)
  (hm:∀ (w:World) (m:jO),iG.G w m→∃ n:Int,w.cell? ⟨ρ.g 1,0,Option.none⟩=some (.int .i64 n)) (hlen:s.length + Lib.count s old * new.length≤140737488355328)
  (h:R (.ret (.str (Lib.replaceAll s old new))) []):AC P (ρ.f 155) [.str s,.str old,.str new] [] R:=by
 intro w m vs hc hv; simp only [bC,dU] at hv; obtain ⟨v0,vs0,rfl,rfl,v1,vs1,rfl,rfl,v2,vs2,rfl,rfl,rfl⟩:=hv; obtain ⟨n,hn⟩:=hm w m hc.rE; refine (Any.strings_ReplaceAll L X ⟨s.toArray⟩ ⟨old.toArray⟩ ⟨new.toArray⟩ n w (by simpa [ByteArray.size] using hs) hn (by simpa [ByteArray.size] using h1) (by simpa [ByteArray.size,Lib.countB] using hlen)).mono ?_; rintro en w' ⟨rfl,hb⟩; obtain ⟨c1,c2⟩:=vD hD hc hb; exact ⟨_,_,m,h,⟨_,rfl,by simp only [dU]⟩,c1,c2⟩
theorem JY (c:UInt8) (new:List UInt8):∀ s:List UInt8,Lib.replaceK [c] new (Lib.count s [c]) s=s.flatMap fun x=>if x == c then new else [x]
 | []=>rfl
 | b :: l=>by
  have ih:=JY c new l; by_cases hb:b=c
  ·
   subst hb; have hi:Lib.index (b :: l) [b]=((0:Nat):Int):=by simp [Lib.index,List.isPrefixOf]
   rw [Lib.count_cons_eq,Nat.add_comm,Lib.replaceK_hit _ _ _ _ 0 hi]; simp only [List.take_zero,List.nil_append,List.length_singleton,Nat.zero_add,List.drop_succ_cons,List.drop_zero,ih,List.flatMap_cons,beq_self_eq_true,if_true]
  ·
   rw [Lib.count_cons_ne b c l hb,List.flatMap_cons,←ih,if_neg (by simpa using hb)]; cases hk:Lib.count l [c] with
   | zero=>rfl
   | succ k=>
    obtain ⟨i,hi⟩:=Lib.index_of_count (s:=l) (old:=[c]) (by omega); have hp:([c]:List UInt8).isPrefixOf (b :: l)=false:=by simp [List.isPrefixOf,Ne.symm hb]
    have hi2:Lib.index (b :: l) [c]=((i + 1:Nat):Int):=by
     have hne:(Lib.index l [c] == -1)=false:=by rw [hi]; simp
     rw [Lib.index,if_neg (by rw [hp]; simp),if_neg (by rw [hne]; simp),hi]; omega
    rw [Lib.replaceK_hit _ _ _ _ _ hi2,Lib.replaceK_hit _ _ _ _ _ hi]; simp [Nat.add_right_comm]
theorem LH {c:UInt8} {new s:List UInt8} (hn:([c] == new)=false):Lib.replaceAll s [c] new=s.flatMap fun x=>if x == c then new else [x]:=by
 unfold Lib.replaceAll Lib.replace; rw [hn,if_neg (by simp),←JY c new s]; simp [Lib.replaceNum]
end Go.Abs
