/- Proved here: plain facts on the functional texts. -/
import Derived.Test.YtdhmchjccpmppaaGreatDoorEvPlain2
import Derived.Test.YtdhmchjccpmppaaGreatDoorEvEval18
import Derived.KernelRfl
set_option linter.unusedVariables false
set_option linter.unusedSimpArgs false
set_option linter.unusedSectionVars false
set_option maxHeartbeats 2000000
namespace Go.Ft
open Go
attribute [local congr] jE
def nmX (s:Str):aj:=aj.mk 2 s (ah.mk 0 false 0 ([]:Str) [] []) [] []
def S_ (n:Int):aj:=aj.mk 1 ([]:Str) (ah.mk 2 false n ([]:Str) [] []) [] []
def afT (a:aj):aj:=aj.mk 6 ([45]:Str) (ah.mk 0 false 0 ([]:Str) [] []) [a] []
def cdX (a b c:aj):aj:=aj.mk 8 ([]:Str) (ah.mk 0 false 0 ([]:Str) [] []) [a,b,c] []
def fnX (f:Str) (l:List aj):aj:=aj.mk 5 f (ah.mk 0 false 0 ([]:Str) [] []) l []
def Ig (op:Str) (p q:ah × Int):ah × Int:=if p.2≠0 then nu p.2 else if q.2≠0 then nu q.2 else JF op p.1 q.1
def afU (p:ah × Int):ah × Int:=if p.2≠0 then nu p.2 else unS [45] p.1
theorem aaf (env:List av) (s:Str):iJ env (nmX s)=qB env s:=by rw [rU]; simp [nmX]
theorem abm (env:List av) (n:Int):iJ env (S_ n)=okV (vX n):=by rw [rU]; simp [S_,vX]
theorem zw (env:List av) (op:Str) (h:¬ (op=[38,38]∨op=[124,124])) (a b:aj):iJ env (qQ op a b)=Ig op (iJ env a) (iJ env b):=by
 rw [rU]
 have h1:¬ ((7:Int)=7∧(op=[38,38]∨op=[124,124])):=fun hh=>h hh.2
 unfold qQ vS Ig
 simp only [List.map_cons,List.map_nil,abG,h1,if_false]
 obtain ⟨ha,hb⟩:=not_or.1 h
 by_cases p0:(iJ env a).2=0
 ·
  by_cases q0:(iJ env b).2=0
  · simp [p0,q0,yR,ha,hb]
  · simp [p0,q0,ha,hb]
 · simp [p0,ha,hb]
theorem af7 (env:List av) (a:aj):iJ env (afT a)=afU (iJ env a):=by
 rw [rU]
 unfold afT afU vS
 simp only [List.map_cons,List.map_nil,Vb]
 by_cases h:(iJ env a).2=0
 · simp [h,yR]
 · simp [h]
theorem ais (env:List av) (a b c:aj):iJ env (cdX a b c)=Ox (iJ env a) (iJ env b) (iJ env c):=by
 rw [rU]
 unfold cdX vS
 simp
theorem Gi (op:Str) (u v:ah):Ig op (okV u) (okV v)=JF op u v:=by simp [Ig,okV]
theorem ad8 (n:Int):afU (okV (vX n))=okV (vX (0 - n)):=by simp [afU,okV,unS,vX]
theorem aga (b:Bool) (p q:ah × Int):Ox (okV (Cu b)) p q=if b then p else q:=by cases b <;> simp [Ox,okV,Cu]
theorem aeN (b:Bool) (q:ah × Int):uo [38,38] (okV (Cu b)) q=if b then zA q else okV (Cu false):=by cases b <;> simp [uo,okV,Cu]
theorem ajE (b:Bool) (q:ah × Int):uo [124,124] (okV (Cu b)) q=if b then okV (Cu true) else zA q:=by cases b <;> simp [uo,okV,Cu]
theorem Sj (b:Bool):zA (okV (Cu b))=okV (Cu b):=by simp [zA,okV,Cu]
theorem aev (u v:ah):Ig [61,61] (okV u) (okV v)=okV (Cu (qw u v == 0)):=by rw [Gi]; simp [JF]
theorem aeb (a b:Int):Ig [60] (okV (vX a)) (okV (vX b))=okV (Cu (decide (a < b))):=by
 rw [Gi]
 have h1:(vX a).kind=2:=rfl
 have h2:(vX b).kind=2:=rfl
 have h3:=(WJ a b).1
 have h4:qw (vX a) (vX b)=oV a b:=LC ⟨rfl,rfl⟩
 simp [JF,O1,h1,h2,h4,h3]
theorem eq_int (a b:Int):Ig [61,61] (okV (vX a)) (okV (vX b))=okV (Cu (decide (a=b))):=by
 rw [aev,LC ⟨rfl,rfl⟩]
 congr 2
 rw [Bool.eq_iff_iff]
 simp only [beq_iff_eq,decide_eq_true_eq]
 exact Ap
theorem abn (a b:Bool):Ig [61,61] (okV (Cu a)) (okV (Cu b))=okV (Cu (a == b)):=by
 rw [aev,JR]
 cases a <;> cases b <;> rfl
theorem show_true :zI (Cu true)=some ([116,114,117,101]:Str):=by decide +kernel
theorem Qk {src:Str} {env:List av} {e:aj} {n:Int} (hp:pW src=some (e,n,0)) (hb:e.bulk≤1099511627776) (hx:xval e=0) (hE:(env.map av.bulk).sum≤1048576) (hv:qC env=0):
  pG src env=if (iJ env e).2≠0 then some (([]:Str),(iJ env e).2) else au (zI (iJ env e).1) fun x4=>some (x4,(iJ env e).2):=by
 obtain ⟨p,_,_⟩:=xW (e:=e) (env:=env) hb hE
 have he:wJ e env=iJ env e:=by unfold wJ; simp [hv,hx]
 unfold pG
 rw [hp]
 rw [show ∀ F:aj→Int→Int→Option (Str × Int),F7 (some (e,n,(0:Int))) F=F e n 0 from fun _=>rfl]
 simp only [bne_self_eq_false,Bool.false_eq_true,if_false]
 rw [p,he,mD]
 by_cases h0:(iJ env e).2=0
 · simp [h0]
 · simp [h0]
def agI :Str:=[120,32,47,32,121,32,42,32,121,32,43,32,120,32,37,32,121,32,61,61,32,120]
def agH :Str:=[120,32,37,32,121,32,42,32,40,120,32,37,32,121,32,60,32,48,32,63,32,45,49,32,58,32,49,41,32,60,32,40,121,32,60,32,48,32,63,32,45,121,32,58,32,121,41,32,38,38,32,40,120,32,37,32,121,32,61,61,32,48,32,124,124,32,40,120,32,37,32,121,32,60,32,48,41,32,61,61,32,40,120,32,60,32,48,41,41]
def xX :aj:=nmX [120]
def yX :aj:=nmX [121]
def mX :aj:=qQ [37] xX yX
def aes :aj:=qQ [61,61] (qQ [43] (qQ [42] (qQ [47] xX yX) yX) mX) xX
def aer :aj:=qQ [38,38] (qQ [60] (qQ [42] mX (cdX (qQ [60] mX (S_ 0)) (afT (S_ 1)) (S_ 1))) (cdX (qQ [60] yX (S_ 0)) (afT yX) yX))
 (qQ [124,124] (qQ [61,61] mX (S_ 0)) (qQ [61,61] (qQ [60] mX (S_ 0)) (qQ [60] xX (S_ 0))))
theorem afL :pW agI=some (aes,0,0):=by kernel_rfl
theorem afK :pW agH=some (aer,0,0):=by kernel_rfl
theorem ajf :xval aes=0:=by decide +kernel
theorem aje :xval aer=0:=by decide +kernel
theorem aiB :aes.bulk≤1099511627776:=by decide +kernel
theorem aiA :aer.bulk≤1099511627776:=by decide +kernel
def Fj (x y:Int):List av:=[av.mk ([120]:Str) (ah.mk 2 false x ([]:Str) [] []),av.mk ([121]:Str) (ah.mk 2 false y ([]:Str) [] [])]
theorem abp {x y:Int} (hx:-9007199254740992≤x∧x≤9007199254740992) (hy:-9007199254740992≤y∧y≤9007199254740992):qC (Fj x y)=0:=by
 have h1:uZ (ah.mk 2 false x ([]:Str) [] []) 1=0:=(Fw _).2 (KZ hx)
 have h2:uZ (ah.mk 2 false y ([]:Str) [] []) 1=0:=(Fw _).2 (KZ hy)
 have p1:nY ([120]:Str)=true:=by decide +kernel
 have p2:nY ([121]:Str)=true:=by decide +kernel
 simp [qC,Fj,EL,h1,h2,p1,p2]
theorem YG (x y:Int):((Fj x y).map av.bulk).sum≤1048576:=by
 have h1:(ah.mk 2 false x ([]:Str) [] []).bulk=7:=yS x
 have h2:(ah.mk 2 false y ([]:Str) [] []).bulk=7:=yS y
 simp [Fj,av.bulk,h1,h2]
theorem abk (x y:Int):qB (Fj x y) [120]=okV (vX x):=by simp [Fj,qB,vX]
theorem abj (x y:Int):qB (Fj x y) [121]=okV (vX y):=by simp [Fj,qB,vX]
theorem agy (x y:Int):Ig [47] (okV (vX x)) (okV (vX y))=if y=0 then nu 12 else Fe (x.tdiv y):=by
 rw [Gi]; simp [JF,TR,vX]
theorem abE (x y:Int):Ig [37] (okV (vX x)) (okV (vX y))=if y=0 then nu 12 else okV (vX (x.tmod y)):=by
 rw [Gi]; simp [JF,TR,vX]
theorem abD (x y:Int):Ig [42] (okV (vX x)) (okV (vX y))=Fe (V4 x y):=by
 rw [Gi]; simp [JF,TR,vX]
theorem agx (x y:Int):Ig [43] (okV (vX x)) (okV (vX y))=Fe (x + y):=by
 rw [Gi]; simp [JF,XA,vX]
theorem PE {n:Int} (h:-9007199254740992≤n∧n≤9007199254740992):Fe n=okV (vX n):=if_pos h
theorem aaX {n:Int} (h:-9007199254740992≤n∧n≤9007199254740992):afz n=n:=by unfold afz; rw [if_neg (by omega),if_neg (by omega)]
theorem Vx (op:Str) {c:Int} (h:c≠0) (q:ah × Int):Ig op (nu c) q=nu c:=by simp [Ig,nu,h]
theorem UZ (x y:Int) (hy:y≠0):x.tdiv y * y + x.tmod y=x∧(0≤x→0≤x.tmod y∧0≤x.tdiv y * y)∧(x≤0→x.tmod y≤0∧x.tdiv y * y≤0)∧(x.tmod y).natAbs < y.natAbs:=by
 have h1:=Int.tmod_add_tdiv_mul x y
 have h2:(x.tmod y).natAbs < y.natAbs:=by rw [Int.natAbs_tmod]; exact Nat.mod_lt _ (by omega)
 have h3:(x.tmod y).natAbs≤x.natAbs:=Po (Nat.le_refl _)
 have h4:0≤x→0≤x.tmod y:=fun h=>Int.tmod_nonneg _ h
 have h5:x≤0→x.tmod y≤0:=fun h=>by
  have:=Int.tmod_nonneg (a:=-x) y (by omega)
  rw [Int.neg_tmod] at this; omega
 refine ⟨by omega,fun h=>⟨h4 h,?_⟩,fun h=>⟨h5 h,?_⟩,h2⟩
 · have:=h4 h; omega
 · have:=h5 h; omega
theorem ak8 {x y:Int} (hx:-9007199254740992≤x∧x≤9007199254740992) (hy:-9007199254740992≤y∧y≤9007199254740992):iJ (Fj x y) aes=if y=0 then nu 12 else okV (Cu true):=by
 unfold aes mX xX yX
 simp only [zw _ [61,61] (by decide),zw _ [43] (by decide),zw _ [42] (by decide),zw _ [47] (by decide),zw _ [37] (by decide),aaf,abk,abj,agy,abE]
 by_cases h0:y=0
 · simp only [h0,if_true,Vx _ (show (12:Int)≠0 by decide)]
 ·
  obtain ⟨d1,d2,d3,d4⟩:=UZ x y h0
  have dq:(x.tdiv y).natAbs≤x.natAbs:=tdiv_le (Nat.le_refl _)
  have b1:-9007199254740992≤x.tdiv y * y∧x.tdiv y * y≤9007199254740992:=by
   rcases Int.le_total 0 x with h | h
   · have:=d2 h; omega
   · have:=d3 h; omega
  simp only [h0,if_false]
  rw [PE (n:=x.tdiv y) (by omega),abD,V4,aaX b1,PE b1,agx,d1,PE hx,eq_int]
  simp
theorem ak7 {x y:Int} (hx:-9007199254740992≤x∧x≤9007199254740992) (hy:-9007199254740992≤y∧y≤9007199254740992) (h0:y≠0):iJ (Fj x y) aer=okV (Cu true):=by
 obtain ⟨d1,d2,d3,d4⟩:=UZ x y h0
 have dr:(x.tmod y).natAbs≤x.natAbs:=Po (Nat.le_refl _)
 unfold aer mX xX yX
 simp only [MB _ [38,38] (.inl rfl),MB _ [124,124] (.inr rfl),zw _ [61,61] (by decide),zw _ [60] (by decide),zw _ [42] (by decide),zw _ [37] (by decide),ais,af7,abm,aaf,abk,abj,abE,h0,if_false,aeb,aga,ad8,eq_int,abn]
 generalize x.tmod y=r at *
 have hm:∀ s:Int,(s=1∨s=-1)→Ig [42] (okV (vX r)) (okV (vX s))=okV (vX (r * s)):=by
  intro s hs
  have:-9007199254740992≤r * s∧r * s≤9007199254740992:=by rcases hs with rfl | rfl <;> omega
  rw [abD,V4,aaX this,PE this]
 have e1:Ig [42] (okV (vX r)) (if decide (r < 0)=true then okV (vX (0 - 1)) else okV (vX 1))=okV (vX (if r < 0 then -r else r)):=by
  by_cases h:r < 0
  ·
   simp only [h,decide_true,if_true]
   rw [hm (0 - 1) (.inr rfl)]; congr 2; omega
  ·
   simp only [h,decide_false,Bool.false_eq_true,if_false]
   rw [hm 1 (.inl rfl)]; congr 2; omega
 have e2:(if decide (y < 0)=true then okV (vX (0 - y)) else okV (vX y))=okV (vX (if y < 0 then -y else y)):=by
  by_cases h:y < 0
  · simp [h]
  · simp [h]
 have e3:decide ((if r < 0 then -r else r) < (if y < 0 then -y else y))=true:=by
  rw [decide_eq_true_eq]
  split <;> split <;> omega
 rw [e1,e2,aeb,e3,aeN,if_pos rfl,ajE]
 by_cases hr:r=0
 · simp only [hr,decide_true,if_true,Sj]
 ·
  have e4:(decide (r < 0) == decide (x < 0))=true:=by
   rcases Int.lt_or_le x 0 with h | h
   ·
    have:=d3 (by omega)
    have h5:r < 0:=by omega
    simp [h,h5]
   ·
    have:=d2 h
    have h5:¬ r < 0:=by omega
    have h6:¬ x < 0:=by omega
    simp [h5,h6]
  simp only [hr,decide_false,Bool.false_eq_true,if_false,e4,Sj]
theorem O6 (x1:Int) (y1:Int) (h:1 + 1≤1048576):wT x1 y1=some true:=by
 unfold wT
 split
 · exact nG
 ·
  rename_i hr
  simp only [Bool.or_eq_true,decide_eq_true_eq,not_or] at hr
  have hx:-9007199254740992≤x1∧x1≤9007199254740992:=by omega
  have hy:-9007199254740992≤y1∧y1≤9007199254740992:=by omega
  have s1:=Qk afL aiB ajf (YG x1 y1) (abp hx hy)
  have s2:=Qk afK aiA aje (YG x1 y1) (abp hx hy)
  rw [ak8 hx hy] at s1
  unfold agI Fj at s1
  unfold agH Fj at s2
  rw [s1,s2]
  by_cases h0:y1=0
  · simp [h0,nu,mD,nG]
  ·
   have e2:=ak7 hx hy h0
   unfold Fj at e2
   rw [e2]
   simp [h0,okV,show_true,mD,nG]
end Go.Ft
