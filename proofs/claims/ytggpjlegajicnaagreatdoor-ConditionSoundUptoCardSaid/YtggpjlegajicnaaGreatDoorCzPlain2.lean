/- Proved here: plain facts on the functional texts. -/
import Derived.Test.YtggpjlegajicnaaGreatDoorCzPlain1
set_option linter.unusedVariables false
set_option linter.unusedSimpArgs false
set_option linter.unusedSectionVars false
set_option maxHeartbeats 2000000
namespace Go.Ft
open Go
attribute [local congr] gy
def Tc (a b:ah):ah × Int:=
 if a.kind=2∧b.kind=2 then MX (a.dO + b.dO) else if a.kind=3∧b.kind=3 then (if a.bO.length + b.bO.length≤4096 then okV (mkS (a.bO ++ b.bO)) else xU 3)
 else if a.kind=4∧b.kind=4 then (if a.aI.length + b.aI.length≤1024 then okV (Ii (a.aI ++ b.aI)) else xU 3) else xU 9
def PO (op:Str) (a b:ah):ah × Int:=
 if a.kind=2∧b.kind=2 then (if op=[45] then MX (a.dO - b.dO) else if op=[42] then MX (aff a.dO b.dO) else if b.dO=0 then xU 12 else if op=[47] then MX (a.dO.tdiv b.dO) else okV (mkI (a.dO.tmod b.dO))) else xU 9
def Bz (op:Str) (a b:ah):ah × Int:=
 if op=[61,61] then okV (W_ (sM a b == 0)) else if op=[33,61] then okV (W_ (!(sM a b == 0)))
 else if op=[60] then K9 a b (decide (sM a b < 0)) else if op=[60,61] then K9 a b (decide (sM a b≤0)) else if op=[62] then K9 a b (decide (0 < sM a b)) else if op=[62,61] then K9 a b (decide (0≤sM a b))
 else if op=[43] then Tc a b else PO op a b
theorem EL (a b:ah) (k:Int):pK a b k=some (decide (a.kind=k∧b.kind=k)):=by
 unfold pK; congr 1; rw [Bool.eq_iff_iff]; simp
theorem Z_ {a b:ah} (ha:a.bulk < 4611686018427387904) (hb:b.bulk < 4611686018427387904):nJ a b=some (if (a.kind=2∧b.kind=2)∨(a.kind=3∧b.kind=3) then .ok (sM a b) else .bad ⟨9⟩):=by
 unfold nJ; rw [EL,EL,av,V5,av,jP]; by_cases h:(a.kind=2∧b.kind=2)∨(a.kind=3∧b.kind=3)
 · rw [if_pos h,if_pos (by simpa using h),jm,(L6 ha hb).1]; rfl
 · rw [if_neg h,if_neg (by simpa using h)]; rfl
theorem tdiv_le {a b:Int} {N:Nat} (h:a.natAbs≤N):(a.tdiv b).natAbs≤N:=by
 rw [Int.natAbs_tdiv]; exact Nat.le_trans (Nat.div_le_self _ _) h
theorem agL {a b:Int} {N:Nat} (h:a.natAbs≤N):(a.tmod b).natAbs≤N:=by
 rw [Int.natAbs_tmod]; exact Nat.le_trans (Nat.mod_le _ _) h
theorem aeh {a b:ah} (ha:VV a) (hb:VV b):F4 a b=some (Aj (Tc a b)):=by
 have la:=lT ha.1; have lb:=lT hb.1; have hL:xX=4294967296:=rfl; unfold F4 Tc; rw [EL,EL,EL]; simp only [av,decide_eq_true_eq]; by_cases h2:a.kind=2∧b.kind=2
 ·
  rw [if_pos h2,if_pos h2,yc (by omega),J3]; generalize MX (a.dO + b.dO)=p; unfold Aj; split <;> rfl
 ·
  rw [if_neg h2,if_neg h2]; by_cases h3:a.kind=3∧b.kind=3
  ·
   rw [if_pos h3,if_pos h3,yc (by omega),jP]; by_cases hc:a.bO.length + b.bO.length≤4096
   · rw [if_pos hc,if_pos (by simp; omega),jm,vP (by omega),av]; rfl
   · rw [if_neg hc,if_neg (by simp; omega)]; rfl
  ·
   rw [if_neg h3,if_neg h3,jP]; by_cases h4:a.kind=4∧b.kind=4
   ·
    rw [if_pos h4,if_pos (by simpa using h4),jm,yc (by omega),jP]; by_cases hc:a.aI.length + b.aI.length≤1024
    · rw [if_pos hc,if_pos (by simp; omega),jm,vP (by simp; omega),av,vP (by simp; omega),av]; rfl
    · rw [if_neg hc,if_neg (by simp; omega)]; rfl
   · rw [if_neg h4,if_neg (by simpa using h4)]; rfl
theorem ako {b:Int} (h:b≠0):chk (!(b == 0))=some ():=akn (by simpa using h)
theorem af9 {op:Str} {a b:ah} (ha:VV a) (hb:VV b):pO op a b=some (Aj (PO op a b)):=by
 have la:=lT ha.1; have lb:=lT hb.1; unfold pO PO; rw [EL,av,jP]; by_cases h2:a.kind=2∧b.kind=2
 ·
  rw [if_pos (by simpa using h2),if_pos h2,jm]; by_cases o1:op=[45]
  ·
   rw [if_pos (by simpa using o1),if_pos o1,yc (by omega),J3]; generalize MX (a.dO - b.dO)=p; unfold Aj; split <;> rfl
  ·
   rw [if_neg (by simpa using o1),if_neg o1]; by_cases o2:op=[42]
   ·
    rw [if_pos (by simpa using o2),if_pos o2,aaf ⟨la.2.2.2.1,la.2.2.2.2⟩ ⟨lb.2.2.2.1,lb.2.2.2.2⟩,av,J3]; generalize MX (aff a.dO b.dO)=p; unfold Aj; split <;> rfl
   ·
    rw [if_neg (by simpa using o2),if_neg o2,jP]; by_cases hz:b.dO=0
    · rw [if_neg (by simp [hz]),if_pos hz]; rfl
    ·
     rw [if_pos (by simpa using hz),if_neg hz,jm,ako hz,av,av]; have hd:=tdiv_le (a:=a.dO) (b:=b.dO) (N:=9007199254740992) (by omega); by_cases o3:op=[47]
     ·
      rw [if_pos (by simpa using o3),if_pos o3,yc (by omega),J3]; generalize MX (a.dO.tdiv b.dO)=p; unfold Aj; split <;> rfl
     · rw [if_neg (by simpa using o3),if_neg o3]; rfl
 · rw [if_neg (by simpa using h2),if_neg h2]; rfl
theorem Zi {op:Str} {a b:ah} (ha:VV a) (hb:VV b) (ba:a.bulk < 4611686018427387904) (bb:b.bulk < 4611686018427387904):
  (if op == ([61,61]:Str) then au (mU a b) fun x7=>au (eT x7) fun x8=>some (.ok x8)
  else if op == ([33,61]:Str) then au (mU a b) fun x9=>au (eT (!x9)) fun BH=>some (.ok BH)
  else if op == ([60]:Str) then dN (nJ a b) (fun e10=>some (.bad e10)) fun Hl=>au (eT (decide (Hl < 0))) fun Kn=>some (.ok Kn)
  else if op == ([60,61]:Str) then dN (nJ a b) (fun e11=>some (.bad e11)) fun KZ=>au (eT (decide (KZ≤0))) fun SQ=>some (.ok SQ)
  else if op == ([62]:Str) then dN (nJ a b) (fun e12=>some (.bad e12)) fun OI=>au (eT (decide (0 < OI))) fun Iu=>some (.ok Iu)
  else if op == ([62,61]:Str) then dN (nJ a b) (fun e13=>some (.bad e13)) fun SN=>au (eT (decide (0≤SN))) fun Zp=>some (.ok Zp)
  else if op == ([43]:Str) then dN (F4 a b) (fun e14=>some (.bad e14)) fun Zx=>some (.ok Zx)
  else dN (pO op a b) (fun e15=>some (.bad e15)) fun x20=>some (.ok x20))=some (Aj (Bz op a b)):=by
 unfold Bz; rw [(SL ba bb).1,Z_ ba bb,aeh ha hb,af9 ha hb]
 have rel:∀ r:Int→Bool,(dN (some (if (a.kind=2∧b.kind=2)∨(a.kind=3∧b.kind=3) then (.ok (sM a b):fJ aD Int) else .bad ⟨9⟩)) (fun e10=>some (.bad e10)) fun Hl=>au (eT (r Hl)) fun Kn=>some (.ok Kn))=some (Aj (K9 a b (r (sM a b)))):=by
  intro r; unfold K9; by_cases h:(a.kind=2∧b.kind=2)∨(a.kind=3∧b.kind=3)
  · rw [if_pos h,if_pos h]; rfl
  · rw [if_neg h,if_neg h]; rfl
 rw [rel fun x=>decide (x < 0),rel fun x=>decide (x≤0),rel fun x=>decide (0 < x),rel fun x=>decide (0≤x)]
 have ret:∀ p:ah × Int,(dN (some (Aj p)) (fun e=>some (.bad e)) fun x=>some (.ok x))=some (Aj p):=by
  intro p; unfold Aj; split <;> rfl
 rw [ret,ret]; simp only [beq_iff_eq,av,eT]
 repeat' split
 all_goals rfl
theorem afk {a:ah} (ha:VV a) (h4:a.kind=4):∀ x∈a.aI,zA x < 16:=by
 intro x hx; have h2:=ha.2; rw [wY,if_pos (by simp [h4])] at h2; have:=Yo (n:=2) hx; omega
theorem aeC (s:Str):acM (mkS s)=if s.length≤4096 then okV (mkS s) else xU 3:=by
 unfold acM; have e1:(mkS s).dO=0:=rfl; have e2:(mkS s).bO=s:=rfl; have e3:(mkS s).aI.length=0:=rfl; have e4:zA (mkS s)=1:=by rw [wY]; rfl
 rw [e1,e2,e3,e4,if_neg (by omega)]; by_cases h:s.length≤4096
 · rw [if_pos h,if_neg (by omega),if_neg (by omega)]
 · rw [if_neg h,if_pos (by omega)]
theorem acL {l:List ah} (hl:zA (Ii l)≤16):acM (Ii l)=if l.length≤1024 then okV (Ii l) else xU 3:=by
 unfold acM; have e1:(Ii l).dO=0:=rfl; have e2:(Ii l).bO.length=0:=rfl; have e3:(Ii l).aI=l:=rfl; rw [e1,e2,e3,if_neg (by omega)]; by_cases h:l.length≤1024
 · rw [if_pos h,if_neg (by omega),if_neg (by omega)]
 · rw [if_neg h,if_pos (by omega)]
theorem agV {a b:ah} (ha:VV a) (hb:VV b):GV (Tc a b) (a.bulk + b.bulk + 8000):=by
 have la:=lT ha.1; have lb:=lT hb.1; unfold Tc; split
 · exact (P_ _).mono (by omega)
 ·
  split
  ·
   split
   · exact GV.ok (N9 (by simp; omega)) (by rw [Bc]; simp; omega)
   · exact GV.er (by decide)
  ·
   split
   ·
    rename_i h4; split
    ·
     rename_i hc; refine GV.ok ((VY (by simpa using hc) fun x hx=>?_).2.2 fun x hx=>?_) ?_
     ·
      rcases List.mem_append.1 hx with h | h
      · exact ha.mem h
      · exact hb.mem h
     ·
      rcases List.mem_append.1 hx with h | h
      · exact afk ha h4.1 x h
      · exact afk hb h4.2 x h
     ·
      rw [Je,List.map_append,List.sum_append]; have e1:=uN a; have e2:=uN b; rw [ah.nT] at e1 e2; omega
    · exact GV.er (by decide)
   · exact GV.er (by decide)
theorem ah1 {op:Str} {a b:ah} (ha:VV a) (hb:VV b):GV (PO op a b) 7:=by
 have la:=lT ha.1; unfold PO; split
 ·
  split
  · exact P_ _
  ·
   split
   · exact P_ _
   ·
    split
    · exact GV.er (by decide)
    ·
     split
     · exact P_ _
     ·
      have hd:=agL (a:=a.dO) (b:=b.dO) (N:=9007199254740992) (by omega); exact GV.ok (Q_ (by omega)) (by rw [Jf]; omega)
 · exact GV.er (by decide)
theorem P6 (a b:ah) (r:Bool):GV (K9 a b r) 7:=by
 unfold K9; split
 · exact GV.ok (GK _) (by rw [yR]; omega)
 · exact GV.er (by decide)
theorem ahZ {op:Str} {a b:ah} (ha:VV a) (hb:VV b):GV (Bz op a b) (a.bulk + b.bulk + 8000):=by
 unfold Bz; split
 · exact GV.ok (GK _) (by rw [yR]; omega)
 ·
  split
  · exact GV.ok (GK _) (by rw [yR]; omega)
  ·
   split
   · exact (P6 _ _ _).mono (by omega)
   ·
    split
    · exact (P6 _ _ _).mono (by omega)
    ·
     split
     · exact (P6 _ _ _).mono (by omega)
     ·
      split
      · exact (P6 _ _ _).mono (by omega)
      ·
       split
       · exact agV ha hb
       · exact (ah1 ha hb).mono (by omega)
end Go.Ft
namespace Go.Ft
open Go
attribute [local congr] gy
def acs (a:ah):Str:=if a.kind=0 then [] else if a.kind=3 then a.bO else if a.kind=1 then (if a.dM then [116,114,117,101] else [102,97,108,115,101]) else um a.dO
def acW (s:Str):ah × Int:=match Gv s with | some (n,true)=>okV (mkI n) | _=>xU 1
def Kt (name:Str) (a:ah):ah × Int:=
 if name=[108,101,110] then (if a.kind=3∨a.kind=4∨a.kind=5 then okV (mkI ((a.bO.length:Int) + a.aI.length)) else xU 9)
 else if name=[107,101,121,115] then (if a.kind=5 then okV (Ii (a.keys.map mkS)) else xU 9)
 else if name=[115,116,114,105,110,103] then (if a.kind=4∨a.kind=5 then xU 9 else okV (mkS (acs a)))
 else if a.kind≠3 then xU 9
 else if name=[108,111,119,101,114] then okV (mkS (a.bO.map (Tk 65 90 32))) else if name=[117,112,112,101,114] then okV (mkS (a.bO.map (Tk 97 122 (-32)))) else acW a.bO
theorem afp {n:Int} (h:-9007199254740992≤n∧n≤9007199254740992):(um n).length≤21:=by
 unfold um; split
 ·
  have:=Jy 20 n.natAbs (by have:(10:Nat) ^ 20=100000000000000000000:=(by decide); omega) (by omega); simp only [List.length_cons]; omega
 ·
  have:=Jy 20 n.toNat (by have:(10:Nat) ^ 20=100000000000000000000:=(by decide); omega) (by omega); omega
theorem Qd {u:Nat} (h:u < 10):Ft.byteOf ((48 + u:Nat):Int)=dg u:=by
 apply UInt8.toNat_inj.1; have:((byteOf ((48 + u:Nat):Int)).toNat:Int)=((48 + u:Nat):Int):=adE (by omega) (by omega); rw [Oj h]; omega
theorem afL :∀ (k u:Nat),u < 10 ^ k→u < 100000000000000000000→0 < k→u≤9223372036854775807→mH k (u:Int)=some (tF 20 u)∧(0 < u→mH k (-(u:Int))=some (45 :: tF 20 u))
 | 0,_,_,_,h,_=>by omega
 | k + 1,u,h,h20,_,hm=>by
  have hL:xX=4294967296:=rfl; rw [mH,mH,Am,Am]; by_cases hu:u < 10
  ·
   constructor
   · rw [if_neg (by simp),if_pos (by simp; omega),yc (by omega),GY hu,show (48:Int) + (u:Int)=((48 + u:Nat):Int) from by omega,Qd hu]
   ·
    intro hp; rw [if_pos (by simp; omega),if_pos (by simp; omega),yc (by omega),GY hu,show (48:Int) - -(u:Int)=((48 + u:Nat):Int) from by omega,Qd hu,vP (by simp; omega)]; rfl
  ·
   have hk:0 < k:=by
    rcases Nat.eq_zero_or_pos k with h0 | h0
    · subst h0; omega
    · exact h0
   obtain ⟨i1,i2⟩:=afL k (u / 10) (by rw [Nat.pow_succ] at h; omega) (by omega) hk (by omega); have hlen:=Jy 20 (u / 10) (by have:(10:Nat) ^ 20=100000000000000000000:=(by decide); omega) (by omega); constructor
   ·
    rw [if_neg (by simp),if_neg (by simp; omega),show ((u:Int).tdiv 10)=((u / 10:Nat):Int) from rfl,show ((u:Int).tmod 10)=((u % 10:Nat):Int) from rfl,yc (by omega),i1,av,yc (by omega),
     show (48:Int) + ((u % 10:Nat):Int)=((48 + u % 10:Nat):Int) from by omega,Qd (by omega),vP (by simp; omega),Nj hu h20]
   ·
    intro hp
    rw [if_pos (by simp; omega),if_neg (by simp; omega),Int.neg_tdiv,Int.neg_tmod,show ((u:Int).tdiv 10)=((u / 10:Nat):Int) from rfl,show ((u:Int).tmod 10)=((u % 10:Nat):Int) from rfl,yc (n:=-((u / 10:Nat):Int)) (by omega),i2 (by omega),av,yc (by omega),
     show (48:Int) - -((u % 10:Nat):Int)=((48 + u % 10:Nat):Int) from by omega,Qd (by omega),vP (by simp; omega),Nj hu h20,List.cons_append]
theorem Nl :∀ (k m:Nat) (n:Int) (r:Str),k≤m→mH k n=some r→mH m n=some r
 | 0,_,_,_,_,h=>by cases h
 | k + 1,0,_,_,h,_=>by omega
 | k + 1,m + 1,n,r,hk,h=>by
  rw [mH,Am] at h ⊢; split at h
  ·
   rename_i h1; rw [if_pos h1]; split at h
   ·
    rename_i h2; rw [if_pos h2]; exact h
   ·
    rename_i h2; rw [if_neg h2]; obtain ⟨x,hx,h⟩:=Kk h; rw [Nl k m _ _ (by omega) hx,av]; exact h
  ·
   rename_i h1; rw [if_neg h1]; split at h
   ·
    rename_i h2; rw [if_pos h2]; exact h
   ·
    rename_i h2; rw [if_neg h2]; obtain ⟨x,hx,h⟩:=Kk h; rw [Nl k m _ _ (by omega) hx,av]; exact h
theorem aaB {n:Int} (h:-9007199254740992≤n∧n≤9007199254740992):I4 n=some (um n):=by
 have e20:(10:Nat) ^ 20=100000000000000000000:=by decide
 unfold I4 um; by_cases hn:n < 0
 ·
  rw [if_pos hn]; have:=(afL 20 n.natAbs (by omega) (by omega) (by omega) (by omega)).2 (by omega); rw [show -((n.natAbs:Nat):Int)=n from by omega] at this; exact Nl 20 BIG n _ (by have:=iJ; omega) this
 ·
  rw [if_neg hn]; have:=(afL 20 n.toNat (by omega) (by omega) (by omega) (by omega)).1; rw [show ((n.toNat:Nat):Int)=n from by omega] at this; exact Nl 20 BIG n _ (by have:=iJ; omega) this
theorem ac4 {n:Int} (h:-9007199254740992≤n∧n≤9007199254740992):strconv_Itoa n=some (um n):=by
 unfold strconv_Itoa; rw [if_pos (by omega)]
theorem kinds {a:ah} (ha:VV a):0≤a.kind∧a.kind≤5:=by
 have h1:=((vT a).1 ha.1).1; have:=CV h1; omega
theorem ah7 :∃ n,BIG=n + 1:=⟨BIG - 1,by decide⟩
theorem acw {a:ah} (ha:VV a) (hb:a.bulk < 4611686018427387904):CY a=some (if a.kind=4∨a.kind=5 then ([],9) else (acs a,0))∧XW a=some (if a.kind=4∨a.kind=5 then ([],9) else (acs a,0)):=by
 have la:=lT ha.1; have hk:=kinds ha; unfold CY XW; by_cases h45:a.kind=4∨a.kind=5
 · rw [if_pos h45,if_pos (by simpa using h45),if_pos (by simpa using h45)]; exact ⟨rfl,rfl⟩
 ·
  have b45:((a.kind == 4) || (a.kind == 5))=false:=by rw [Bool.or_eq_false_iff,beq_eq_false_iff_ne,beq_eq_false_iff_ne]; omega
  have bz:((0:Int) != 0)=false:=rfl; rw [if_neg h45,Cz hb,Vw hb,(LZ _).2 ha]; simp only [b45,av,bz,Bool.false_eq_true,if_false]; unfold acs; by_cases h0:a.kind=0
  · simp only [h0,beq_self_eq_true,if_true,and_self]
  ·
   have b0:(a.kind == 0)=false:=by simpa using h0
   simp only [b0,h0,Bool.false_eq_true,if_false]; by_cases h3:a.kind=3
   · simp only [h3,beq_self_eq_true,if_true,and_self]
   ·
    have b3:(a.kind == 3)=false:=by simpa using h3
    simp only [b3,h3,Bool.false_eq_true,if_false]; obtain ⟨n,hn⟩:=ah7; unfold ER OV; rw [hn,pF,wH,ET,KD]; by_cases h1:a.kind=1
    ·
     simp only [h1,beq_self_eq_true,if_true,strconv_FormatBool,qc]; have e10:((1:Int) == 0)=false:=rfl; rw [e10]; cases a.dM <;> exact ⟨rfl,rfl⟩
    ·
     have h2:a.kind=2:=by omega
     rw [h2,aaB ⟨la.2.2.2.1,la.2.2.2.2⟩,ac4 ⟨la.2.2.2.1,la.2.2.2.2⟩]; exact ⟨rfl,rfl⟩
theorem X_ {s:Str} (hs:s.length≤281474976710656):(fP (uz s) fun n1 ok1=>dN (dK ok1 1) (fun e6=>some (.bad e6)) fun _=>au (qg n1) fun KZ=>some (.ok KZ))=some (Aj (acW s))∧
  (fP (Gv s) fun n1 ok1=>if !ok1 then some ((ah.mk 0 false 0 ([]:Str) [] []),1) else some ((ah.mk 2 false n1 ([]:Str) [] []),0))=some (acW s)∧GV (acW s) 7:=by
 obtain ⟨n,ok,n',h1,h2,h3⟩:=number_eq hs; unfold acW; rw [h1,h2,dh,dh,jP]; cases ok with
 | true=>
  obtain ⟨e,h4⟩:=h3 rfl; subst e; exact ⟨rfl,rfl,GV.ok (Q_ h4) (by rw [Jf]; omega)⟩
 | false=>exact ⟨rfl,rfl,GV.er (by decide)⟩
theorem ae7 {name:Str} {a:ah} (ha:VV a) (hb:a.bulk < 4611686018427387904):Jr name a=some (Aj (Kt name a)):=by
 have la:=lT ha.1; have hL:xX=4294967296:=rfl; unfold Jr Kt iB; by_cases n1:name=[108,101,110]
 ·
  have m1:(name == ([108,101,110]:Str))=true:=by simpa using n1
  rw [if_pos m1,if_pos n1]; simp only [av,V5,jP]; by_cases hk:a.kind=3∨a.kind=4∨a.kind=5
  · rw [if_pos (by simp; omega),if_pos hk,jm,yc (by omega)]; rfl
  · rw [if_neg (by simp; omega),if_neg hk]; rfl
 ·
  have m1:(name == ([108,101,110]:Str))=false:=by simpa using n1
  rw [m1,if_neg (by simp),if_neg n1]; by_cases n2:name=[107,101,121,115]
  ·
   have m2:(name == ([107,101,121,115]:Str))=true:=by simpa using n2
   rw [if_pos m2,if_pos n2,av,jP]; by_cases hk:a.kind=5
   · rw [if_pos (by simpa using hk),if_pos hk,jm,abn (by omega)]; rfl
   · rw [if_neg (by simpa using hk),if_neg hk]; rfl
  ·
   have m2:(name == ([107,101,121,115]:Str))=false:=by simpa using n2
   rw [m2,if_neg (by simp),if_neg n2]; by_cases n3:name=[115,116,114,105,110,103]
   ·
    have m3:(name == ([115,116,114,105,110,103]:Str))=true:=by simpa using n3
    rw [if_pos m3,if_pos n3,(acw ha hb).1]; by_cases hk:a.kind=4∨a.kind=5
    · rw [if_pos hk,if_pos hk,dh,jP]; rfl
    · rw [if_neg hk,if_neg hk,dh,jP]; rfl
   ·
    have m3:(name == ([115,116,114,105,110,103]:Str))=false:=by simpa using n3
    rw [m3,if_neg (by simp),if_neg n3,av,jP]; by_cases hk:a.kind=3
    ·
     have k3:(a.kind == 3)=true:=by simpa using hk
     rw [k3,if_pos (by rfl),if_neg (c:=a.kind≠3) (by simpa using hk),jm]; by_cases n4:name=[108,111,119,101,114]
     · rw [if_pos (c:=name=[108,111,119,101,114]) n4,if_pos (by simpa using n4),(UO (by omega) _ _ _).1]; rfl
     ·
      have m4:(name == ([108,111,119,101,114]:Str))=false:=by simpa using n4
      rw [m4,if_neg (c:=false=true) (by simp),if_neg (c:=name=[108,111,119,101,114]) n4]; by_cases n5:name=[117,112,112,101,114]
      · rw [if_pos (c:=name=[117,112,112,101,114]) n5,if_pos (by simpa using n5),(UO (by omega) _ _ _).1]; rfl
      ·
       have m5:(name == ([117,112,112,101,114]:Str))=false:=by simpa using n5
       rw [m5,if_neg (c:=false=true) (by simp),if_neg (c:=name=[117,112,112,101,114]) n5]; exact (X_ (by omega)).1
    ·
     have k3:(a.kind == 3)=false:=by simpa using hk
     rw [k3,if_neg (c:=false=true) (by simp),if_pos (c:=a.kind≠3) hk]; rfl
theorem ahr {name:Str} {a:ah} (ha:VV a):GV (Kt name a) 5000000:=by
 have la:=lT ha.1
 have txt:(acs a).length≤4096:=by
  unfold acs; have:=afp ⟨la.2.2.2.1,la.2.2.2.2⟩; split
  · simp
  ·
   split
   · omega
   ·
    split
    · split <;> simp
    · omega
 have amP:∀ s∈a.keys,s.length≤4096:=by
  have h1:=((vT a).1 ha.1).1; intro s hs
  have key:∀ (l:List Str) (p:Option Str),JU p l=true→∀ s∈l,s.length≤64:=by
   intro l
   induction l with
   | nil=>intro p _ s hs; cases hs
   | cons x l ih=>
    intro p h s hs; rw [JU.eq_def] at h; simp only [Bool.and_eq_true] at h; rcases List.mem_cons.1 hs with rfl | hs
    · exact (FP h.1.1).2
    · exact ih _ h.2 s hs
  by_cases h5:a.kind=5
  ·
   unfold oh at h1; rw [if_neg (by omega)] at h1; split at h1
   · cases h1
   ·
    split at h1
    · cases h1
    ·
     split at h1
     · cases h1
     ·
      split at h1
      · cases h1
      ·
       rename_i hq; simp only [h5,beq_self_eq_true,Bool.true_and,Bool.not_eq_true',Bool.not_eq_false,Bool.and_eq_true] at hq; have:=key _ _ hq.2 s hs; omega
  ·
   have hp:=NJ h1; unfold rG at hp; simp only [Bool.and_eq_true,Bool.or_eq_true,beq_iff_eq] at hp; have:=hp.2; have hz:a.keys.length=0:=by omega
   have:=List.eq_nil_of_length_eq_zero hz; rw [this] at hs; cases hs
 unfold Kt; split
 ·
  split
  · exact GV.ok (Q_ (by omega)) (by rw [Jf]; omega)
  · exact GV.er (by decide)
 ·
  split
  ·
   split
   ·
    obtain ⟨h1,h2⟩:=Xz la.2.2.1 amP; exact GV.ok h1 (by omega)
   · exact GV.er (by decide)
  ·
   split
   ·
    split
    · exact GV.er (by decide)
    · exact GV.ok (N9 txt) (by rw [Bc]; omega)
   ·
    split
    · exact GV.er (by decide)
    ·
     split
     · exact GV.ok (N9 (by simp; omega)) (by rw [Bc]; simp; omega)
     ·
      split
      · exact GV.ok (N9 (by simp; omega)) (by rw [Bc]; simp; omega)
      · exact (X_ (by omega)).2.2.mono (by omega)
end Go.Ft
namespace Go.Ft
open Go
attribute [local congr] gy
def Nn (a b:ah):ah × Int:=
 if a.kind=4 then okV (W_ (a.aI.any fun x=>sM x b == 0)) else if a.kind=3∧b.kind=3 then okV (W_ (lN a.bO b.bO).isSome) else if a.kind=5∧b.kind=3 then okV (W_ (Rz a b.bO).isSome) else xU 9
def MW (a b:ah):ah × Int:=
 if a.kind=4∧b.kind=3 then (if a.aI.all fun x=>x.kind == 3 then (if (nP (a.aI.map (·.bO)) b.bO).length≤4096 then okV (mkS (nP (a.aI.map (·.bO)) b.bO)) else xU 3) else xU 9) else xU 9
def VD (s t:Str):ah × Int:=if t=[] then xU 1 else if (nV t (s.length + 1) s).length≤1024 then okV (Ii ((nV t (s.length + 1) s).map mkS)) else xU 3
def Ih (name:Str) (a b:ah):ah × Int:=
 if name=[100,101,102,97,117,108,116] then (if a.kind=0 then okV b else okV a) else if name=[99,111,110,116,97,105,110,115] then Nn a b else if name=[106,111,105,110] then MW a b
 else if ¬ (a.kind=3∧b.kind=3) then xU 9
 else if name=[115,116,97,114,116,115,119,105,116,104] then okV (W_ (preS a.bO b.bO)) else if name=[101,110,100,115,119,105,116,104] then okV (W_ (aej a.bO b.bO)) else VD a.bO b.bO
theorem Ak (p:ah × Int):(dN (some (Aj p)) (fun e=>some (.bad e)) fun x=>some (.ok x))=some (Aj p):=by
 unfold Aj; split <;> rfl
theorem aiJ {a b:ah} (ha:a.bulk < 4611686018427387904) (hb:b.bulk < 4611686018427387904):oF a b BIG 0=some (.ok (a.aI.any fun x=>sM x b == 0))∧wL a b BIG 0=some (okV (W_ (a.aI.any fun x=>sM x b == 0))):=by
 have hl:=uT a; constructor
 ·
  rw [bZ (F:=fun k (_:Unit) i=>oF a b k i) (l:=a.aI) (body:=fun _ e1 (_:Unit) r=>au (mU e1 b) fun x3=>if x3 then some (.ok true) else r ()) (fin:=fun _=>some (.ok false)) (by omega) (fun k s i=>rfl) ()]
  have key:∀ (t:List ah) (i:Nat),(∀ x∈t,x.bulk < 4611686018427387904)→bY (R:=fJ aD Bool) (fun _ e1 (_:Unit) r=>au (mU e1 b) fun x3=>if x3 then some (.ok true) else r ()) (fun _=>some (.ok false)) i t ()=some (.ok (t.any fun x=>sM x b == 0)):=by
   intro t
   induction t with
   | nil=>intro i _; rfl
   | cons d t ih=>
    intro i h; rw [bY,(SL (h d (by simp)) hb).1,av,List.any_cons]; cases (sM d b == 0) with
    | true=>rfl
    | false=>simp only [Bool.false_eq_true,if_false,Bool.false_or]; exact ih (i + 1) fun x hx=>h x (by simp [hx])
  exact key _ 0 fun x hx=>by have:=gI hx; omega
 ·
  rw [bZ (F:=fun k (_:Unit) i=>wL a b k i) (l:=a.aI) (body:=fun _ e1 (_:Unit) r=>au (xI e1 b) fun x1=>if x1 then au (nM true) fun x2=>some (x2,0) else r ()) (fin:=fun _=>au (nM false) fun x3=>some (x3,0)) (by omega) (fun k s i=>rfl) ()]
  have key:∀ (t:List ah) (i:Nat),(∀ x∈t,x.bulk < 4611686018427387904)→bY (fun _ e1 (_:Unit) r=>au (xI e1 b) fun x1=>if x1 then au (nM true) fun x2=>some (x2,(0:Int)) else r ()) (fun _=>au (nM false) fun x3=>some (x3,0)) i t ()=some (okV (W_ (t.any fun x=>sM x b == 0))):=by
   intro t
   induction t with
   | nil=>intro i _; rfl
   | cons d t ih=>
    intro i h; rw [bY,(SL (h d (by simp)) hb).2,av,List.any_cons]; cases (sM d b == 0) with
    | true=>rfl
    | false=>simp only [Bool.false_eq_true,if_false,Bool.false_or]; exact ih (i + 1) fun x hx=>h x (by simp [hx])
  exact key _ 0 fun x hx=>by have:=gI hx; omega
theorem adj {a b:ah} (ha:VV a) (hb:VV b) (ba:a.bulk < 4611686018427387904) (bb:b.bulk < 4611686018427387904):(dN (wE a b) (fun e1=>some (.bad e1)) fun x2=>au (eT x2) fun x3=>some (.ok x3))=some (Aj (Nn a b))∧Mx a b=some (Nn a b):=by
 have la:=lT ha.1; have lb:=lT hb.1; have hk:=zI a; unfold wE Mx Nn iB; rw [(aiJ ba bb).1,(aiJ ba bb).2,EL]; by_cases h4:a.kind=4
 ·
  have b4:(a.kind == 4)=true:=by simpa using h4
  simp only [b4,h4,if_true,av,jm]; exact ⟨rfl,rfl⟩
 ·
  have b4:(a.kind == 4)=false:=by simpa using h4
  simp only [b4,h4,if_false,av,Bool.false_eq_true,decide_eq_true_eq]; by_cases Io:a.kind=3∧b.kind=3
  ·
   have e1:((b.kind != 3) || ((a.kind != 3) && (a.kind != 5)))=false:=by simp [Io.1,Io.2]
   have e5:(a.kind == 5)=false:=by simp [Io.1]
   simp only [Io,and_self,if_true,strings_Contains,e1,e5,Bool.false_eq_true,if_false]; rw [if_pos (by omega),aiD (by omega) (by omega)]; simp only [av,jm,afA,List.drop_zero]; exact ⟨rfl,rfl⟩
  ·
   rw [if_neg Io,if_neg Io]; by_cases Px:a.kind=5∧b.kind=3
   ·
    have e1:((b.kind != 3) || ((a.kind != 3) && (a.kind != 5)))=false:=by simp [Px.1,Px.2]
    have e5:(a.kind == 5)=true:=by simp [Px.1]
    have e3:(b.kind == 3)=true:=by simp [Px.2]
    rw [if_pos Px,e1,e5,e3]; simp only [if_true,av,NY,jm,Bool.false_eq_true,if_false]; rw [abe ha.1 ba,ahi (by omega)]; cases Rz a b.bO with
    | none=>exact ⟨rfl,rfl⟩
    | some v=>exact ⟨rfl,rfl⟩
   ·
    have e1:((b.kind != 3) || ((a.kind != 3) && (a.kind != 5)))=true:=by
     rw [Bool.or_eq_true,Bool.and_eq_true,bne_iff_ne,bne_iff_ne,bne_iff_ne]; omega
    have e2:(if (a.kind == 5)=true then some (b.kind == 3) else some false)=some false:=by
     by_cases h5:a.kind=5
     ·
      rw [if_pos (by simpa using h5)]; have:(b.kind == 3)=false:=by rw [beq_eq_false_iff_ne]; omega
      rw [this]
     · rw [if_neg (by simpa using h5)]
    rw [if_neg Px,e1,e2,av,NZ]; exact ⟨rfl,rfl⟩
theorem afN (a b:ah):GV (Nn a b) 7:=by
 unfold Nn; split
 · exact GV.ok (GK _) (by rw [yR]; omega)
 ·
  split
  · exact GV.ok (GK _) (by rw [yR]; omega)
  ·
   split
   · exact GV.ok (GK _) (by rw [yR]; omega)
   · exact GV.er (by decide)
theorem UY :∀ (l:List Str) (t:Str),(nP l t).length=(l.map List.length).sum + t.length * (l.length - 1)
 | [],t=>by simp [nP]
 | [x],t=>by simp [nP]
 | x :: y :: r,t=>by
  rw [nP,List.length_append,List.length_append,UY (y :: r) t]; simp only [List.map_cons,List.sum_cons,List.length_cons,Nat.add_sub_cancel]; rw [Nat.mul_add t.length r.length 1]; omega
theorem Rp :∀ (l:List Str) (x t:Str),nP (l ++ [x]) t=if l=[] then x else nP l t ++ (t ++ x)
 | [],x,t=>by simp [nP]
 | [a],x,t=>by simp [nP]
 | a :: b :: r,x,t=>by
  have ih:=Rp (b :: r) x t; rw [List.cons_append,List.cons_append,nP,←List.cons_append,ih,if_neg (by simp),if_neg (by simp),nP]; simp
theorem aiw {a b:ah} (la:∀ x∈a.aI,x.bO.length≤4096) (lb:b.bO.length≤4096) (ll:a.aI.length≤1024):∀ (t:List ah) (i n:Nat) (l:List Str),t=a.aI.drop i→i≤a.aI.length→l.length=i→n=(l.map List.length).sum→n≤i * 4096→
  bY (R:=fJ aD ah) (fun _ e2 (s:Int × List Str) r=>au (iB e2 3) fun x4=>dN (dK x4 9) (fun e3=>some (.bad e3)) fun _=>au (app s.2 ([e2.bO]:List Str)) fun l2=>r (bW (s.1 + (e2.bO.length:Int)),l2))
   (fun s=>dN (dK (decide ((bW (s.1 + (bW ((b.bO.length:Int) * (if 0 < (bW ((s.2.length:Int) - 1)) then (bW ((s.2.length:Int) - 1)) else 0)))))≤4096)) 3) (fun e4=>some (.bad e4)) fun _=>au (strings_Join s.2 b.bO) fun x5=>au (mh x5) fun x6=>some (.ok x6)) i t ((n:Int),l)
   =some (Aj (if t.all fun x=>x.kind == 3 then (if (nP (l ++ t.map (·.bO)) b.bO).length≤4096 then okV (mkS (nP (l ++ t.map (·.bO)) b.bO)) else xU 3) else xU 9))
 | [],i,n,l,ht,hi,hl,hn,hb=>by
  have hj:=UY l b.bO; have hL:b.bO.length * (l.length - 1)≤4096 * 1024:=Nat.mul_le_mul lb (by omega); rw [bY]; simp only [List.all_nil,if_true,List.map_nil,List.append_nil]
  have e:(if 0 < (bW ((l.length:Int) - 1)) then (bW ((l.length:Int) - 1)) else 0)=((l.length - 1:Nat):Int):=by
   rw [yc (by omega)]; split <;> omega
  rw [e,←Int.natCast_mul,yc (n:=((b.bO.length * (l.length - 1):Nat):Int)) (by omega),yc (by omega),jP]; by_cases hc:(nP l b.bO).length≤4096
  · rw [if_pos hc,if_pos (by simp; omega),jm,strings_Join,if_pos ⟨by omega,by omega⟩]; rfl
  · rw [if_neg hc,if_neg (by simp; omega)]; rfl
 | x :: t,i,n,l,ht,hi,hl,hn,hb=>by
  obtain ⟨h1,e1,e2⟩:=wP ht; have hm:x∈a.aI:=by rw [e1]; exact List.getElem_mem h1
  have hx:=la x hm; have aft:xX=4294967296:=rfl; rw [bY,iB,av,jP,List.all_cons]; by_cases h3:x.kind=3
  ·
   have b3:(x.kind == 3)=true:=by simpa using h3
   rw [b3,if_pos rfl,jm,Bool.true_and]; simp only; rw [vP (by simp; omega),av,yc (by omega),show (n:Int) + (x.bO.length:Int)=((n + x.bO.length:Nat):Int) from by omega]; rw [aiw la lb ll t (i + 1) (n + x.bO.length) (l ++ [x.bO]) e2 (by omega) (by simp; omega) (by simp [hn]) (by omega)]; simp
  ·
   have b3:(x.kind == 3)=false:=by simpa using h3
   rw [b3,if_neg (by simp),Bool.false_and,if_neg (by simp)]; rfl
theorem afo {a b:ah} (la:∀ x∈a.aI,x.bO.length≤4096) (lb:b.bO.length≤4096) (ll:a.aI.length≤1024):∀ (t:List ah) (i:Nat) (l:List Str) (k:Nat),t=a.aI.drop i→i≤a.aI.length→l.length=i→(nP l b.bO).length≤i * 8192→a.aI.length < k + i→
  xE a b k (nP l b.bO) (i:Int)=some (if t.all fun x=>x.kind == 3 then (if (nP (l ++ t.map (·.bO)) b.bO).length≤4096 then okV (mkS (nP (l ++ t.map (·.bO)) b.bO)) else xU 3) else xU 9)
 | _,i,l,0,_,_,_,_,h=>by omega
 | [],i,l,k + 1,ht,hi,hl,hb,hk=>by
  have h1:=Cq ht; rw [xE,if_neg (by simp; omega),J7,av]; refine (UE (v:=mkS (nP l b.bO)) (by rw [Bc]; omega)).trans ?_; rw [aeC]; simp
 | x :: t,i,l,k + 1,ht,hi,hl,hb,hk=>by
  obtain ⟨h1,e1,e2⟩:=wP ht; have hm:x∈a.aI:=by rw [e1]; exact List.getElem_mem h1
  have hx:=la x hm; have aft:xX=4294967296:=rfl; rw [xE,if_pos (by simp; omega),vF h1,av,←e1,List.all_cons]; by_cases h3:x.kind=3
  ·
   have b3:(x.kind == 3)=true:=by simpa using h3
   have c3:(x.kind != 3)=false:=by simp [h3]
   rw [c3,if_neg (by simp),b3,Bool.true_and]; simp only [av]; have hs:=Rp l x.bO b.bO; by_cases h0:l=[]
   ·
    subst h0; have hi0:i=0:=by rw [←hl]; rfl
    rw [if_pos rfl] at hs; rw [if_neg (by simp; omega),vP (by simp [nP]; omega),av,yg (by omega)]; have hj:nP ([]:List Str) b.bO ++ x.bO=nP ([] ++ [x.bO]) b.bO:=by rw [hs]; rfl
    rw [hj,afo la lb ll t (i + 1) ([] ++ [x.bO]) k e2 (by omega) (by simp; omega) (by rw [hs]; omega) (by omega)]; simp
   ·
    have hi0:0 < i:=by rw [←hl]; exact List.length_pos_iff.2 h0
    rw [if_pos (by simp; omega),vP (by omega),av,vP (by simp; omega),av,yg (by omega)]; rw [if_neg h0] at hs; rw [List.append_assoc,←hs,afo la lb ll t (i + 1) (l ++ [x.bO]) k e2 (by omega) (by simp; omega) (by rw [hs]; simp; omega) (by omega)]; simp
  ·
   have b3:(x.kind == 3)=false:=by simpa using h3
   have c3:(x.kind != 3)=true:=by simp [h3]
   rw [c3,if_pos rfl,b3,Bool.false_and,if_neg (by simp)]; rfl
theorem ac3 {a b:ah} (ha:VV a) (hb:VV b):Bj a b=some (Aj (MW a b))∧XV a b=some (MW a b):=by
 have la:=lT ha.1; have lb:=lT hb.1; have lx:∀ x∈a.aI,x.bO.length≤4096:=fun x hx=>(lT (ha.mem hx).1).1; unfold Bj XV MW iB; simp only [av,wN]; by_cases h:a.kind=4∧b.kind=3
 ·
  have e1:((a.kind == 4) && (b.kind == 3))=true:=by simp [h.1,h.2]
  have e2:((a.kind != 4) || (b.kind != 3))=false:=by simp [h.1,h.2]
  rw [e1,e2,NY,jm,if_pos h,if_neg (c:=false=true) (by simp)]; constructor
  ·
   rw [bZ (F:=fun k (s:Int × List Str) i=>uD a b k s.1 s.2 i) (l:=a.aI)
    (body:=fun _ e2 (s:Int × List Str) r=>au (iB e2 3) fun x4=>dN (dK x4 9) (fun e3=>some (.bad e3)) fun _=>au (app s.2 ([e2.bO]:List Str)) fun l2=>r (bW (s.1 + (e2.bO.length:Int)),l2))
    (fin:=fun s=>dN (dK (decide ((bW (s.1 + (bW ((b.bO.length:Int) * (if 0 < (bW ((s.2.length:Int) - 1)) then (bW ((s.2.length:Int) - 1)) else 0)))))≤4096)) 3) (fun e4=>some (.bad e4)) fun _=>au (strings_Join s.2 b.bO) fun x5=>au (mh x5) fun x6=>some (.ok x6)) (by omega) (fun k s i=>rfl) (0,[])]
   have:=aiw lx lb.1 la.2.1 a.aI 0 0 [] rfl (by omega) rfl rfl (by omega); simpa using this
  ·
   have:=afo lx lb.1 la.2.1 a.aI 0 [] BIG rfl (by omega) rfl (by simp [nP]) (by have:=iJ; omega); simpa [nP] using this
 ·
  have e1:((a.kind == 4) && (b.kind == 3))=false:=by rw [Bool.and_eq_false_iff,beq_eq_false_iff_ne,beq_eq_false_iff_ne]; omega
  have e2:((a.kind != 4) || (b.kind != 3))=true:=by rw [Bool.or_eq_true,bne_iff_ne,bne_iff_ne]; omega
  rw [e1,e2,NZ,if_neg h,if_pos rfl]; exact ⟨rfl,rfl⟩
theorem afn (a b:ah):GV (MW a b) 5000:=by
 unfold MW; split
 ·
  split
  ·
   split
   · rename_i h; exact GV.ok (N9 h) (by rw [Bc]; omega)
   · exact GV.er (by decide)
  · exact GV.er (by decide)
 · exact GV.er (by decide)
theorem Gs (t:Str):∀ (k:Nat) (s:Str),∀ x∈nV t k s,x.length≤s.length
 | 0,s,x,h=>by simp only [nV,List.mem_singleton] at h; subst h; omega
 | k + 1,s,x,h=>by
  rw [nV] at h; cases hi:lN s t with
  | none=>rw [hi] at h; simp only [List.mem_singleton] at h; subst h; omega
  | some i=>
   rw [hi] at h; simp only [List.mem_cons] at h; rcases h with rfl | h
   · simp; omega
   ·
    have:=Gs t k _ x h; simp only [List.length_drop] at this; omega
theorem afj (l:List Str):zA (Ii (l.map mkS))≤16:=by
 have e:zA (Ii (l.map mkS))=DY (l.map mkS) 2:=by rw [wY]; rfl
 rw [e,Ck]; refine ⟨by omega,fun x hx=>?_⟩; obtain ⟨s,_,rfl⟩:=List.mem_map.1 hx; have e2:zA (mkS s)=1:=by rw [wY]; rfl
 omega
theorem XF {s t:Str} (hs:s.length≤4096) (ht:t.length≤4096):(dN (dK (!(t == ([]:Str))) 1) (fun e4=>some (.bad e4)) fun _=>au (strings_Split s t) fun l1=>dN (dK (decide ((l1.length:Int)≤1024)) 3) (fun e5=>some (.bad e5)) fun _=>au (z_ l1) fun BH=>some (.ok BH))=some (Aj (VD s t))∧
  J6 s t=some (VD s t)∧GV (VD s t) 5000000:=by
 have aft:xX=4294967296:=rfl; unfold VD; by_cases h0:t=[]
 ·
  have e:(!(t == ([]:Str)))=false:=by simp [h0]
  rw [e,NZ,if_pos h0,J6,if_pos (by simpa using h0)]; exact ⟨rfl,rfl,GV.er (by decide)⟩
 ·
  have e:(!(t == ([]:Str)))=true:=by simp [h0]
  have hl:=QB t h0 (s.length + 1) s; rw [e,NY,jm,if_neg h0,strings_Split,if_pos ⟨by omega,h0⟩,av,jP,aek (by omega) (by omega) h0]
  have hb:(Ii ((nV t (s.length + 1) s).map mkS)).bulk < 4611686018427387904:=by
   rw [Je,List.map_map]
   have:=Um (f:=ah.bulk ∘ mkS) (l:=nV t (s.length + 1) s) (c:=4103) fun x hx=>by
    have:=Gs t _ s x hx; simp only [Function.comp_apply,Bc]; omega
   have:(nV t (s.length + 1) s).length * 4103≤4097 * 4103:=Nat.mul_le_mul_right _ (by omega); omega
  rw [UE hb,acL (afj _),List.length_map]; by_cases hc:(nV t (s.length + 1) s).length≤1024
  ·
   rw [if_pos hc,if_pos (by simp; omega),jm,abn (by omega)]; obtain ⟨g1,g2⟩:=Xz hc fun x hx=>by have:=Gs t _ s x hx; omega
   exact ⟨rfl,rfl,GV.ok g1 (by omega)⟩
  ·
   rw [if_neg hc,if_neg (by simp; omega)]; exact ⟨rfl,rfl,GV.er (by decide)⟩
theorem ad_ {name:Str} {a b:ah} (ha:VV a) (hb:VV b) (ba:a.bulk < 4611686018427387904) (bb:b.bulk < 4611686018427387904):Jq name a b=some (Aj (Ih name a b)):=by
 have la:=lT ha.1; have lb:=lT hb.1; unfold Jq Ih iB; rw [(adj ha hb ba bb).1,(ac3 ha hb).1,EL]; simp only [beq_iff_eq,av,jP,decide_eq_true_eq]; by_cases n1:name=[100,101,102,97,117,108,116]
 ·
  rw [if_pos n1,if_pos n1]; by_cases hk:a.kind=0
  · rw [if_pos hk,if_pos hk]; rfl
  · rw [if_neg hk,if_neg hk]; rfl
 ·
  rw [if_neg n1,if_neg n1]; by_cases n2:name=[99,111,110,116,97,105,110,115]
  · rw [if_pos n2,if_pos n2]
  ·
   rw [if_neg n2,if_neg n2]; by_cases n3:name=[106,111,105,110]
   · rw [if_pos n3,if_pos n3,Ak]
   ·
    rw [if_neg n3,if_neg n3]; by_cases hk:a.kind=3∧b.kind=3
    ·
     rw [if_pos hk,if_neg (c:=¬ (a.kind=3∧b.kind=3)) (by simpa using hk),jm]; by_cases n4:name=[115,116,97,114,116,115,119,105,116,104]
     · rw [if_pos n4,if_pos n4,ahk]; rfl
     ·
      rw [if_neg n4,if_neg n4]; by_cases n5:name=[101,110,100,115,119,105,116,104]
      · rw [if_pos n5,if_pos n5,ahj (by omega) (by omega)]; rfl
      ·
       rw [if_neg n5,if_neg n5]; have:=(XF (s:=a.bO) (t:=b.bO) la.1 lb.1).1; simp only [jP,decide_eq_true_eq] at this; exact this
    · rw [if_neg hk,if_pos (c:=¬ (a.kind=3∧b.kind=3)) hk]; rfl
theorem agJ {name:Str} {a b:ah} (ha:VV a) (hb:VV b):GV (Ih name a b) (a.bulk + b.bulk + 5000000):=by
 have la:=lT ha.1; have lb:=lT hb.1; unfold Ih; split
 ·
  split
  · exact GV.ok hb (by omega)
  · exact GV.ok ha (by omega)
 ·
  split
  · exact (afN _ _).mono (by omega)
  ·
   split
   · exact (afn _ _).mono (by omega)
   ·
    split
    · exact GV.er (by decide)
    ·
     split
     · exact GV.ok (GK _) (by rw [yR]; omega)
     ·
      split
      · exact GV.ok (GK _) (by rw [yR]; omega)
      · exact (XF la.1 lb.1).2.2.mono (by omega)
end Go.Ft
namespace Go.Ft
open Go
attribute [local congr] gy
def Ac (s:Str):Int:=(xg s).getD 0
def agK :List Str:=[[99,111,110,116,97,105,110,115],[106,111,105,110],[115,112,108,105,116],[115,116,97,114,116,115,119,105,116,104],[101,110,100,115,119,105,116,104],[100,101,102,97,117,108,116]]
theorem aaF (s:Str):xg s=some (Ac s)∧qN s=some (if Ac s=0 then -1 else Ac s)∧(Ac s=0∨Ac s=1∨(Ac s=2∧s∈agK)):=by
 unfold Ac xg qN agK; by_cases h1:s=[108,101,110]
 · simp [h1]
 by_cases h2:s=[108,111,119,101,114]
 · simp [h2]
 by_cases h3:s=[117,112,112,101,114]
 · simp [h3]
 by_cases h4:s=[115,116,114,105,110,103]
 · simp [h4]
 by_cases h5:s=[105,110,116]
 · simp [h5]
 by_cases h6:s=[107,101,121,115]
 · simp [h6]
 by_cases h7:s=[99,111,110,116,97,105,110,115]
 · simp [h7]
 by_cases h8:s=[106,111,105,110]
 · simp [h8]
 by_cases h9:s=[115,112,108,105,116]
 · simp [h9]
 by_cases h10:s=[115,116,97,114,116,115,119,105,116,104]
 · simp [h10]
 by_cases h11:s=[101,110,100,115,119,105,116,104]
 · simp [h11]
 by_cases h12:s=[100,101,102,97,117,108,116]
 · simp [h12]
 simp [h1,h2,h3,h4,h5,h6,h7,h8,h9,h10,h11,h12]
def Jo :List aB→Str→ah × Int
 | [],_=>xU 10
 | x :: r,n=>if x.name=n then okV x.value else Jo r n
def oW :List (ah × Int)→List ah × Int
 | []=>([],0)
 | p :: r=>if p.2≠0 then ([],p.2) else if (oW r).2≠0 then ([],(oW r).2) else (p.1 :: (oW r).1,0)
def FJ (k:Int) (n:Str) (keys:List Str) (vs:List ah):ah × Int:=
 if k=9 then (if zA (Ii vs)≤16 then okV (Ii vs) else xU 13)
 else if k=10 then Yj (List.zipWith aB.mk keys vs)
 else match vs with
  | [a]=>if k=3 then Pv a (mkS n) else if k=6 then unS n a else Kt n a
  | [a,b]=>if k=4 then Pv a b else if k=7 then Bz n a b else Ih n a b
  | _=>xU 99
def Ve (b:ah × Int):ah × Int:=if b.2≠0 then xU b.2 else if b.1.kind≠1 then xU 9 else b
def YJ (a b c:ah × Int):ah × Int:=if a.2≠0 then xU a.2 else if a.1.kind≠1 then xU 9 else if a.1.dM then b else c
def K8 (n:Str) (a b:ah × Int):ah × Int:=if a.2≠0 then xU a.2 else if a.1.kind≠1 then xU 9 else if a.1.dM=decide (n=[124,124]) then a else Ve b
def Hy (k:Int) (n:Str) (keys:List Str) (rs:List (ah × Int)):ah × Int:=
 if k=8 then (match rs with | [a,b,c]=>YJ a b c | _=>xU 99)
 else if k=7∧(n=[38,38]∨n=[124,124]) then (match rs with | [a,b]=>K8 n a b | _=>xU 99)
 else if k=5∧Ac n=0 then xU 10
 else if k=5∧Ac n≠rs.length then xU 1
 else if (oW rs).2≠0 then xU (oW rs).2 else FJ k n keys (oW rs).1
mutual
def qz (env:List aB):ak→ah × Int
 | ⟨k,n,v,args,keys⟩=>if k=1 then okV v else if k=2 then Jo env n else Hy k n keys (evL env args)
def evL (env:List aB):List ak→List (ah × Int)
 | []=>[]
 | x :: r=>qz env x :: evL env r
end
theorem abR (env:List aB):∀ l:List ak,evL env l=l.map (qz env)
 | []=>rfl
 | x :: r=>by rw [evL,abR env r,List.map_cons]
theorem aaw (env:List aB) (e:ak):qz env e=if e.kind=1 then okV e.value else if e.kind=2 then Jo env e.name else Hy e.kind e.name e.keys (e.args.map (qz env)):=by
 cases e; rw [qz,abR]
theorem U5 :∀ (l seen:List Str),Ni seen l=false→l.Nodup∧∀ x∈l,x∉seen
 | [],_,_=>⟨List.nodup_nil,fun x hx=>by cases hx⟩
 | s :: r,seen,h=>by
  rw [Ni,Bool.or_eq_false_iff] at h; obtain ⟨i1,i2⟩:=U5 r _ h.2
  have h1:s∉seen:=by
   intro hm; have:=h.1; rw [List.contains_iff_mem.2 hm] at this; cases this
  refine ⟨List.nodup_cons.2 ⟨fun hm=>?_,i1⟩,fun x hx=>?_⟩
  · exact i2 s hm (by simp)
  ·
   rcases List.mem_cons.1 hx with rfl | hx
   · exact h1
   · exact fun hm=>i2 x hx (by simp [hm])
structure Fm (e:ak):Prop where
 len:e.args.length≤1024
 kind:1≤e.kind∧e.kind≤10
 lit:e.kind=1→VV e.value
 k3:e.kind=3→∃ a,e.args=[a]
 anK:e.kind=3→e.name.length≤64
 k4:e.kind=4→∃ a b,e.args=[a,b]
 k6:e.kind=6→(∃ a,e.args=[a])∧(e.name=[33]∨e.name=[45])
 k7:e.kind=7→(∃ a b,e.args=[a,b])∧e.name∈opsL
 k8:e.kind=8→∃ a b c,e.args=[a,b,c]
 k10:e.kind=10→e.keys.length=e.args.length∧(∀ k∈e.keys,uj k=true)∧e.keys.Nodup
theorem acf {e:ak} {level:Nat} (h:BS e level=0):Fm e∧∀ x∈e.args,BS x (level + 1)=0:=by
 obtain ⟨x1,x2⟩:=NG h; obtain ⟨f1,f2,f3⟩:=Qi x1; obtain ⟨p1,p2,p3⟩:=M9 f1
 have p4:Jw e=true:=by
  unfold wO at f1; simp only [Bool.and_eq_true] at f1; exact f1.2
 have hd:Ni [] e.keys=false:=by
  unfold Ay at x1; split at x1
  · omega
  ·
   split at x1
   · omega
   ·
    split at x1
    · rename_i hq; simp only [Bool.and_eq_true,bne_iff_ne] at hq; exact absurd x1 hq.2
    ·
     split at x1
     · omega
     ·
      split at x1
      · omega
      · rename_i hq; simpa using hq
 unfold BK at p1; simp only [Bool.not_eq_true',Bool.or_eq_false_iff,decide_eq_false_iff_not] at p1; refine ⟨⟨f3,by omega,fun hk=>(LZ _).1 (f2 hk),fun hk=>?_,fun hk=>?_,fun hk=>?_,fun hk=>?_,fun hk=>?_,fun hk=>?_,fun hk=>?_⟩,x2⟩
 · exact len1 (by unfold oQ at p3; simp [hk] at p3; omega)
 ·
  unfold BM at p2; simp [hk] at p2; unfold mI at p2; simp only [Bool.and_eq_true] at p2; have:=p2.1; unfold isName at this; simp only [Bool.and_eq_true,decide_eq_true_eq] at this; exact this.1.1.2
 · exact len2 (by unfold oQ at p3; simp [hk] at p3; omega)
 ·
  refine ⟨len1 (by unfold oQ at p3; simp [hk] at p3; omega),?_⟩; unfold BM at p2; simp [hk] at p2; exact p2
 ·
  refine ⟨len2 (by unfold oQ at p3; simp [hk] at p3; omega),?_⟩; unfold BM at p2; simp [hk] at p2; exact QA p2
 · exact aj2 (by unfold oQ at p3; simp [hk] at p3; omega)
 ·
  unfold Jw at p4; simp [hk] at p4; refine ⟨by omega,fun k hkm=>?_,(U5 _ _ hd).1⟩; have:=p4.2 k hkm; simpa using this
theorem Nv :∀ {rs:List (ah × Int)} {N:Nat},(oW rs).2=0→(∀ p∈rs,p.2=0)∧(oW rs).1=rs.map (·.1)
 | [],_,_=>⟨(fun p hp=>by cases hp),rfl⟩
 | p :: r,N,h=>by
  rw [oW] at h ⊢; split at h
  · rename_i hp; exact absurd h hp
  ·
   rename_i hp; split at h
   · rename_i hr; exact absurd h hr
   ·
    rename_i hr; simp only [ne_eq,Decidable.not_not] at hp hr; obtain ⟨i1,i2⟩:=Nv (N:=N) hr; refine ⟨fun q hq=>?_,?_⟩
    ·
     rcases List.mem_cons.1 hq with rfl | hq
     · exact hp
     · exact i1 q hq
    · rw [if_neg (by simpa using hp),if_neg (by simpa using hr),i2,List.map_cons]
theorem afz {env:List aB} {N:Nat} (h:∀ x∈env,VV x.value∧x.value.bulk≤N) (n:Str):GV (Jo env n) N:=by
 induction env with
 | nil=>exact GV.er (by decide)
 | cons x r ih=>
  rw [Jo]; split
  · exact GV.ok (h x (by simp)).1 (h x (by simp)).2
  · exact ih fun y hy=>h y (by simp [hy])
theorem af4 {b:ah × Int} {N:Nat} (h:GV b N):GV (Ve b) N:=by
 unfold Ve; split
 · rename_i h0; exact GV.er h0
 ·
  split
  · exact GV.er (by decide)
  · exact h
theorem aa5 {keys:List Str} {vs:List ah} (hl:keys.length=vs.length) (hn:vs.length≤1024) (hk:∀ k∈keys,uj k=true) (hd:keys.Nodup) (hv:∀ v∈vs,VV v∧v.bulk < 1152921504606846976):Ent (List.zipWith aB.mk keys vs):=by
 have hm:(List.zipWith aB.mk keys vs).map (·.name)=keys:=by
  clear hk hd hv hn
  induction keys generalizing vs with
  | nil=>simp
  | cons k ks ih=>
   cases vs with
   | nil=>simp at hl
   | cons v vs=>simp only [List.zipWith_cons_cons,List.map_cons,ih (by simpa using hl)]
 have hmv:∀ x∈List.zipWith aB.mk keys vs,x.name∈keys∧x.value∈vs:=by
  clear hk hd hv hn hm
  induction keys generalizing vs with
  | nil=>intro x hx; simp at hx
  | cons k ks ih=>
   cases vs with
   | nil=>intro x hx; simp at hx
   | cons v vs=>
    intro x hx; simp only [List.zipWith_cons_cons,List.mem_cons] at hx; rcases hx with rfl | hx
    · simp
    ·
     have:=ih (by simpa using hl) x hx; exact ⟨by simp [this.1],by simp [this.2]⟩
 exact ⟨by simp; omega,fun x hx=>hk _ (hmv x hx).1,fun x hx=>hv _ (hmv x hx).2,by rw [hm]; exact hd⟩
theorem Xd :∀ (keys:List Str) (vs:List ah),(∀ k∈keys,k.length≤64)→((List.zipWith aB.mk keys vs).map fun x=>x.value.bulk).sum≤(vs.map ah.bulk).sum∧((List.zipWith aB.mk keys vs).map fun x=>x.name.length + 1).sum≤keys.length * 65
 | [],_,_=>by simp
 | k :: ks,[],_=>by simp
 | k :: ks,v :: vs,h=>by
  obtain ⟨h1,h2⟩:=Xd ks vs fun x hx=>h x (by simp [hx]); have:=h k (by simp); simp only [List.zipWith_cons_cons,List.map_cons,List.sum_cons,List.length_cons,Nat.add_mul]; omega
theorem ahy {vars:List aB} (H:Ent vars):GV (Yj vars) ((vars.map fun x=>x.value.bulk).sum + (vars.map fun x=>x.name.length + 1).sum + 7):=by
 unfold Yj; split
 · exact GV.er (by decide)
 ·
  rename_i h; refine GV.ok (ahx H h) ?_; have hp:=uU vars; rw [uN,ah.nT]
  have e1:((OE (jV vars)).aI.map ah.bulk).sum=(vars.map fun x=>x.value.bulk).sum:=by
   simp only [OE,List.map_map]; exact (hp.map _).sum_nat
  have e2:((OE (jV vars)).keys.map fun z:Str=>z.length + 1).sum=(vars.map fun x=>x.name.length + 1).sum:=by
   simp only [OE,List.map_map]; exact (hp.map _).sum_nat
  have e3:(OE (jV vars)).bO=[]:=rfl; rw [e1,e2,e3]; simp; omega
def WB :Nat:=2199023255552
theorem ae9 {e:ak} (F:Fm e) {vs:List ah} (hl:vs.length=e.args.length) (hv:∀ v∈vs,VV v∧v.bulk < 1152921504606846976):GV (FJ e.kind e.name e.keys vs) ((vs.map ah.bulk).sum + 6000000):=by
 unfold FJ; by_cases h9:e.kind=9
 ·
  rw [if_pos h9]; split
  ·
   rename_i hle; refine GV.ok ⟨(VY (by have:=F.len; omega) fun x hx=>(hv x hx).1).1,hle⟩ (by rw [Je]; omega)
  · exact GV.er (by decide)
 ·
  rw [if_neg h9]; by_cases h10:e.kind=10
  ·
   rw [if_pos h10]; obtain ⟨k1,k2,k3⟩:=F.k10 h10; have hlen:=F.len; have am2:∀ k∈e.keys,k.length≤64:=fun k hk=>(FP (k2 k hk)).2; obtain ⟨z1,z2⟩:=Xd e.keys vs am2; have:e.keys.length * 65≤1024 * 65:=Nat.mul_le_mul_right _ (by omega); exact (ahy (aa5 (by omega) (by omega) k2 k3 hv)).mono (by omega)
  ·
   rw [if_neg h10]
   match vs,hv with
   | [],_=>exact GV.er (by decide)
   | [a],hv=>
    obtain ⟨a1,a2⟩:=hv a (by simp); simp only [List.map_cons,List.map_nil,List.sum_cons,List.sum_nil]; split
    · exact (abJ a1).mono (by omega)
    ·
     split
     · exact (ai0 a1).mono (by omega)
     · exact (ahr a1).mono (by omega)
   | [a,b],hv=>
    obtain ⟨a1,a2⟩:=hv a (by simp); obtain ⟨b1,b2⟩:=hv b (by simp); simp only [List.map_cons,List.map_nil,List.sum_cons,List.sum_nil]; split
    · exact (abJ a1).mono (by omega)
    ·
     split
     · exact (ahZ a1 b1).mono (by omega)
     · exact (agJ a1 b1).mono (by omega)
   | a :: b :: c :: r,_=>exact GV.er (by decide)
theorem F7 :∀ l:List ak,F8 l=(l.map ecnt).sum
 | []=>rfl
 | x :: r=>by rw [F8,F7 r,List.map_cons,List.sum_cons]
theorem K6 {α:Type} {f g:α→Nat}:∀ {l:List α},(∀ x∈l,f x≤g x)→(l.map f).sum≤(l.map g).sum
 | [],_=>by simp
 | x :: l,h=>by
  have:=h x (by simp); have:=K6 (l:=l) fun y hy=>h y (by simp [hy]); simp only [List.map_cons,List.sum_cons]; omega
theorem Vz {α:Type} {f:α→Nat} {c:Nat}:∀ {l:List α},(l.map fun x=>f x * c).sum=(l.map f).sum * c
 | []=>by simp
 | x :: l=>by simp only [List.map_cons,List.sum_cons,Vz (l:=l),Nat.add_mul]
def SE (e:ak):Prop:=e.bulk≤1099511627776∧ecnt e≤4096
theorem SE.arg {e x:ak} (h:SE e) (hx:x∈e.args):SE x:=by
 obtain ⟨h1,h2⟩:=h; have h3:=h_ hx; have h4:=EA e; have h5:=Kc (f:=ecnt) hx; rw [F7] at h4; exact ⟨by omega,by omega⟩
theorem abS {W:Nat} (hW:16777216≤W∧W≤2199023255552) {env:List aB} (hE:∀ x∈env,VV x.value∧x.value.bulk≤W):∀ (b:Nat) (e:ak) (level:Nat),e.bulk≤b→e.bulk≤W→SE e→BS e level=0→GV (qz env e) (ecnt e * W)
 | 0,e,_,h,_,_,_=>by have:=e.jl; omega
 | b + 1,e,level,h,hbW,hS,hx=>by
  obtain ⟨hB,hC⟩:=(id hS:SE e); obtain ⟨F,x2⟩:=acf hx; have hec:=EA e; have hcl:=Nh _ e (Nat.le_refl _); have ih:∀ x∈e.args,GV (qz env x) (ecnt x * W):=fun x hx=>abS hW hE b x (level + 1) (by have:=h_ hx; omega) (by have:=h_ hx; omega) (hS.arg hx) (x2 x hx)
  have one:W≤ecnt e * W:=by
   have:1 * W≤ecnt e * W:=Nat.mul_le_mul_right _ (by omega); omega
  have mem:∀ x∈e.args,ecnt x * W≤ecnt e * W:=fun x hx=>Nat.mul_le_mul_right _ (by
   have:=Kc (f:=ecnt) hx
   rw [F7] at hec; omega)
  rw [aaw]; by_cases h1:e.kind=1
  ·
   rw [if_pos h1]; exact GV.ok (F.lit h1) (by have:=Bh e; omega)
  ·
   rw [if_neg h1]; by_cases h2:e.kind=2
   ·
    rw [if_pos h2]; exact (afz hE e.name).mono (by omega)
   ·
    rw [if_neg h2]; unfold Hy; by_cases h8:e.kind=8
    ·
     rw [if_pos h8]; obtain ⟨x,y,z,ha⟩:=F.k8 h8; rw [ha] at ih mem ⊢; simp only [List.map_cons,List.map_nil]; unfold YJ; split
     · rename_i h0; exact GV.er h0
     ·
      split
      · exact GV.er (by decide)
      ·
       split
       · exact (ih y (by simp)).mono (mem y (by simp))
       · exact (ih z (by simp)).mono (mem z (by simp))
    ·
     rw [if_neg h8]; split
     ·
      rename_i h7; obtain ⟨⟨x,y,ha⟩,_⟩:=F.k7 h7.1; rw [ha] at ih mem ⊢; simp only [List.map_cons,List.map_nil]; unfold K8; split
      · rename_i h0; exact GV.er h0
      ·
       split
       · exact GV.er (by decide)
       ·
        split
        · exact (ih x (by simp)).mono (mem x (by simp))
        · exact (af4 (ih y (by simp))).mono (mem y (by simp))
     ·
      split
      · exact GV.er (by decide)
      ·
       split
       · exact GV.er (by decide)
       ·
        split
        · rename_i h0; exact GV.er h0
        ·
         rename_i h0; simp only [ne_eq,Decidable.not_not] at h0; obtain ⟨o1,o2⟩:=Nv (N:=0) h0
         have hv:∀ v∈(oW (e.args.map (qz env))).1,VV v∧v.bulk < 1152921504606846976:=by
          intro v hv; rw [o2,List.map_map] at hv; obtain ⟨x,hx,rfl⟩:=List.mem_map.1 hv; have hz:=o1 _ (List.mem_map_of_mem hx); obtain ⟨g1,g2⟩:=(ih x hx).1 hz; have:=mem x hx; have:ecnt e * W≤4096 * W:=Nat.mul_le_mul_right _ hC; exact ⟨g1,by simp only [Function.comp_apply]; omega⟩
         refine (ae9 F (by rw [o2]; simp) hv).mono ?_; rw [o2,List.map_map,List.map_map]; have s1:=K6 (l:=e.args) (f:=(ah.bulk ∘ fun x=>x.1) ∘ qz env) (g:=fun x=>ecnt x * W) fun x hx=>((ih x hx).1 (o1 _ (List.mem_map_of_mem hx))).2; rw [Vz] at s1; rw [hec,F7,Nat.add_mul]; omega
theorem Wo {env:List aB} (hE:∀ x∈env,VV x.value∧x.value.bulk≤1048576) (b:Nat) (e:ak) (level:Nat) (h:e.bulk≤b) (hS:SE e) (hx:BS e level=0):GV (qz env e) (ecnt e * WB):=
 abS (W:=WB) ⟨by decide,by decide⟩ (fun x hx=>⟨(hE x hx).1,by have:=(hE x hx).2; have hW:WB=2199023255552:=rfl; omega⟩) b e level h (by have:=hS.1; have hW:WB=2199023255552:=rfl; omega) hS hx
end Go.Ft
namespace Go.Ft
open Go
attribute [local congr] gy
theorem find_spec {env:List aB} (hl:env.length < 4611686018427387904) (n:Str):r_ env n=some (Aj (Jo env n)):=by
 unfold r_; rw [bZ (F:=fun k (_:Unit) i=>oP env n k i) (l:=env) (body:=fun _ e1 (_:Unit) r=>if e1.name == n then some (.ok e1.value) else r ()) (fin:=fun _=>dN (Ab 10) (fun e2=>some (.bad e2)) fun _=>some (.ok (ah.mk 0 false 0 ([]:Str) [] []))) hl (fun k s i=>rfl) ()]
 have key:∀ (t:List aB) (i:Nat),bY (R:=fJ aD ah) (fun _ e1 (_:Unit) r=>if e1.name == n then some (.ok e1.value) else r ()) (fun _=>dN (Ab 10) (fun e2=>some (.bad e2)) fun _=>some (.ok (ah.mk 0 false 0 ([]:Str) [] []))) i t ()=some (Aj (Jo t n)):=by
  intro t
  induction t with
  | nil=>intro i; rfl
  | cons x r ih=>
   intro i; rw [bY,Jo]; by_cases hx:x.name=n
   · rw [if_pos (by simpa using hx),if_pos hx]; rfl
   · rw [if_neg (by simpa using hx),if_neg hx]; exact ih (i + 1)
 exact key env 0
theorem amh {go:ak→Option (fJ aD ah)} {f:ak→ah × Int}:∀ (l:List ak) (i:Nat) (out:List ah),(∀ x∈l,go x=some (Aj (f x)))→out.length + l.length≤xX→
  bY (R:=fJ aD (List ah)) (fun _ e1 (bM:List ah) r=>dN (go e1) (fun e2=>some (.bad e2)) fun x2=>au (app bM [x2]) fun zW=>r zW) (fun bM=>some (.ok bM)) i l out=some (Aj ((out ++ (oW (l.map f)).1,(oW (l.map f)).2):List ah × Int))
 | [],i,out,_,_=>by simp [bY,oW,Aj]
 | x :: r,i,out,h,hl=>by
  simp only [List.length_cons] at hl; rw [bY,h x (by simp),List.map_cons,oW]; by_cases h0:(f x).2=0
  ·
   have e:Aj (f x)=.ok (f x).1:=if_pos h0; rw [e,jm,vP (by simp; omega),av,if_neg (by simpa using h0)]; refine (amh r (i + 1) (out ++ [(f x).1]) (fun y hy=>h y (by simp [hy])) (by simp; omega)).trans ?_; by_cases h1:(oW (r.map f)).2=0
   · rw [if_neg (by simpa using h1),h1]; simp [Aj]
   · rw [if_pos h1]; simp [Aj,h1]
  ·
   have e:Aj (f x)=.bad ⟨(f x).2⟩:=if_neg h0; rw [e,Vf,if_pos h0]; simp [Aj,h0]
theorem iq {α β:Type} (p:α × Int) (F:α→Option (fJ aD β)):dN (some (Aj p)) (fun e=>some (.bad e)) F=if p.2=0 then F p.1 else some (.bad ⟨p.2⟩):=by
 unfold Aj; split <;> rfl
theorem af_ (p:ah × Int):oW [p]=if p.2≠0 then ([],p.2) else ([p.1],0):=by
 rw [oW,oW]; simp
theorem aiR (p q:ah × Int):oW [p,q]=if p.2≠0 then ([],p.2) else if q.2≠0 then ([],q.2) else ([p.1,q.1],0):=by
 rw [oW,af_]; by_cases hp:p.2=0
 · by_cases hq:q.2=0 <;> simp [hp,hq]
 · simp [hp]
theorem ade (p:ah × Int):(if p.2=0 then some (.ok p.1) else some (.bad ⟨p.2⟩):Option (fJ aD ah))=some (Aj p):=by unfold Aj; split <;> rfl
theorem adb (p:ah × Int):dN (if p.2=0 then some (.ok p.1) else some (.bad ⟨p.2⟩):Option (fJ aD ah)) (fun e=>some (.bad e)) (fun x=>some (.ok x))=some (Aj p):=by unfold Aj; split <;> rfl
theorem YG {e:ak} {vs:List ah} {K:List aB→Option (fJ aD ah)} (hk:e.keys.length=vs.length) (hl:vs.length≤1024):∀ (t:List ah) (i:Nat) (o:List aB),t=vs.drop i→o.length=i→
  bY (fun (i:Nat) e3 (o:List aB) r=>au (idx e.keys (i:Int)) fun e4=>au (app o [(aB.mk e4 e3)]) fun Qt=>r Qt) K i t o=K (o ++ List.zipWith aB.mk (e.keys.drop i) t)
 | [],i,o,_,_=>by simp [bY]
 | v :: t,i,o,ht,ho=>by
  have aft:xX=4294967296:=rfl; obtain ⟨h1,e1,e2⟩:=wP ht; have hi:i < e.keys.length:=by omega
  rw [bY,vF hi,av,vP (by simp; omega),av]; refine (YG hk hl t (i + 1) _ e2 (by simp; omega)).trans ?_; rw [List.drop_eq_getElem_cons hi,List.zipWith_cons_cons,List.append_assoc,List.singleton_append]
theorem abQ {env:List aB} (hl:env.length < 4611686018427387904) (hE:∀ x∈env,VV x.value∧x.value.bulk≤1048576):∀ (b:Nat) (e:ak) (level k:Nat),e.bulk≤b→SE e→BS e level=0→3 * b + 3≤k→
  bX k env e=some (Aj (qz env e))
 | 0,e,_,_,h,_,_,_=>by have:=e.jl; omega
 | b + 1,e,level,k,h,hS,hx,hk=>by
  obtain ⟨hB,hC⟩:=(id hS:SE e); obtain ⟨F,x2⟩:=acf hx; have hW:WB=2199023255552:=rfl; have aft:xX=4294967296:=rfl; have hlen:=F.len; obtain ⟨k1,rfl⟩:∃ k1,k=k1 + 3:=⟨k - 3,by omega⟩; have ih:∀ k2,3 * b + 3≤k2→∀ x∈e.args,bX k2 env x=some (Aj (qz env x)):=fun k2 hk2 x hx=>abQ hl hE b x (level + 1) k2 (by have:=h_ hx; omega) (hS.arg hx) (x2 x hx) hk2
  have gv:∀ x∈e.args,(qz env x).2=0→VV (qz env x).1∧(qz env x).1.bulk < 1152921504606846976:=by
   intro x hx hz; have hxb:=h_ hx; obtain ⟨g1,g2⟩:=(Wo hE b x (level + 1) (by omega) (hS.arg hx) (x2 x hx)).1 hz; have hcl:=Nh _ x (Nat.le_refl _); have:ecnt x * WB≤4096 * WB:=Nat.mul_le_mul_right _ (hS.arg hx).2; exact ⟨g1,by omega⟩
  have all:∀ k2,3 * b + 3≤k2→ny (bX k2) env e.args BIG [] 0=some (Aj (oW (e.args.map (qz env)))):=by
   intro k2 hk2; rw [bZ (F:=fun k s i=>ny (bX k2) env e.args k s i) (l:=e.args) (body:=fun _ e1 (bM:List ah) r=>dN (bX k2 env e1) (fun e2=>some (.bad e2)) fun x2=>au (app bM [x2]) fun zW=>r zW) (fin:=fun bM=>some (.ok bM)) (by omega) (fun k s i=>rfl)]; have:=amh (go:=bX k2 env) (f:=qz env) e.args 0 [] (ih k2 hk2) (by simp; omega); simpa using this
  have OG:∀ j,3 * b + 3≤j→eH (j + 1) env e.args=some (Aj (oW (e.args.map (qz env)))):=fun j hj=>all j hj
  have ah3:(oW (e.args.map (qz env))).2=0→(oW (e.args.map (qz env))).1.length=e.args.length∧∀ v∈(oW (e.args.map (qz env))).1,VV v∧v.bulk < 1152921504606846976:=by
   intro h0; obtain ⟨o1,o2⟩:=Nv (N:=0) h0; refine ⟨by rw [o2]; simp,fun v hv=>?_⟩; rw [o2,List.map_map] at hv; obtain ⟨x,hx,rfl⟩:=List.mem_map.1 hv; exact gv x hx (o1 _ (List.mem_map_of_mem hx))
  rw [bX,tu,aaw]; have hkind:=F.kind; have hkc:e.kind=1∨e.kind=2∨e.kind=3∨e.kind=4∨e.kind=5∨e.kind=6∨e.kind=7∨e.kind=8∨e.kind=9∨e.kind=10:=by omega
  have i0:∀ (x:ak) (r:List ak),idx (x :: r) 0=some x:=fun x r=>rfl; have i1:∀ (x y:ak) (r:List ak),idx (x :: y :: r) 1=some y:=fun x y r=>rfl; have i2:∀ (x y z:ak) (r:List ak),idx (x :: y :: z :: r) 2=some z:=fun x y z r=>rfl; have v0:∀ (x:ah) (r:List ah),idx (x :: r) 0=some x:=fun x r=>rfl; have v1:∀ (x y:ah) (r:List ah),idx (x :: y :: r) 1=some y:=fun x y r=>rfl; rcases hkc with hk' | hk' | hk' | hk' | hk' | hk' | hk' | hk' | hk' | hk'
  · rw [if_pos (by simpa using hk'),if_pos hk']; rfl
  · rw [if_neg (by simp [hk']),if_pos (by simpa using hk'),if_neg (by omega),if_pos hk',find_spec hl,Ak]
  ·
   obtain ⟨x,ha⟩:=F.k3 hk'; have e3:=ih (k1 + 2) (by omega) x (by rw [ha]; simp); have g3:=gv x (by rw [ha]; simp); rw [ha,i0]; simp only [hk',av,e3]; unfold Hy FJ; rw [show (([x]:List ak).map (qz env))=[qz env x] from rfl,af_]; simp only [mh,av]; by_cases h0:(qz env x).2=0
   ·
    obtain ⟨g1,g2⟩:=g3 h0; have he:=RL (b:=mkS e.name) g1 (by omega) (fun h=>by cases h.2); have he':w_ (qz env x).1 (ah.mk 3 false 0 e.name [] [])=some (Aj (Pv (qz env x).1 (mkS e.name))):=he; simp [h0,iq,he',Ak]
    first | exact ade _ | exact adb _ | exact Ak _
   · simp [h0,iq,qM h0]
  ·
   obtain ⟨x,y,ha⟩:=F.k4 hk'; have e3:=ih (k1 + 2) (by omega) x (by rw [ha]; simp); have e4:=ih (k1 + 2) (by omega) y (by rw [ha]; simp); have g3:=gv x (by rw [ha]; simp); rw [ha,i0,i1]; simp only [hk',av,e3,e4]; unfold Hy FJ; rw [show (([x,y]:List ak).map (qz env))=[qz env x,qz env y] from rfl,aiR]; by_cases h0:(qz env x).2=0
   ·
    obtain ⟨g1,g2⟩:=g3 h0; have he:=Ws (b:=(qz env y).1) g1 (by omega); by_cases h1:(qz env y).2=0
    ·
     simp [h0,h1,iq,he]
     first | exact ade _ | exact adb _ | exact Ak _
    · simp [h0,h1,iq,qM h1]
   · simp [h0,iq,qM h0]
  ·
   
   have hc5:dS (k1 + 2) env e=qd (bX (k1 + 1)) (dS (k1 + 1)) (eH (k1 + 1)) (dI (k1 + 1)) (dx (k1 + 1)) env e:=rfl; obtain ⟨c1,c2,c3⟩:=aaF e.name; have ha:=OG k1 (by omega); simp only [hk']; rw [hc5,qd,c1,av,jP,jP,ha]; unfold Hy; have hlm:(e.args.map (qz env)).length=e.args.length:=by simp
   rw [hlm]; rcases c3 with c3 | c3 | ⟨c3,c4⟩
   · rw [c3]; simp [qM]
   ·
    rw [c3]; by_cases hlen:e.args.length=1
    ·
     by_cases h0:(oW (e.args.map (qz env))).2=0
     ·
      obtain ⟨l1,l2⟩:=ah3 h0; obtain ⟨a,hva⟩:=len1 (l1.trans hlen); rw [hva] at l2; obtain ⟨g1,g2⟩:=l2 a (by simp); have ho:=ae7 (name:=e.name) g1 (by omega); simp [hlen,h0,iq,hva,v0,ho,FJ]
      first | exact ade _ | exact adb _ | exact Ak _
     · simp [hlen,h0,iq,qM h0]
    ·
     have:¬ ((e.args.length:Int)=1):=by omega
     have t2:¬ ((1:Int)=(e.args.length:Int)):=by omega
     simp [this,t2,qM]
   ·
    rw [c3]; by_cases hlen:e.args.length=2
    ·
     by_cases h0:(oW (e.args.map (qz env))).2=0
     ·
      obtain ⟨l1,l2⟩:=ah3 h0; obtain ⟨a,b',hva⟩:=len2 (l1.trans hlen); rw [hva] at l2; obtain ⟨g1,g2⟩:=l2 a (by simp); obtain ⟨g3,g4⟩:=l2 b' (by simp); have ho:=ad_ (name:=e.name) g1 g3 (by omega) (by omega); simp [hlen,h0,iq,hva,v0,v1,ho,FJ]
      first | exact ade _ | exact adb _ | exact Ak _
     · simp [hlen,h0,iq,qM h0]
    ·
     have:¬ ((e.args.length:Int)=2):=by omega
     have t2:¬ ((2:Int)=(e.args.length:Int)):=by omega
     simp [this,t2,qM]
  ·
   obtain ⟨⟨x,ha⟩,_⟩:=F.k6 hk'; have e3:=ih (k1 + 2) (by omega) x (by rw [ha]; simp); have g3:=gv x (by rw [ha]; simp); rw [ha,i0]; simp only [hk',av,e3]; unfold Hy FJ; rw [show (([x]:List ak).map (qz env))=[qz env x] from rfl,af_]; by_cases h0:(qz env x).2=0
   ·
    obtain ⟨g1,g2⟩:=g3 h0; have he:=ZH (op:=e.name) g1; simp [h0,iq,he]
    first | exact ade _ | exact adb _ | exact Ak _
   · simp [h0,iq,qM h0]
  ·
   
   obtain ⟨⟨x,y,ha⟩,hop⟩:=F.k7 hk'; have hb5:dI (k1 + 2) env e=nR (bX (k1 + 1)) (dS (k1 + 1)) (eH (k1 + 1)) (dI (k1 + 1)) (dx (k1 + 1)) env e:=rfl; have e3:=ih (k1 + 1) (by omega) x (by rw [ha]; simp); have e4:=ih (k1 + 1) (by omega) y (by rw [ha]; simp); have g3:=gv x (by rw [ha]; simp); have g4:=gv y (by rw [ha]; simp); simp only [hk']; rw [hb5,nR,ha,i0,i1]; simp only [av,e3,e4]; unfold Hy FJ; rw [show (([x,y]:List ak).map (qz env))=[qz env x,qz env y] from rfl,aiR]; by_cases hsc:e.name=[38,38]∨e.name=[124,124]
   ·
    have aj8:((e.name == ([38,38]:Str)) || (e.name == ([124,124]:Str)))=true:=by simpa using hsc
    simp only [aj8,if_true,hsc,and_true,reduceIte,K8]; by_cases h0:(qz env x).2=0
    ·
     simp only [h0,iq,Qx]; by_cases hb1:(qz env x).1.kind=1
     ·
      have ed:((qz env x).1.dM == (e.name == ([124,124]:Str)))=decide ((qz env x).1.dM=decide (e.name=[124,124])):=by
       have eb:(e.name == ([124,124]:Str))=decide (e.name=[124,124]):=by rw [Bool.eq_iff_iff]; simp
       rw [eb]; rfl
      simp only [hb1,if_true,jm,ed,decide_eq_true_eq]; by_cases hs:(qz env x).1.dM=decide (e.name=[124,124])
      ·
       have:Aj (qz env x)=.ok (qz env x).1:=if_pos h0; simp [hs,this]
      ·
       unfold Ve; by_cases h1:(qz env y).2=0
       ·
        obtain ⟨gy1,gy2⟩:=g4 h1; by_cases hb2:(qz env y).1.kind=1
        ·
         have hy:ah.mk 1 (qz env y).1.dM 0 ([]:Str) [] []=(qz env y).1:=by
          have hp:=NJ ((vT _).1 gy1.1).1; unfold rG at hp; simp only [Bool.and_eq_true,Bool.or_eq_true,beq_iff_eq,hb2] at hp; obtain ⟨⟨⟨⟨_,q2⟩,q3⟩,q4⟩,q5⟩:=hp; generalize (qz env y).1=w at *; cases w with
          | mk k bb n s l ks=>
           simp only at hb2 q2 q3 q4 q5; have z1:n=0:=by omega
           have z2:s=[]:=q3.elim (fun q=>by omega) fun q=>q; have z3:l=[]:=q4.elim (fun q=>by omega) fun q=>List.eq_nil_of_length_eq_zero (by omega); have z4:ks=[]:=q5.elim (fun q=>by omega) fun q=>List.eq_nil_of_length_eq_zero (by omega); subst z1 z2 z3 z4 hb2; rfl
         have:Aj (qz env y)=.ok (qz env y).1:=if_pos h1; simp [hs,h1,hb2,eT,hy,this]
        · simp [hs,h1,hb2,qM]
       · simp [hs,h1,qM h1]
     · simp [hb1,qM]
    · simp [h0,iq,qM h0]
   ·
    have aj8:((e.name == ([38,38]:Str)) || (e.name == ([124,124]:Str)))=false:=by
     rw [Bool.or_eq_false_iff,beq_eq_false_iff_ne,beq_eq_false_iff_ne]; exact ⟨fun h=>hsc (.inl h),fun h=>hsc (.inr h)⟩
    simp only [aj8,Bool.false_eq_true,if_false,hsc,and_false]; by_cases h0:(qz env x).2=0
    ·
     by_cases h1:(qz env y).2=0
     ·
      obtain ⟨gx1,gx2⟩:=g3 h0; obtain ⟨gy1,gy2⟩:=g4 h1; have hb:=Zi (op:=e.name) gx1 gy1 (by omega) (by omega); simp only [iq,h0,h1,if_true]; rw [hb]; simp [h0,h1]
      first | exact ade _ | exact adb _ | exact Ak _
     · simp [h0,h1,iq,qM h1]
    · simp [h0,iq,qM h0]
  ·
   obtain ⟨x,y,z,ha⟩:=F.k8 hk'; have e3:=ih (k1 + 2) (by omega) x (by rw [ha]; simp); have e4:=ih (k1 + 2) (by omega) y (by rw [ha]; simp); have e5:=ih (k1 + 2) (by omega) z (by rw [ha]; simp); rw [ha,i0,i1,i2]; simp only [hk',av,e3,e4,e5,Ak,Qx]; unfold Hy YJ; by_cases h0:(qz env x).2=0
   ·
    by_cases hb1:(qz env x).1.kind=1
    · cases hbb:(qz env x).1.dM <;> simp [h0,hb1,hbb,iq]
    · simp [h0,hb1,iq,qM]
   · simp [h0,iq,qM h0]
  ·
   have ha:=OG (k1 + 1) (by omega); simp only [hk']; rw [ha]; unfold Hy FJ; by_cases h0:(oW (e.args.map (qz env))).2=0
   ·
    obtain ⟨l1,l2⟩:=ah3 h0
    have hv:vU (Ii (oW (e.args.map (qz env))).1) 1=if zA (Ii (oW (e.args.map (qz env))).1)≤16 then 0 else 13:=by
     rw [Mg _ _ 1 (Nat.le_refl _) (VY (by omega) fun x hx=>(l2 x hx).1).1 (by omega)]; refine gy (propext (by omega))
    have hbk:(Ii (oW (e.args.map (qz env))).1).bulk < 4611686018427387904:=by
     rw [Je]; obtain ⟨o1,o2⟩:=Nv (N:=0) h0; rw [o2,List.map_map,List.map_map]; have s1:=K6 (l:=e.args) (f:=(ah.bulk ∘ fun x=>x.1) ∘ qz env) (g:=fun x=>ecnt x * WB) fun x hx=>((Wo hE b x (level + 1) (by have:=h_ hx; omega) (hS.arg hx) (x2 x hx)).1 (o1 _ (List.mem_map_of_mem hx))).2; rw [Vz,←F7] at s1; have hec:=EA e; have hcl:=Nh _ e (Nat.le_refl _); have:F8 e.args * WB≤4096 * WB:=Nat.mul_le_mul_right _ (by omega); omega
    have hvv:=Cz hbk; rw [hv] at hvv; have hm:Dv (oW (e.args.map (qz env))).1=some (Ii (oW (e.args.map (qz env))).1):=rfl; simp only [iq,h0,if_true,hm,av,hvv,jP]; by_cases hle:zA (Ii (oW (e.args.map (qz env))).1)≤16
    · simp [h0,hle]
    · simp [h0,hle,qM]
   · simp [h0,iq,qM h0]
  ·
   have he5:dx (k1 + 2) env e=m_ (bX (k1 + 1)) (dS (k1 + 1)) (eH (k1 + 1)) (dI (k1 + 1)) (dx (k1 + 1)) env e:=rfl; have ha:=OG k1 (by omega); have n1:(e.kind == 1)=false:=by simp [hk']
   have n2:(e.kind == 2)=false:=by simp [hk']
   have n3:(e.kind == 3)=false:=by simp [hk']
   have n4:(e.kind == 4)=false:=by simp [hk']
   have n5:(e.kind == 5)=false:=by simp [hk']
   have n6:(e.kind == 6)=false:=by simp [hk']
   have n7:(e.kind == 7)=false:=by simp [hk']
   have n8:(e.kind == 8)=false:=by simp [hk']
   have n9:(e.kind == 9)=false:=by simp [hk']
   simp only [n1,n2,n3,n4,n5,n6,n7,n8,n9,Bool.false_eq_true,if_false]; rw [he5,m_,ha]; unfold Hy FJ; by_cases h0:(oW (e.args.map (qz env))).2=0
   ·
    obtain ⟨l1,l2⟩:=ah3 h0; obtain ⟨q1,q2,q3⟩:=F.k10 hk'; simp only [iq,h0,if_true]
    rw [bZ (F:=fun k s i=>lY e (oW (e.args.map (qz env))).1 k s i) (l:=(oW (e.args.map (qz env))).1) (body:=fun (i:Nat) e3 (o:List aB) r=>au (idx e.keys (i:Int)) fun e4=>au (app o [(aB.mk e4 e3)]) fun Qt=>r Qt)
     (fin:=fun bU=>fP (CB bU) fun x2 EC=>dN (dK (EC == 0) EC) (fun e5=>some (.bad e5)) fun _=>some (.ok x2)) (by omega) (fun k s i=>rfl),YG (e:=e) (vs:=(oW (e.args.map (qz env))).1) (by omega) (by omega) (oW (e.args.map (qz env))).1 0 [] rfl rfl]
    have H:=aa5 (keys:=e.keys) (vs:=(oW (e.args.map (qz env))).1) (by omega) (by omega) q2 q3 l2; rw [List.nil_append,List.drop_zero,agE H]; unfold Yj; split
    · rw [dh,jP]; simp [hk',h0,Aj,ZV,xU]
    · rw [dh,jP]; simp [hk',h0,Aj,okV]
   · simp [hk',h0,iq,qM h0]
end Go.Ft
namespace Go.Ft
open Go
attribute [local congr] gy
def Ng :List Str→List aB→Int
 | _,[]=>0
 | seen,d :: r=>if !mI d.name then 1 else if vU d.value 1 != 0 then vU d.value 1 else if seen.contains d.name then 7 else Ng (seen ++ [d.name]) r
theorem aiG :∀ (r:List aB) (i:Nat) (y:List (Str × Int)) (seen:List Str),(∀ d∈r,d.name.length < 4611686018427387000∧d.value.bulk < 4611686018427387904)→(∀ s,nN y s=if s∈seen then 1 else 0)→
  bY (fun _ e1 (y1:List (Str × Int)) r=>au (jh (ak.mk 2 e1.name (ah.mk 0 false 0 ([]:Str) [] []) [] [])) fun x2=>if x2 != 0 then some 1 else au (kH e1.value) fun e2=>if e2 != 0 then some e2 else
   if decide (1 < (nN (rz y1 e1.name (bW ((nN y1 e1.name) + 1))) e1.name)) then some 7 else r (rz y1 e1.name (bW ((nN y1 e1.name) + 1)))) (fun _=>some 0) i r y=some (Ng seen r)
 | [],_,_,_,_,_=>rfl
 | d :: r,i,y,seen,hd,hy=>by
  rw [bY,Ng,abv (hd d (by simp)).1,Cz (hd d (by simp)).2,CQ,if_pos rfl,hy d.name]; cases h1:mI d.name with
  | false=>simp
  | true=>
   simp only [if_true,av,Bool.not_true,Bool.false_eq_true,if_false,bne_self_eq_false]; by_cases h2:vU d.value 1=0
   ·
    simp only [h2,bne_self_eq_false,Bool.false_eq_true,if_false]; by_cases hc:d.name∈seen
    ·
     have:bW 2=2:=by decide
     simp [hc,this]
    ·
     have:bW ((0:Int) + 1)=1:=by decide
     simp only [hc,if_false,this]; have e:seen.contains d.name=false:=by simpa using hc
     rw [e]; simp only [Int.lt_irrefl,decide_false,Bool.false_eq_true,if_false]; refine aiG r (i + 1) _ (seen ++ [d.name]) (fun z hz=>hd z (by simp [hz])) fun s=>?_; rw [CQ,hy s]; by_cases h1:s=d.name
     · subst h1; simp
     · simp [h1]
   · simp [h2]
theorem abT (l:List aB) (i:Nat) (hi:i < l.length) (hl:l.length < 4611686018427387904) (go:Int→Option Int):∀ (k j:Nat),i < k + j→j≤i→
  zO l (i:Int) go k (j:Int)=if (((l.take i).drop j).map (·.name)).contains l[i].name then some 7 else go ((i + 1:Nat):Int)
 | 0,j,h,h'=>by omega
 | k + 1,j,h,h'=>by
  rw [zO]; by_cases hj:j < i
  ·
   have hlt:j < (l.take i).length:=by simp; omega
   rw [if_pos (by simpa using hj),vF hi,vF (by omega),List.drop_eq_getElem_cons hlt]; simp only [av,List.map_cons,List.contains_cons,List.getElem_take]; by_cases h1:l[j].name=l[i].name
   · simp [h1]
   ·
    have e1:(l[j].name == l[i].name)=false:=by simpa using h1
    have e2:(l[i].name == l[j].name)=false:=by simpa using fun hh=>h1 hh.symm
    simp only [e1,e2,Bool.false_eq_true,if_false,Bool.false_or]; rw [yg (by omega)]; exact abT l i hi hl go k (j + 1) (by omega) (by omega)
  ·
   have:j=i:=by omega
   subst this; rw [if_neg (by simp),yg (by omega)]; have:(List.take j l).drop j=[]:=List.drop_eq_nil_of_le (by simp; omega); rw [this]; simp
theorem aiF (l:List aB) (hl:l.length < 4611686018427387904) (hd:∀ d∈l,d.name.length < 4611686018427387000∧d.value.bulk < 4611686018427387904):∀ (k i:Nat),l.length < k + i→i≤l.length→tY l k (i:Int)=some (Ng ((l.take i).map (·.name)) (l.drop i))
 | 0,i,h,h'=>by omega
 | k + 1,i,h,h'=>by
  rw [tY]; by_cases hi:i < l.length
  ·
   have hn:=hd l[i] (List.getElem_mem hi); rw [if_pos (by simpa using hi),List.drop_eq_getElem_cons hi,Ng,vF hi]; have:=abT l i hi hl (tY l k) BIG 0 (by have:=iJ; omega) (by omega); rw [show (0:Int)=((0:Nat):Int) from rfl,this,List.drop_zero,aiF l hl hd k (i + 1) (by omega) (by omega)]; simp only [av,(QO l[i].name (by omega)).2,Vw hn.2]; have e:List.take (i + 1) l=List.take i l ++ [l[i]]:=by rw [List.take_add_one,List.getElem?_eq_getElem hi]; rfl
   rw [e,List.map_append]; cases mI l[i].name with
   | false=>simp
   | true=>
    simp only [Bool.not_true,Bool.false_eq_true,if_false]; by_cases h2:vU l[i].value 1=0
    ·
     simp only [h2,Int.natCast_zero,bne_self_eq_false,Bool.false_eq_true,if_false]; split <;> rfl
    · simp [h2]
  ·
   have:i=l.length:=by omega
   subst this; simp [Ng]
def F6 (env:List aB):Int:=if 1024 < env.length then 3 else Ng [] env
theorem abU {env:List aB} (hl:env.length < 4611686018427387904) (hd:∀ d∈env,d.name.length < 4611686018427387000∧d.value.bulk < 4611686018427387904):Js env=some (F6 env)∧MB env=some (F6 env):=by
 unfold Js MB F6; have e:decide ((1024:Int) < (env.length:Int))=decide (1024 < env.length):=by congr 1; simp; omega
 rw [e]; by_cases h:1024 < env.length
 · simp [h]
 ·
  simp only [h,decide_false,Bool.false_eq_true,if_false]
  have s1:=bZ (F:=fun k s i=>Bl env k i s) (l:=env) (body:=fun _ e1 (y1:List (Str × Int)) r=>au (jh (ak.mk 2 e1.name (ah.mk 0 false 0 ([]:Str) [] []) [] [])) fun x2=>if x2 != 0 then some 1 else au (kH e1.value) fun e2=>if e2 != 0 then some e2 else
   if decide (1 < (nN (rz y1 e1.name (bW ((nN y1 e1.name) + 1))) e1.name)) then some 7 else r (rz y1 e1.name (bW ((nN y1 e1.name) + 1)))) (fin:=fun _=>some 0) hl (fun k s i=>rfl) []
  have s2:=aiF env hl hd BIG 0 (by have:=iJ; omega) (by omega); refine ⟨?_,by simpa using s2⟩; rw [s1]; exact aiG env 0 [] [] hd (fun s=>by simp [nN])
theorem YF :∀ (r:List aB) (seen:List Str),Ng seen r=0→(∀ x∈r,VV x.value∧mI x.name=true∧x.name∉seen)∧(r.map (·.name)).Nodup
 | [],_,_=>⟨(fun x hx=>by cases hx),List.nodup_nil⟩
 | d :: r,seen,h=>by
  rw [Ng] at h; split at h
  · cases h
  ·
   rename_i h1; split at h
   · rename_i h2; rw [h] at h2; simp at h2
   ·
    rename_i h2; split at h
    · cases h
    ·
     rename_i h3; obtain ⟨i1,i2⟩:=YF r _ h; have hs:d.name∉seen:=fun hm=>h3 (List.contains_iff_mem.2 hm); refine ⟨fun x hx=>?_,?_⟩
     ·
      rcases List.mem_cons.1 hx with rfl | hx
      · exact ⟨(LZ _).1 (by simpa using h2),by simpa using h1,hs⟩
      ·
       obtain ⟨a1,a2,a3⟩:=i1 x hx; exact ⟨a1,a2,fun hm=>a3 (by simp [hm])⟩
     ·
      rw [List.map_cons,List.nodup_cons]; refine ⟨fun hm=>?_,i2⟩; obtain ⟨x,hx,he⟩:=List.mem_map.1 hm; exact (i1 x hx).2.2 (by simp [he])
theorem Gp {env:List aB} {N:Nat} (h:(env.map aB.bulk).sum≤N):env.length≤N∧∀ d∈env,d.name.length≤N∧d.value.bulk≤N:=by
 constructor
 ·
  have:=MU (l:=env) (f:=aB.bulk) (fun x=>by unfold aB.bulk; omega); omega
 ·
  intro d hd; have:=Kc (f:=aB.bulk) hd; have h2:d.name.length < d.bulk:=by unfold aB.bulk; omega
  have h3:d.value.bulk < d.bulk:=by unfold aB.bulk; omega
  omega
def U3 (e:ak) (env:List aB):ah × Int:=if F6 env≠0 then xU (F6 env) else if xval e≠0 then xU (xval e) else qz env e
theorem YE {env:List aB} (h:F6 env=0):(∀ x∈env,VV x.value∧mI x.name=true)∧(env.map (·.name)).Nodup∧env.length≤1024:=by
 unfold F6 at h; split at h
 · cases h
 ·
  rename_i h1; obtain ⟨a,b⟩:=YF env [] h; exact ⟨fun x hx=>⟨(a x hx).1,(a x hx).2.1⟩,b,by omega⟩
theorem aa6 {e:ak} (h:e.bulk≤1099511627776) (hx:xval e=0):SE e:=by
 refine ⟨h,?_⟩; unfold xval at hx; split at hx
 · cases hx
 · omega
theorem aa3 {e:ak} {env:List aB} (h:e.bulk≤1099511627776) (hl:env.length < 4611686018427387904) (hd:∀ d∈env,d.name.length < 4611686018427387000∧d.value.bulk≤1048576):F5 e env=some (U3 e env)∧GV (U3 e env) 9007199254740992:=by
 obtain ⟨v1,v2⟩:=abU (env:=env) hl (fun d hd'=>by have:=hd d hd'; omega); obtain ⟨x1,x2⟩:=Vl (e:=e) (by omega); unfold F5 Ez U3; rw [v1,x1]; simp only [av]; by_cases hv:F6 env=0
 ·
  obtain ⟨w1,w2,w3⟩:=YE hv; have hEv:∀ x∈env,VV x.value∧x.value.bulk≤1048576:=fun x hx=>⟨(w1 x hx).1,(hd x hx).2⟩; have bv:(F6 env != 0)=false:=by simpa using hv
  rw [if_neg (c:=F6 env≠0) (by simpa using hv)]; simp only [bv,Bool.false_eq_true,if_false]; by_cases hx:xval e=0
  ·
   have hc:=ND hx; have hS:=aa6 h hx; have hW:WB=2199023255552:=rfl; have hw:ecnt e * WB≤4096 * WB:=Nat.mul_le_mul_right _ hS.2; have hg:=(Wo hEv e.bulk e 1 (Nat.le_refl _) hS hc).mono (M:=9007199254740992) (by omega); have bx:(xval e != 0)=false:=by simpa using hx
   rw [if_neg (c:=xval e≠0) (by simpa using hx)]; simp only [bx,Bool.false_eq_true,if_false,dh,bne_self_eq_false]; have p:=abQ (by omega) hEv e.bulk e 1 BIG (Nat.le_refl _) hS hc (by have:=iJ; omega); refine ⟨?_,hg⟩; unfold zk BL; rw [p]; unfold Aj; by_cases h0:(qz env e).2=0
   ·
    rw [if_pos h0,jm,dh]; obtain ⟨g1,g2⟩:=hg.1 h0; rw [(NK g1.1 (by omega)).2,av,←h0]
   ·
    rw [if_neg h0,Vf,dh]; have hz:=hg.2 h0; have hc2:xk (ah.mk 0 false 0 ([]:Str) [] [])=some ZV:=(aco (v:=ZV) (by rw [ah5]; decide)).2; rw [hc2,av]; generalize qz env e=p at hz ⊢; obtain ⟨v,c⟩:=p; simp only at hz; rw [hz]
  ·
   have bx:(xval e != 0)=true:=by simpa using hx
   rw [if_pos (c:=xval e≠0) hx]; simp only [bx,if_true,dh]; exact ⟨rfl,GV.er hx⟩
 ·
  have bv:(F6 env != 0)=true:=by simpa using hv
  rw [if_pos (c:=F6 env≠0) hv]; simp only [bv,if_true,dh]; exact ⟨rfl,GV.er hv⟩
theorem agD {env:List aB} (hE:(env.map aB.bulk).sum≤1048576):env.length < 4611686018427387904∧∀ d∈env,d.name.length < 4611686018427387000∧d.value.bulk≤1048576:=by
 obtain ⟨s1,s2⟩:=Gp hE; exact ⟨by omega,fun d hd=>by have:=s2 d hd; omega⟩
theorem adG {α β ρ:Type} (p:α × β) (f:α→β→Option ρ):fP (some p) f=f p.1 p.2:=rfl
end Go.Ft
namespace Go.Ft
open Go
attribute [local congr] gy
def jY :Ty→Ty→Bool
 | .leaf a,.leaf b=>((a == 7) || (b == 0)) || (a == b)
 | .leaf a,.nest _ _=>a == 7
 | .nest _ _,.leaf b=>b == 0
 | .nest a x,.nest b y=>(a == b) && jY x y
theorem abm (a:Ty):jY a (sc 0)=true:=by cases a <;> simp [jY,sc]
theorem AQ (b:Ty):jY (sc 7) b=true:=by cases b <;> simp [jY,sc]
theorem CZ :∀ a:Ty,jY a a=true
 | .leaf x=>by simp [jY]
 | .nest x s=>by simp [jY,CZ s]
theorem Un :∀ {a b c:Ty},a.wf→b.wf→c.wf→jY a b=true→jY b c=true→jY a c=true
 | .leaf x,.leaf y,.leaf z,ha,hb,hc,h1,h2=>by
  simp only [jY,Bool.or_eq_true,beq_iff_eq] at *; omega
 | .leaf x,.leaf y,.nest z t,ha,hb,hc,h1,h2=>by
  simp only [jY,Bool.or_eq_true,beq_iff_eq] at *; omega
 | .leaf x,.nest y s,.leaf z,ha,hb,hc,h1,h2=>by
  simp only [jY,Bool.or_eq_true,beq_iff_eq] at *; omega
 | .leaf x,.nest y s,.nest z t,ha,hb,hc,h1,h2=>by
  simp only [jY,Bool.or_eq_true,beq_iff_eq,Bool.and_eq_true] at *; omega
 | .nest x r,.leaf y,.leaf z,ha,hb,hc,h1,h2=>by
  simp only [jY,Bool.or_eq_true,beq_iff_eq] at *; omega
 | .nest x r,.leaf y,.nest z t,ha,hb,hc,h1,h2=>by
  simp only [jY,beq_iff_eq] at *; omega
 | .nest x r,.nest y s,.leaf z,ha,hb,hc,h1,h2=>by
  simp only [jY,beq_iff_eq] at *; exact h2
 | .nest x r,.nest y s,.nest z t,ha,hb,hc,h1,h2=>by
  simp only [jY,Bool.and_eq_true,beq_iff_eq] at *; exact ⟨h1.1.trans h2.1,Un ha.2 hb.2 hc.2 h1.2 h2.2⟩
theorem IE :∀ (a b c:Ty),a.wf→b.wf→c.wf→jY (jy a b) c=(jY a c && jY b c)
 | .leaf x,.leaf y,c,ha,hb,hc=>by
  rw [jy]; by_cases h1:x=7
  · subst h1; simp [AQ c,show jY (.leaf 7) c=true from AQ c]
  ·
   by_cases h2:y=7
   · subst h2; simp [h1,show jY (.leaf 7) c=true from AQ c]
   ·
    by_cases h3:x=y
    · subst h3; simp [h1]
    ·
     simp only [h1,h2,h3,if_false]; cases c with
     | leaf z=>
      rw [Bool.eq_iff_iff]; simp only [jY,Bool.or_eq_true,beq_iff_eq,Bool.and_eq_true]; omega
     | nest z t=>
      rw [Bool.eq_iff_iff]; simp only [jY,beq_iff_eq,Bool.and_eq_true]; omega
 | .leaf x,.nest y t,c,ha,hb,hc=>by
  rw [jy]; have hy:=hb.1; by_cases h1:x=7
  · subst h1; simp [show jY (.leaf 7) c=true from AQ c]
  ·
   simp only [h1,if_false]; cases c with
   | leaf z=>
    rw [Bool.eq_iff_iff]; simp only [jY,Bool.or_eq_true,beq_iff_eq,Bool.and_eq_true]; omega
   | nest z u=>
    rw [Bool.eq_iff_iff]; simp only [jY,beq_iff_eq,Bool.and_eq_true]; omega
 | .nest x s,.leaf y,c,ha,hb,hc=>by
  rw [jy]; by_cases h1:y=7
  · subst h1; simp [show jY (.leaf 7) c=true from AQ c]
  ·
   simp only [h1,if_false]; cases c with
   | leaf z=>
    rw [Bool.eq_iff_iff]; simp only [jY,Bool.or_eq_true,beq_iff_eq,Bool.and_eq_true]; omega
   | nest z u=>
    rw [Bool.eq_iff_iff]; simp only [jY,beq_iff_eq,Bool.and_eq_true]; omega
 | .nest x s,.nest y t,c,ha,hb,hc=>by
  rw [jy]; by_cases h1:x=y
  ·
   subst h1; simp only [if_true]; cases c with
   | leaf z=>simp [jY]
   | nest z u=>
    rw [jY,jY,jY,IE s t u ha.2 hb.2 hc.2]; cases (x == z) <;> simp
  ·
   simp only [h1,if_false]; cases c with
   | leaf z=>
    rw [Bool.eq_iff_iff]; have:=ha.1; simp only [jY,Bool.or_eq_true,beq_iff_eq,Bool.and_eq_true]; omega
   | nest z u=>
    rw [Bool.eq_iff_iff]; simp only [jY,beq_iff_eq,Bool.and_eq_true]; omega
def gX :Ty→Bool
 | .leaf k=>k != 0
 | .nest _ t=>gX t
theorem afu :∀ (n:Nat) (a:Ty),a.wf→a.dep≤n→tZ n a.api=some (gX a)
 | 0,a,_,h=>by have:=a.Nk; omega
 | n + 1,.leaf x,ha,h=>by
  rw [tZ,C9,gX]; simp only [Ty.api]; by_cases hx:x=0
  · subst hx; rfl
  · simp [hx]
 | n + 1,.nest x s,ha,h=>by
  have k1:(x != 0)=true:=by simp only [bne_iff_ne]; rcases ha.1 with h | h <;> omega
  simp only [Ty.dep] at h; rw [tZ,C9,gX]; simp only [Ty.api,k1,if_true]; simp [idx,afu n s ha.2 (by omega)]
theorem M7 :∀ {a b:Ty},a.wf→b.wf→gX a=true→cK a b=true→jY a b=true
 | .leaf x,.leaf y,ha,hb,h1,h2=>by
  simp only [gX,cK,jY,Bool.or_eq_true,beq_iff_eq,bne_iff_ne] at *; omega
 | .leaf x,.nest y t,ha,hb,h1,h2=>by
  simp only [gX,cK,jY,Bool.or_eq_true,beq_iff_eq,bne_iff_ne] at *; omega
 | .nest x s,.leaf y,ha,hb,h1,h2=>by
  simp only [cK,jY] at *; exact h2
 | .nest x s,.nest y t,ha,hb,h1,h2=>by
  simp only [gX,cK,jY,Bool.and_eq_true,beq_iff_eq] at *; exact ⟨h2.1,M7 ha.2 hb.2 h1 h2.2⟩
end Go.Ft
namespace Go.Ft
open Go
attribute [local congr] gy
theorem UA {k:Int} (h:0≤k∧k≤7∧k≠5∧k≠6):(sc k).wf:=h
theorem abF :∀ (l:List ah) (t:Ty),t.wf→(∀ x∈l,(L8 x).wf)→(NW l t).wf
 | [],t,h,_=>by rw [NW]; exact h
 | x :: r,t,h,hl=>by
  rw [NW]; exact abF r _ (nO t (L8 x) h (hl x (by simp))) fun y hy=>hl y (by simp [hy])
theorem abE :∀ (n:Nat) (v:ah),v.bulk≤n→(L8 v).wf
 | 0,v,h=>by have:=v.jl; omega
 | n + 1,v,h=>by
  have ih:∀ x∈v.aI,(L8 x).wf:=fun x hx=>abE n x (by have:=gI hx; omega); rw [Dh]
  repeat' split
  all_goals first
   | exact UA (by omega)
   | exact ⟨by simp,abF _ _ (UA (by omega)) ih⟩
theorem aad (v:ah):(L8 v).wf:=abE v.bulk v (Nat.le_refl _)
theorem Qz :∀ (l:List ah) (t c:Ty),t.wf→c.wf→jY (NW l t) c=(jY t c && l.all fun x=>jY (L8 x) c)
 | [],t,c,_,_=>by rw [NW]; simp
 | x :: r,t,c,ht,hc=>by
  rw [NW,Qz r _ c (nO t (L8 x) ht (aad x)) hc,IE t (L8 x) c ht (aad x) hc,List.all_cons,Bool.and_assoc]
def jq (v:ah) (t:Ty):Prop:=jY (L8 v) t=true
theorem Nb (v:ah):jq v (sc 0):=abm _
theorem Ls {v:ah} {a b:Ty} (ha:a.wf) (hb:b.wf) (h:jq v a) (hs:jY a b=true):jq v b:=Un (aad v) ha hb h hs
theorem Jm {v:ah} (h:jq v (sc 7)):False:=by
 unfold jq at h; rw [Dh] at h; revert h
 repeat' split
 all_goals simp [jY,sc]
theorem oO {v:ah} {k:Int} (hk:1≤k∧k≤4) (h:jq v (sc k)):v.kind=k - 1:=by
 unfold jq at h; rw [Dh] at h; revert h
 repeat' split
 all_goals simp only [jY,sc,Bool.or_eq_true,beq_iff_eq]
 all_goals omega
theorem uw {v:ah} (h:v.kind=1):jq v (sc 2):=by unfold jq; rw [Dh]; simp [h,jY,sc]
theorem Na {v:ah} (h:v.kind=2):jq v (sc 3):=by unfold jq; rw [Dh]; simp [h,jY,sc]
theorem FW {v:ah} (h:v.kind=3):jq v (sc 4):=by unfold jq; rw [Dh]; simp [h,jY,sc]
theorem FZ {v:ah} (h:v.kind=4) {t:Ty} (ht:t.wf):jq v (.nest 5 t)↔∀ x∈v.aI,jq x t:=by
 unfold jq; rw [Dh,if_neg (by omega),if_neg (by omega),if_neg (by omega),if_neg (by omega),if_pos h,jY,Qz _ _ _ (UA (by omega)) ht,AQ]; simp
theorem abP {v:ah} (h:v.kind=5) {t:Ty} (ht:t.wf):jq v (.nest 6 t)↔∀ x∈v.aI,jq x t:=by
 unfold jq; rw [Dh,if_neg (by omega),if_neg (by omega),if_neg (by omega),if_neg (by omega),if_neg (by omega),jY,Qz _ _ _ (UA (by omega)) ht,AQ]; simp
theorem Dr {v:ah} {k:Int} {t:Ty} (h0:0≤v.kind∧v.kind≤5) (hk:k=5∨k=6) (h:jq v (.nest k t)):v.kind=k - 1:=by
 unfold jq at h; rw [Dh] at h; revert h
 repeat' split
 all_goals simp only [jY,sc,Bool.and_eq_true,beq_iff_eq]
 all_goals omega
end Go.Ft
namespace Go.Ft
open Go
attribute [local congr] gy
def rT (c:Int):Prop:=c=1∨c=3∨c=8∨c=9∨c=11∨c=12∨c=13
def kJ (p:ah × Int) (T:Ty) (free:Prop):Prop:=(p.2=0→jq p.1 T)∧(p.2≠0→rT p.2)∧(p.2=9→¬ free)
theorem kJ.ok {v:ah} {T:Ty} {F:Prop} (h:jq v T):kJ (okV v) T F:=⟨fun _=>h,fun h=>absurd rfl h,fun h=>by cases h⟩
theorem kJ.er {c:Int} {T:Ty} {F:Prop} (h0:c≠0) (h:rT c) (h9:c=9→¬ F):kJ (xU c) T F:=⟨fun h=>absurd h h0,fun _=>h,h9⟩
theorem kJ.nine {T:Ty} {F:Prop} (h:¬ F):kJ (xU 9) T F:=kJ.er (by decide) (by unfold rT; omega) fun _=>h
theorem kJ.code {c:Int} {T:Ty} {F:Prop} (h0:c≠0) (h:rT c) (h9:c≠9):kJ (xU c) T F:=kJ.er h0 h fun e=>absurd e h9
theorem jC {v:ah} {t:Ty} {k:Int} (ht:t.wf) (hv:jq v t) (hc:cK t (sc k)=true) (hk:1≤k∧k≤4) (hf:gX t=true):v.kind=k - 1:=
 oO hk (Ls ht (UA (by omega)) hv (M7 ht (UA (by omega)) hf hc))
theorem ag3 {v:ah} {t:Ty} (ht:t.wf) (hv:jq v t) (hc:cK t (sc 2)=true):kJ (unS [33] v) (sc 2) (gX t=true):=by
 unfold unS; rw [if_pos rfl]; by_cases h:v.kind=1
 · rw [if_pos h]; exact kJ.ok (uw rfl)
 · rw [if_neg h]; exact kJ.nine fun hf=>h (by have:=jC ht hv hc (by omega) hf; omega)
theorem ag4 {v:ah} {t:Ty} (ht:t.wf) (hv:jq v t) (hc:cK t (sc 3)=true):kJ (unS [45] v) (sc 3) (gX t=true):=by
 unfold unS; rw [if_neg (by decide)]; by_cases h:v.kind=2
 · rw [if_pos h]; exact kJ.ok (Na rfl)
 · rw [if_neg h]; exact kJ.nine fun hf=>h (by have:=jC ht hv hc (by omega) hf; omega)
theorem Mq {n:Int} {F:Prop}:kJ (MX n) (sc 3) F:=by
 unfold MX; split
 · exact kJ.ok (Na rfl)
 · exact kJ.code (by decide) (by unfold rT; omega) (by decide)
theorem ag7 {a b:ah} {s t:Ty} {op:Str} (hs:s.wf) (ht:t.wf) (ha:jq a s) (hb:jq b t) (h1:cK s (sc 3)=true) (h2:cK t (sc 3)=true):kJ (PO op a b) (sc 3) (gX s=true∧gX t=true):=by
 unfold PO; by_cases h:a.kind=2∧b.kind=2
 ·
  rw [if_pos h]; split
  · exact Mq
  ·
   split
   · exact Mq
   ·
    split
    · exact kJ.code (by decide) (by unfold rT; omega) (by decide)
    ·
     split
     · exact Mq
     · exact kJ.ok (Na rfl)
 ·
  rw [if_neg h]; exact kJ.nine fun hf=>h ⟨by have:=jC hs ha h1 (by omega) hf.1; omega,by have:=jC ht hb h2 (by omega) hf.2; omega⟩
end Go.Ft
namespace Go.Ft
open Go
attribute [local congr] gy
theorem Ap {t:Ty} {k:Int} (h:t.wf) (hk:t.kind=k) (h5:k≠5∧k≠6):t=sc k:=by
 cases t with
 | leaf x=>simp only [Ty.kind] at hk; subst hk; rfl
 | nest x s=>simp only [Ty.kind] at hk; have:=h.1; omega
theorem wZ {v:ah} {t:Ty} (hv:jq v t) (h:t.wf) (hf:gX t=true):cu t=false:=by
 cases hl:cu t with
 | false=>rfl
 | true=>
  exfalso; obtain ⟨e,h07⟩:=zY h hl; rcases h07 with h0 | h7
  · rw [e,h0] at hf; cases hf
  · rw [e,h7] at hv; exact Jm hv
theorem Rl {a b:Ty} (ha:cu a=false) (hb:cu b=false) {k:Int} (hk:0≤k) (h:Lh a b=k):a.kind=k∧b.kind=k:=by
 unfold Lh at h; rw [ha,hb] at h; simp only [Bool.false_eq_true,if_false,Bool.false_or,beq_iff_eq] at h; split at h
 · rename_i e; exact ⟨h,e ▸ h⟩
 · omega
theorem ag1 {a b:ah} {s t:Ty} {r:Bool} (hs:s.wf) (ht:t.wf) (ha:jq a s) (hb:jq b t) (hc:(((cu s && cu t) || (Lh s t == 3)) || (Lh s t == 4))=true):kJ (K9 a b r) (sc 2) (gX s=true∧gX t=true):=by
 unfold K9; by_cases h:(a.kind=2∧b.kind=2)∨(a.kind=3∧b.kind=3)
 · rw [if_pos h]; exact kJ.ok (uw rfl)
 ·
  rw [if_neg h]; refine kJ.nine fun hf=>h ?_; have l1:=wZ ha hs hf.1; have l2:=wZ hb ht hf.2; rw [l1,l2] at hc; simp only [Bool.and_self,Bool.false_or,Bool.or_eq_true,beq_iff_eq] at hc; rcases hc with hc | hc
  ·
   obtain ⟨k1,k2⟩:=Rl l1 l2 (by omega) hc; rw [Ap hs k1 (by omega)] at ha; rw [Ap ht k2 (by omega)] at hb; exact .inl ⟨oO (by omega) ha,oO (by omega) hb⟩
  ·
   obtain ⟨k1,k2⟩:=Rl l1 l2 (by omega) hc; rw [Ap hs k1 (by omega)] at ha; rw [Ap ht k2 (by omega)] at hb; exact .inr ⟨oO (by omega) ha,oO (by omega) hb⟩
end Go.Ft
namespace Go.Ft
open Go
attribute [local congr] gy
theorem UU {a b:Ty} (ha:a.wf) (hb:b.wf):jY a (jy a b)=true:=by
 have h:=IE a b (jy a b) ha hb (nO a b ha hb); rw [CZ] at h; exact (Bool.and_eq_true _ _ ▸ h.symm).1
theorem Ro {a b:Ty} (ha:a.wf) (hb:b.wf):jY b (jy a b)=true:=by
 have h:=IE a b (jy a b) ha hb (nO a b ha hb); rw [CZ] at h; exact (Bool.and_eq_true _ _ ▸ h.symm).2
theorem afy {v:ah} {t:Ty} (hv:jq v t) (h4:v.kind=4) (ht:t.wf) (hk:cu t=true∨t.kind=5):(RN t).wf∧∀ x∈v.aI,jq x (RN t):=by
 cases t with
 | leaf k=>
  have hl:cu (.leaf k)=true:=by
   rcases hk with h | h
   · exact h
   · simp only [Ty.kind] at h; exact absurd h ht.2.2.1
  obtain ⟨e,h07⟩:=zY ht hl; rcases h07 with h0 | h7
  ·
   simp only [Ty.kind] at h0; subst h0; exact ⟨by simpa [RN] using ht,fun x _=>Nb x⟩
  · rw [e,h7] at hv; exact (Jm hv).elim
 | nest k s=>
  have h5:k=5:=by
   rcases hk with h | h
   · unfold cu at h; simp [Ty.kind] at h; have:=ht.1; omega
   · exact h
  subst h5; exact ⟨by simpa [RN] using ht.2,by simpa [RN] using (FZ h4 ht.2).1 hv⟩
theorem aaq {a b:Ty} (h:(cu a && cu b)=false) {k:Int} (hk:0≤k) (hx:Lh a b=k):a.kind=k∧(cu b=true∨b.kind=k)∨b.kind=k∧(cu a=true∨a.kind=k):=by
 unfold Lh at hx; cases ha:cu a with
 | true=>rw [ha] at hx; exact .inr ⟨by simpa using hx,.inl rfl⟩
 | false=>
  rw [ha] at hx; simp only [Bool.false_eq_true,if_false] at hx; cases hb:cu b with
  | true=>rw [hb] at hx; exact .inl ⟨by simpa using hx,.inl rfl⟩
  | false=>
   rw [hb] at hx; simp only [Bool.false_or,beq_iff_eq] at hx; split at hx
   · rename_i e; exact .inl ⟨hx,.inr (e ▸ hx)⟩
   · omega
theorem ag0 {a b:ah} {s t:Ty} (hs:s.wf) (ht:t.wf) (ha:jq a s) (hb:jq b t) (ka:0≤a.kind∧a.kind≤5) (kb:0≤b.kind∧b.kind≤5) (hl:(cu s && cu t)=false) {k:Int} (hk:k=3∨k=4∨k=5) (hx:Lh s t=k):
  kJ (Tc a b) (if k=5 then .nest 5 (jy (RN s) (RN t)) else sc k) (gX s=true∧gX t=true):=by
 have one:=aaq hl (by omega) hx
 have kind:∀ {v:ah} {u:Ty},u.wf→jq v u→(0≤v.kind∧v.kind≤5)→u.kind=k→v.kind=k - 1:=by
  intro v u hu hv kv hk2; rcases hk with h | h | h
  · rw [Ap hu hk2 (by omega)] at hv; exact oO (by omega) hv
  · rw [Ap hu hk2 (by omega)] at hv; exact oO (by omega) hv
  ·
   cases u with
   | leaf x=>simp only [Ty.kind] at hk2; have:=hu.2.2.1; omega
   | nest x w=>simp only [Ty.kind] at hk2; exact (Dr kv hu.1 hv).trans (by rw [hk2])
 have hab:a.kind=k - 1∨b.kind=k - 1:=by
  rcases one with ⟨h,_⟩ | ⟨h,_⟩
  · exact .inl (kind hs ha ka h)
  · exact .inr (kind ht hb kb h)
 unfold Tc; by_cases c1:a.kind=2∧b.kind=2
 ·
  have:k=3:=by omega
  subst this; rw [if_pos c1,if_neg (by omega)]; exact Mq
 ·
  rw [if_neg c1]; by_cases c2:a.kind=3∧b.kind=3
  ·
   have:k=4:=by omega
   subst this; rw [if_pos c2,if_neg (c:=(4:Int)=5) (by omega)]; split
   · exact kJ.ok (FW rfl)
   · exact kJ.code (by decide) (by unfold rT; omega) (by decide)
  ·
   rw [if_neg c2]; by_cases c3:a.kind=4∧b.kind=4
   ·
    have:k=5:=by omega
    subst this; rw [if_pos c3,if_pos (c:=(5:Int)=5) rfl]; split
    ·
     have hks:cu s=true∨s.kind=5:=by rcases one with ⟨h,_⟩ | ⟨_,h⟩; exact .inr h; exact h
     have hkt:cu t=true∨t.kind=5:=by rcases one with ⟨_,h⟩ | ⟨h,_⟩; exact h; exact .inr h
     obtain ⟨w1,e1⟩:=afy ha c3.1 hs hks; obtain ⟨w2,e2⟩:=afy hb c3.2 ht hkt; have wj:=nO _ _ w1 w2; refine kJ.ok ((FZ (v:=Ii (a.aI ++ b.aI)) rfl wj).2 fun x hx'=>?_); rcases List.mem_append.1 hx' with h | h
     · exact Ls w1 wj (e1 x h) (UU w1 w2)
     · exact Ls w2 wj (e2 x h) (Ro w1 w2)
    · exact kJ.code (by decide) (by unfold rT; omega) (by decide)
   ·
    rw [if_neg c3]; refine kJ.nine fun hf=>?_; have l1:=wZ ha hs hf.1; have l2:=wZ hb ht hf.2; obtain ⟨k1,k2⟩:=Rl l1 l2 (by omega) hx; have m1:=kind hs ha ka k1; have m2:=kind ht hb kb k2; omega
end Go.Ft
namespace Go.Ft
open Go
attribute [local congr] gy
theorem ahI {v:ah} {k:Int} {t:Ty} (h0:0≤v.kind∧v.kind≤5) (hk:k=5∨k=6) (ht:t.wf) (hv:jq v (.nest k t)):∀ x∈v.aI,jq x t:=by
 have hkk:=Dr h0 hk hv; rcases hk with h | h
 · subst h; exact (FZ (by omega) ht).1 hv
 · subst h; exact (abP (by omega) ht).1 hv
def partT :Ty→Ty
 | .leaf k=>.leaf k
 | .nest _ t=>t
theorem ae4 {v:ah} {t:Ty} (ht:t.wf) (hv:jq v t) (h0:0≤v.kind∧v.kind≤5) (hk:cu t=true∨t.kind=5∨t.kind=6):∀ x∈v.aI,jq x (partT t):=by
 cases t with
 | leaf k=>
  have hl:cu (.leaf k)=true:=by
   rcases hk with h | h | h
   · exact h
   · simp only [Ty.kind] at h; exact absurd h ht.2.2.1
   · simp only [Ty.kind] at h; exact absurd h ht.2.2.2
  obtain ⟨e,h07⟩:=zY ht hl; rcases h07 with h | h
  · simp only [Ty.kind] at h; subst h; exact fun x _=>Nb x
  · rw [e,h] at hv; exact (Jm hv).elim
 | nest k s=>exact ahI h0 ht.1 ht.2 hv
theorem abD {o:Option ah} {T:Ty} {F:Prop} (h:∀ x,o=some x→jq x T):kJ (okO o 8) T F:=by
 cases o with
 | none=>exact kJ.code (by decide) (by unfold rT; omega) (by decide)
 | some x=>exact kJ.ok (h x rfl)
theorem abr {a b:ah} {s:Ty} {F:Prop} (hs:s.wf) (ha:jq a s) (ka:0≤a.kind∧a.kind≤5) (hk:cu s=true∨s.kind=5∨s.kind=6) (h9:F→(a.kind=4∧b.kind=2)∨(a.kind=5∧b.kind=3)):kJ (Pv a b) (partT s) F:=by
 have hp:=ae4 hs ha ka hk; unfold Pv; by_cases c1:a.kind=4∧b.kind=2
 ·
  rw [if_pos c1]; split
  · exact abD fun x hx=>hp x (List.mem_of_getElem? hx)
  · exact kJ.code (by decide) (by unfold rT; omega) (by decide)
 ·
  rw [if_neg c1]; by_cases c2:a.kind=5∧b.kind=3
  ·
   rw [if_pos c2]; refine abD fun x hx=>hp x ?_; unfold Rz at hx; rw [if_pos c2.1] at hx; exact RA hx
  ·
   rw [if_neg c2]; exact kJ.nine fun hF=>by rcases h9 hF with h | h; exact c1 h; exact c2 h
end Go.Ft
namespace Go.Ft
open Go
attribute [local congr] gy
theorem Uo :∀ (l:List Ty) (t c:Ty),t.wf→c.wf→(∀ x∈l,x.wf)→jY (xR t l) c=(jY t c && l.all fun x=>jY x c)
 | [],t,c,_,_,_=>by rw [xR]; simp
 | x :: r,t,c,ht,hc,h=>by
  have hx:=h x (by simp); rw [xR,Uo r _ c (nO t x ht hx) hc (fun y hy=>h y (by simp [hy])),IE t x c ht hx hc,List.all_cons,Bool.and_assoc]
theorem FV :∀ (l:List Ty) (t:Ty),t.wf→(∀ x∈l,x.wf)→(xR t l).wf
 | [],t,h,_=>by rw [xR]; exact h
 | x :: r,t,h,hl=>by rw [xR]; exact FV r _ (nO t x h (hl x (by simp))) fun y hy=>hl y (by simp [hy])
theorem Zk {l:List Ty} (h:∀ x∈l,x.wf):∀ x∈l,jY x (xR (sc 7) l)=true:=by
 have w:=FV l (sc 7) (UA (by omega)) h; have e:=Uo l (sc 7) (xR (sc 7) l) (UA (by omega)) w h; rw [CZ,AQ] at e; simp only [Bool.true_and] at e; exact List.all_eq_true.1 e.symm
def fits (vs:List ah) (ts:List Ty):Prop:=vs.length=ts.length∧∀ i (h1:i < vs.length) (h2:i < ts.length),jq vs[i] ts[i]
theorem U1 {vs:List ah} {ts:List Ty} (h:fits vs ts) (hw:∀ x∈ts,x.wf):∀ v∈vs,jq v (xR (sc 7) ts):=by
 intro v hv; obtain ⟨i,hi,rfl⟩:=List.getElem_of_mem hv; have h2:i < ts.length:=by rw [←h.1]; exact hi
 exact Ls (hw _ (List.getElem_mem h2)) (FV ts (sc 7) (UA (by omega)) hw) (h.2 i hi h2) (Zk hw _ (List.getElem_mem h2))
theorem aer {vs:List ah} {ts:List Ty} {F:Prop} (h:fits vs ts) (hw:∀ x∈ts,x.wf):kJ (if zA (Ii vs)≤16 then okV (Ii vs) else xU 13) (.nest 5 (xR (sc 7) ts)) F:=by
 split
 · exact kJ.ok ((FZ (v:=Ii vs) rfl (FV ts (sc 7) (UA (by omega)) hw)).2 (U1 h hw))
 · exact kJ.code (by decide) (by unfold rT; omega) (by decide)
theorem kJ.up {p:ah × Int} {S T:Ty} {F G:Prop} (hs:S.wf) (ht:T.wf) (h:kJ p S F) (hst:jY S T=true) (hF:G→F):kJ p T G:=
 ⟨fun h0=>Ls hs ht (h.1 h0) hst,h.2.1,fun h9 hg=>h.2.2 h9 (hF hg)⟩
theorem kJ.err {p:ah × Int} {S T:Ty} {F G:Prop} (h:kJ p S F) (h0:p.2≠0) (hF:G→F):kJ (xU p.2) T G:=
 kJ.er h0 (h.2.1 h0) fun h9 hg=>h.2.2 h9 (hF hg)
theorem aew {a b c:ah × Int} {s t u:Ty} {F1 F2 F3:Prop} (hs:s.wf) (ht:t.wf) (hu:u.wf) (ha:kJ a s F1) (hb:kJ b t F2) (hc:kJ c u F3) (hk:cK s (sc 2)=true):
  kJ (YJ a b c) (jy t u) ((F1∧gX s=true)∧F2∧F3):=by
 unfold YJ; by_cases h0:a.2=0
 ·
  rw [if_neg (by simpa using h0)]; by_cases h1:a.1.kind=1
  ·
   rw [if_neg (by simpa using h1)]; split
   · exact hb.up ht (nO t u ht hu) (UU ht hu) fun h=>h.2.1
   · exact hc.up hu (nO t u ht hu) (Ro ht hu) fun h=>h.2.2
  ·
   rw [if_pos (by simpa using h1)]; exact kJ.nine fun hf=>h1 (by have:=jC hs (ha.1 h0) hk (by omega) hf.1.2; omega)
 ·
  rw [if_pos (by simpa using h0)]; exact ha.err h0 fun h=>h.1.1
theorem aex {b:ah × Int} {t:Ty} {F:Prop} (ht:t.wf) (hb:kJ b t F) (hk:cK t (sc 2)=true):kJ (Ve b) (sc 2) (F∧gX t=true):=by
 unfold Ve; by_cases h0:b.2=0
 ·
  rw [if_neg (by simpa using h0)]; by_cases h1:b.1.kind=1
  ·
   rw [if_neg (by simpa using h1)]; exact ⟨fun _=>uw h1,fun h=>absurd h0 h,fun h=>by rw [h0] at h; cases h⟩
  ·
   rw [if_pos (by simpa using h1)]; exact kJ.nine fun hf=>h1 (by have:=jC ht (hb.1 h0) hk (by omega) hf.2; omega)
 ·
  rw [if_pos (by simpa using h0)]; exact hb.err h0 fun h=>h.1
theorem acD {n:Str} {a b:ah × Int} {s t:Ty} {F1 F2:Prop} (hs:s.wf) (ht:t.wf) (ha:kJ a s F1) (hb:kJ b t F2) (h1:cK s (sc 2)=true) (h2:cK t (sc 2)=true):
  kJ (K8 n a b) (sc 2) ((F1∧gX s=true)∧F2∧gX t=true):=by
 unfold K8; by_cases h0:a.2=0
 ·
  rw [if_neg (by simpa using h0)]; by_cases hk:a.1.kind=1
  ·
   rw [if_neg (by simpa using hk)]; split
   · exact ⟨fun _=>uw hk,fun h=>absurd h0 h,fun h=>by rw [h0] at h; cases h⟩
   · exact (aex ht hb h2).up (UA (by omega)) (UA (by omega)) (CZ _) fun h=>h.2
  ·
   rw [if_pos (by simpa using hk)]; exact kJ.nine fun hf=>hk (by have:=jC hs (ha.1 h0) h1 (by omega) hf.1.2; omega)
 ·
  rw [if_pos (by simpa using h0)]; exact ha.err h0 fun h=>h.1.1
end Go.Ft
namespace Go.Ft
open Go
attribute [local congr] gy
theorem FU {v:ah} {t:Ty} {k:Int} (ht:t.wf) (hv:jq v t) (kv:0≤v.kind∧v.kind≤5) (hk:k=5∨k=6) (hc:cK t (.nest k (sc 0))=true) (hf:gX t=true):v.kind=k - 1:=by
 have w:(Ty.nest k (sc 0)).wf:=⟨hk,UA (by omega)⟩; exact Dr kv hk (Ls ht w hv (M7 ht w hf hc))
theorem ag6 {v:ah} {t:Ty} (ht:t.wf) (hv:jq v t) (kv:0≤v.kind∧v.kind≤5) (hc:cK t (sc 4)=true∨cK t (.nest 5 (sc 0))=true∨cK t (.nest 6 (sc 0))=true):kJ (Kt [108,101,110] v) (sc 3) (gX t=true):=by
 unfold Kt; rw [if_pos rfl]; by_cases h:v.kind=3∨v.kind=4∨v.kind=5
 · rw [if_pos h]; exact kJ.ok (Na rfl)
 ·
  rw [if_neg h]; refine kJ.nine fun hf=>h ?_; rcases hc with hc | hc | hc
  · have:=jC ht hv hc (by omega) hf; omega
  · have:=FU ht hv kv (.inl rfl) hc hf; omega
  · have:=FU ht hv kv (.inr rfl) hc hf; omega
theorem U2 (l:List Str):jq (Ii (l.map mkS)) (.nest 5 (sc 4)):=by
 refine (FZ (v:=Ii (l.map mkS)) rfl (UA (by omega))).2 fun x hx=>?_; obtain ⟨s,_,rfl⟩:=List.mem_map.1 hx; exact FW rfl
theorem aes {v:ah} {t:Ty} (ht:t.wf) (hv:jq v t) (kv:0≤v.kind∧v.kind≤5) (hc:cK t (.nest 6 (sc 0))=true):kJ (Kt [107,101,121,115] v) (.nest 5 (sc 4)) (gX t=true):=by
 unfold Kt; rw [if_neg (by decide),if_pos rfl]; by_cases h:v.kind=5
 · rw [if_pos h]; exact kJ.ok (U2 _)
 · rw [if_neg h]; exact kJ.nine fun hf=>h (by have:=FU ht hv kv (.inr rfl) hc hf; omega)
theorem ZP {v:ah} {t:Ty} (ht:t.wf) (hv:jq v t) (hc:t.kind≠5∧t.kind≠6):kJ (Kt [115,116,114,105,110,103] v) (sc 4) (gX t=true):=by
 unfold Kt; rw [if_neg (by decide),if_neg (by decide),if_pos rfl]; by_cases h:v.kind=4∨v.kind=5
 ·
  rw [if_pos h]; refine kJ.nine fun hf=>?_; have hl:=wZ hv ht hf; cases t with
  | leaf k=>
   unfold cu at hl; simp only [Ty.kind,Bool.or_eq_false_iff,beq_eq_false_iff_ne] at hl; have:=oO (v:=v) (k:=k) (by have:=ht.1; have:=ht.2.1; have:=ht.2.2; omega) hv; have:=ht.2; omega
  | nest k s=>have:=ht.1; simp only [Ty.kind] at hc; omega
 · rw [if_neg h]; exact kJ.ok (FW rfl)
theorem XI {n:Str} {v:ah} {t:Ty} (ht:t.wf) (hv:jq v t) (hc:cK t (sc 4)=true) (hn:n=[108,111,119,101,114]∨n=[117,112,112,101,114]):kJ (Kt n v) (sc 4) (gX t=true):=by
 unfold Kt; have n1:n≠[108,101,110]:=by rcases hn with rfl | rfl <;> decide
 have n2:n≠[107,101,121,115]:=by rcases hn with rfl | rfl <;> decide
 have n3:n≠[115,116,114,105,110,103]:=by rcases hn with rfl | rfl <;> decide
 rw [if_neg n1,if_neg n2,if_neg n3]; by_cases h:v.kind=3
 ·
  rw [if_neg (by simpa using h)]; rcases hn with rfl | rfl
  · rw [if_pos rfl]; exact kJ.ok (FW rfl)
  · rw [if_neg (by decide),if_pos rfl]; exact kJ.ok (FW rfl)
 · rw [if_pos h]; exact kJ.nine fun hf=>h (by have:=jC ht hv hc (by omega) hf; omega)
theorem ZQ {v:ah} {t:Ty} (ht:t.wf) (hv:jq v t) (hc:cK t (sc 4)=true):kJ (Kt [105,110,116] v) (sc 3) (gX t=true):=by
 unfold Kt; rw [if_neg (by decide),if_neg (by decide),if_neg (by decide)]; by_cases h:v.kind=3
 ·
  rw [if_neg (by simpa using h),if_neg (by decide),if_neg (by decide)]; unfold acW; split
  · exact kJ.ok (Na rfl)
  · exact kJ.code (by decide) (by unfold rT; omega) (by decide)
 · rw [if_pos h]; exact kJ.nine fun hf=>h (by have:=jC ht hv hc (by omega) hf; omega)
end Go.Ft
namespace Go.Ft
open Go
attribute [local congr] gy
theorem VE {a b:ah} {s t:Ty} (hs:s.wf) (ht:t.wf) (ha:jq a s) (hb:jq b t) (ka:0≤a.kind∧a.kind≤5)
  (hc:cK s (.nest 5 (sc 0))=true∨(cK t (sc 4)=true∧(cK s (sc 4)=true∨cK s (.nest 6 (sc 0))=true))):kJ (Nn a b) (sc 2) (gX s=true∧gX t=true):=by
 unfold Nn; by_cases c1:a.kind=4
 · rw [if_pos c1]; exact kJ.ok (uw rfl)
 ·
  rw [if_neg c1]; by_cases c2:a.kind=3∧b.kind=3
  · rw [if_pos c2]; exact kJ.ok (uw rfl)
  ·
   rw [if_neg c2]; by_cases c3:a.kind=5∧b.kind=3
   · rw [if_pos c3]; exact kJ.ok (uw rfl)
   ·
    rw [if_neg c3]; refine kJ.nine fun hf=>?_; rcases hc with hc | ⟨h1,hc | hc⟩
    · have:=FU hs ha ka (.inl rfl) hc hf.1; omega
    ·
     have:=jC hs ha hc (by omega) hf.1; have:=jC ht hb h1 (by omega) hf.2; omega
    ·
     have:=FU hs ha ka (.inr rfl) hc hf.1; have:=jC ht hb h1 (by omega) hf.2; omega
theorem aeu {a b:ah} {s t:Ty} (hs:s.wf) (ht:t.wf) (ha:jq a s) (hb:jq b t) (ka:0≤a.kind∧a.kind≤5) (h1:cK s (.nest 5 (sc 4))=true) (h2:cK t (sc 4)=true):kJ (MW a b) (sc 4) (gX s=true∧gX t=true):=by
 have w:(Ty.nest 5 (sc 4)).wf:=⟨.inl rfl,UA (by omega)⟩
 have key:gX s=true∧gX t=true→a.kind=4∧b.kind=3∧(a.aI.all fun x=>x.kind == 3)=true:=by
  intro hf; have hfit:=Ls hs w ha (M7 hs w hf.1 h1); have k4:a.kind=4:=Dr ka (.inl rfl) hfit; refine ⟨k4,by have:=jC ht hb h2 (by omega) hf.2; omega,List.all_eq_true.2 fun x hx=>?_⟩; have:=oO (by omega) ((FZ k4 (UA (by omega))).1 hfit x hx); simpa using this
 unfold MW; by_cases c1:a.kind=4∧b.kind=3
 ·
  rw [if_pos c1]; by_cases c2:(a.aI.all fun x=>x.kind == 3)=true
  ·
   rw [if_pos c2]; split
   · exact kJ.ok (FW rfl)
   · exact kJ.code (by decide) (by unfold rT; omega) (by decide)
  · rw [if_neg c2]; exact kJ.nine fun hf=>c2 (key hf).2.2
 · rw [if_neg c1]; exact kJ.nine fun hf=>c1 ⟨(key hf).1,(key hf).2.1⟩
theorem acC {s t:Str} {F:Prop}:kJ (VD s t) (.nest 5 (sc 4)) F:=by
 unfold VD; split
 · exact kJ.code (by decide) (by unfold rT; omega) (by decide)
 ·
  split
  · exact kJ.ok (U2 _)
  · exact kJ.code (by decide) (by unfold rT; omega) (by decide)
theorem XH {a b:ah} {s t:Ty} {F:Prop} (hs:s.wf) (ha:jq a s) (hb:jq b t):kJ (if a.kind=0 then okV b else okV a) (if s.kind=1 then t else s) F:=by
 by_cases h0:a.kind=0
 ·
  rw [if_pos h0]; by_cases h1:s.kind=1
  · rw [if_pos h1]; exact kJ.ok hb
  ·
   rw [if_neg h1]; have e:L8 a=sc 1:=by rw [Dh,if_pos h0]
   have hsub:jY (sc 1) s=true:=by have:=ha; unfold jq at this; rwa [e] at this
   have:s=sc 0:=by
    cases s with
    | leaf k=>
     simp only [sc,jY,Bool.or_eq_true,beq_iff_eq] at hsub; simp only [Ty.kind] at h1; have:k=0:=by omega
     subst this; rfl
    | nest k u=>simp only [sc,jY,beq_iff_eq] at hsub; omega
   rw [this]; exact kJ.ok (Nb b)
 ·
  rw [if_neg h0]; by_cases h1:s.kind=1
  ·
   rw [Ap hs h1 (by omega)] at ha; have:=oO (by omega) ha; omega
  · rw [if_neg h1]; exact kJ.ok ha
end Go.Ft
namespace Go.Ft
open Go
attribute [local congr] gy
theorem Ud :∀ {ks:List Str} {vs:List ah} {x:aB},x∈List.zipWith aB.mk ks vs→x.value∈vs
 | [],_,_,h=>by simp at h
 | _ :: _,[],_,h=>by simp at h
 | k :: ks,v :: vs,x,h=>by
  rw [List.zipWith_cons_cons,List.mem_cons] at h; rcases h with rfl | h
  · simp
  · exact List.mem_cons_of_mem _ (Ud h)
theorem ag5 {keys:List Str} {vs:List ah} {ts:List Ty} {F:Prop} (h:fits vs ts) (hw:∀ x∈ts,x.wf):kJ (Yj (List.zipWith aB.mk keys vs)) (.nest 6 (xR (sc 7) ts)) F:=by
 unfold Yj; split
 · exact kJ.code (c:=13) (by decide) (by unfold rT; omega) (by decide)
 ·
  refine kJ.ok ((abP (v:=OE (jV (List.zipWith aB.mk keys vs))) rfl (FV ts (sc 7) (UA (by omega)) hw)).2 fun x hx=>?_); obtain ⟨y,hy,rfl⟩:=List.mem_map.1 hx; exact U1 h hw _ (Ud ((uU _).mem_iff.1 hy))
theorem aev {a b:ah} {op:Str} {F:Prop} (h:op=[61,61]∨op=[33,61]):kJ (Bz op a b) (sc 2) F:=by
 unfold Bz; rcases h with rfl | rfl
 · rw [if_pos rfl]; exact kJ.ok (uw rfl)
 · rw [if_neg (by decide),if_pos rfl]; exact kJ.ok (uw rfl)
theorem XG {a b:ah} {s t:Ty} {r:Bool} (hs:s.wf) (ht:t.wf) (ha:jq a s) (hb:jq b t) (h1:cK s (sc 4)=true) (h2:cK t (sc 4)=true):kJ (if ¬ (a.kind=3∧b.kind=3) then xU 9 else okV (W_ r)) (sc 2) (gX s=true∧gX t=true):=by
 by_cases c:a.kind=3∧b.kind=3
 · rw [if_neg (by simpa using c)]; exact kJ.ok (uw rfl)
 ·
  rw [if_pos c]; exact kJ.nine fun hf=>c ⟨by have:=jC hs ha h1 (by omega) hf.1; omega,by have:=jC ht hb h2 (by omega) hf.2; omega⟩
end Go.Ft
namespace Go.Ft
open Go
attribute [local congr] gy
theorem Qf :∀ {a b:Ty},a.api=b.api→a=b
 | .leaf a,.leaf b,h=>by simp only [Ty.api,aj.mk.injEq] at h; rw [h.1]
 | .leaf a,.nest b t,h=>by simp [Ty.api] at h
 | .nest a s,.leaf b,h=>by simp [Ty.api] at h
 | .nest a s,.nest b t,h=>by
  simp only [Ty.api,aj.mk.injEq,List.cons.injEq,and_true] at h; rw [h.1,Qf h.2]
theorem wB {a b:Ty} {p:Bool} {x:Option (aj × Bool)} (h:x=some (a.api,p)) (hx:x=some (b.api,true)):b=a∧p=true:=by
 rw [h] at hx; simp only [Option.some.injEq,Prod.mk.injEq] at hx; exact ⟨Qf hx.1.symm,hx.2⟩
theorem amK {t T:Ty} (h:t.wf) {e:ak} (he:e.kind=3) (hn:eX e [t.api]=some (T.api,true)):T=partT t∧(cu t=true∨t.kind=6):=by
 have i0:idx [t.api] 0=some t.api:=rfl; unfold eX at hn; simp only [he,i0,av,(ji t).2,Ty.lZ] at hn; cases t with
 | leaf k=>
  have h6:(k == 6)=false:=by simp; exact h.2.2.2
  obtain ⟨q1,q2⟩:=wB (a:=.leaf k) (p:=cu (.leaf k)) (by simp [Ty.kind,h6]) hn; exact ⟨q1,.inl q2⟩
 | nest k s=>
  have hl:cu (.nest k s)=false:=by unfold cu; simp [Ty.kind]; rcases h.1 with h | h <;> omega
  by_cases h6:k=6
  ·
   subst h6; obtain ⟨q1,q2⟩:=wB (a:=s) (p:=true) (by simp [Ty.kind,Ty.api,idx]) hn; exact ⟨q1,.inr rfl⟩
  ·
   obtain ⟨q1,q2⟩:=wB (a:=.nest k s) (p:=false) (by simp [Ty.kind,h6,hl]) hn; cases q2
theorem amJ {t i T:Ty} (h:t.wf) (hi:i.wf) (hid:i.dep≤16) {e:ak} (he:e.kind=4) (hn:eX e [t.api,i.api]=some (T.api,true)):
  T=partT t∧((t.kind=5∧cK i (sc 3)=true)∨(t.kind=6∧cK i (sc 4)=true)∨cu t=true):=by
 have i0:idx [t.api,i.api] 0=some t.api:=rfl; have i1:idx [t.api,i.api] 1=some i.api:=rfl; unfold eX Fv at hn; simp only [he,i0,i1,av,(ji t).2,Ty.lZ,om hi (by omega) (rR (k:=3) (by omega)),om hi (by omega) (rR (k:=4) (by omega))] at hn; generalize cK i (sc 3)=n3 at *; generalize cK i (sc 4)=n4 at *; cases t with
 | leaf k=>
  have h5:(k == 5)=false:=by simp; exact h.2.2.1
  have h6:(k == 6)=false:=by simp; exact h.2.2.2
  obtain ⟨q1,q2⟩:=wB (a:=.leaf k) (p:=cu (.leaf k) && (n3 || n4)) (by
   simp only [Ty.kind,h5,h6,Bool.false_eq_true,if_false]
   cases cu (.leaf k) <;> cases n3 <;> cases n4 <;> simp) hn
  simp only [Bool.and_eq_true] at q2; exact ⟨q1,.inr (.inr q2.1)⟩
 | nest k s=>
  rcases h.1 with h5 | h6
  ·
   subst h5; obtain ⟨q1,q2⟩:=wB (a:=s) (p:=n3) (by simp [Ty.kind,Ty.api,idx]) hn; exact ⟨q1,.inl ⟨rfl,q2⟩⟩
  ·
   subst h6; obtain ⟨q1,q2⟩:=wB (a:=s) (p:=n4) (by simp [Ty.kind,Ty.api,idx]) hn; exact ⟨q1,.inr (.inl ⟨rfl,q2⟩)⟩
theorem amI {t T:Ty} (h:t.wf) (hd:t.dep≤16) {e:ak} (he:e.kind=6) (hn:eX e [t.api]=some (T.api,true)):T=(if e.name=[33] then sc 2 else sc 3)∧cK t T=true:=by
 have i0:idx [t.api] 0=some t.api:=rfl; unfold eX at hn; simp only [he,i0,av,(of_eq _).2.1,om h (by omega) (rR (k:=3) (by omega)),om h (by omega) (rR (k:=2) (by omega))] at hn; by_cases hop:e.name=[33]
 ·
  obtain ⟨q1,q2⟩:=wB (a:=sc 2) (p:=cK t (sc 2)) (by simp [hop]) hn; rw [if_pos hop,q1]; exact ⟨rfl,q2⟩
 ·
  obtain ⟨q1,q2⟩:=wB (a:=sc 3) (p:=cK t (sc 3)) (by simp [hop]) hn; rw [if_neg hop,q1]; exact ⟨rfl,q2⟩
theorem amH {a b c T:Ty} (ha:a.wf) (had:a.dep≤16) (hb:b.wf) (hbd:b.dep≤16) (hc:c.wf) (hcd:c.dep≤16) {e:ak} (he:e.kind=8) (hn:eX e [a.api,b.api,c.api]=some (T.api,true)):T=jy b c∧cK a (sc 2)=true:=by
 have i0:idx [a.api,b.api,c.api] 0=some a.api:=rfl; have i1:idx [a.api,b.api,c.api] 1=some b.api:=rfl; have i2:idx [a.api,b.api,c.api] 2=some c.api:=rfl; have j:=He hb hc hbd hcd; refine wB (a:=jy b c) (p:=cK a (sc 2)) ?_ hn; unfold eX; simp [he,i0,i1,i2,j.2,om ha (by omega) (rR (k:=2) (by omega))]
theorem alB {a b T:Ty} {e:ak} (he:e.kind=7) (hn:eX e [a.api,b.api]=some (T.api,true)):kT e.name a.api b.api=some (T.api,true):=by
 have Rs:eX e [a.api,b.api]=kT e.name a.api b.api:=by unfold eX; simp [he,idx]
 rwa [Rs] at hn
theorem akA {a b:Ty} (ha:a.wf) (had:a.dep≤16) (hb:b.wf) (hbd:b.dep≤16) {op:Str} (h:op=[38,38]∨op=[124,124]):kT op a.api b.api=some ((sc 2).api,cK a (sc 2) && cK b (sc 2)):=by
 have e:kT op a.api b.api=(au (eU 2) fun x1=>au (fF a.api 2) fun x2=>au (if x2 then fF b.api 2 else some false) fun b2=>some (x1,b2)):=by rcases h with rfl | rfl <;> rfl
 rw [e,om ha (by omega) (rR (k:=2) (by omega)),om hb (by omega) (rR (k:=2) (by omega)),(of_eq 2).2.1]; simp only [av,wN]
theorem akB {a b:Ty} (ha:a.wf) (had:a.dep≤16) (hb:b.wf) (hbd:b.dep≤16) {op:Str} (h:op=[45]∨op=[42]∨op=[47]∨op=[37]):kT op a.api b.api=some ((sc 3).api,cK a (sc 3) && cK b (sc 3)):=by
 have e:kT op a.api b.api=(au (eU 3) fun x1=>au (fF a.api 3) fun x2=>au (if x2 then fF b.api 3 else some false) fun b2=>some (x1,b2)):=by rcases h with rfl | rfl | rfl | rfl <;> rfl
 rw [e,om ha (by omega) (rR (k:=3) (by omega)),om hb (by omega) (rR (k:=3) (by omega)),(of_eq 3).2.1]; simp only [av,wN]
theorem af5 {a b:Ty} {op:Str} (h:op=[61,61]∨op=[33,61]):kT op a.api b.api=some ((sc 2).api,true):=by rcases h with rfl | rfl <;> rfl
theorem ahY {a b:Ty} {op:Str} (h:op=[60]∨op=[60,61]∨op=[62]∨op=[62,61]):kT op a.api b.api=some ((sc 2).api,((cu a && cu b) || (Lh a b == 3)) || (Lh a b == 4)):=by
 have e:kT op a.api b.api=(au (oJ a.api b.api) fun oZ=>au (eU 2) fun x9=>au (fO a.api) fun BH=>au (if BH then fO b.api else some false) fun b4=>some (x9,((b4 || (oZ == 3)) || (oZ == 4)))):=by rcases h with rfl | rfl | rfl | rfl <;> rfl
 rw [e,(ji a).2,(ji b).2,Gu,(of_eq 2).2.1]; simp only [av,wN]
theorem agU {a b T:Ty} (ha:a.wf) (had:a.dep≤16) (hb:b.wf) (hbd:b.dep≤16) (hn:Ef a.api b.api=some (T.api,true)):
  ((cu a && cu b)=true∧T=(if a.kind=0 then a else b))∨((cu a && cu b)=false∧∃ k,(k=3∨k=4∨k=5)∧Lh a b=k∧T=if k=5 then .nest 5 (jy (RN a) (RN b)) else sc k):=by
 unfold Ef at hn; rw [(ji a).2,(ji b).2,Ty.lZ] at hn; simp only [av,wN] at hn; cases hl:(cu a && cu b) with
 | true=>
  left; refine ⟨rfl,?_⟩; rw [hl] at hn; by_cases h0:a.kind=0
  ·
   rw [if_pos h0]; exact (wB (a:=a) (p:=true) (by simp [h0]) hn).1
  ·
   rw [if_neg h0]; exact (wB (a:=b) (p:=true) (by simp [h0]) hn).1
 | false=>
  right; refine ⟨rfl,?_⟩; rw [hl] at hn; simp only [Bool.false_eq_true,if_false,Gu,av] at hn; by_cases k5:Lh a b=5
  ·
   have ea:cu a=true∨a.kind=5:=by
    rcases aaq hl (by omega) k5 with ⟨h,_⟩ | ⟨_,h⟩
    · exact .inr h
    · exact h
   have eb:cu b=true∨b.kind=5:=by
    rcases aaq hl (by omega) k5 with ⟨_,h⟩ | ⟨h,_⟩
    · exact h
    · exact .inr h
   obtain ⟨x1,x2,x3,x4⟩:=abW ea ha had; obtain ⟨y1,y2,y3,y4⟩:=abW eb hb hbd; have j:=He x3 y3 (by omega) (by omega); obtain ⟨q1,q2⟩:=wB (a:=.nest 5 (jy (RN a) (RN b))) (p:=true) (by simp [k5,x2,y2,j.2,jg,Ty.api]) hn; exact ⟨5,by omega,k5,by rw [if_pos rfl]; exact q1⟩
  ·
   obtain ⟨q1,q2⟩:=wB (a:=sc (Lh a b)) (p:=(Lh a b == 3) || (Lh a b == 4)) (by simp [k5,eU,iV,sc,Ty.api]) hn; simp only [Bool.or_eq_true,beq_iff_eq] at q2; exact ⟨Lh a b,by omega,rfl,by rw [if_neg k5]; exact q1⟩
theorem aja {a:Ty} (h:a.wf) (hd:a.dep≤16):fq [108,101,110] [a.api]=some ((sc 3).api,cK a (sc 4) || cK a (.nest 5 (sc 0)) || cK a (.nest 6 (sc 0))):=by
 have i4:=om h (by omega) (rR (k:=4) (by omega)); have l5:=(kY h (sZ (k:=5) (j:=0) (by omega) (by omega)).1 (by omega)).2; have l6:=(kY h (sZ (k:=6) (j:=0) (by omega) (by omega)).1 (by omega)).2; rw [show fq [108,101,110] [a.api]=au (fF a.api 4) fun x3=>au (if x3 then some true else dW a.api (Ty.nest 5 (sc 0)).api) fun b1=>au (if b1 then some true else dW a.api (Ty.nest 6 (sc 0)).api) fun b2=>some ((sc 3).api,b2) from rfl,i4,l5,l6]; simp only [av,V5]
theorem QM {name:Str} {X a:Ty} (h:a.wf) (hd:a.dep≤16) (hr:fq name [a.api]=au (fF a.api 4) fun b=>some (X.api,b)):fq name [a.api]=some (X.api,cK a (sc 4)):=by
 rw [hr,om h (by omega) (rR (k:=4) (by omega))]; rfl
theorem acO (a:Ty):fq [115,116,114,105,110,103] [a.api]=some ((sc 4).api,(a.kind != 5) && (a.kind != 6)):=by
 rw [show fq [115,116,114,105,110,103] [a.api]=au (if a.api.kind != 5 then some (a.api.kind != 6) else some false) fun b10=>some ((sc 4).api,b10) from rfl,Ty.lZ]; cases (a.kind != 5) <;> rfl
theorem ahf {a:Ty} (h:a.wf) (hd:a.dep≤16):fq [107,101,121,115] [a.api]=some ((Ty.nest 5 (sc 4)).api,cK a (.nest 6 (sc 0))):=by
 have l6:=(kY h (sZ (k:=6) (j:=0) (by omega) (by omega)).1 (by omega)).2; rw [show fq [107,101,121,115] [a.api]=au (dW a.api (Ty.nest 6 (sc 0)).api) fun x33=>some ((Ty.nest 5 (sc 4)).api,x33) from rfl,l6]; rfl
theorem XU {a b:Ty} (h:a.wf) (hd:a.dep≤16) (hb:b.wf) (hbd:b.dep≤16):fq [99,111,110,116,97,105,110,115] [a.api,b.api]=some ((sc 2).api,cK a (.nest 5 (sc 0)) || (cK b (sc 4) && (cK a (sc 4) || cK a (.nest 6 (sc 0))))):=by
 have ia:=om h (by omega) (rR (k:=4) (by omega)); have ib:=om hb (by omega) (rR (k:=4) (by omega)); have l5:=(kY h (sZ (k:=5) (j:=0) (by omega) (by omega)).1 (by omega)).2; have l6:=(kY h (sZ (k:=6) (j:=0) (by omega) (by omega)).1 (by omega)).2
 rw [show fq [99,111,110,116,97,105,110,115] [a.api,b.api]=au (dW a.api (Ty.nest 5 (sc 0)).api) fun BH=>au (if BH then some true else au (fF b.api 4) fun Hl=>if Hl then
   (au (fF a.api 4) fun Kn=>if Kn then some true else dW a.api (Ty.nest 6 (sc 0)).api) else some false) fun b3=>some ((sc 2).api,b3) from rfl,l5,l6,ia,ib]
 simp only [av]; cases cK a (Ty.nest 5 (sc 0)) <;> cases cK b (sc 4) <;> cases cK a (sc 4) <;> cases cK a (Ty.nest 6 (sc 0)) <;> rfl
theorem ahg {a b:Ty} (h:a.wf) (hd:a.dep≤16) (hb:b.wf) (hbd:b.dep≤16):fq [106,111,105,110] [a.api,b.api]=some ((sc 4).api,cK a (.nest 5 (sc 4)) && cK b (sc 4)):=by
 have ib:=om hb (by omega) (rR (k:=4) (by omega)); have l5:=(kY h (sZ (k:=5) (j:=4) (by omega) (by omega)).1 (by omega)).2; rw [show fq [106,111,105,110] [a.api,b.api]=au (dW a.api (Ty.nest 5 (sc 4)).api) fun Iu=>au (if Iu then fF b.api 4 else some false) fun b6=>some ((sc 4).api,b6) from rfl,l5,ib]; simp only [av,wN]
theorem QL {name:Str} {X a b:Ty} (h:a.wf) (hd:a.dep≤16) (hb:b.wf) (hbd:b.dep≤16) (hr:fq name [a.api,b.api]=au (fF a.api 4) fun x=>au (if x then fF b.api 4 else some false) fun b=>some (X.api,b)):
  fq name [a.api,b.api]=some (X.api,cK a (sc 4) && cK b (sc 4)):=by
 rw [hr,om h (by omega) (rR (k:=4) (by omega)),om hb (by omega) (rR (k:=4) (by omega))]; simp only [av,wN]
theorem ZY (a b:Ty):fq [100,101,102,97,117,108,116] [a.api,b.api]=some ((if a.kind=1 then b else a).api,true):=by
 rw [show fq [100,101,102,97,117,108,116] [a.api,b.api]=(if a.api.kind == 1 then some (b.api,true) else some (a.api,true)) from rfl,Ty.lZ]; by_cases h:a.kind=1 <;> simp [h]
theorem ag2 {n:Str} {v:ah} {t T:Ty} (hc:Ac n=1) (ht:t.wf) (hd:t.dep≤16) (hv:jq v t) (kv:0≤v.kind∧v.kind≤5) (hn:fq n [t.api]=some (T.api,true)):kJ (Kt n v) T (gX t=true):=by
 by_cases h1:n=[108,101,110]
 ·
  subst h1; obtain ⟨rfl,h⟩:=wB (aja ht hd) hn; simp only [Bool.or_eq_true] at h; exact ag6 ht hv kv (by rcases h with (h | h) | h; exact .inl h; exact .inr (.inl h); exact .inr (.inr h))
 by_cases h2:n=[108,111,119,101,114]
 ·
  subst h2; obtain ⟨rfl,h⟩:=wB (QM (X:=sc 4) ht hd rfl) hn; exact XI ht hv h (.inl rfl)
 by_cases h3:n=[117,112,112,101,114]
 ·
  subst h3; obtain ⟨rfl,h⟩:=wB (QM (X:=sc 4) ht hd rfl) hn; exact XI ht hv h (.inr rfl)
 by_cases h4:n=[115,116,114,105,110,103]
 ·
  subst h4; obtain ⟨rfl,h⟩:=wB (acO t) hn; simp only [Bool.and_eq_true,bne_iff_ne] at h; exact ZP ht hv h
 by_cases h5:n=[105,110,116]
 ·
  subst h5; obtain ⟨rfl,h⟩:=wB (QM (X:=sc 3) ht hd rfl) hn; exact ZQ ht hv h
 by_cases h6:n=[107,101,121,115]
 ·
  subst h6; obtain ⟨rfl,h⟩:=wB (ahf ht hd) hn; exact aes ht hv kv h
 exfalso; unfold Ac xg at hc; by_cases h7:n=[99,111,110,116,97,105,110,115]
 · simp [h7] at hc
 by_cases h8:n=[106,111,105,110]
 · simp [h8] at hc
 by_cases h9:n=[115,112,108,105,116]
 · simp [h9] at hc
 by_cases h10:n=[115,116,97,114,116,115,119,105,116,104]
 · simp [h10] at hc
 by_cases h11:n=[101,110,100,115,119,105,116,104]
 · simp [h11] at hc
 by_cases h12:n=[100,101,102,97,117,108,116]
 · simp [h12] at hc
 simp [h1,h2,h3,h4,h5,h6,h7,h8,h9,h10,h11,h12] at hc
theorem aeo {a b:ah} {s t:Ty} (hs:s.wf) (ht:t.wf) (ha:jq a s) (hb:jq b t) (h1:cK s (sc 4)=true) (h2:cK t (sc 4)=true):kJ (if ¬ (a.kind=3∧b.kind=3) then xU 9 else VD a.bO b.bO) (.nest 5 (sc 4)) (gX s=true∧gX t=true):=by
 by_cases c:a.kind=3∧b.kind=3
 · rw [if_neg (by simpa using c)]; exact acC
 ·
  rw [if_pos c]; exact kJ.nine fun hf=>c ⟨by have:=jC hs ha h1 (by omega) hf.1; omega,by have:=jC ht hb h2 (by omega) hf.2; omega⟩
theorem agZ {n:Str} {a b:ah} {s t T:Ty} (hc:n∈agK) (hs:s.wf) (hsd:s.dep≤16) (ht:t.wf) (htd:t.dep≤16) (ha:jq a s) (hb:jq b t) (ka:0≤a.kind∧a.kind≤5)
  (hn:fq n [s.api,t.api]=some (T.api,true)):kJ (Ih n a b) T (gX s=true∧gX t=true):=by
 simp only [agK,List.mem_cons,List.not_mem_nil,or_false] at hc; rcases hc with rfl | rfl | rfl | rfl | rfl | rfl
 ·
  obtain ⟨rfl,h⟩:=wB (XU hs hsd ht htd) hn; simp only [Bool.or_eq_true,Bool.and_eq_true] at h; have e:Ih [99,111,110,116,97,105,110,115] a b=Nn a b:=by unfold Ih; rw [if_neg (by decide),if_pos rfl]
  rw [e]; exact VE hs ht ha hb ka h
 ·
  obtain ⟨rfl,h⟩:=wB (ahg hs hsd ht htd) hn; simp only [Bool.and_eq_true] at h; have e:Ih [106,111,105,110] a b=MW a b:=by unfold Ih; rw [if_neg (by decide),if_neg (by decide),if_pos rfl]
  rw [e]; exact aeu hs ht ha hb ka h.1 h.2
 ·
  obtain ⟨rfl,h⟩:=wB (QL (X:=.nest 5 (sc 4)) hs hsd ht htd rfl) hn; simp only [Bool.and_eq_true] at h
  have e:Ih [115,112,108,105,116] a b=(if ¬ (a.kind=3∧b.kind=3) then xU 9 else VD a.bO b.bO):=by
   unfold Ih; rw [if_neg (by decide),if_neg (by decide),if_neg (by decide),if_neg (c:=([115,112,108,105,116]:Str)=[115,116,97,114,116,115,119,105,116,104]) (by decide),if_neg (c:=([115,112,108,105,116]:Str)=[101,110,100,115,119,105,116,104]) (by decide)]
  rw [e]; exact aeo hs ht ha hb h.1 h.2
 ·
  obtain ⟨rfl,h⟩:=wB (QL (X:=sc 2) hs hsd ht htd rfl) hn; simp only [Bool.and_eq_true] at h
  have e:Ih [115,116,97,114,116,115,119,105,116,104] a b=(if ¬ (a.kind=3∧b.kind=3) then xU 9 else okV (W_ (preS a.bO b.bO))):=by
   unfold Ih; rw [if_neg (by decide),if_neg (by decide),if_neg (by decide),if_pos (c:=([115,116,97,114,116,115,119,105,116,104]:Str)=[115,116,97,114,116,115,119,105,116,104]) rfl]
  rw [e]; exact XG hs ht ha hb h.1 h.2
 ·
  obtain ⟨rfl,h⟩:=wB (QL (X:=sc 2) hs hsd ht htd rfl) hn; simp only [Bool.and_eq_true] at h
  have e:Ih [101,110,100,115,119,105,116,104] a b=(if ¬ (a.kind=3∧b.kind=3) then xU 9 else okV (W_ (aej a.bO b.bO))):=by
   unfold Ih; rw [if_neg (by decide),if_neg (by decide),if_neg (by decide),if_neg (c:=([101,110,100,115,119,105,116,104]:Str)=[115,116,97,114,116,115,119,105,116,104]) (by decide),if_pos (c:=([101,110,100,115,119,105,116,104]:Str)=[101,110,100,115,119,105,116,104]) rfl]
  rw [e]; exact XG hs ht ha hb h.1 h.2
 ·
  obtain ⟨rfl,h⟩:=wB (ZY s t) hn; have e:Ih [100,101,102,97,117,108,116] a b=(if a.kind=0 then okV b else okV a):=by unfold Ih; rw [if_pos rfl]
  rw [e]; exact XH hs ha hb
end Go.Ft
namespace Go.Ft
open Go
attribute [local congr] gy
theorem aiP {go:ak→Option (aj × Int)} {K:List aj→Option (aj × Int)}:∀ (l:List ak) (out:List Ty) (i:Nat),(∀ x∈l,∃ (T:Ty) (c:Int),T.wf∧T.dep≤16∧go x=some (T.api,c))→out.length + l.length≤4000→
  (∃ c,c≠0∧bY (O7 go) K i l (out.map Ty.api)=some (ZT,c))∨
  (∃ Ts:List Ty,Ts.length=l.length∧(∀ t∈Ts,t.wf∧t.dep≤16)∧(∀ j (h1:j < l.length) (h2:j < Ts.length),go l[j]=some (Ts[j].api,0))∧bY (O7 go) K i l (out.map Ty.api)=K ((out ++ Ts).map Ty.api))
 | [],out,i,_,_=>.inr ⟨[],rfl,fun t ht=>(by cases ht),fun j h1=>by simp at h1,by simp [bY]⟩
 | x :: r,out,i,h,hn=>by
  simp only [List.length_cons] at hn; obtain ⟨T,c,w,d,e1⟩:=h x (by simp); rw [bY,O7]; simp only [e1,dh]; by_cases hc:c=0
  ·
   subst hc
   have ha:app (out.map Ty.api) [T.api]=some ((out ++ [T]).map Ty.api):=by
    rw [uQ (by simp [xX]; omega)]; simp
   simp only [bne_self_eq_false,Bool.false_eq_true,if_false,ha,av]; rcases aiP (K:=K) r (out ++ [T]) (i + 1) (fun y hy=>h y (by simp [hy])) (by simp; omega) with ⟨c,c1,c2⟩ | ⟨Ts,c1,c2,c3,c4⟩
   · exact .inl ⟨c,c1,c2⟩
   ·
    refine .inr ⟨T :: Ts,by simp [c1],?_,?_,?_⟩
    ·
     intro t ht; rcases List.mem_cons.1 ht with rfl | ht
     · exact ⟨w,d⟩
     · exact c2 t ht
    ·
     intro j h1 h2; cases j with
     | zero=>simpa using e1
     | succ j=>simpa using c3 j (by simpa using h1) (by simpa using h2)
    · have:=c4; rw [List.append_assoc] at this; exact this
  · exact .inl ⟨c,hc,by simp [hc]⟩
theorem ahJ {x:Option (aj × Bool)} {t:aj} (h:DZ x=some (t,0)):x=some (t,true):=by
 unfold DZ at h; cases x with
 | none=>cases h
 | some p=>
  obtain ⟨a,b⟩:=p; simp only [dh] at h; cases b with
  | false=>simp at h
  | true=>
   simp only [Bool.not_true,Bool.false_eq_true,if_false,(Ai a).2.1,av] at h; split at h
   · simp at h
   · simp at h; rw [h]
theorem Wn {env:List aG} (hW:WX env) (hl:env.length < 4611686018427387904) {e:ak} {level m:Nat} (hB:e.bulk≤1099511627776) (hx:BS e level=0) (hm:e.bulk + 1≤m):
  ∃ (T:Ty) (c:Int),T.wf∧T.dep≤16∧gZ m e env=some (T.api,c)∧mW e env=some (T.api,c):=by
 have hb:=iJ; obtain ⟨T,c,w,d,z,r1,r2⟩:=Nc hW hl e.bulk e level BIG m (Nat.le_refl _) (by omega) hx (by omega) hm; obtain ⟨T',c',w',d',z',r1',r2'⟩:=Nc hW hl e.bulk e level BIG BIG (Nat.le_refl _) (by omega) hx (by omega) (by omega); rw [r1] at r1'; refine ⟨T,c,w,d,r2,?_⟩; unfold mW; rw [r2',←r1']
theorem afD {env:List aG} (hW:WX env) (hl:env.length < 4611686018427387904) {e:ak} {level:Nat} (hB:e.bulk≤1099511627776) (hx:BS e level=0) (hk:e.kind≠1∧e.kind≠2) {T:Ty} (ht:mW e env=some (T.api,0)):
  ∃ Ts:List Ty,Ts.length=e.args.length∧(∀ t∈Ts,t.wf∧t.dep≤16)∧(∀ j (h1:j < e.args.length) (h2:j < Ts.length),mW e.args[j] env=some (Ts[j].api,0))∧eX e (Ts.map Ty.api)=some (T.api,true)∧
   (e.kind=5→Ac e.name≠0∧Ac e.name=e.args.length):=by
 obtain ⟨n,hn,hn2⟩:=su; obtain ⟨F,x2⟩:=acf hx; have hal:=F9 e; have hlen:=F.len; unfold mW at ht; rw [hn,gZ,wU] at ht; have k12:((e.kind == 1) || (e.kind == 2))=false:=by simp [hk.1,hk.2]
 rw [k12] at ht; simp only [Bool.false_eq_true,if_false] at ht; have s2:=bZ (F:=fun k s i=>pQ (gZ n) e env k s i) (l:=e.args) (body:=O7 fun x=>gZ n x env) (fin:=fun l1=>DZ (eX e l1)) (by omega) (fun k s i=>rfl) []
 have key:=aiP (K:=fun l1=>DZ (eX e l1)) (go:=fun x=>gZ n x env) e.args [] 0 (fun x hx'=>by
  have:=h_ hx'; obtain ⟨T,c,w,d,r,_⟩:=Wn hW hl (m:=n) (by omega) (x2 x hx') (by omega)
  exact ⟨T,c,w,d,r⟩) (by simp; omega)
 rw [List.map_nil] at key; rw [←s2] at key
 have fin:pQ (gZ n) e env BIG [] 0=some (T.api,0)→∃ Ts:List Ty,Ts.length=e.args.length∧(∀ t∈Ts,t.wf∧t.dep≤16)∧(∀ j (h1:j < e.args.length) (h2:j < Ts.length),mW e.args[j] env=some (Ts[j].api,0))∧eX e (Ts.map Ty.api)=some (T.api,true):=by
  intro h; rcases key with ⟨c,c1,c2⟩ | ⟨Ts,c1,c2,c3,c4⟩
  · rw [c2] at h; simp only [Option.some.injEq,Prod.mk.injEq] at h; exact absurd h.2 c1
  ·
   refine ⟨Ts,c1,c2,fun j h1 h2=>?_,?_⟩
   ·
    have hm:=List.getElem_mem h1; have:=h_ hm; obtain ⟨T',c',w,d,r,r'⟩:=Wn hW hl (m:=n) (by omega) (x2 _ hm) (by omega); rw [r',←r]; exact c3 j h1 h2
   ·
    rw [c4,List.nil_append] at h; exact ahJ h
 by_cases h5:e.kind=5
 ·
  have n5:(e.kind == 5)=true:=by simpa using h5
  obtain ⟨c1,c2,c3⟩:=aaF e.name; rw [n5,c2] at ht; simp only [if_true,av] at ht; by_cases hc0:Ac e.name=0
  · rw [hc0] at ht; simp at ht
  ·
   by_cases hcl:Ac e.name=(e.args.length:Int)
   ·
    have e1:decide ((if Ac e.name=0 then -1 else Ac e.name) < 0)=false:=by rw [if_neg hc0]; simp; omega
    have e2:((if Ac e.name=0 then -1 else Ac e.name) != (e.args.length:Int))=false:=by rw [if_neg hc0]; simp [hcl]
    rw [e1,e2] at ht; simp only [Bool.false_eq_true,if_false] at ht; obtain ⟨Ts,t1,t2,t3,t4⟩:=fin ht; exact ⟨Ts,t1,t2,t3,t4,fun _=>⟨hc0,hcl⟩⟩
   ·
    have e1:decide ((if Ac e.name=0 then -1 else Ac e.name) < 0)=false:=by rw [if_neg hc0]; simp; omega
    have e2:((if Ac e.name=0 then -1 else Ac e.name) != (e.args.length:Int))=true:=by rw [if_neg hc0]; simpa using hcl
    rw [e1,e2] at ht; simp at ht
 ·
  have n5:(e.kind == 5)=false:=by simpa using h5
  rw [n5] at ht; simp only [Bool.false_eq_true,if_false,av] at ht; obtain ⟨Ts,t1,t2,t3,t4⟩:=fin ht; exact ⟨Ts,t1,t2,t3,t4,fun h=>absurd h h5⟩
def okF (o:Option (aj × Int)):Bool:=match o with
 | some (t,c)=>(c == 0) && (MC t).getD false
 | none=>false
mutual
def Gq (env:List aG):ak→Bool
 | ⟨k,n,v,args,keys⟩=>okF (mW ⟨k,n,v,args,keys⟩ env) && agW env args
def agW (env:List aG):List ak→Bool
 | []=>true
 | x :: r=>Gq env x && agW env r
end
theorem XE (env:List aG):∀ l:List ak,agW env l=l.all (Gq env)
 | []=>rfl
 | x :: r=>by rw [agW,XE env r,List.all_cons]
theorem VA (env:List aG) (e:ak):Gq env e=(okF (mW e env) && e.args.all (Gq env)):=by
 cases e; rw [Gq,XE]
theorem free_eq {T:Ty} (h:T.wf) (hd:T.dep≤1000):MC T.api=some (gX T):=afu BIG T h (by have:=iJ; omega)
theorem XD {env:List aG} {e:ak} {T:Ty} {c:Int} (h:T.wf) (hd:T.dep≤1000) (hr:mW e env=some (T.api,c)) (hs:Gq env e=true):gX T=true:=by
 rw [VA,Bool.and_eq_true] at hs; have:=hs.1; rw [hr] at this; simp only [okF,free_eq h hd,Option.getD_some,Bool.and_eq_true] at this; exact this.2
theorem PY {env:List aG} {e:ak} (hs:Gq env e=true):∀ x∈e.args,Gq env x=true:=by
 rw [VA,Bool.and_eq_true] at hs; exact List.all_eq_true.1 hs.2
inductive DC :List aB→List aG→Prop
 | nil:DC [] []
 | cons {x:aB} {d:aG} {xs:List aB} {ds:List aG} (T:Ty) (hn:d.name=x.name) (ht:d.o7=T.api) (hw:T.wf) (hd:T.dep≤16) (hf:jq x.value T) (h:DC xs ds):DC (x :: xs) (d :: ds)
theorem DC.W :∀ {vars:List aB} {env:List aG},DC vars env→WX env
 | _,_,.nil=>fun d hd=>by cases hd
 | _,_,.cons T hn ht hw hd hf h=>fun d hm=>by
  rcases List.mem_cons.1 hm with rfl | hm
  · exact ⟨T,hw,hd,ht⟩
  · exact h.W d hm
theorem DC.len :∀ {vars:List aB} {env:List aG},DC vars env→env.length=vars.length
 | _,_,.nil=>rfl
 | _,_,.cons T hn ht hw hd hf h=>by simp [h.len]
theorem DC.leaf {Jv:List aG} {n:Str} {T:Ty}:∀ {vars:List aB} {env:List aG} (i:Nat),DC vars env→env=Jv.drop i→
  bY (R:=aj × Int) (fun (i:Nat) e1 (_:Unit) r=>if e1.name == n then au (idx Jv (i:Int)) fun e3=>some (e3.o7,0) else r ()) (fun _=>some (ZT,10)) i env ()=some (T.api,0)→∃ v,Jo vars n=okV v∧jq v T
 | _,_,i,.nil,_,h=>by simp [bY] at h
 | x :: xs,d :: ds,i,.cons S hn ht hw hd hf hr,he,h=>by
  have hi:i < Jv.length:=by
   rcases Nat.lt_or_ge i Jv.length with h | h
   · exact h
   · rw [List.drop_eq_nil_of_le h] at he; cases he
  have hc:=List.drop_eq_getElem_cons hi; rw [←he] at hc; have e1:d=Jv[i]:=(List.cons.inj hc).1; have e2:=(List.cons.inj hc).2; rw [bY,vF hi,←e1] at h; simp only [av] at h; rw [Jo]; by_cases hx:d.name=n
  ·
   rw [if_pos (by simpa using hx)] at h; rw [if_pos (by rw [←hn]; exact hx)]; simp only [Option.some.injEq,Prod.mk.injEq,and_true] at h; rw [ht] at h; exact ⟨x.value,rfl,(Qf h) ▸ hf⟩
  ·
   rw [if_neg (by simpa using hx)] at h; rw [if_neg (by rw [←hn]; exact hx)]; exact DC.leaf (i + 1) hr e2 h
theorem aan {vars:List aB} {env:List aG} (hD:DC vars env) (hl:env.length < 4611686018427387904) {e:ak} {T:Ty} (he:e.kind=2) (h:yD e env=some (T.api,0)):∃ v,Jo vars e.name=okV v∧jq v T:=by
 unfold yD at h; have h1:(e.kind == 1)=false:=by simp [he]
 rw [h1] at h; simp only [Bool.false_eq_true,if_false] at h; rw [bZ (F:=fun k (_:Unit) i=>xF e env k i) (l:=env) (body:=fun (i:Nat) e1 (_:Unit) r=>if e1.name == e.name then au (idx env (i:Int)) fun e3=>some (e3.o7,0) else r ()) (fin:=fun _=>some (ZT,10)) hl (fun k s i=>rfl) ()] at h; exact DC.leaf 0 hD rfl h
theorem Zm :∀ {rs:List (ah × Int)},(oW rs).2≠0→∃ (i:Nat) (h:i < rs.length),rs[i].2=(oW rs).2
 | [],h=>absurd rfl h
 | p :: r,h=>by
  by_cases hp:p.2=0
  ·
   by_cases hr:(oW r).2=0
   · rw [oW,if_neg (by simpa using hp),if_neg (by simpa using hr)] at h; exact absurd rfl h
   ·
    obtain ⟨i,hi,e⟩:=Zm hr; rw [oW,if_neg (by simpa using hp),if_pos hr]; exact ⟨i + 1,by simpa using hi,by simpa using e⟩
  ·
   rw [oW,if_pos hp]; exact ⟨0,by simp,rfl⟩
theorem kJ.mono {p:ah × Int} {T:Ty} {F G:Prop} (h:kJ p T F) (hF:G→F):kJ p T G:=⟨h.1,h.2.1,fun h9 hg=>h.2.2 h9 (hF hg)⟩
theorem Km {v:ah} (h:VV v):0≤v.kind∧v.kind≤5:=(CV ((vT v).1 h.1).1).2.1 |> fun a=>⟨a,(CV ((vT v).1 h.1).1).2.2.1⟩
theorem fits1 {v:ah} {t:Ty} (h:fits [v] [t]):jq v t:=h.2 0 (by simp) (by simp)
theorem afx {a b:ah} {s t:Ty} (h:fits [a,b] [s,t]):jq a s∧jq b t:=⟨h.2 0 (by simp) (by simp),h.2 1 (by simp) (by simp)⟩
theorem acE {a b:ah} {s t:Ty} (hs:s.wf) (ht:t.wf) (ha:jq a s) (hb:jq b t) (hl:(cu s && cu t)=true):kJ (Tc a b) (if s.kind=0 then s else t) (gX s=true∧gX t=true):=by
 simp only [Bool.and_eq_true] at hl; obtain ⟨e1,h1⟩:=zY hs hl.1
 have hs0:s=sc 0:=by
  rcases h1 with h1 | h1
  · rw [e1,h1]
  · rw [e1,h1] at ha; exact (Jm ha).elim
 subst hs0; have hnf:¬ (gX (sc 0)=true∧gX t=true):=fun h=>by cases h.1
 rw [if_pos (show (sc 0).kind=0 from rfl)]; unfold Tc; split
 · exact (Mq (F:=gX (sc 0)=true∧gX t=true)).up (UA (by omega)) (UA (by omega)) (abm _) id
 ·
  split
  ·
   split
   · exact kJ.ok (Nb _)
   · exact kJ.code (by decide) (by unfold rT; omega) (by decide)
  ·
   split
   ·
    split
    · exact kJ.ok (Nb _)
    · exact kJ.code (by decide) (by unfold rT; omega) (by decide)
   · exact kJ.nine hnf
theorem aep {e:ak} (F:Fm e) {vs:List ah} {Ts:List Ty} {T:Ty} (hl:vs.length=e.args.length) (hf:fits vs Ts) (hw:∀ t∈Ts,t.wf∧t.dep≤16) (hv:∀ v∈vs,VV v) (h8:e.kind≠8) (hk:e.kind≠1∧e.kind≠2)
  (h7:¬ (e.kind=7∧(e.name=[38,38]∨e.name=[124,124]))) (h5:e.kind=5→Ac e.name≠0∧Ac e.name=e.args.length) (hn:eX e (Ts.map Ty.api)=some (T.api,true)):kJ (FJ e.kind e.name e.keys vs) T (∀ t∈Ts,gX t=true):=by
 have hTl:Ts.length=e.args.length:=by rw [←hf.1,hl]
 have hlen:=F.len; have hkind:=F.kind; have akr:e.kind=3∨e.kind=4∨e.kind=5∨e.kind=6∨e.kind=7∨e.kind=9∨e.kind=10:=by omega
 unfold FJ; rcases akr with k | k | k | k | k | k | k
 ·
  obtain ⟨a,ha⟩:=F.k3 k; rw [ha] at hl hTl; obtain ⟨v,rfl⟩:=len1 hl; obtain ⟨t,rfl⟩:=len1 hTl; obtain ⟨w,d⟩:=hw t (by simp); have ft:=fits1 hf; have kv:=Km (hv v (by simp)); obtain ⟨rfl,q⟩:=amK w k hn; rw [if_neg (by omega),if_neg (by omega)]; simp only [k,if_true]; refine abr w ft kv (by rcases q with q | q; exact .inl q; exact .inr (.inr q)) fun hF=>.inr ⟨?_,rfl⟩; have hl:=wZ ft w (hF t (by simp)); rcases q with q | q
  · rw [hl] at q; cases q
  ·
   cases t with
   | leaf j=>simp only [Ty.kind] at q; exact absurd q w.2.2.2
   | nest j s=>simp only [Ty.kind] at q; subst q; have:=Dr kv (.inr rfl) ft; omega
 ·
  obtain ⟨a,b,ha⟩:=F.k4 k; rw [ha] at hl hTl; obtain ⟨v,x,rfl⟩:=len2 hl; obtain ⟨t,u,rfl⟩:=len2 hTl; obtain ⟨w,d⟩:=hw t (by simp); obtain ⟨w',d'⟩:=hw u (by simp); obtain ⟨ft,fu⟩:=afx hf; have kv:=Km (hv v (by simp)); obtain ⟨rfl,q⟩:=amJ w w' d' k hn; rw [if_neg (by omega),if_neg (by omega)]; simp only [k,if_true]; refine abr w ft kv (by rcases q with q | q | q; exact .inr (.inl q.1); exact .inr (.inr q.1); exact .inl q) fun hF=>?_; have hl:=wZ ft w (hF t (by simp)); have hu:=hF u (by simp); rcases q with q | q | q
  ·
   left; cases t with
   | leaf j=>have:=q.1; simp only [Ty.kind] at this; exact absurd this w.2.2.1
   | nest j s=>
    have h5':=q.1; simp only [Ty.kind] at h5'; subst h5'; have h1:=Dr kv (.inl rfl) ft; have h2:=jC w' fu q.2 (by omega) hu; exact ⟨by omega,by omega⟩
  ·
   right; cases t with
   | leaf j=>have:=q.1; simp only [Ty.kind] at this; exact absurd this w.2.2.2
   | nest j s=>
    have h5':=q.1; simp only [Ty.kind] at h5'; subst h5'; have h1:=Dr kv (.inr rfl) ft; have h2:=jC w' fu q.2 (by omega) hu; exact ⟨by omega,by omega⟩
  · rw [hl] at q; cases q
 ·
  obtain ⟨c0,c1⟩:=h5 k; have Rs:∀ l,eX e l=fq e.name l:=by intro l; unfold eX; simp [k]
  rw [Rs] at hn; rw [if_neg (by omega),if_neg (by omega)]; rcases (aaF e.name).2.2 with c | c | ⟨c,c'⟩
  · exact absurd c c0
  ·
   have:e.args.length=1:=by omega
   rw [this] at hl hTl; obtain ⟨v,rfl⟩:=len1 hl; obtain ⟨t,rfl⟩:=len1 hTl; obtain ⟨w,d⟩:=hw t (by simp); simp only [k]; exact (ag2 c w d (fits1 hf) (Km (hv v (by simp))) hn).mono fun h=>h t (by simp)
  ·
   have:e.args.length=2:=by omega
   rw [this] at hl hTl; obtain ⟨v,x,rfl⟩:=len2 hl; obtain ⟨t,u,rfl⟩:=len2 hTl; obtain ⟨w,d⟩:=hw t (by simp); obtain ⟨w',d'⟩:=hw u (by simp); obtain ⟨ft,fu⟩:=afx hf; simp only [k]; exact (agZ c' w d w' d' ft fu (Km (hv v (by simp))) hn).mono fun h=>⟨h t (by simp),h u (by simp)⟩
 ·
  obtain ⟨⟨a,ha⟩,hop⟩:=F.k6 k; rw [ha] at hl hTl; obtain ⟨v,rfl⟩:=len1 hl; obtain ⟨t,rfl⟩:=len1 hTl; obtain ⟨w,d⟩:=hw t (by simp); have ft:=fits1 hf; obtain ⟨rfl,q⟩:=amI w d k hn; rw [if_neg (by omega),if_neg (by omega)]; simp only [k]; rcases hop with h | h
  ·
   rw [h] at q ⊢; exact (ag3 w ft (by simpa using q)).mono fun h=>h t (by simp)
  ·
   rw [h] at q ⊢; exact (ag4 w ft (by simpa using q)).mono fun h=>h t (by simp)
 ·
  obtain ⟨⟨a,b,ha⟩,hop⟩:=F.k7 k; rw [ha] at hl hTl; obtain ⟨v,x,rfl⟩:=len2 hl; obtain ⟨t,u,rfl⟩:=len2 hTl; obtain ⟨w,d⟩:=hw t (by simp); obtain ⟨w',d'⟩:=hw u (by simp); obtain ⟨ft,fu⟩:=afx hf; have kv:=Km (hv v (by simp)); have kx:=Km (hv x (by simp)); have hb:=alB k hn; rw [if_neg (by omega),if_neg (by omega)]; simp only [k]; show kJ (Bz e.name v x) T _; generalize e.name=op at hop hb h7 ⊢; have free:(∀ y∈[t,u],gX y=true)→gX t=true∧gX u=true:=fun h=>⟨h t (by simp),h u (by simp)⟩; simp only [opsL,List.mem_cons,List.not_mem_nil,or_false] at hop
  have rel:∀ r:Bool,(op=[60]∨op=[60,61]∨op=[62]∨op=[62,61])→kJ (K9 v x r) T (∀ y∈[t,u],gX y=true):=fun r ho=>by
   obtain ⟨rfl,q⟩:=wB (ahY ho) hb; exact (ag1 w w' ft fu q).mono free
  have ar:(op=[45]∨op=[42]∨op=[47]∨op=[37])→kJ (PO op v x) T (∀ y∈[t,u],gX y=true):=fun ho=>by
   obtain ⟨rfl,q⟩:=wB (akB w d w' d' ho) hb; simp only [Bool.and_eq_true] at q; exact (ag7 w w' ft fu q.1 q.2).mono free
  rcases hop with rfl | rfl | rfl | rfl | rfl | rfl | rfl | rfl | rfl | rfl | rfl | rfl | rfl
  · exact absurd ⟨k,.inl rfl⟩ h7
  · exact absurd ⟨k,.inr rfl⟩ h7
  ·
   obtain ⟨rfl,q⟩:=wB (af5 (.inl rfl)) hb; exact aev (.inl rfl)
  ·
   obtain ⟨rfl,q⟩:=wB (af5 (.inr rfl)) hb; exact aev (.inr rfl)
  ·
   have e1:Bz [60] v x=K9 v x (decide (sM v x < 0)):=by unfold Bz; rw [if_neg (by decide),if_neg (by decide),if_pos rfl]
   rw [e1]; exact rel _ (by simp)
  ·
   have e1:Bz [60,61] v x=K9 v x (decide (sM v x≤0)):=by unfold Bz; rw [if_neg (by decide),if_neg (by decide),if_neg (by decide),if_pos rfl]
   rw [e1]; exact rel _ (by simp)
  ·
   have e1:Bz [62] v x=K9 v x (decide (0 < sM v x)):=by unfold Bz; rw [if_neg (by decide),if_neg (by decide),if_neg (by decide),if_neg (by decide),if_pos rfl]
   rw [e1]; exact rel _ (by simp)
  ·
   have e1:Bz [62,61] v x=K9 v x (decide (0≤sM v x)):=by unfold Bz; rw [if_neg (by decide),if_neg (by decide),if_neg (by decide),if_neg (by decide),if_neg (by decide),if_pos rfl]
   rw [e1]; exact rel _ (by simp)
  ·
   have e1:Bz [45] v x=PO [45] v x:=by unfold Bz; rw [if_neg (by decide),if_neg (by decide),if_neg (by decide),if_neg (by decide),if_neg (by decide),if_neg (by decide),if_neg (by decide)]
   rw [e1]; exact ar (by simp)
  ·
   have e1:Bz [42] v x=PO [42] v x:=by unfold Bz; rw [if_neg (by decide),if_neg (by decide),if_neg (by decide),if_neg (by decide),if_neg (by decide),if_neg (by decide),if_neg (by decide)]
   rw [e1]; exact ar (by simp)
  ·
   have e1:Bz [47] v x=PO [47] v x:=by unfold Bz; rw [if_neg (by decide),if_neg (by decide),if_neg (by decide),if_neg (by decide),if_neg (by decide),if_neg (by decide),if_neg (by decide)]
   rw [e1]; exact ar (by simp)
  ·
   have e1:Bz [37] v x=PO [37] v x:=by unfold Bz; rw [if_neg (by decide),if_neg (by decide),if_neg (by decide),if_neg (by decide),if_neg (by decide),if_neg (by decide),if_neg (by decide)]
   rw [e1]; exact ar (by simp)
  ·
   have e1:Bz [43] v x=Tc v x:=by unfold Bz; rw [if_neg (by decide),if_neg (by decide),if_neg (by decide),if_neg (by decide),if_neg (by decide),if_neg (by decide),if_pos rfl]
   rw [e1]; have hb':Ef t.api u.api=some (T.api,true):=hb; rcases agU w d w' d' hb' with ⟨q1,rfl⟩ | ⟨q1,j,q2,q3,rfl⟩
   · exact (acE w w' ft fu q1).mono free
   · exact (ag0 w w' ft fu kv kx q1 q2 q3).mono free
 ·
  rw [if_pos k]; have hnl:=J9 hw (by omega) (e:=e) (.inl k); obtain ⟨rfl,q⟩:=wB hnl hn; rw [if_neg (c:=e.kind=10) (by omega)]; exact aer hf fun t ht=>(hw t ht).1
 ·
  rw [if_neg (by omega),if_pos k]; have hnl:=J9 hw (by omega) (e:=e) (.inr k); obtain ⟨rfl,q⟩:=wB hnl hn; rw [if_pos k]; exact ag5 hf fun t ht=>(hw t ht).1
end Go.Ft
namespace Go.Ft
open Go
attribute [local congr] gy
theorem abp {vars:List aB} {env:List aG} (hE:∀ x∈vars,VV x.value∧x.value.bulk≤1048576) (hD:DC vars env) (hl:env.length < 4611686018427387904):∀ (b:Nat) (e:ak) (level:Nat) (T:Ty),e.bulk≤b→SE e→BS e level=0→
  mW e env=some (T.api,0)→T.wf→T.dep≤16→kJ (qz vars e) T (Gq env e=true)
 | 0,e,_,_,h,_,_,_,_,_=>by have:=e.jl; omega
 | b + 1,e,level,T,h,hS,hx,hr,hw,hd=>by
  have hB:e.bulk≤1099511627776:=hS.1; have hWe:=hD.W; obtain ⟨F,x2⟩:=acf hx; have hkind:=F.kind; rw [aaw]; obtain ⟨n,hn,hn2⟩:=su; by_cases k1:e.kind=1
  ·
   rw [if_pos k1]; unfold mW at hr; rw [hn,gZ,wU] at hr; have k12:((e.kind == 1) || (e.kind == 2))=true:=by simp [k1]
   rw [if_pos k12] at hr; unfold yD at hr; obtain ⟨o1,o2,o3,o4⟩:=ace (v:=e.value) (by have:=Bh e; omega) ((LZ _).2 (F.lit k1)); simp only [k1,beq_self_eq_true,if_true,o2,av,Option.some.injEq,Prod.mk.injEq,and_true] at hr; rw [←Qf hr]; exact kJ.ok (CZ _)
  rw [if_neg k1]; by_cases k2:e.kind=2
  ·
   rw [if_pos k2]; unfold mW at hr; rw [hn,gZ,wU] at hr; have k12:((e.kind == 1) || (e.kind == 2))=true:=by simp [k2]
   rw [if_pos k12] at hr; obtain ⟨v,v1,v2⟩:=aan hD hl k2 hr; rw [v1]; exact kJ.ok v2
  rw [if_neg k2]; obtain ⟨Ts,t1,t2,t3,t4,t5⟩:=afD hWe hl hB hx ⟨k1,k2⟩ hr
  have ih:∀ j (h1:j < e.args.length) (h2:j < Ts.length),kJ (qz vars e.args[j]) Ts[j] (Gq env e.args[j]=true):=fun j h1 h2=>by
   have hm:=List.getElem_mem h1; obtain ⟨w,d⟩:=t2 _ (List.getElem_mem h2); exact abp hE hD hl b _ (level + 1) _ (by have:=h_ hm; omega) (hS.arg hm) (x2 _ hm) (t3 j h1 h2) w d
  have fr:Gq env e=true→∀ t∈Ts,gX t=true:=fun hs t ht=>by
   obtain ⟨j,hj,rfl⟩:=List.getElem_of_mem ht; have h1:j < e.args.length:=by omega
   obtain ⟨w,d⟩:=t2 _ ht; exact XD w (by omega) (t3 j h1 hj) (PY hs _ (List.getElem_mem h1))
  unfold Hy; by_cases h8:e.kind=8
  ·
   rw [if_pos h8]; obtain ⟨a,b',c,ha⟩:=F.k8 h8; have hl3:Ts.length=3:=by rw [t1,ha]; rfl
   obtain ⟨s,t,u,rfl⟩:=aj2 hl3; have sa:=PY (env:=env) (e:=e); rw [ha] at sa; have i0:=ih 0 (by rw [ha]; simp) (by simp); have i1:=ih 1 (by rw [ha]; simp) (by simp); have i2:=ih 2 (by rw [ha]; simp) (by simp); simp only [ha,List.getElem_cons_zero,List.getElem_cons_succ] at i0 i1 i2; obtain ⟨w0,d0⟩:=t2 s (by simp); obtain ⟨w1,d1⟩:=t2 t (by simp); obtain ⟨w2,d2⟩:=t2 u (by simp); obtain ⟨rfl,q⟩:=amH w0 d0 w1 d1 w2 d2 h8 t4; rw [ha]; exact (aew w0 w1 w2 i0 i1 i2 q).mono fun hs=>⟨⟨sa hs a (by simp),fr hs s (by simp)⟩,sa hs b' (by simp),sa hs c (by simp)⟩
  rw [if_neg h8]; by_cases h7:e.kind=7∧(e.name=[38,38]∨e.name=[124,124])
  ·
   rw [if_pos h7]; obtain ⟨⟨a,b',ha⟩,hop⟩:=F.k7 h7.1; have hl2:Ts.length=2:=by rw [t1,ha]; rfl
   obtain ⟨s,t,rfl⟩:=len2 hl2; have sa:=PY (env:=env) (e:=e); rw [ha] at sa; have i0:=ih 0 (by rw [ha]; simp) (by simp); have i1:=ih 1 (by rw [ha]; simp) (by simp); simp only [ha,List.getElem_cons_zero,List.getElem_cons_succ] at i0 i1; obtain ⟨w0,d0⟩:=t2 s (by simp); obtain ⟨w1,d1⟩:=t2 t (by simp); obtain ⟨rfl,q⟩:=wB (akA w0 d0 w1 d1 h7.2) (alB h7.1 t4); simp only [Bool.and_eq_true] at q; rw [ha]; exact (acD w0 w1 i0 i1 q.1 q.2).mono fun hs=>⟨⟨sa hs a (by simp),fr hs s (by simp)⟩,sa hs b' (by simp),fr hs t (by simp)⟩
  rw [if_neg h7,if_neg (c:=e.kind=5∧Ac e.name=0) (fun hh=>(t5 hh.1).1 hh.2),if_neg (c:=e.kind=5∧Ac e.name≠((e.args.map (qz vars)).length:Int)) (fun hh=>hh.2 (by rw [List.length_map]; exact (t5 hh.1).2))]; by_cases h0:(oW (e.args.map (qz vars))).2=0
  ·
   rw [if_neg (by simpa using h0)]; obtain ⟨o1,o2⟩:=Nv (N:=0) h0; have z:∀ j (h1:j < e.args.length),(qz vars e.args[j]).2=0:=fun j h1=>o1 _ (List.mem_map_of_mem (List.getElem_mem h1)); refine (aep F (by rw [o2]; simp) ⟨by rw [o2]; simp [t1],fun j h1 h2=>?_⟩ t2 (fun v hv=>?_) h8 ⟨k1,k2⟩ h7 t5 t4).mono fr
   ·
    have h1':j < e.args.length:=by omega
    have:=(ih j h1' h2).1 (z j h1'); simp only [o2,List.getElem_map]; exact this
   ·
    rw [o2,List.map_map] at hv; obtain ⟨x,hx',rfl⟩:=List.mem_map.1 hv; have hm:=h_ hx'; exact ((Wo hE x.bulk x (level + 1) (Nat.le_refl _) (hS.arg hx') (x2 x hx')).1 (o1 _ (List.mem_map_of_mem hx'))).1
  ·
   rw [if_pos h0]; obtain ⟨i,hi,he⟩:=Zm h0; have hi':i < e.args.length:=by simpa using hi
   rw [←he]; simp only [List.getElem_map] at he ⊢; exact (ih i hi' (by omega)).err (by rw [he]; exact h0) fun hs=>PY hs _ (List.getElem_mem hi')
end Go.Ft
namespace Go.Ft
open Go
attribute [local congr] gy
theorem XK {go:ak→Option Bool} {f:ak→Bool}:∀ (l:List ak) (i:Nat),(∀ x∈l,go x=some (f x))→bY (fun _ e1 (_:Unit) r=>au (go e1) fun x3=>if !x3 then some false else r ()) (fun _=>some true) i l ()=some (l.all f)
 | [],i,_=>rfl
 | x :: r,i,h=>by
  rw [bY,h x (by simp),av,List.all_cons]; cases f x with
  | false=>rfl
  | true=>exact XK r (i + 1) fun y hy=>h y (by simp [hy])
theorem XB {env:List aG} (hW:WX env) (hl:env.length < 4611686018427387904):∀ (b:Nat) (e:ak) (level:Nat),e.bulk≤b→e.bulk≤1099511627776→BS e level=0→∀ m,b + 1≤m→nW m e env=some (Gq env e)
 | 0,e,_,h,_,_,_,_=>by have:=e.jl; omega
 | b + 1,e,level,h,hB,hx,m,hm=>by
  obtain ⟨m1,rfl⟩:∃ m1,m=m1 + 1:=⟨m - 1,by omega⟩; obtain ⟨T,c,w,d,_,r⟩:=Wn hW hl (m:=e.bulk + 1) hB hx (Nat.le_refl _); have x2:=(NG hx).2; have hal:=F9 e; rw [nW,Ca,VA,r,dh]; by_cases hc:c=0
  ·
   subst hc; simp only [bne_self_eq_false,Bool.false_eq_true,if_false,free_eq w (by omega),av,okF,Option.getD_some,beq_self_eq_true,Bool.true_and]; cases gX T with
   | false=>rfl
   | true=>
    simp only [Bool.not_true,Bool.false_eq_true,if_false,Bool.true_and]; rw [bZ (F:=fun k (_:Unit) i=>wo (nW m1) e env k i) (l:=e.args) (body:=fun _ e1 (_:Unit) r=>au (nW m1 e1 env) fun x3=>if !x3 then some false else r ()) (fin:=fun _=>some true) (by omega) (fun k s i=>rfl) ()]; exact XK e.args 0 fun x hx'=>XB hW hl b x (level + 1) (by have:=h_ hx'; omega) (by have:=h_ hx'; omega) (x2 x hx') m1 (by omega)
  ·
   have e1:(c != 0)=true:=by simpa using hc
   have e2:(c == 0)=false:=by simpa using hc
   simp [e1,okF,e2]
theorem DC.name :∀ {vars:List aB} {env:List aG} {N:Nat},DC vars env→(∀ x∈vars,x.name.length≤N)→∀ d∈env,d.name.length≤N
 | _,_,N,.nil,_=>fun d hd=>by cases hd
 | _,_,N,.cons T hn ht hw hd hf h,hv=>fun d hm=>by
  rcases List.mem_cons.1 hm with rfl | hm
  · rw [hn]; exact hv _ (by simp)
  · exact h.name (fun x hx=>hv x (by simp [hx])) d hm
theorem adJ {e:ak} {env:List aG} {T:Ty} (h:e.bulk≤1099511627776) (hl:env.length < 4611686018427387904) (hW:WX env) (hx:BS e 1=0) (hr:C_ e env=some (T.api,0)):zQ e env=some (Gq env e):=by
 unfold zQ K_; rw [hr,dh,if_pos (by simp)]; exact XB hW hl e.bulk e 1 (Nat.le_refl _) h hx BIG (by have:=iJ; omega)
end Go.Ft
namespace Go.Ft
open Go
attribute [local congr] gy
def tv (n:Str) (b:Bool):aB:=aB.mk n (ah.mk 1 b 0 ([]:Str) [] [])
def nAl :Str:=[97,108,119,97,121,115]
def nCa :Str:=[99,97,110,99,101,108,108,101,100]
def nFa :Str:=[102,97,105,108,117,114,101]
def nSk :Str:=[115,107,105,112,112,101,100]
def nSu :Str:=[115,117,99,99,101,115,115]
def RF (c f k s:Bool):List aB:=[tv nAl true,tv nCa c,tv nFa f,tv nSk k,tv nSu s]
def D5 (needs:List Int) (vars:List aB):List aB:=RF (needs.any (· == 4)) (needs.any (· == 2)) (needs.any (· == 3)) (needs.all (· == 1)) ++ vars
def ai6 :Nat→Int→aW→(aW→Option aW)→Option aW:=fun _ e1 s1 r=>
 if e1 == 1 then r s1 else if e1 == 3 then r (aW.mk s1.cancelled s1.failure true false) else if e1 == 4 then r (aW.mk true s1.failure s1.skipped false)
 else if e1 == 2 then r (aW.mk s1.cancelled true s1.skipped false) else r (aW.mk s1.cancelled s1.failure s1.skipped false)
theorem Ul :∀ (l:List Int) (i:Nat) (c f k s:Bool),bY ai6 (fun s=>some s) i l (aW.mk c f k s)
  =some (aW.mk (c || l.any (· == 4)) (f || l.any (· == 2)) (k || l.any (· == 3)) (s && l.all (· == 1)))
 | [],i,c,f,k,s=>by simp [bY]
 | x :: l,i,c,f,k,s=>by
  have ih:=Ul l (i + 1); rw [bY,ai6,List.any_cons,List.any_cons,List.any_cons,List.all_cons]; by_cases h1:x=1
  · subst h1; rw [if_pos (by rfl),ih]; simp
  ·
   by_cases h3:x=3
   · subst h3; rw [if_neg (by decide),if_pos (by rfl),ih]; simp
   ·
    by_cases h4:x=4
    · subst h4; rw [if_neg (by decide),if_neg (by decide),if_pos (by rfl),ih]; simp
    ·
     by_cases h2:x=2
     · subst h2; rw [if_neg (by decide),if_neg (by decide),if_neg (by decide),if_pos (by rfl),ih]; simp
     ·
      have b1:(x == 1)=false:=by simpa using h1
      have b2:(x == 2)=false:=by simpa using h2
      have b3:(x == 3)=false:=by simpa using h3
      have b4:(x == 4)=false:=by simpa using h4
      rw [b1,b2,b3,b4,if_neg (by decide),if_neg (by decide),if_neg (by decide),if_neg (by decide),ih]; simp
theorem agS {needs:List Int} (hl:needs.length < 4611686018427387904):nS needs=some (aW.mk (needs.any (· == 4)) (needs.any (· == 2)) (needs.any (· == 3)) (needs.all (· == 1))):=by
 unfold nS; rw [bZ (F:=fun k (s:aW) i=>fT needs k i s) (l:=needs) (body:=ai6) (fin:=fun s=>some s) hl (fun k s i=>rfl)]; rw [Ul]; simp
theorem U9 :∀ (l:List aB) (i:Nat) (out:List aB),(∀ x∈l,x.value.bulk≤xX)→out.length + l.length≤xX→
  bY (fun _ e1 (bM:List aB) r=>au (mo e1.value) fun x8=>au (app bM [(aB.mk e1.name x8)]) fun zW=>r zW) (fun out=>some out) i l out=some (out ++ l)
 | [],i,out,_,_=>by simp [bY]
 | x :: l,i,out,h,hn=>by
  simp only [List.length_cons] at hn; have hc:mo x.value=some x.value:=by unfold mo; rw [if_pos (h x (by simp))]
  rw [bY,hc,av,uQ (by simp; omega),av]; refine (U9 l (i + 1) _ (fun y hy=>h y (by simp [hy])) (by simp; omega)).trans ?_; simp
theorem ab1 {needs:List Int} {vars:List aB} (hl:needs.length < 4611686018427387904) (hv:∀ x∈vars,x.value.bulk≤xX) (hn:vars.length≤1048576):sH needs vars=some (D5 needs vars):=by
 have hL:xX=4294967296:=rfl; unfold sH lK; rw [agS hl]; simp only [av]; rw [bZ (F:=fun k (s:List aB) i=>qW vars k s i) (l:=vars) (body:=fun _ e1 (bM:List aB) r=>au (mo e1.value) fun x8=>au (app bM [(aB.mk e1.name x8)]) fun zW=>r zW) (fin:=fun out=>some out) (by omega) (fun k s i=>rfl)]; rw [U9 vars 0 _ hv (by simp; omega)]; rfl
theorem abq (needs:List Int) (hl:needs.length < 4611686018427387904) (q:Int):∀ k i:Nat,needs.length < k + i→i≤needs.length→xD needs q k (i:Int)=some ((needs.drop i).any (· == q))
 | 0,i,h,h'=>by omega
 | k + 1,i,h,h'=>by
  rw [xD]; by_cases hi:i < needs.length
  ·
   rw [if_pos (by simpa using hi),vF hi,List.drop_eq_getElem_cons hi,av,List.any_cons]; by_cases hq:needs[i]=q
   · simp [hq]
   ·
    have:(needs[i] == q)=false:=by simpa using hq
    rw [this,yg (by omega),abq needs hl q k (i + 1) (by omega) (by omega)]; simp
  ·
   have:i=needs.length:=by omega
   subst this; rw [if_neg (by simp)]; simp
theorem all_eq (needs:List Int) (hl:needs.length < 4611686018427387904) (q:Int):∀ k i:Nat,needs.length < k + i→i≤needs.length→zM needs q k (i:Int)=some ((needs.drop i).all (· == q))
 | 0,i,h,h'=>by omega
 | k + 1,i,h,h'=>by
  rw [zM]; by_cases hi:i < needs.length
  ·
   rw [if_pos (by simpa using hi),vF hi,List.drop_eq_getElem_cons hi,av,List.all_cons]; by_cases hq:needs[i]=q
   ·
    rw [if_neg (by simpa using hq),yg (by omega),all_eq needs hl q k (i + 1) (by omega) (by omega)]; simp [hq]
   ·
    have:(needs[i] == q)=false:=by simpa using hq
    rw [if_pos (by simpa using hq),this]; simp
  ·
   have:i=needs.length:=by omega
   subst this; rw [if_neg (by simp)]; simp
theorem ahd {needs:List Int} {vars:List aB} (hl:needs.length < 4611686018427387904) (hn:vars.length≤1048576):Mw needs vars=some (D5 needs vars):=by
 have hL:xX=4294967296:=rfl; have s:=fun q=>abq needs hl q BIG 0 (by have:=iJ; omega) (by omega); have a:=all_eq needs hl 1 BIG 0 (by have:=iJ; omega) (by omega); simp only [List.drop_zero,Int.natCast_zero] at s a; unfold Mw Fq P7 nM; simp only [av,s,a]; rw [uQ (by simp; omega),av,uQ (by simp; omega),av,uQ (by simp; omega),av,uQ (by simp; omega),av,uQ (by simp; omega)]; rfl
theorem anC :oN ([97,108,119,97,121,115,32,124,124,32,110,32,62,32,49]:Str) ([1,2]:List Int)=some (true,0):=by decide +kernel
theorem anB :oN ([115,117,99,99,101,115,115]:Str) ([1,2]:List Int)=some (false,0):=by decide +kernel
theorem anA :oN ([102,97,105,108,117,114,101,32,38,38,32,33,99,97,110,99,101,108,108,101,100,32,38,38,32,33,115,107,105,112,112,101,100]:Str) ([1,2]:List Int)=some (true,0):=by decide +kernel
theorem anz :oN ([49]:Str) []=some (false,9):=by decide +kernel
theorem anx :(match vw ([115,117,99,99,101,115,115,32,43,32,49]:Str) with | some (e,_,_)=>gK e [] == some 9 | none=>false)=true:=by decide +kernel
theorem anw :gK (ak.mk 2 nSu (ah.mk 0 false 0 ([]:Str) [] []) [] []) [(aG.mk ([97,108,119,97,121,115]:Str) (aj.mk 2 []))]=some 7:=by decide +kernel
theorem anv :Fu (ak.mk 2 nSu (ah.mk 0 false 0 ([]:Str) [] []) [] [])=some true:=by decide +kernel
theorem anu :gK (ak.mk 2 nSu (ah.mk 0 false 0 ([]:Str) [] []) [] []) []=some 0:=by decide +kernel
theorem ahL :nC=some (ak.mk 2 nSu (ah.mk 0 false 0 ([]:Str) [] []) [] []):=rfl
theorem ab7 :vD=some true:=by
 have a:=anC; have b:=anB; have c:=anA; have d:=anz; have e:=anx; have f:=anw; have g:=anv; have h:=anu; unfold vD; rw [ahL]; generalize oN=D at a b c d ⊢; generalize gK=K at e f h ⊢; generalize Fu=E at g ⊢; generalize vw ([115,117,99,99,101,115,115,32,43,32,49]:Str)=P at e ⊢; rw [a,b,c,d]; clear a b c d
 match P,e with
 | some (x,y,z),e=>
  have e1:K x []=some 9:=by simpa using e
  rw [dh,dh,dh,dh,aaV,av,f,av,if_pos (by decide),e1,av,av,if_pos (by decide),av,g,av,if_pos rfl,av,h,av]; rfl
 | none,e=>cases e
theorem X9 :∀ l:List Int,(List.map (fun z:Int=>1) l).sum=l.length
 | []=>rfl
 | x :: r=>by rw [List.map_cons,List.sum_cons,X9 r,List.length_cons]; omega
theorem abV {needs:List Int} {vars:List aB} (h:(vars.map aB.bulk).sum≤1048576):(D5 needs vars).length < 4611686018427387904∧∀ d∈D5 needs vars,d.name.length < 4611686018427387000∧d.value.bulk≤1048576:=by
 obtain ⟨s1,s2⟩:=agD h
 have five:∀ c f k s,∀ d∈RF c f k s,d.name.length < 4611686018427387000∧d.value.bulk≤1048576:=by
  intro c f k s d hd; have hb:∀ (n:Str) (b:Bool),(tv n b).value.bulk=7:=fun n b=>by unfold tv ah.bulk ah.o9; simp
  have hs:∀ m:Nat,m≤9→m < 4611686018427387000:=fun m h=>by omega
  simp only [RF,List.mem_cons,List.not_mem_nil,or_false] at hd; rcases hd with rfl | rfl | rfl | rfl | rfl <;> exact ⟨hs _ (by first | exact (by decide:nAl.length≤9) | exact (by decide:nCa.length≤9) | exact (by decide:nFa.length≤9) | exact (by decide:nSk.length≤9) | exact (by decide:nSu.length≤9)),by rw [hb]; decide⟩
 have hvs:=Gp h; unfold D5; refine ⟨by simp [RF]; omega,fun d hd=>?_⟩; rcases List.mem_append.1 hd with hd | hd
 · exact five _ _ _ _ d hd
 · exact s2 d hd
end Go.Ft
namespace Go.Ft
open Go
attribute [local congr] gy
def RJ (p:ah × Int):Bool × Int:=if p.2≠0 then (false,p.2) else if p.1.kind≠1 then (false,9) else (p.1.dM,0)
theorem afE (p:ah × Int):(fP (some p) fun x2 e1=>if e1 != 0 then some (false,e1) else if x2.kind != 1 then some (false,9) else some (x2.dM,0))=some (RJ p):=by
 obtain ⟨v,c⟩:=p; rw [dh]; unfold RJ; by_cases h:c=0
 · by_cases k:v.kind=1 <;> simp [h,k]
 · simp [h]
theorem afY {e:ak} {needs:List Int} {vars:List aB} (h:e.bulk≤1099511627776) (hl:needs.length≤4194304) (hE:(vars.map aB.bulk).sum≤1048576):oU e needs vars=some (RJ (U3 e (D5 needs vars))):=by
 obtain ⟨s1,s2⟩:=Gp hE; have hL:xX=4294967296:=rfl; obtain ⟨c1,c2⟩:=abV (needs:=needs) hE; unfold oU; rw [ab1 (by omega) (fun x hx=>by have:=s2 x hx; omega) s1,av,(aa3 h c1 c2).1,afE]
theorem ag8 {e:ak} (h:e.bulk < 4611686018427387904) (n:Int):FN e n=some ((decide ((ecnt e:Int)≤5000)) && (decide (n≤300))):=by
 unfold FN; rw [(count_eq h).2]; rfl
theorem ai5 {e:ak} {needs:List Int} {vars:List aB} (h:ak.bulk e + ((List.map (fun z:Int=>1) needs).sum + 1) + ((List.map (fun z:aB=>(aB.bulk z)) vars).sum + 1)≤1048576):e.bulk≤1048576∧needs.length≤1048576∧(vars.map aB.bulk).sum≤1048576:=by
 have:=X9 needs; have h':(List.map (fun z:aB=>(aB.bulk z)) vars).sum≤1048576:=by omega
 exact ⟨by omega,by omega,h'⟩
end Go.Ft
namespace Go.Ft
open Go
attribute [local congr] gy
def td (n:Str):aG:=aG.mk n (sc 2).api
def Dq :List aG:=[td nAl,td nCa,td nFa,td nSk,td nSu]
theorem acN {vars:List aG} (h:vars.length≤1048576):CK vars=some (Dq ++ vars):=by
 have hL:xX=4294967296:=rfl; unfold CK; rw [show iV 2=some (sc 2).api from rfl,av,uQ (by simp; omega)]; rfl
def abI (t:aj):Int:=if t.kind=2∨t.kind=0∨t.kind=7 then 0 else 9
theorem RZ {K:List aG→Option Int}:∀ (l:List aB) (i:Nat) (out:List aG),out.length + l.length≤100→
  bY (fun _ e1 (decls1:List aG) r=>au (app decls1 [(aG.mk e1.name (aj.mk 2 []))]) fun decls2=>r decls2) K i l out=K (out ++ l.map fun x=>td x.name)
 | [],i,out,_=>by simp [bY]
 | x :: l,i,out,h=>by
  have hL:xX=4294967296:=rfl; simp only [List.length_cons] at h; rw [bY,uQ (by simp; omega),av]; refine (RZ l (i + 1) _ (by simp; omega)).trans ?_; simp [td,sc,Ty.api]
theorem Vb {e:ak} {vars:List aG} {t:aj} {c:Int} (hn:vars.length≤1048576) (hc:uG e (Dq ++ vars)=some (t,c)):gK e vars=some (if c≠0 then c else abI t):=by
 have hL:xX=4294967296:=rfl; unfold gK; rw [ab1 (needs:=[]) (vars:=[]) (by simp) (fun x hx=>by cases hx) (by simp),av]
 rw [bZ (F:=fun k (s:List aG) i=>oV e vars (D5 [] []) k s i) (l:=D5 [] []) (body:=fun _ e1 (decls1:List aG) r=>au (app decls1 [(aG.mk e1.name (aj.mk 2 []))]) fun decls2=>r decls2)
  (fin:=fun decls1=>au (app decls1 vars) fun x3=>fP (uG e x3) fun x4 e2=>if e2 != 0 then some e2 else if x4.kind == 2 then some 0 else if x4.kind == 0 then some 0 else if x4.kind == 7 then some 0 else some 9) (by simp [D5,RF]) (fun k s i=>rfl)]
 rw [RZ _ _ _ (by simp [D5,RF])]; have e1:([]:List aG) ++ (D5 [] []).map (fun x=>td x.name)=Dq:=rfl; rw [e1,uQ (by simp [Dq]; omega),av,hc,dh]; unfold abI; by_cases h:c=0
 ·
  by_cases k2:t.kind=2
  · simp [h,k2]
  ·
   by_cases k0:t.kind=0
   · simp [h,k0]
   ·
    by_cases k7:t.kind=7
    · simp [h,k7]
    · simp [h,k2,k0,k7]
 · simp [h]
theorem afw {vars:List aG} (hn:vars.length≤1048576) (hd:∀ d∈vars,d.name.length≤1048576):(Dq ++ vars).length < 4611686018427387904∧∀ d∈Dq ++ vars,d.name.length < 4611686018427387000:=by
 refine ⟨by simp [Dq]; omega,fun d hm=>?_⟩; rcases List.mem_append.1 hm with hm | hm
 ·
  simp only [Dq,List.mem_cons,List.not_mem_nil,or_false] at hm; rcases hm with rfl | rfl | rfl | rfl | rfl <;> decide
 · have:=hd d hm; omega
end Go.Ft
namespace Go.Ft
open Go
attribute [local congr] gy
def ofD (x:aB):aG:=aG.mk x.name (L8 x.value).api
theorem aiS :∀ {vars:List aB},(∀ x∈vars,VV x.value∧x.value.bulk < 4611686018427387904)→DC vars (vars.map ofD)
 | [],_=>.nil
 | x :: r,h=>by
  obtain ⟨v1,v2⟩:=h x (by simp); obtain ⟨o1,o2,o3,o4⟩:=ace v2 ((LZ _).2 v1); exact .cons (L8 x.value) rfl rfl o3 o4 (CZ _) (aiS fun y hy=>h y (by simp [hy]))
theorem ah6 {c f k s:Bool} {vars:List aB} {env:List aG} (h:DC vars env):DC (RF c f k s ++ vars) (Dq ++ env):=by
 have one:∀ (n:Str) (b:Bool) {xs:List aB} {ds:List aG},DC xs ds→DC (tv n b :: xs) (td n :: ds):=fun n b xs ds h=>.cons (sc 2) rfl rfl (UA (by omega)) (by simp [sc,Ty.dep]) (uw rfl) h; exact one _ _ (one _ _ (one _ _ (one _ _ (one _ _ h))))
theorem Uv {K:List aG→Option Bool} {vars:List aB} (hl:vars.length≤1048576):∀ (l:List aB) (i:Nat) (out:List aG),l=vars.drop i→(∀ x∈l,VV x.value∧x.value.bulk < 4611686018427387904)→out.length + l.length≤1048576→
  bY (fun (i:Nat) e1 (l1:List aG) r=>au (idx vars (i:Int)) fun e2=>au (IZ e2.value) fun x5=>au (app l1 [(aG.mk e1.name x5)]) fun l2=>r l2) K i l out=K (out ++ l.map ofD)
 | [],i,out,_,_,_=>by simp [bY]
 | x :: l,i,out,he,h,hn=>by
  have hL:xX=4294967296:=rfl; simp only [List.length_cons] at hn; obtain ⟨v1,v2⟩:=h x (by simp); obtain ⟨o1,o2,o3,o4⟩:=ace v2 ((LZ _).2 v1)
  have hi:i < vars.length:=by
   rcases Nat.lt_or_ge i vars.length with h | h
   · exact h
   · rw [List.drop_eq_nil_of_le h] at he; cases he
  have hc:=List.drop_eq_getElem_cons hi; rw [←he] at hc; have e1:x=vars[i]:=(List.cons.inj hc).1; have e2:=(List.cons.inj hc).2; rw [bY,vF hi,av,←e1,o2,av,uQ (by simp; omega),av]; refine (Uv hl l (i + 1) _ e2 (fun y hy=>h y (by simp [hy])) (by simp; omega)).trans ?_; simp [ofD]
theorem Lg (iK:ak) (bR:List Int) (bU:List aB) (h:ak.bulk iK + ((List.map (fun z:Int=>1) bR).sum + 1) + ((List.map (fun z:aB=>(aB.bulk z)) bU).sum + 1)≤1048576):rP iK bR bU=some true:=by
 obtain ⟨a,b,c⟩:=ai5 h; obtain ⟨s1,s2⟩:=Gp c; obtain ⟨k1,k2⟩:=abV (needs:=bR) c; obtain ⟨v1,v2⟩:=abU (env:=D5 bR bU) k1 (fun d hd=>by have:=k2 d hd; omega); unfold rP; rw [ag8 (by omega),ab7,av,ahd (by omega) s1]; simp only [av,v2]; by_cases hs:((decide ((ecnt iK:Int)≤5000)) && (decide (bW ((bR.length:Int) + (bU.length:Int))≤300)))=true
 case neg=>
  rw [Bool.not_eq_true] at hs; rw [hs]; rfl
 rw [hs]; simp only [Bool.not_true,Bool.false_eq_true,if_false,av]; by_cases hv:F6 (D5 bR bU)=0
 case neg=>
  rw [if_pos (by simpa using hv)]
 rw [if_neg (by simpa using hv)]; obtain ⟨w1,w2,w3⟩:=YE hv; have hval:∀ x∈bU,VV x.value∧x.value.bulk < 4611686018427387904:=fun x hx=>⟨(w1 x (List.mem_append.2 (.inr hx))).1,by have:=s2 x hx; omega⟩
 rw [bZ (F:=fun k (s:List aG) i=>lV iK bR bU k s i) (l:=bU) (body:=fun (i:Nat) e1 (l1:List aG) r=>au (idx bU (i:Int)) fun e2=>au (IZ e2.value) fun x5=>au (app l1 [(aG.mk e1.name x5)]) fun l2=>r l2)
  (fin:=fun l1=>au (gK iK l1) fun x6=>if x6 != 0 then vD else fP (oU iK bR bU) fun x8 e3=>au (if e3 != 10 then (if e3 != 9 then some true else au (CK l1) fun x9=>au (zQ iK x9) fun BH=>some (!BH)) else some false) fun b2=>if b2 then vD else some false) (by omega) (fun k s i=>rfl)]
 rw [Uv s1 bU 0 [] rfl hval (by simp; omega),List.nil_append,ab7]; have hlen:(bU.map ofD).length≤1048576:=by rw [List.length_map]; exact s1
 obtain ⟨f1,f2⟩:=afw hlen fun d hd=>by
  obtain ⟨x,hx,rfl⟩:=List.mem_map.1 hd; exact (s2 x hx).1
 have hD:DC (D5 bR bU) (Dq ++ bU.map ofD):=ah6 (aiS hval); rcases aaG (e:=iK) (env:=Dq ++ bU.map ofD) (by omega) f1 f2 with ⟨q,c0,c1,c2⟩ | ⟨T,w,d,c1,c2,c3,c4,c5⟩
 · rw [Vb hlen c1,av,if_pos c0,if_pos (by simpa using c0)]
 ·
  rw [Vb hlen c1,av,if_neg (c:=(0:Int)≠0) (by simp)]; by_cases hk:abI T.api=0
  case neg=>rw [if_pos (by simpa using hk)]
  rw [if_neg (by simpa using hk)]; have hc:=ND c4; have hSE:=aa6 (e:=iK) (by omega) c4; have e2:U3 iK (D5 bR bU)=qz (D5 bR bU) iK:=by unfold U3; rw [if_neg (by simpa using hv),if_neg (by simpa using c4)]
  have hEv:∀ x∈D5 bR bU,VV x.value∧x.value.bulk≤1048576:=fun x hx=>⟨(w1 x hx).1,(k2 x hx).2⟩; obtain ⟨q1,q2,q3⟩:=abp hEv hD f1 iK.bulk iK 1 T (Nat.le_refl _) hSE hc c3 w d; rw [afY (by omega) (by omega) c,e2,adG]; have hS:=adJ (e:=iK) (by omega) f1 hD.W hc c2; rw [acN hlen,av,hS,av]
  have key:(RJ (qz (D5 bR bU) iK)).2≠10∧((RJ (qz (D5 bR bU) iK)).2=9→Gq (Dq ++ bU.map ofD) iK=false):=by
   have nst:∀ P:Prop,(Gq (Dq ++ bU.map ofD) iK=true→¬ P)→P→Gq (Dq ++ bU.map ofD) iK=false:=fun P hn hp=>by
    cases hb:Gq (Dq ++ bU.map ofD) iK with
    | false=>rfl
    | true=>exact absurd hp (hn hb)
   unfold RJ; by_cases h0:(qz (D5 bR bU) iK).2=0
   ·
    rw [if_neg (by simpa using h0)]; by_cases hb:(qz (D5 bR bU) iK).1.kind=1
    ·
     rw [if_neg (by simpa using hb)]; exact ⟨by simp,fun h=>by simp at h⟩
    ·
     rw [if_pos hb]; refine ⟨by simp,nst _ fun hst _=>?_⟩; have hfit:=q1 h0; have hfree:=XD w (by omega) c3 hst; unfold abI at hk; rw [Ty.lZ] at hk
     have hk':T.kind=2∨T.kind=0∨T.kind=7:=by
      by_cases hh:T.kind=2∨T.kind=0∨T.kind=7
      · exact hh
      · rw [if_neg hh] at hk; cases hk
     rcases hk' with h2 | h0' | h7
     ·
      have e3:=Ap w h2 (by omega); rw [e3] at hfit; have:=oO (by omega) hfit; omega
     ·
      have e3:=Ap w h0' (by omega); rw [e3] at hfree; cases hfree
     ·
      have e3:=Ap w h7 (by omega); rw [e3] at hfit; exact Jm hfit
   ·
    rw [if_pos h0]; refine ⟨fun h10=>?_,nst _ fun hst h9=>q3 h9 hst⟩; have:=q2 h0; unfold rT at this; omega
  generalize (RJ (qz (D5 bR bU) iK)).2=z at key; obtain ⟨z1,z2⟩:=key; rw [if_pos (by simpa using z1)]; by_cases h9:z=9
  · rw [if_neg (by simpa using h9),z2 h9]; rfl
  · rw [if_pos (by simpa using h9)]; rfl
end Go.Ft
