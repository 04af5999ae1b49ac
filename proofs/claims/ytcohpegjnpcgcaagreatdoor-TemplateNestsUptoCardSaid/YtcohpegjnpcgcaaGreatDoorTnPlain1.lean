/- Proved here: plain facts on the functional texts. -/
import Derived.Test.YtcohpegjnpcgcaaGreatDoorTnPre1
import Derived.Test.YtcohpegjnpcgcaaGreatDoorTnFt1
import Derived.Test.YtcohpegjnpcgcaaGreatDoorTnPool1
import Derived.KernelRfl
set_option linter.unusedVariables false
set_option linter.unusedSimpArgs false
set_option linter.unusedSectionVars false
set_option maxHeartbeats 2000000
namespace Go.Ft
open Go
def adh :Nat:=18446744073709551615
theorem Xv :BIG=adh + 1:=rfl
abbrev SV :Str:=[116,101,109,112,108,97,116,101]
abbrev VH :Str:=[117,115,101]
def nm (k:Nat):Str:=116 :: (vX (k:Int)).getD []
def LY (k:Nat):au:=au.mk VH (nm k) [] []
def Yv (k:Nat):au:=au.mk SV (nm k) [] [LY (k + 1)]
def Um :aM:=aM.mk [120] (aj.mk 2 [97] (ah.mk 0 false 0 [] [] []) [] [])
def Yw (k:Nat):au:=au.mk SV (nm k) [Um] []
def JR :au:=au.mk [106,111,98] [] [] [au.mk VH [116,48] [] []]
def back (s:Str):Nat:=(s.drop 1).foldl (fun a c=>a * 10 + (c.toNat - 48)) 0
def YZ (k:Nat):Bool:=(vX (k:Int)).isSome && ((nm k).length≤4) && (back (nm k) == k) && (oO (Yv k) 1 == some 0) && (oO (Yw k) 1 == some 0) && (AL (nm k) == some true)
theorem abU :(List.range 256).all YZ=true:=by kernel_rfl
theorem Tn {k:Nat} (h:k < 256):YZ k=true:=List.all_eq_true.1 abU k (List.mem_range.2 h)
theorem Xd {k:Nat} (h:k < 256):vX (k:Int)=some ((nm k).drop 1):=by
 have:=Tn h; simp only [YZ,Bool.and_eq_true] at this; obtain ⟨⟨⟨⟨⟨h1,_⟩,_⟩,_⟩,_⟩,_⟩:=this; obtain ⟨x,hx⟩:=Option.isSome_iff_exists.1 h1; simp [nm,hx]
theorem WJ {k:Nat} (h:k < 256):(nm k).length≤4:=by
 have:=Tn h; simp only [YZ,Bool.and_eq_true,decide_eq_true_eq] at this; exact this.1.1.1.1.2
theorem WK {i k:Nat} (h:i < 256) (h':k < 256) (e:nm i=nm k):i=k:=by
 have a:=Tn h; have b:=Tn h'; simp only [YZ,Bool.and_eq_true,beq_iff_eq] at a b; rw [←a.1.1.1.2,←b.1.1.1.2,e]
theorem ade {k:Nat} (h:k < 256):oO (Yv k) 1=some 0:=by
 have:=Tn h; simp only [YZ,Bool.and_eq_true,beq_iff_eq] at this; exact this.1.1.2
theorem adf {k:Nat} (h:k < 256):oO (Yw k) 1=some 0:=by
 have:=Tn h; simp only [YZ,Bool.and_eq_true,beq_iff_eq] at this; exact this.1.2
theorem aar {k:Nat} (h:k < 256):AL (nm k)=some true:=by
 have:=Tn h; simp only [YZ,Bool.and_eq_true,beq_iff_eq] at this; exact this.2
def blk (N k:Nat):au:=if k + 1 < N then Yv k else Yw k
def bod (N k:Nat):au:=if k + 1 < N then au.mk [] [] [] [LY (k + 1)] else au.mk [] [] [Um] []
def TV (N k:Nat):bq:=bq.mk (nm k) [] (bod N k)
def chain (N:Nat):List au:=(List.range N).map (blk N) ++ [JR]
theorem yu (N:Nat):(chain N).length=N + 1:=by simp [chain]
theorem Si {N k:Nat} (h:k < N):(chain N)[k]?=some (blk N k):=by
 rw [chain,List.getElem?_append_left (by simpa using h)]; simp [h]
theorem P8 (N:Nat):(chain N)[N]?=some JR:=by
 rw [chain,List.getElem?_append_right (by simp)]; simp
theorem Nq {n:UInt8} {N:Nat} (hN:n.toNat=N):∀ (d i kk:Nat),i + d=N→iE n (kk + 1 + d) i (bX.mk ((List.range i).map (blk N)))=iE n (kk + 1) N (bX.mk ((List.range N).map (blk N)))
 | 0,i,kk,h=>by
  obtain rfl:i=N:=by omega
  rfl
 | d + 1,i,kk,h=>by
  have hn:=n.toNat_lt; have ih:=Nq hN d (i + 1) kk (by omega); rw [show kk + 1 + (d + 1)=(kk + 1 + d) + 1 from rfl,iE,hN,if_pos (by rw [decide_eq_true_eq]; omega),Xd (by omega),eX,Jl (by have:=WJ (k:=i) (by omega); simp [List.length_drop,LK]; omega),eX,SL (by omega)]; have e1:[116] ++ List.drop 1 (nm i)=nm i:=rfl; rw [e1]; have hr:(List.range (i + 1)).map (blk N)=(List.range i).map (blk N) ++ [blk N i]:=by rw [List.range_succ,List.map_append]; rfl
  by_cases hc:i + 1 < N
  ·
   have e2:[116] ++ List.drop 1 (nm (i + 1))=nm (i + 1):=rfl; rw [if_pos (by rw [decide_eq_true_eq]; omega),Xd (by omega),eX,Jl (by have:=WJ (k:=i + 1) (by omega); simp [List.length_drop,LK]; omega),eX,e2,Jl (by simp [LK]; omega),eX,←ih,hr]; rw [show blk N i=Yv i from if_pos hc]; rfl
  ·
   rw [if_neg (by rw [decide_eq_true_eq]; omega)]; show av (some _) _=_; rw [eX,Jl (by simp [LK]; omega),eX,←ih,hr]; rw [show blk N i=Yw i from if_neg hc]; rfl
theorem Yt {N k:Nat} (h:k < N) (hN:N < 256):oO (blk N k) 1=some 0:=by
 unfold blk; split
 · exact ade (by omega)
 · exact adf (by omega)
theorem Sj {N:Nat} (hN:N < 256):∀ (d i kk:Nat),i + d=N→lM (bX.mk (chain N)) (kk + 2 + d) i=some 0
 | 0,i,kk,h=>by
  obtain rfl:i=N:=by omega
  rw [show kk + 2 + 0=(kk + 1) + 1 from rfl,lM,yu,if_pos (by rw [decide_eq_true_eq]; omega),GN,P8,eX]; rw [show oO JR 1=some 0 from by kernel_rfl]; rw [eX,if_neg (by decide),lM,SL (by omega),yu,if_neg (by rw [decide_eq_true_eq]; omega)]
 | d + 1,i,kk,h=>by
  rw [show kk + 2 + (d + 1)=(kk + 2 + d) + 1 from rfl,lM,yu,if_pos (by rw [decide_eq_true_eq]; omega),GN,Si (by omega),eX,Yt (by omega) hN,eX,if_neg (by decide),SL (by omega)]; exact Sj hN d (i + 1) kk (by omega)
theorem Vb {N:Nat} (hN:N < 256):oQ (bX.mk (chain N))=some 0:=by
 unfold oQ; rw [yu,if_neg (by rw [decide_eq_true_eq]; omega)]; have:=Sj hN N 0 (BIG - 2 - N) (by omega); rw [show BIG - 2 - N + 2 + N=BIG from by have:BIG=18446744073709551616:=rfl; omega] at this; exact this
theorem ixT (p:bq→Bool) (s:List bq) (hs:s.length < 4611686018427387904):∀ (d i kk:Nat),i + d=s.length→dw s (fun z=>some (p z)) (kk + 1 + d) i=some (match (s.drop i).findIdx? p with | some k=>((i + k:Nat):Int) | none=>-1)
 | 0,i,kk,h=>by
  rw [show kk + 1 + 0=kk + 1 from rfl,dw,if_neg (by rw [decide_eq_true_eq]; omega),List.drop_of_length_le (by omega)]; rfl
 | d + 1,i,kk,h=>by
  have hi:i < s.length:=by omega
  rw [show kk + 1 + (d + 1)=(kk + 1 + d) + 1 from rfl,dw,if_pos (by rw [decide_eq_true_eq]; omega),acW hi,eX,eX,SL (by omega),ixT p s hs d (i + 1) kk (by omega),List.drop_eq_getElem_cons hi,List.findIdx?_cons]; by_cases hp:p s[i]=true
  · rw [if_pos hp,if_pos hp]; rfl
  ·
   rw [if_neg hp,if_neg hp]; cases (s.drop (i + 1)).findIdx? p with
   | none=>rfl
   | some k=>exact congrArg some (congrArg Int.ofNat (show i + 1 + k=i + (k + 1) from by omega))
theorem WS (p:bq→Bool) (s:List bq) (hs:s.length < 4294967296):dZ s (fun z=>some (p z))=some (match s.findIdx? p with | some k=>((k:Nat):Int) | none=>-1):=by
 unfold dZ; have:=ixT p s (by omega) s.length 0 (BIG - 1 - s.length) (by omega); rw [show BIG - 1 - s.length + 1 + s.length=BIG from by have:BIG=18446744073709551616:=rfl; omega] at this; rw [show ((0:Nat):Int)=0 from rfl] at this; rw [this]; simp
theorem NI {N m k:Nat} (hN:N < 256) (hm:m≤N) (hk:k < 256):((List.range m).map (TV N)).findIdx? (fun z=>z.name == nm k)=if k < m then some k else none:=by
 by_cases hc:k < m
 ·
  rw [if_pos hc,List.findIdx?_eq_some_iff_getElem]; refine ⟨by simpa using hc,by simp [TV],fun j hj=>?_⟩; simp only [List.getElem_map,List.getElem_range,TV,beq_iff_eq]; intro e; have:=WK (by omega) hk e; omega
 ·
  rw [if_neg hc,List.findIdx?_eq_none_iff]; intro x hx; obtain ⟨j,hj,rfl⟩:=List.mem_map.1 hx; rw [List.mem_range] at hj; simp only [TV,beq_eq_false_iff_ne]; intro e; have:=WK (by omega) hk e; omega
theorem Yf (s t:Str):ou (au.mk SV s [] [au.mk VH t [] []])=some ([],au.mk SV s [] [au.mk VH t [] []],0):=by kernel_rfl
theorem Yg (s:Str):ou (au.mk SV s [Um] [])=some ([],au.mk SV s [Um] [],0):=by kernel_rfl
theorem Ti (N k:Nat):ou (blk N k)=some ([],blk N k,0):=by
 unfold blk; split
 · exact Yf _ _
 · exact Yg _
theorem Xo (N k:Nat):(blk N k).kind=SV:=by unfold blk; split <;> rfl
theorem Sv (N k:Nat):(blk N k).name=nm k:=by unfold blk; split <;> rfl
theorem Xp (N k:Nat):au.mk [] [] (blk N k).attrs (blk N k).blocks=bod N k:=by unfold blk bod; split <;> rfl
theorem J4 {N:Nat} (hN:N < 256):∀ (d i kk:Nat),i + d=N→iT (bX.mk (chain N)) (kk + 2 + d) ((List.range i).map (TV N)) i (bX.mk [])=some ((List.range N).map (TV N),bX.mk [JR],0)
 | 0,i,kk,h=>by
  obtain rfl:i=N:=by omega
  rw [show kk + 2 + 0=(kk + 1) + 1 from rfl,iT,yu,if_pos (by rw [decide_eq_true_eq]; omega),GN,P8,eX,if_pos (by decide)]; rw [show qB JR=some JR from by kernel_rfl]; rw [eX,Jl (by simp [LK]),eX,iT,SL (by omega),yu,if_neg (by rw [decide_eq_true_eq]; omega)]; rfl
 | d + 1,i,kk,h=>by
  have ih:=J4 hN d (i + 1) kk (by omega); rw [show kk + 2 + (d + 1)=(kk + 2 + d) + 1 from rfl,iT,yu,if_pos (by rw [decide_eq_true_eq]; omega),GN,Si (by omega),eX,Xo,if_neg (by decide),Sv,aar (by omega),eX,if_neg (by decide),Ti,Eh,if_neg (by decide)]; unfold fM; rw [show (fun z0=>lV z0 (blk N i))=fun z:bq=>some (z.name == nm i) from by funext z; unfold lV; rw [Sv],WS _ _ (by simp; omega),NI hN (by omega) (by omega),if_neg (by omega),eX,eX,if_neg (by decide),Jl (by simp [LK]; omega),eX,SL (by omega),Xp]; rw [List.range_succ,List.map_append] at ih; exact ih
theorem O_ {N:Nat} (hN:N < 256):pO (bX.mk (chain N))=some ((List.range N).map (TV N),bX.mk [JR],0):=by
 unfold pO; rw [Vb hN,eX,if_neg (by decide)]; have:=J4 hN N 0 (BIG - 2 - N) (by omega); rw [show BIG - 2 - N + 2 + N=BIG from by have:BIG=18446744073709551616:=rfl; omega] at this; exact this
theorem Ym :∀ k:Nat,k < 18→sw (au.mk [] [] [] [LY k]) []=some (au.mk [] [] [] [LY k],0):=by
 intro k hk; have:k=0∨k=1∨k=2∨k=3∨k=4∨k=5∨k=6∨k=7∨k=8∨k=9∨k=10∨k=11∨k=12∨k=13∨k=14∨k=15∨k=16∨k=17:=by omega
 rcases this with rfl | rfl | rfl | rfl | rfl | rfl | rfl | rfl | rfl | rfl | rfl | rfl | rfl | rfl | rfl | rfl | rfl | rfl <;> (show _=_; kernel_rfl)
abbrev zB :au:=au.mk [] [] [] []
theorem Qb (m:Nat) (X:aG) (k:Str) (b:au) (hb:b.kind=VH) (d:Int) (Y:aG) (h:dU m X b d=some (zB,13,Y)):eU (m + 1) X (au.mk k [] [] [b]) d=some (zB,13,Y):=by
 rw [eU,lg]; rw [show kR []=some [] from by kernel_rfl]; rw [eX,Xv,gL,if_pos (by simp),show idx [b] 0=some b from rfl,eX,hb,if_neg (by decide),h,Eh,if_pos (by decide)]
theorem M7 {N:Nat} (h1:16 < N) (hN:N < 256):∀ (j m:Nat),j≤16→∃ Y,dU (m + 1 + 2 * j) (aG.mk ((List.range N).map (TV N)) [] ((16 - j:Nat):Int)) (LY (16 - j)) ((16 - j:Nat):Int)=some (zB,13,Y)
 | 0,m,_=>by
  rw [show m + 1 + 2 * 0=m + 1 from rfl,dU,jE]; rw [show (fun z0=>iM z0 (LY (16 - 0)))=fun z:bq=>some (z.name == nm 16) from rfl,WS _ _ (by simp; omega),NI hN (by omega) (by omega),if_pos (by omega),eX,if_neg (by decide),if_neg (by decide),if_pos (by decide)]; exact ⟨_,rfl⟩
 | j + 1,m,hj=>by
  obtain ⟨Y,hY⟩:=M7 h1 hN j m (by omega); have hk:16 - (j + 1) < N:=by omega
  generalize hkk:16 - (j + 1)=k at *; rw [show 16 - j=k + 1 from by omega] at hY; rw [show m + 1 + 2 * (j + 1)=(m + 1 + 2 * j + 1) + 1 from by omega,dU,jE]; rw [show (fun z0=>iM z0 (LY k))=fun z:bq=>some (z.name == nm k) from rfl,WS _ _ (by simp; omega),NI hN (by omega) (by omega),if_pos (by omega),eX,if_neg (show ¬ _ from by simp [LY]),if_neg (by simp only []; rw [decide_eq_true_eq]; omega),if_neg (by rw [decide_eq_true_eq]; omega),if_neg (by rw [decide_eq_true_eq]; simp only []; omega),Xv,jr,if_neg (show ¬ _ from by simp [LY])]; have e:idx ((List.range N).map (TV N)) (k:Int)=some (TV N k):=by rw [GN]; simp [hk]
  simp only [] at e ⊢; rw [e,eX]; rw [show qZ (TV N k).params []=some ([],0) from by show qZ [] []=_; kernel_rfl]; rw [Jk,if_neg (by decide),eX]; rw [show (TV N k).body=au.mk [] [] [] [LY (k + 1)] from if_pos (by omega),Ym _ (by omega),Jk,if_neg (by decide),SL (by omega)]; exact ⟨Y,Qb _ _ _ _ rfl _ Y hY⟩
theorem QM {N:Nat} (h1:16 < N) (hN:N < 256):qP (bX.mk [JR]) ((List.range N).map (TV N)) []=some (bX.mk [],13):=by
 unfold qP; rw [show oQ (bX.mk [JR])=some 0 from by kernel_rfl,eX,if_neg (by decide),show AV []=some 0 from by kernel_rfl,eX,if_neg (by decide),Xv,lU,if_pos (by decide),show idx (bX.mk [JR]).blocks 0=some JR from rfl,eX,if_pos (by decide),o9]; obtain ⟨Y,hY⟩:=M7 h1 hN 16 (BIG - 34) (by omega); have hb:=Qb (BIG - 34 + 1 + 2 * 16) _ [106,111,98] _ rfl _ Y hY; rw [show BIG - 34 + 1 + 2 * 16 + 1=BIG from rfl] at hb
 have hj:au.mk [106,111,98] [] [] [LY (16 - 16)]=JR:=by
  show au.mk [106,111,98] [] [] [LY 0]=JR; kernel_rfl
 rw [hj] at hb; have hb':eU BIG (aG.mk ((List.range N).map (TV N)) [] 0) JR 0=some (zB,13,Y):=hb; rw [hb',Eh,if_pos (by decide)]
theorem YD :Ag=some true:=by kernel_rfl
theorem RU :(List.range 17).all (fun n=>oL (UInt8.ofNat n) == some true)=true:=by kernel_rfl
theorem JM (n1:UInt8) (h:1≤1048576):oL n1=some true:=by
 have hn:=n1.toNat_lt; by_cases hs:n1.toNat < 17
 ·
  have:=List.all_eq_true.1 RU n1.toNat (List.mem_range.2 hs); rw [UInt8.ofNat_toNat] at this; exact beq_iff_eq.1 this
 ·
  generalize hN:n1.toNat=N at *; unfold oL; have h1:=Nq hN N 0 (BIG - 1 - N) (by omega); rw [show BIG - 1 - N + 1 + N=BIG from by have:BIG=18446744073709551616:=rfl; omega] at h1; rw [show (List.range 0).map (blk N)=[] from rfl,show ((0:Nat):Int)=0 from rfl] at h1; rw [h1,iE,hN,if_neg (by rw [decide_eq_true_eq]; omega),Jl (by simp [LK]; omega),eX,sQ]; rw [show (bX.mk ((List.range N).map (blk N))).blocks ++ [au.mk [106,111,98] [] [] [au.mk [117,115,101] [116,48] [] []]]=chain N from rfl]; rw [O_ (by omega),Eh,if_neg (by decide),QM (by omega) (by omega),Jk,if_neg (by rw [beq_iff_eq]; omega),if_pos (by rw [decide_eq_true_eq]; omega),if_pos (by decide)]; exact YD
end Go.Ft
