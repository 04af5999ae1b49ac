/- Proved here: each function does what its functional text says (part 3). -/
import Derived.Test.YtdgljcpjcgldfaaGreatDoorAgWalk1
import Derived.Test.YtdgljcpjcgldfaaGreatDoorAgFt1
import Derived.Test.YtdgljcpjcgldfaaGreatDoorAgFt3
import Derived.Test.YtdgljcpjcgldfaaGreatDoorProg
import Derived.KernelRfl
set_option linter.unusedVariables false
set_option linter.unusedSimpArgs false
set_option linter.unusedSectionVars false
namespace Go.Proofs.YtdgljcpjcgldfaaGreatDoor
open Go Go.Abs Go.Ft
set_option maxRecDepth 20000
attribute [local irreducible] AO AR AW AC
variable [cZ]
variable {τ : List aM} {Q : lK → List aM → Prop}
theorem jT (s1:List Str) {r0:List Str} (hf:dh s1=some r0) (h:Q (.ret (sP r0)) τ):PC 21 [sP s1] τ Q:=by
 unfold dh at hf; refine BN 8 [.tmp 2] [0] Tryz.func21 Z Z Z Z Z (W 0 Z (AS Z (AO.fF Z Z (U 1 Z (AS Z (AO.iK Z Z IL (fun b hb=>(J 0 Z (AW.cond Z (fun h1=>?_) (fun h1=>?_))))))))))
 · obtain rfl:s1=[]:=List.map_eq_nil_iff.1 (hb h1); obtain ⟨_,rfl⟩:=kD hf; refine W 0 Z (AS Z (AO.fF Z Z ?_)); exact N 0 rfl ⟨rfl,_,⟨_,_,rfl,rfl,rfl⟩,_,List.Sublist.refl _,h⟩
 refine W 0 Z (AS Z (AO.fE [] Z Ga Z Z Z Z Z (fun v1=>(U 1 Z (AS Z (AO.jW (i:=0) (l:=[]) (m:=s1) hf Z Z Z Z Z Z Z Ga jv Z Z Z (fun _=>Z) (fun _=>Z) (by decide) (fun v2 s2 hs2=>?_))))))); cases hs2; exact N 1 Z (Y Z h)
theorem l7 (s1:List Int) {r0:List Int} (hf:eT s1=some r0) (h:Q (.ret (.list (List.map je r0))) τ):PC 30 [.list (List.map je s1)] τ Q:=by
 unfold eT at hf; refine BN 8 [.tmp 2] [0] Tryz.func30 Z Z Z Z Z (W 0 Z (AS Z (AO.fF Z Z (U 1 Z (AS Z (AO.iK Z Z IK (fun b hb=>(J 0 Z (AW.cond Z (fun h1=>?_) (fun h1=>?_))))))))))
 · obtain rfl:s1=[]:=List.map_eq_nil_iff.1 (hb h1); obtain ⟨_,rfl⟩:=kD hf; refine W 0 Z (AS Z (AO.fF Z Z ?_)); exact N 0 rfl ⟨rfl,_,⟨_,_,rfl,rfl,rfl⟩,_,List.Sublist.refl _,h⟩
 refine W 0 Z (AS Z (AO.fE [] Z F9 Z Z Z Z Z (fun v1=>(U 1 Z (AS Z (AO.jW (i:=0) (l:=[]) (m:=s1) hf Z Z Z Z Z Z Z F9 wV Z Z Z (fun _=>Z) (fun _=>Z) (by decide) (fun v2 s2 hs2=>?_))))))); cases hs2; exact N 1 Z (Y Z h)
theorem d9 (s1:List aj) {r0:List aj} (hf:bA s1=some r0) (h:Q (.ret (.list (List.map aj.cells r0))) τ):PC 77 [.list (List.map aj.cells s1)] τ Q:=by
 unfold bA at hf; refine BN 8 [.tmp 2] [0] Tryz.func77 Z Z Z Z Z (W 0 Z (AS Z (AO.fF Z Z (U 1 Z (AS Z (AO.iK Z Z F5 (fun b hb=>(J 0 Z (AW.cond Z (fun h1=>?_) (fun h1=>?_))))))))))
 · obtain rfl:s1=[]:=List.map_eq_nil_iff.1 (hb h1); obtain ⟨_,rfl⟩:=kD hf; refine W 0 Z (AS Z (AO.fF Z Z ?_)); exact N 0 rfl ⟨rfl,_,⟨_,_,rfl,rfl,rfl⟩,_,List.Sublist.refl _,h⟩
 refine W 0 Z (AS Z (AO.fE [] Z B_ Z Z Z Z Z (fun v1=>(U 1 Z (AS Z (AO.jW (i:=0) (l:=[]) (m:=s1) hf Z Z Z Z Z Z Z B_ pJ Z Z Z (aj.bI) (aj.cells_one) (by decide) (fun v2 s2 hs2=>?_))))))); cases hs2; exact N 1 Z (Y Z h)
theorem ny (s1:List aj) {r0:List aj} (hf:bA s1=some r0) {Q:lK→List aM→Prop} (h:∀ v,Q (.ret (.val v)) [.buf v r0.length 3 161 (r0.flatMap aj.cells)]):PC 77 [.list (List.map aj.cells s1)] [] Q:=by
 unfold bA at hf; obtain ⟨hl,e0⟩:=kD hf; rw [List.nil_append] at e0; subst e0; simp only [List.length_nil,Nat.zero_add] at hl; have hlen:∀ x:aj,(aj.cells x).length=3:=fun _=>Z; have hone:∀ x:aj,(aj.cells x).all PV.one=true:=fun _=>Z; refine AC.yC 8 [.tmp 2] [0] Tryz.func77 Z Z Z Z Z (AW.sr (AR.step Z Z Z (AO.fF Z Z (AR.nil [0] Z ?_)))); refine AW.seq (AW.sr (cs 1 Z (AR.step Z Z Z (AO.iK Z Z F5 (fun b hb=>?_))))); refine AR.nil [0,4] Z (AW.cond Z (fun h1=>?_) (fun h1=>?_))
 · obtain rfl:r0=[]:=List.map_eq_nil_iff.1 (hb h1); refine AW.sr (AR.step Z Z Z (AO.Cc Z Z (AR.nil [2] Z (AW.J2 3 161 ?_)))); refine AW.ret ?_; exact ⟨rfl,_,⟨_,_,rfl,rfl,rfl⟩,_,List.Sublist.refl _,h _⟩
 refine AW.skip (AW.sr (AR.step Z Z Z (AO.fE [] Z B_ Z Z Z Z Z (fun v1=>(cs 1 Z ?_))))); refine AR.step Z Z Z (AO.vT (i:=0) (l2:=List.map aj.cells r0) Z Z Z Z Z Z Z B_ pJ (fun y hy=>?_) (fun y hy=>?_) ?_ ?_ (fun v2 s1 hs1=>?_))
 · obtain ⟨s,_,rfl⟩:=List.mem_map.1 hy; exact hlen s
 · obtain ⟨s,_,rfl⟩:=List.mem_map.1 hy; exact hone s
 · rw [List.length_map]; unfold E9 at hl; unfold maxLen; omega
 · rw [List.length_map]; unfold E9 at hl; omega
 cases hs1; refine cs 1 Z (AR.nil [2] Z (AW.ret ?_)); have hv:=h v2; rw [List.flatMap_def,show r0.length=(List.map aj.cells r0).length from (List.length_map _).symm] at hv; exact ⟨rfl,_,⟨_,_,rfl,rfl,rfl⟩,_,List.Sublist.refl _,hv⟩
theorem fK (s1:List ah) {r0:List ah} (hf:bg s1=some r0) (h:Q (.ret (.list (List.map ah.cells r0))) τ):PC 110 [.list (List.map ah.cells s1)] τ Q:=by
 unfold bg at hf; refine BN 8 [.tmp 2] [0] Tryz.func110 Z Z Z Z Z (W 0 Z (AS Z (AO.fF Z Z (U 1 Z (AS Z (AO.iK Z Z F4 (fun b hb=>(J 0 Z (AW.cond Z (fun h1=>?_) (fun h1=>?_))))))))))
 · obtain rfl:s1=[]:=List.map_eq_nil_iff.1 (hb h1); obtain ⟨_,rfl⟩:=kD hf; refine W 0 Z (AS Z (AO.fF Z Z ?_)); exact N 0 rfl ⟨rfl,_,⟨_,_,rfl,rfl,rfl⟩,_,List.Sublist.refl _,h⟩
 refine W 0 Z (AS Z (AO.fE [] Z BZ Z Z Z Z Z (fun v1=>(U 1 Z (AS Z (AO.jW (i:=0) (l:=[]) (m:=s1) hf Z Z Z Z Z Z Z BZ vw Z Z Z (ah.bI) (ah.cells_one) (by decide) (fun v2 s2 hs2=>?_))))))); cases hs2; exact N 1 Z (Y Z h)
theorem lu (s1:List ah) {r0:List ah} (hf:bg s1=some r0) {Q:lK→List aM→Prop} (h:∀ v,Q (.ret (.val v)) [.buf v r0.length 3 203 (r0.flatMap ah.cells)]):PC 110 [.list (List.map ah.cells s1)] [] Q:=by
 unfold bg at hf; obtain ⟨hl,e0⟩:=kD hf; rw [List.nil_append] at e0; subst e0; simp only [List.length_nil,Nat.zero_add] at hl; have hlen:∀ x:ah,(ah.cells x).length=3:=fun _=>Z; have hone:∀ x:ah,(ah.cells x).all PV.one=true:=fun _=>Z; refine AC.yC 8 [.tmp 2] [0] Tryz.func110 Z Z Z Z Z (AW.sr (AR.step Z Z Z (AO.fF Z Z (AR.nil [0] Z ?_)))); refine AW.seq (AW.sr (cs 1 Z (AR.step Z Z Z (AO.iK Z Z F4 (fun b hb=>?_))))); refine AR.nil [0,4] Z (AW.cond Z (fun h1=>?_) (fun h1=>?_))
 · obtain rfl:r0=[]:=List.map_eq_nil_iff.1 (hb h1); refine AW.sr (AR.step Z Z Z (AO.Cc Z Z (AR.nil [2] Z (AW.J2 3 203 ?_)))); refine AW.ret ?_; exact ⟨rfl,_,⟨_,_,rfl,rfl,rfl⟩,_,List.Sublist.refl _,h _⟩
 refine AW.skip (AW.sr (AR.step Z Z Z (AO.fE [] Z BZ Z Z Z Z Z (fun v1=>(cs 1 Z ?_))))); refine AR.step Z Z Z (AO.vT (i:=0) (l2:=List.map ah.cells r0) Z Z Z Z Z Z Z BZ vw (fun y hy=>?_) (fun y hy=>?_) ?_ ?_ (fun v2 s1 hs1=>?_))
 · obtain ⟨s,_,rfl⟩:=List.mem_map.1 hy; exact hlen s
 · obtain ⟨s,_,rfl⟩:=List.mem_map.1 hy; exact hone s
 · rw [List.length_map]; unfold E9 at hl; unfold maxLen; omega
 · rw [List.length_map]; unfold E9 at hl; omega
 cases hs1; refine cs 1 Z (AR.nil [2] Z (AW.ret ?_)); have hv:=h v2; rw [List.flatMap_def,show r0.length=(List.map ah.cells r0).length from (List.length_map _).symm] at hv; exact ⟨rfl,_,⟨_,_,rfl,rfl,rfl⟩,_,List.Sublist.refl _,hv⟩
theorem vN (Fg:aJ) {r0:aJ} (hf:jH Fg=some r0) (h:Q (.ret (.agg (mZ r0))) τ):PC 67 [.agg (mZ Fg)] τ Q:=by
 unfold jH at hf; refine BN 16 [.cell 2 61] [0] Tryz.func67 Z Z Z Z Z (W 0 Z (AS Z (AO.tJ Z Z (fun b1=>(AS Z (AO.bX Z IG (fun b2=>(J 0 Z (AW.draw 10 mixed (by kernel_rfl) Z ?_))))))))); refine Ev.cs aZ 1 Z (Ev.cons Z Z Z (AO.dH (i:=1) Z Z Z F8 Z Z zg) ?_); refine B1 hf fun x1 h1 hf=>Ev.cons Z Z Z (AO.call Z _ Z Z Gb (d9 _ h1 zg)) (Ev.cs aZ 1 Z (Ev.cons Z Z Z (AO.dH (i:=1) Z Z Z F8 Z Z zg) ?_)); refine B1 hf fun x2 h2 hf=>Ev.cons Z Z Z (AO.call Z _ Z Z Gb (d9 _ h2 zg)) (Ev.cs aZ 1 Z (Ev.cons Z Z Z (AO.dH (i:=1) Z Z Z IX Z Z zg) ?_)); refine B1 hf fun x3 h3 hf=>Ev.cons Z Z Z (AO.call Z _ Z Z GH (fK _ h3 zg)) (Ev.cs aZ 1 Z (Ev.nil ?_)); show AR _ _ _ _ _ _ _ _; cases hf; exact Rx 7 [1,1,1,1,0] Z Z (ZC [0] Z Z h)
theorem sN (t1:aF) (bM:Int) {r0:au} {r1:Bool} (hf:iL t1 bM=some (r0,r1)) (h:Q (.ret (.tuple [.agg (lT r0),.bool r1])) τ):PC 31 [.agg (qM t1),iP bM] τ Q:=by
 unfold iL at hf; refine BN 73 [.cell 4 63,.tmp 5] [0,1] Tryz.func31 Z Z Z Z Z (W 1 Z (AS Z (AO.bX Z rZ (fun b4=>(U 6 Z (AS Z (AO.bX Z rZ (fun b6=>(Rr 8 [0] Z Z (AS Z (AO.fG Z Z Z Z nM Z ?_))))))))))); refine J 2 Z (C hf Z (fun h1 hf=>?_) fun h1 hf=>?_)
 ·
  refine W 2 Z (AS Z (AO.max2 Z Z Z Z Z (J 1 Z (AW.Gs 0 11 14 0 mixed (by kernel_rfl) (by kernel_rfl) (by kernel_rfl) Z Z Z Z ?_)))); refine Ev.nil ?_; show Ev _ _ _ _ _ _ _; refine Ev.cs aZ 5 Z (Ev.cons Z Z Z (AO.fG Z Z Z Z nM Z zg) (Ev.cs aZ 2 Z (Ev.cons Z Z Z (AO.min2 Z Z Z Z Z zg) ?_))); refine B1 hf fun x1 h2 hf=>Ev.cons Z Z Z (AO.DL h2 Z nM Z ⟨_,Z⟩ ⟨_,Z⟩ zg) (Ev.cs aZ 1 Z (Ev.nil (TF.jl Z Z (AO.jL (i:=0) Z Z Z z_ Z Z Z Z Z ?_)))); refine TF.step Z Z Z (AO.l6 Z Z Fz (TF.jl Z Z (AO.jL (i:=0) Z Z Z z_ Z Z Z Z Z (TF.nil ?_)))); show AR _ _ _ _ _ _ _ _; cases hf; exact Rx 5 [1,1,0] Z Z (ZC [0] Z Z h)
 refine V 5 Z (C hf Z (fun h3 hf=>?_) fun h3 hf=>?_)
 · cases hf; exact Wx 3 [1] Z Z (ZC [1] Z Z h)
 refine W 5 Z (AS Z (AO.aO (l:=t1.effect.saves) Z Z Z Z lg Z Z (J 2 Z (C hf Z (fun h4 hf=>?_) fun h4 hf=>?_))))
 ·
  refine AW.Gs 0 9 10 0 mixed (by kernel_rfl) (by kernel_rfl) (by kernel_rfl) Z Z Z Z ?_; refine Ev.nil ?_; show Ev _ _ _ _ _ _ _; refine Ev.cs aZ 5 Z (Ev.cons Z Z Z (AO.max2 Z Z Z Z Z zg) ?_); refine B1 hf fun e1 h5 hf=>Ev.cons Z Z Z (AO.bC h5 Z Z Z Z lg (av.ay _) Z zg) (Ev.cs aZ 2 Z (Ev.nil (TF.jl Z Z (AO.jL (i:=0) Z Z Z z_ Z Z Z Z Z ?_)))); refine TF.nil ?_; show AR _ _ _ _ _ _ _ _; cases hf; exact Rx 5 [1,1,0] Z Z (ZC [0] Z Z h)
 refine W 1 Z (AS Z (AO.fG Z Z Z Z nM Z ?_)); refine B1 hf fun x2 h6 hf=>U 3 Z (CL Z (vN _ h6 ?_)); cases hf; exact Rx 9 [0,0,0,0,1] Z Z (ZC [1] Z Z h)
theorem rX (a1:aH) (bM:Int) {r0:List au} (hf:iI a1 bM=some r0) (h:Q (.ret (.list (List.map au.cells r0))) τ):PC 12 [.agg (bY a1),iP bM] τ Q:=by
 unfold iI at hf; refine BN 67 [.tmp 4] [0,1] Tryz.func12 Z Z Z Z Z (W 1 Z (AS Z (AO.fF Z Z (J 4 Z (C hf Z (fun h1 hf=>?_) fun h1 hf=>?_)))))
 · refine W 0 Z (AS Z (AO.fF Z Z ?_)); cases hf; exact N 0 Z (Y Z h)
 refine V 4 Z (C hf Z (fun h2 hf=>?_) fun h2 hf=>?_)
 ·
  refine W 2 Z (AS Z (AO.bX Z II (fun b5=>(Rw 1 [0] Z Z (AW.draw 7 mixed (by kernel_rfl) Z ?_))))); refine Ev.cs aZ 1 Z (Ev.cons Z Z Z (AO.dH (i:=0) Z Z Z DF Z Z zg) ?_); refine B1 hf fun x1 h3 hf=>Ev.cons Z Z Z (AO.call Z _ Z Z Jf (jT _ h3 zg)) (Ev.cs aZ 1 Z (Ev.cons Z Z Z (AO.dH (i:=0) Z Z Z IY Z Z zg) ?_)); refine B1 hf fun x2 h4 hf=>Ev.cons Z Z Z (AO.call Z _ Z Z Ja (l7 _ h4 zg)) (Ev.cs aZ 1 Z (Ev.nil ?_)); show AR _ _ _ _ _ _ _ _; refine Rr 5 [0,0,0] rfl rfl (AS rfl (AO.gy (List.map au.cells [(au.mk 3 ([]:Str) (aK.mk ([]:Str) ([]:Str)) 0 0 0 ([]:Str) (aG.mk ([]:Str) ([]:Str) false) [] (aI.mk a1.worker.iD x1 a1.worker.trust a1.worker.slots a1.worker.cu a1.worker.phase a1.worker.gu a1.worker.bR x2) (ak.mk ([]:Str) ([]:Str) 0 [] []) (av.mk (aT.mk ([]:Str) 0 ([]:Str)) ([]:Str) 0 0 0 0) (aJ.mk 0 0 [] [] [] ([]:Str)))]) rfl lQ rfl rfl rfl (by first | rfl | simp only [List.map,au.ay]) ?_)); cases hf
  exact N 1 Z (Y Z h)
 refine V 5 Z (C hf Z (fun h5 hf=>?_) fun h5 hf=>?_)
 ·
  refine W 5 rfl (AS rfl (AO.gy (List.map au.cells [(au.mk 6 a1.worker.iD (aK.mk ([]:Str) ([]:Str)) 0 0 0 ([]:Str) (aG.mk ([]:Str) ([]:Str) false) [] (aI.mk ([]:Str) [] 0 0 false 0 0 0 []) (ak.mk ([]:Str) ([]:Str) 0 [] []) (av.mk (aT.mk ([]:Str) 0 ([]:Str)) ([]:Str) 0 0 0 0) (aJ.mk 0 0 [] [] [] ([]:Str)))]) rfl lQ rfl rfl rfl (by first | rfl | simp only [List.map,au.ay]) ?_)); refine AR.row 40 63 ?_; refine B1 hf fun Br h6 hf=>?_
  refine AS Z (AO.jW (i:=0) (l:=[]) (m:=[(au.mk 6 a1.worker.iD (aK.mk ([]:Str) ([]:Str)) 0 0 0 ([]:Str) (aG.mk ([]:Str) ([]:Str) false) [] (aI.mk ([]:Str) [] 0 0 false 0 0 0 []) (ak.mk ([]:Str) ([]:Str) 0 [] []) (av.mk (aT.mk ([]:Str) 0 ([]:Str)) ([]:Str) 0 0 0 0) (aJ.mk 0 0 [] [] [] ([]:Str)))]) h6 Z Z Z Z Z Z Z lQ oz Z Z Z (au.bI) (au.cells_one) (by decide) (fun v1 s1 hs1=>?_)); cases hs1; refine U 3 Z (AS Z (AO.aO (l:=a1.tasks) Z Z Z Z kr Z Z ?_)); refine J 1 Z (Kj (fun kG v2 x3=>[(1,iP bM),(2,.ref (bY a1)),(6,.own v2 (List.map au.cells kG)),(44,.list (List.map aF.cells a1.tasks)),(45,iP (a1.tasks.length:Int)),(46,iP x3)]) (fun kG v2 x3=>[.row v2 (List.map au.cells kG).length 40 63]) (fun eY kG v2 x3=>dR a1 bM eY kG x3=some r0) BIG Br v1 0 Z Z hf (fun _ _ _ hz=>dN hz) ?_); intro eY kG v2 x3 hf; rw [dR] at hf; refine V 1 Z (C hf Z (fun h7 hf=>?_) fun h7 hf=>?_)
  ·
   refine B1 hf fun e1 h8 hf=>W 0 Z (AS Z (AO.bC h8 Z Z Z Z kr (aF.ay _) Z (U 1 Z (AS Z (AO.bX Z Bd (fun b8=>?_)))))); obtain ⟨x4,ok1,h9,hf⟩:=o8 hf; refine Rr 3 [0,0] Z Z (CL Z (sN _ _ h9 (U 3 Z (AS Z (AO.bX Z rZ (fun b9=>(Rw 3 [0] Z Z (C hf Z (fun h10 hf=>?_) fun h10 hf=>?_))))))))
   ·
    refine Wr 7 [0,0] rfl rfl (AS rfl (AO.gy (List.map au.cells [(au.mk x4.kind a1.worker.iD x4.ref x4.n x4.token x4.bU x4.text x4.origin x4.args x4.worker x4.secret x4.entry x4.result)]) rfl lQ rfl rfl rfl (by first | rfl | simp only [List.map,au.ay]) ?_)); refine B1 hf fun Bq h11 hf=>AS Z (AO.jW (i:=2) (l:=kG) (m:=[(au.mk x4.kind a1.worker.iD x4.ref x4.n x4.token x4.bU x4.text x4.origin x4.args x4.worker x4.secret x4.entry x4.result)]) h11 Z Z Z Z Z Z Z lQ oz Z Z Z (au.bI) (au.cells_one) (by decide) (fun v3 s2 hs2=>?_))
    cases hs2; refine eG 3 Z (AR.drop1 (AR.drop1 ?_)); exact N 0 Z ⟨Bq,v3,(fU (x3 + 1)),Z,Z,Z,hf⟩
   refine Iz 2 Z (AR.drop1 (AR.drop1 ?_)); exact N 0 Z ⟨kG,v2,(fU (x3 + 1)),Z,Z,Z,hf⟩
  cases hf; exact M 2 Z (Y Z h)
 refine W 2 Z (AS Z (AO.aO (l:=a1.tasks) Z Z Z Z kr Z Z ?_)); refine J 1 Z (AW.row 40 63 (Kj (fun kF v4 x5=>[(1,iP bM),(2,.ref (bY a1)),(6,.own v4 (List.map au.cells kF)),(44,.list (List.map aF.cells a1.tasks)),(45,iP (a1.tasks.length:Int)),(46,iP x5)]) (fun kF v4 x5=>[.row v4 (List.map au.cells kF).length 40 63]) (fun wo kF v4 x5=>dQ a1 bM wo kF x5=some r0) BIG [] (.slice none 0 0) 0 Z Z hf (fun _ _ _ hz=>dN hz) ?_)); intro wo kF v4 x5 hf; rw [dQ] at hf; refine V 1 Z (C hf Z (fun h12 hf=>?_) fun h12 hf=>?_)
 ·
  refine B1 hf fun e2 lJ hf=>W 0 Z (AS Z (AO.bC lJ Z Z Z Z kr (aF.ay _) Z (U 1 Z (AS Z (AO.bX Z Bd (fun MI=>?_)))))); obtain ⟨x6,JD,m_,hf⟩:=o8 hf; refine Rr 3 [0,0] Z Z (CL Z (sN _ _ m_ (U 3 Z (AS Z (AO.bX Z rZ (fun MH=>(Rw 3 [0] Z Z (C hf Z (fun sI hf=>?_) fun sI hf=>?_))))))))
  ·
   refine Wr 7 [0,0] rfl rfl (AS rfl (AO.gy (List.map au.cells [(au.mk x6.kind a1.worker.iD x6.ref x6.n x6.token x6.bU x6.text x6.origin x6.args x6.worker x6.secret x6.entry x6.result)]) rfl lQ rfl rfl rfl (by first | rfl | simp only [List.map,au.ay]) ?_)); refine B1 hf fun Bp h16 hf=>AS Z (AO.jW (i:=2) (l:=kF) (m:=[(au.mk x6.kind a1.worker.iD x6.ref x6.n x6.token x6.bU x6.text x6.origin x6.args x6.worker x6.secret x6.entry x6.result)]) h16 Z Z Z Z Z Z Z lQ oz Z Z Z (au.bI) (au.cells_one) (by decide) (fun v5 s3 hs3=>?_))
   cases hs3; refine eG 3 Z (AR.drop1 (AR.drop1 ?_)); exact N 0 Z ⟨Bp,v5,(fU (x5 + 1)),Z,Z,Z,hf⟩
  refine Iz 2 Z (AR.drop1 (AR.drop1 ?_)); exact N 0 Z ⟨kF,v4,(fU (x5 + 1)),Z,Z,Z,hf⟩
 cases hf; exact M 2 Z (Y Z h)
theorem w_ (t1:aF) (id1:Str) (bM:Int) {r0:au} {r1:Bool} (hf:kH t1 id1 bM=some (r0,r1)) (h:Q (.ret (.tuple [.agg (lT r0),.bool r1])) τ):PC 32 [.agg (qM t1),.str id1,iP bM] τ Q:=by
 unfold kH at hf; refine BN 71 [.cell 6 63,.tmp 7] [0,1,2] Tryz.func32 Z Z Z Z Z (W 1 Z (AS Z (AO.bX Z rZ (fun b6=>(U 7 Z (AS Z (AO.bX Z rZ (fun b8=>(Rr 4 [0] Z Z (AS Z (AO.fG Z Z Z Z nM Z ?_))))))))))); refine J 5 Z (C hf Z (fun h1 hf=>?_) fun h1 hf=>?_)
 · refine Wr 15 [0,0] Z Z (AS Z (AO.min2 Z Z Z Z Z ?_)); refine B1 hf fun x1 h2 hf=>AS Z (AO.DL h2 Z nM Z ⟨_,Z⟩ ⟨_,Z⟩ ?_); cases hf; exact Rx 5 [0,0,1] Z Z (ZC [1] Z Z h)
 refine V 4 Z (C hf Z (fun h3 hf=>?_) fun h3 hf=>?_)
 · cases hf; exact Wx 3 [1] Z Z (ZC [1] Z Z h)
 refine W 5 Z (AS Z (AO.aO (l:=t1.effect.saves) Z Z Z Z lg Z Z (J 1 Z (C hf Z (fun h4 hf=>?_) fun h4 hf=>?_))))
 · refine B1 hf fun e1 h5 hf=>Wr 7 [0] Z Z (AS Z (AO.bC h5 Z Z Z Z lg (av.ay _) Z ?_)); cases hf; exact Rx 6 [0,0,1] Z Z (ZC [1] Z Z h)
 cases hf; exact Wx 13 [0,0,0,0,1] Z Z (ZC [1] Z Z h)
theorem vJ (a1:aH) (bM:Int) {r0:List au} (hf:jC a1 bM=some r0) (h:Q (.ret (.list (List.map au.cells r0))) τ):PC 13 [.agg (bY a1),iP bM] τ Q:=by
 unfold jC at hf; refine BN 56 [.tmp 4] [0,1] Tryz.func13 Z Z Z Z Z (W 1 Z (AS Z (AO.fF Z Z (J 3 Z (C hf Z (fun h1 hf=>?_) fun h1 hf=>?_)))))
 · refine W 0 Z (AS Z (AO.fF Z Z ?_)); cases hf; exact N 0 Z (Y Z h)
 refine V 3 Z (C hf Z (fun h2 hf=>?_) fun h2 hf=>?_)
 · refine W 3 rfl (AS rfl (AO.gy (List.map au.cells [(au.mk 3 ([]:Str) (aK.mk ([]:Str) ([]:Str)) 0 0 0 ([]:Str) (aG.mk ([]:Str) ([]:Str) false) [] a1.worker (ak.mk ([]:Str) ([]:Str) 0 [] []) (av.mk (aT.mk ([]:Str) 0 ([]:Str)) ([]:Str) 0 0 0 0) (aJ.mk 0 0 [] [] [] ([]:Str)))]) rfl lQ rfl rfl rfl (by first | rfl | simp only [List.map,au.ay]) ?_)); cases hf; exact N 1 Z (Y Z h)
 refine V 5 Z (C hf Z (fun h3 hf=>?_) fun h3 hf=>?_)
 ·
  refine W 5 rfl (AS rfl (AO.gy (List.map au.cells [(au.mk 6 a1.worker.iD (aK.mk ([]:Str) ([]:Str)) 0 0 0 ([]:Str) (aG.mk ([]:Str) ([]:Str) false) [] (aI.mk ([]:Str) [] 0 0 false 0 0 0 []) (ak.mk ([]:Str) ([]:Str) 0 [] []) (av.mk (aT.mk ([]:Str) 0 ([]:Str)) ([]:Str) 0 0 0 0) (aJ.mk 0 0 [] [] [] ([]:Str)))]) rfl lQ rfl rfl rfl (by first | rfl | simp only [List.map,au.ay]) ?_)); refine AR.row 40 63 ?_; refine B1 hf fun Br h4 hf=>?_
  refine AS Z (AO.jW (i:=0) (l:=[]) (m:=[(au.mk 6 a1.worker.iD (aK.mk ([]:Str) ([]:Str)) 0 0 0 ([]:Str) (aG.mk ([]:Str) ([]:Str) false) [] (aI.mk ([]:Str) [] 0 0 false 0 0 0 []) (ak.mk ([]:Str) ([]:Str) 0 [] []) (av.mk (aT.mk ([]:Str) 0 ([]:Str)) ([]:Str) 0 0 0 0) (aJ.mk 0 0 [] [] [] ([]:Str)))]) h4 Z Z Z Z Z Z Z lQ oz Z Z Z (au.bI) (au.cells_one) (by decide) (fun v1 s1 hs1=>?_)); cases hs1; refine J 2 Z (Kj (fun kG v2 i1=>[(1,iP bM),(2,.ref (bY a1)),(5,.own v2 (List.map au.cells kG)),(6,iP i1)]) (fun kG v2 i1=>[.row v2 (List.map au.cells kG).length 40 63]) (fun eY kG v2 i1=>eP a1 bM eY kG i1=some r0) BIG Br v1 0 Z Z hf (fun _ _ _ hz=>dN hz) ?_); intro eY kG v2 i1 hf; rw [eP] at hf; refine W 3 Z (AS Z (AO.aO (l:=a1.tasks) Z Z Z Z kr Z Z (J 1 Z (C hf Z (fun h5 hf=>?_) fun h5 hf=>?_))))
  ·
   refine V 0 Z (AW.AJ 0 13 15 [_] [] mixed (by kernel_rfl) (by kernel_rfl) (by kernel_rfl) Z Z Z (List.Perm.refl _) ?_); refine Ev.nil ?_; show Ev _ _ _ _ _ _ _; refine Ev.cs aZ 3 Z ?_; refine B1 hf fun e1 h6 hf=>Ev.cons Z Z Z (AO.bC h6 Z Z Z Z kr (aF.ay _) Z zg) (Ev.cs aZ 5 Z ?_); obtain ⟨x1,ok1,h7,hf⟩:=o8 hf; refine Ev.cons Z Z Z (AO.call Z _ Z Z Gf (w_ _ _ _ h7 zg)) (Ev.cs aZ 3 Z (Ev.nil (TF.step Z Z Z (AO.bX Z rZ (fun b7=>?_))))); refine TF.jl Z Z (AO.jL (i:=0) Z Z Z F7 Z Z Z Z Z (TF.nil ?_)); show AR _ _ _ _ _ _ _ _; refine J 2 Z (C hf Z (fun h8 hf=>?_) fun h8 hf=>?_)
   · refine Wr 2 [1] rfl rfl (AS rfl (AO.gy (List.map au.cells [x1]) rfl lQ rfl rfl rfl (by first | rfl | simp only [List.map,au.ay]) ?_)); refine B1 hf fun Bq h9 hf=>AS Z (AO.jW (i:=0) (l:=kG) (m:=[x1]) h9 Z Z Z Z Z Z Z lQ oz Z Z Z (au.bI) (au.cells_one) (by decide) (fun v3 s2 hs2=>?_)); cases hs2; refine eG 4 Z (AR.vD 1 Z ?_); exact N 0 Z ⟨Bq,v3,(fU (i1 + 1)),Z,Z,Z,hf⟩
   refine Iz 3 Z (AR.vD 1 Z ?_); exact N 0 Z ⟨kG,v2,(fU (i1 + 1)),Z,Z,Z,hf⟩
  cases hf; exact M 2 Z (Y Z h)
 refine V 1 Z (AW.row 40 63 (Kj (fun kF v4 i2=>[(1,iP bM),(2,.ref (bY a1)),(5,.own v4 (List.map au.cells kF)),(6,iP i2)]) (fun kF v4 i2=>[.row v4 (List.map au.cells kF).length 40 63]) (fun wo kF v4 i2=>eO a1 bM wo kF i2=some r0) BIG [] (.slice none 0 0) 0 Z Z hf (fun _ _ _ hz=>dN hz) ?_)); intro wo kF v4 i2 hf; rw [eO] at hf; refine W 3 Z (AS Z (AO.aO (l:=a1.tasks) Z Z Z Z kr Z Z (J 1 Z (C hf Z (fun h10 hf=>?_) fun h10 hf=>?_))))
 ·
  refine V 0 Z (AW.AJ 0 13 15 [_] [] mixed (by kernel_rfl) (by kernel_rfl) (by kernel_rfl) Z Z Z (List.Perm.refl _) ?_); refine Ev.nil ?_; show Ev _ _ _ _ _ _ _; refine Ev.cs aZ 3 Z ?_; refine B1 hf fun e2 h11 hf=>Ev.cons Z Z Z (AO.bC h11 Z Z Z Z kr (aF.ay _) Z zg) (Ev.cs aZ 5 Z ?_); obtain ⟨x2,JD,h12,hf⟩:=o8 hf; refine Ev.cons Z Z Z (AO.call Z _ Z Z Gf (w_ _ _ _ h12 zg)) (Ev.cs aZ 3 Z (Ev.nil (TF.step Z Z Z (AO.bX Z rZ (fun MJ=>?_))))); refine TF.jl Z Z (AO.jL (i:=0) Z Z Z F7 Z Z Z Z Z (TF.nil ?_)); show AR _ _ _ _ _ _ _ _; refine J 2 Z (C hf Z (fun lJ hf=>?_) fun lJ hf=>?_)
  · refine Wr 2 [1] rfl rfl (AS rfl (AO.gy (List.map au.cells [x2]) rfl lQ rfl rfl rfl (by first | rfl | simp only [List.map,au.ay]) ?_)); refine B1 hf fun Bp m_ hf=>AS Z (AO.jW (i:=0) (l:=kF) (m:=[x2]) m_ Z Z Z Z Z Z Z lQ oz Z Z Z (au.bI) (au.cells_one) (by decide) (fun v5 s3 hs3=>?_)); cases hs3; refine eG 4 Z (AR.vD 1 Z ?_); exact N 0 Z ⟨Bp,v5,(fU (i2 + 1)),Z,Z,Z,hf⟩
  refine Iz 3 Z (AR.vD 1 Z ?_); exact N 0 Z ⟨kF,v4,(fU (i2 + 1)),Z,Z,Z,hf⟩
 cases hf; exact M 2 Z (Y Z h)
theorem wC (a1:au) (b1:au) {r0:Bool} (hf:j4 a1 b1=some r0) (h:Q (.ret (.bool r0)) τ):PC 29 [.agg (lT a1),.agg (lT b1)] τ Q:=by
 unfold j4 at hf; refine BN 96 [.tmp 4] [0,1] Tryz.func29 Z Z Z Z Z (W 9 Z (An 6 10 16 [2,3] (a1.name == b1.name) Z Z Z Z (U 1 Z (AR.and 6 17 23 [2,3] (x:=(aK.oC a1.ref b1.ref)) Z Z (fun h2=>?_) (fun h2=>?_) ?_))))
 · refine Is 17 h2 Z (U 4 Z (GO Z (AO.jG Z JX Z Z (Hl a1.ref b1.ref) Z ?_))); exact eG 1 Z (En [23,2,3] Z)
 · refine Is 17 h2 Z ?_; exact eG 6 Z (En [23,2,3] Z)
 refine U 1 Z (An 6 24 30 [2,3] (a1.n == b1.n) Z Z Z Z (U 1 Z (An 6 31 37 [2,3] (a1.token == b1.token) Z Z Z Z (U 1 Z (An 6 38 44 [2,3] (a1.bU == b1.bU) Z Z Z Z (U 1 Z (An 6 45 51 [2,3] (a1.text == b1.text) Z Z Z Z ?_))))))); refine U 1 Z (AR.and 6 52 58 [2,3] (x:=(aG.oC a1.origin b1.origin)) Z Z (fun h7=>?_) (fun h7=>?_) ?_)
 · refine Is 52 h7 Z (U 4 Z (GO Z (AO.jG Z Gp Z Z (Es a1.origin b1.origin) Z ?_))); exact eG 1 Z (En [58,2,3] Z)
 · refine Is 52 h7 Z ?_; exact eG 6 Z (En [58,2,3] Z)
 refine U 1 Z (AR.and 8 59 67 [2,3] (x:=((a1.args.length:Int) == (b1.args.length:Int))) Z Z (fun h8=>?_) (fun h8=>?_) ?_)
 · refine Is 59 h8 Z (U 2 Z (GO Z (AO.aO (l:=a1.args) Z Z Z Z Ep Z Z (U 2 Z (GO Z (AO.aO (l:=b1.args) Z Z Z Z Ep Z Z ?_)))))); exact eG 2 Z (En [67,2,3] Z)
 · refine Is 59 h8 Z ?_; exact eG 8 Z (En [67,2,3] Z)
 refine B1 hf fun b2 h10 hf=>U 1 Z (AR.dO 6 68 74 true [2,3] b2 Z Z (fun h9=>?_) (fun h9=>?_) ?_)
 · refine IT 68 h9 h10 Z fun h10=>?_; refine BR h10 fun x1 h11 h10=>?_; refine U 4 Z (GO Z (AO.call Z _ Z Z Je (vM _ _ h11 ?_))); cases h10; exact eG 1 Z (En [74,2,3] Z)
 · refine IF 68 h9 h10 Z fun h10=>?_; cases h10; exact eG 6 Z (En [74,2,3] Z)
 refine B1 hf fun b3 lJ hf=>U 1 Z (AR.dO 6 75 81 true [2,3] b3 Z Z (fun h12=>?_) (fun h12=>?_) ?_)
 · refine IT 75 h12 lJ Z fun lJ=>?_; refine BR lJ fun x2 m_ lJ=>?_; refine U 4 Z (GO Z (AO.call Z _ Z Z Gd (sM _ _ m_ ?_))); cases lJ; exact eG 1 Z (En [81,2,3] Z)
 · refine IF 75 h12 lJ Z fun lJ=>?_; cases lJ; exact eG 6 Z (En [81,2,3] Z)
 refine U 1 Z (AR.and 6 82 88 [2,3] (x:=(av.oC a1.entry b1.entry)) Z Z (fun sI=>?_) (fun sI=>?_) ?_)
 · refine Is 82 sI Z (U 4 Z (GO Z (AO.jG Z Gn Z Z (Er a1.entry b1.entry) Z ?_))); exact eG 1 Z (En [88,2,3] Z)
 · refine Is 82 sI Z ?_; exact eG 6 Z (En [88,2,3] Z)
 refine BR hf fun b4 qo hf=>?_; refine U 1 Z (AR.dO 6 89 95 true [] b4 Z Z (fun h16=>?_) (fun h16=>?_) ?_)
 · refine IT 89 h16 qo Z fun qo=>?_; refine BR qo fun x3 h18 qo=>?_; refine U 4 Z (GO Z (AO.call Z _ Z Z Gc (pK _ _ h18 ?_))); cases qo; exact eG 1 Z (En [95] Z)
 · refine IF 89 h16 qo Z fun qo=>?_; cases qo; exact eG 6 Z (En [95] Z)
 cases hf; exact N 1 Z (Y Z h)
theorem AQ (a1:List au) (b1:List au) {r0:Bool} (hf:mE a1 b1=some r0) (h:Q (.ret (.bool r0)) τ):PC 11 [.list (List.map au.cells a1),.list (List.map au.cells b1)] τ Q:=by
 unfold mE at hf; refine BN 27 [.tmp 4] [0,1] Tryz.func11 Z Z Z Z Z (W 2 Z (AS Z (AO.aO (l:=a1) Z Z Z Z oz Z Z (U 1 Z (AS Z (AO.aO (l:=b1) Z Z Z Z oz Z Z (J 1 Z (C hf Z (fun h1 hf=>?_) fun h1 hf=>?_))))))))
 · cases hf; exact M 1 Z (Y Z h)
 refine V 1 Z (yZ (fun i1=>[(0,.list (List.map au.cells a1)),(1,.list (List.map au.cells b1)),(5,iP i1)]) (fun i1=>[]) (fun eY i1=>gF a1 b1 eY i1=some r0) BIG 0 Z Z hf (fun _ hz=>dN hz) ?_); intro eY i1 hf; rw [gF] at hf; refine W 2 Z (AS Z (AO.aO (l:=a1) Z Z Z Z oz Z Z (J 1 Z (C hf Z (fun h2 hf=>?_) fun h2 hf=>?_))))
 ·
  refine V 0 Z (AW.draw 10 mixed (by kernel_rfl) Z ?_); refine Ev.cs aZ 2 Z ?_; refine B1 hf fun e1 h3 hf=>Ev.cons Z Z Z (AO.bC h3 Z Z Z Z oz (au.ay _) Z zg) (Ev.cs aZ 3 Z ?_); refine B1 hf fun e2 h4 hf=>Ev.cons Z Z Z (AO.bC h4 Z Z Z Z oz (au.ay _) Z zg) (Ev.cs aZ 1 Z ?_); refine B1 hf fun x1 h5 hf=>Ev.cons Z Z Z (AO.call Z _ Z Z Jb (wC _ _ h5 zg)) (Ev.cs aZ 1 Z (Ev.nil ?_)); show AR _ _ _ _ _ _ _ _; refine J 0 Z (C hf Z (fun h6 hf=>?_) fun h6 hf=>?_)
  · cases hf; exact M 1 Z (Y Z h)
  exact M 3 Z ⟨(fU (i1 + 1)),Z,Z,Z,hf⟩
 cases hf; exact M 1 Z (Y Z h)
theorem pF (a1:aH) (bM:Int) {r0:Bool} (hf:gY a1 bM=some r0) (h:Q (.ret (.bool r0)) τ):PC 4 [.agg (bY a1),iP bM] τ Q:=by
 unfold gY at hf; refine BN 19 [.tmp 4] [0,1] Tryz.func4 Z Z Z Z Z ?_; refine B1 hf fun x1 h1 hf=>W 3 Z (CL Z (sJ _ h1 (J 1 Z (C hf Z (fun h2 hf=>?_) fun h2 hf=>?_))))
 · refine BR hf fun x2 h3 hf=>?_; refine W 0 Z (CL Z (lW  h3 ?_)); cases hf; exact N 1 Z (Y Z h)
 refine V 0 Z (AW.draw 11 mixed (by kernel_rfl) Z ?_); refine Ev.cs aZ 2 Z ?_; refine B1 hf fun x3 h4 hf=>Ev.cons Z Z Z (AO.call Z _ Z Z Jl (rX _ _ h4 zg)) (Ev.cs aZ 2 Z ?_); refine B1 hf fun x4 h5 hf=>Ev.cons Z Z Z (AO.call Z _ Z Z Jk (vJ _ _ h5 zg)) ?_; refine B1 hf fun x5 h6 hf=>Ev.cons Z Z Z (AO.call Z _ Z Z Jm (AQ _ _ h6 zg)) (Ev.cs aZ 1 Z ?_); refine BR hf fun b1 h8 hf=>?_; refine Ev.dO EZ 2 16 18 true [] (.bool b1) Z Z (fun h7=>?_) (fun h7=>?_) ?_
 · replace h8:=uU h7 h8; refine Ev.is uX 16 h7 Z ?_; refine BR h8 fun x6 h9 h8=>?_; refine Ev.run Z Z Z Z Z Z Z (AO.call Z _ Z Z I_ (lW  h9 zg)) ?_; cases h8; refine Ev.cs aZ 1 Z ?_; exact Ev.nil (Less.settle (ps:=[18]) Z)
 · replace h8:=sH h7 h8; refine Ev.is uX 16 h7 Z ?_; cases h8; refine Ev.cs aZ 2 Z ?_; exact Ev.nil (Less.settle (ps:=[18]) Z)
 refine Ev.cs aZ 1 Z (Ev.nil ?_); show AR _ _ _ _ _ _ _ _; cases hf; exact N 0 Z (Y Z h)
end Go.Proofs.YtdgljcpjcgldfaaGreatDoor
