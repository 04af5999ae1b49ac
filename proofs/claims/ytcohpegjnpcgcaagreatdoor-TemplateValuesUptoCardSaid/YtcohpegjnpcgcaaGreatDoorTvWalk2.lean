/- Proved here: each function does what its functional text says (part 2). -/
import Derived.Test.YtcohpegjnpcgcaaGreatDoorTvWalk1
set_option linter.unusedVariables false
set_option linter.unusedSimpArgs false
set_option linter.unusedSectionVars false
namespace Go.Proofs.YtcohpegjnpcgcaaGreatDoor
open Go Go.Abs Go.Ft
set_option maxRecDepth 20000
attribute [local irreducible] AO AR AW AC
variable [iJ]
variable {τ : List bf} {Q : dx → List bf → Prop}
theorem Tt (dL:List aA) (i1:Int) {r0:Int} (hf:IE dL i1=some r0) (h:Q (.ret (iP r0)) τ):PC 248 [.list (List.map aA.cells dL),iP i1] τ Q:=by
 unfold IE at hf; refine BN 36 [.tmp 4] [0,1] Tryz.func248 Z Z Z Z Z ?_; refine B1 hf fun e1 h1 hf=>W 3 Z (AS Z (AO.aP h1 Z Z Z Z wC (aA.aD _) Z (U 1 Z (AS Z (AO.aC Z Qb (fun b5=>(Rr 3 [0,0] Z Z (AS Z (AO.cK Z Z Z Z dR Z (U 2 Z (AR.or 5 15 20 [0,1,5] (x:=(decide (64 < (e1.name.length:Int)))) Z Z (fun h2=>?_) (fun h2=>?_) ?_)))))))))))
 · refine Is 15 h2 Z (U 1 Z (GO Z (AO.aR (i:=0) Z Z Z Qw Z Z (GO Z (AO.cK Z Z Z Z dR Z ?_))))); exact fI 2 Z (En [20,0,1,5] Z)
 · refine Is 15 h2 Z ?_; exact fI 5 Z (En [20,0,1,5] Z)
 refine J 0 Z (C hf Z (fun h3 hf=>?_) fun h3 hf=>?_)
 · cases hf; exact M 1 Z (Y Z h)
 refine B1 hf fun e2 h4 hf=>Wr 2 [0] Z Z (CL Z (pU _ h4 (J 3 Z (C hf Z (fun h5 hf=>?_) fun h5 hf=>?_))))
 · cases hf; exact M 2 Z (Y Z h)
 refine B1 hf fun x1 h6 hf=>Wr 2 [0] Z Z (CL Z (RV _ h6 (J 1 Z (C hf Z (fun h7 hf=>?_) fun h7 hf=>?_))))
 · cases hf; exact M 1 Z (Y Z h)
 refine B1 hf fun x2 h8 hf=>W 2 Z (AS Z (AO.YU h8 Z wC Z Z Z (aA.bG) Z ⟨_,Z⟩ (AR.OH 5 0 Z Z Z Z ?_))); refine B1 hf fun x3 h9 hf=>U 1 Z (CL Z (vB _ (fun z0=>Bc z0 e1) 276 [.ref (Bl e1)] aey (fun _ _ hz=>PG _ _ hz) h9 (J 0 Z (C hf Z (fun h10 hf=>?_) fun h10 hf=>?_))))
 · cases hf; exact M 1 Z (Y Z h)
 cases hf; exact M 1 Z (Y Z h)
theorem Ni (s1:List aA) {r0:List aA} (hf:gH s1=some r0) (h:Q (.ret (.list (List.map aA.cells r0))) τ):PC 249 [.list (List.map aA.cells s1)] τ Q:=by
 unfold gH at hf; refine BN 8 [.tmp 2] [0] Tryz.func249 Z Z Z Z Z (W 0 Z (AS Z (AO.eO Z Z (U 1 Z (AS Z (AO.iG Z Z aaU (fun b hb=>(J 0 Z (AW.cond Z (fun h1=>?_) (fun h1=>?_))))))))))
 · obtain rfl:s1=[]:=List.map_eq_nil_iff.1 (hb h1); obtain ⟨_,rfl⟩:=kF hf; refine W 0 Z (AS Z (AO.eO Z Z ?_)); exact N 0 rfl ⟨rfl,_,⟨_,_,rfl,rfl,rfl⟩,_,List.Sublist.refl _,h⟩
 refine W 0 Z (AS Z (AO.fO [] Z DC Z Z Z Z Z (fun v1=>(U 1 Z (AS Z (AO.eZ (i:=0) (l:=[]) (m:=s1) hf Z Z Z Z Z Z Z DC wC Z Z Z (aA.bG) (aA.cells_one) (by decide) (fun v2 s2 hs2=>?_))))))); cases hs2; exact N 1 Z (Y Z h)
theorem xI (s1:List aA) {r0:List aA} (hf:gH s1=some r0) {Q:dx→List bf→Prop} (h:∀ v,Q (.ret (.val v)) [.buf v r0.length 7 54 (r0.flatMap aA.cells)]):PC 249 [.list (List.map aA.cells s1)] [] Q:=by
 unfold gH at hf; obtain ⟨hl,e0⟩:=kF hf; rw [List.nil_append] at e0; subst e0; simp only [List.length_nil,Nat.zero_add] at hl; have hlen:∀ x:aA,(aA.cells x).length=7:=fun _=>Z; have hone:∀ x:aA,(aA.cells x).all PV.one=true:=fun _=>Z; refine AC.jX 8 [.tmp 2] [0] Tryz.func249 Z Z Z Z Z (AW.sr (AR.step Z Z Z (AO.eO Z Z (AR.nil [0] Z ?_)))); refine AW.seq (AW.sr (cs 1 Z (AR.step Z Z Z (AO.iG Z Z aaU (fun b hb=>?_))))); refine AR.nil [0,4] Z (AW.cond Z (fun h1=>?_) (fun h1=>?_))
 · obtain rfl:r0=[]:=List.map_eq_nil_iff.1 (hb h1); refine AW.sr (AR.step Z Z Z (AO.zM Z Z (AR.nil [2] Z (AW.TS 7 54 ?_)))); refine AW.ret ?_; exact ⟨rfl,_,⟨_,_,rfl,rfl,rfl⟩,_,List.Sublist.refl _,h _⟩
 refine AW.skip (AW.sr (AR.step Z Z Z (AO.fO [] Z DC Z Z Z Z Z (fun v1=>(cs 1 Z ?_))))); refine AR.step Z Z Z (AO.Bb (i:=0) (l2:=List.map aA.cells r0) Z Z Z Z Z Z Z DC wC (fun y hy=>?_) (fun y hy=>?_) ?_ ?_ (fun v2 s1 hs1=>?_))
 · obtain ⟨s,_,rfl⟩:=List.mem_map.1 hy; exact hlen s
 · obtain ⟨s,_,rfl⟩:=List.mem_map.1 hy; exact hone s
 · rw [List.length_map]; unfold Ik at hl; unfold maxLen; omega
 · rw [List.length_map]; unfold Ik at hl; omega
 cases hs1; refine cs 1 Z (AR.nil [2] Z (AW.ret ?_)); have hv:=h v2; rw [List.flatMap_def,show r0.length=(List.map aA.cells r0).length from (List.length_map _).symm] at hv; exact ⟨rfl,_,⟨_,_,rfl,rfl,rfl⟩,_,List.Sublist.refl _,hv⟩
theorem KM (s1:List aA) {r0:List aA} (hf:gH s1=some r0) {Q:dx→List bf→Prop} (h:∀ v,Q (.ret (.own v (List.map aA.cells r0))) [.row v (List.map aA.cells r0).length 7 54]):PC 249 [.list (List.map aA.cells s1)] [] Q:=by
 unfold gH at hf; refine AC.Bz 8 [.tmp 2] [0] Tryz.func249 Z Z Z Z Z (AW.sr (AR.step Z Z Z (AO.eO Z Z (AR.nil [0] Z ?_)))); refine AW.seq (AW.sr (cs 1 Z (AR.step Z Z Z (AO.iG Z Z aaU (fun b hb=>?_))))); refine AR.nil [0,4] Z (AW.cond Z (fun h1=>?_) (fun h1=>?_))
 · obtain rfl:s1=[]:=List.map_eq_nil_iff.1 (hb h1); obtain ⟨_,rfl⟩:=kF hf; refine AW.sr (cs 1 Z (AR.nil [2] Z (AW.row 7 54 ?_))); refine AW.ret ?_; exact ⟨rfl,_,⟨_,_,rfl,rfl,rfl⟩,_,List.Sublist.refl _,h _⟩
 refine AW.skip (AW.sr (AR.step Z Z Z (AO.fO [] Z DC Z Z Z Z Z (fun v1=>(cs 1 Z ?_))))); refine AR.step Z Z Z (AO.eZ (i:=0) (l:=[]) (m:=s1) hf Z Z Z Z Z Z Z DC wC Z Z Z (aA.bG) (aA.cells_one) (by decide) (fun v2 s2 hs2=>?_)); cases hs2; refine cs 1 Z (AR.nil [2] Z (AW.ret ?_)); exact ⟨rfl,_,⟨_,_,rfl,rfl,rfl⟩,_,List.Sublist.refl _,h v2⟩
theorem Tv (a1:aA) (b1:aA) {r0:Int} (hf:OG a1 b1=some r0) {τ:List bf} {Q:dx→List bf→Prop} (h:Q (.ret (iP r0)) τ):PC 251 [.agg (Bl a1),.agg (Bl b1)] τ Q:=by
 unfold OG at hf; refine BN 10 [.tmp 4] [0,1] Tryz.func251 Z Z Z Z Z ?_; refine BR hf fun x1 h1 hf=>?_; refine W 7 Z (CL Z (Cq _ _ h1 ?_)); cases hf; exact N 1 Z (Y Z h)
def IQ :Go.Shelf.Ren:=⟨fun | 6=>250 | 15=>278 | 14=>277 | 28=>308 | 29=>264 | 20=>300 | 21=>301 | 22=>302 | 23=>303 | 24=>304 | 25=>305 | 26=>306 | 27=>307 | 46=>323 | 47=>324 | 48=>325 | 49=>326 | 50=>327 | 57=>339 | n=>n,fun | 22=>23 | 24=>54 | 25=>267 | 3=>3 | 39=>278 | 0=>0 | 53=>276 | 55=>252 | 4=>4 | 46=>306 | 45=>305 | 50=>260 | 5=>5 | 9=>9 | 66=>324 | 70=>328 | 76=>339 | 77=>340 | n=>n,fun | n=>n⟩
theorem NC :Go.Proofs.SlLaysF0.n6 Tryz.prog IQ:={
 mixed:=by kernel_rfl
 f6:=⟨Tryz.f250.name,by decide,Tryz.func250.trans (congrArg some (by kernel_rfl))⟩
 f14:=⟨Tryz.f277.name,by decide,Tryz.func277.trans (congrArg some (by kernel_rfl))⟩
 f15:=Tryz.func278.trans (congrArg some (by kernel_rfl))
 f20:=⟨Tryz.f300.name,by decide,Tryz.func300.trans (congrArg some (by kernel_rfl))⟩
 f21:=⟨Tryz.f301.name,by decide,Tryz.func301.trans (congrArg some (by kernel_rfl))⟩
 f22:=⟨Tryz.f302.name,by decide,Tryz.func302.trans (congrArg some (by kernel_rfl))⟩
 f23:=⟨Tryz.f303.name,by decide,Tryz.func303.trans (congrArg some (by kernel_rfl))⟩
 f24:=⟨Tryz.f304.name,by decide,Tryz.func304.trans (congrArg some (by kernel_rfl))⟩
 f25:=⟨Tryz.f305.name,by decide,Tryz.func305.trans (congrArg some (by kernel_rfl))⟩
 f26:=⟨Tryz.f306.name,by decide,Tryz.func306.trans (congrArg some (by kernel_rfl))⟩
 f27:=⟨Tryz.f307.name,by decide,Tryz.func307.trans (congrArg some (by kernel_rfl))⟩
 f28:=Tryz.func308.trans (congrArg some (by kernel_rfl))
 f29:=Tryz.func264.trans (congrArg some (by kernel_rfl))
 f46:=⟨Tryz.f323.name,by decide,Tryz.func323.trans (congrArg some (by kernel_rfl))⟩
 f47:=Tryz.func324.trans (congrArg some (by kernel_rfl))
 f48:=Tryz.func325.trans (congrArg some (by kernel_rfl))
 f49:=⟨Tryz.f326.name,by decide,Tryz.func326.trans (congrArg some (by kernel_rfl))⟩
 f50:=⟨Tryz.f327.name,by decide,Tryz.func327.trans (congrArg some (by kernel_rfl))⟩
 f57:=⟨Tryz.f339.name,by decide,Tryz.func339.trans (congrArg some (by kernel_rfl))⟩
 t0:=Tryz.underlying0
 a0:=Tryz.isAgg0
 z0:=Tryz.sizeOf0
 v0:=Tryz.zeroValue0
 t3:=Tryz.underlying3
 a3:=Tryz.isAgg3
 z3:=Tryz.sizeOf3
 v3:=Tryz.zeroValue3
 t4:=Tryz.underlying4
 a4:=Tryz.isAgg4
 z4:=Tryz.sizeOf4
 v4:=Tryz.zeroValue4
 t5:=Tryz.underlying5
 a5:=Tryz.isAgg5
 z5:=Tryz.sizeOf5
 v5:=Tryz.zeroValue5
 t9:=Tryz.underlying9
 a9:=Tryz.isAgg9
 z9:=Tryz.sizeOf9
 v9:=Tryz.zeroValue9
 t22:=Tryz.underlying23
 a22:=Tryz.isAgg23
 z22:=Tryz.sizeOf23
 v22:=Tryz.zeroValue23
 t25:=Tryz.underlying267
 a25:=Tryz.isAgg267
 z25:=Tryz.sizeOf267
 v25:=Tryz.zeroValue267
 t39:=Tryz.underlying278
 a39:=Tryz.isAgg278
 z39:=Tryz.sizeOf278
 v39:=Tryz.zeroValue278
 t45:=Tryz.underlying305
 a45:=Tryz.isAgg305
 z45:=Tryz.sizeOf305
 v45:=Tryz.zeroValue305
 t46:=Tryz.underlying306
 a46:=Tryz.isAgg306
 z46:=Tryz.sizeOf306
 v46:=Tryz.zeroValue306
 t50:=Tryz.underlying260
 a50:=Tryz.isAgg260
 z50:=Tryz.sizeOf260
 v50:=Tryz.zeroValue260
 t53:=Tryz.underlying276
 a53:=Tryz.isAgg276
 z53:=Tryz.sizeOf276
 v53:=Tryz.zeroValue276
 t55:=Tryz.underlying252
 a55:=Tryz.isAgg252
 z55:=Tryz.sizeOf252
 v55:=Tryz.zeroValue252
 t66:=Tryz.underlying324
 a66:=Tryz.isAgg324
 z66:=Tryz.sizeOf324
 v66:=Tryz.zeroValue324
 t70:=Tryz.underlying328
 a70:=Tryz.isAgg328
 z70:=Tryz.sizeOf328
 v70:=Tryz.zeroValue328
 t76:=Tryz.underlying339
 a76:=Tryz.isAgg339
 z76:=Tryz.sizeOf339
 v76:=Tryz.zeroValue339
 t77:=Tryz.underlying340
 a77:=Tryz.isAgg340
 z77:=Tryz.sizeOf340
 v77:=Tryz.zeroValue340}
theorem Mc (s1:List aA) {r0:List aA} (hf:aa9 (fun x=>x.name) s1=some r0) {v:Value} {e:TypeId} {Q:dx→List bf→Prop} (h:Q (.ret (.tuple [])) [.buf v (List.map aA.cells r0).length 7 e (r0.flatMap aA.cells)]):
  PC 250 [.val v,.fn 251 []] [.buf v s1.length 7 e (s1.flatMap aA.cells)] Q:=by
 unfold aa9 at hf; split at hf
 case isFalse=>cases hf
 rename_i hg; obtain ⟨h1,h2,h3⟩:=hg; cases hf; rw [List.length_map] at h
 exact AC.ZH NC aA.cells (k:=7) (by decide) (fun _=>Z) (fun _=>Z) ahN agb aeB (cf:=fun a b=>jo a.name b.name)
  (fun a b ha hb=>@Tv Xb a b _ (NT (h2 a ha) (h2 b hb)) _ _ Z) (fun x hx=>by rw [OW] at hx; omega) (fun x y z a b=>MQ a b) (fun x y z a b=>SY a b)
  (by
   rw [List.Nodup,List.pairwise_map] at h3; refine h3.imp fun {x y} hne=>?_; rcases Int.lt_trichotomy (jo x.name y.name) 0 with h | h | h
   ·
    exact .inl h
   ·
    exact absurd (Jc h) hne
   ·
    right; rw [Gu]; omega)
  (by unfold Ik at h1; omega) h
theorem Xr (dL:List aA) {r0:ah} {r1:Int} (hf:Nv dL=some (r0,r1)) (h:Q (.ret (.tuple [.agg (aN r0),iP r1])) τ):PC 215 [.list (List.map aA.cells dL)] τ Q:=by
 unfold Nv at hf; refine BN 55 [.cell 2 42,.tmp 3] [0] Tryz.func215 Z Z Z Z Z (W 0 Z (AS Z (AO.aC Z gY (fun b2=>(U 2 Z (AS Z (AO.aO (l:=dL) Z Z Z Z wC Z Z (J 1 Z (C hf Z (fun h1 hf=>?_) fun h1 hf=>?_)))))))))
 · cases hf; exact Wx 3 [0] Z Z (ZC [0] Z Z h)
 refine W 1 Z (AS Z (AO.aO (l:=dL) Z Z Z Z wC Z Z (J 1 Z (JY (fun i1=>[(0,.list (List.map aA.cells dL)),(2,pP b2),(15,iP (dL.length:Int)),(16,iP i1)]) (fun i1=>[.box b2 [iP 0,.bool false,iP 0,.str ([]:Str),.own (.slice none 0 0) [],.own (.slice none 0 0) []]]) (fun bX i1=>CG dL bX i1=some (r0,r1)) BIG 0 Z Z hf (fun _ hz=>bT hz) ?_)))); intro bX i1 hf; rw [CG] at hf; refine V 1 Z (C hf Z (fun h2 hf=>?_) fun h2 hf=>?_)
 ·
  refine B1 hf fun e1 h3 hf=>W 4 Z (CL Z (Tt _ _ h3 (J 3 Z (C hf Z (fun h4 hf=>?_) fun h4 hf=>?_))))
  · cases hf; exact Wx 4 [0] Z Z (ZC [0] Z Z h)
  exact M 2 Z ⟨(cZ (i1 + 1)),Z,Z,Z,hf⟩
 refine B1 hf fun YQ h5 hf=>W 1 Z (CL Z (AC.none (xI _ h5 (fun v1=>?_)))); refine B1 hf fun yC h6 hf=>U 2 rfl (CL rfl (AC.one 0 rfl (Mc _ h6 ⟨_,rfl,(AR.freeze 6 0 (List.map aA.cells yC) rfl rfl rfl (fun x hx=>by obtain ⟨s,_,rfl⟩:=List.mem_map.1 hx; rfl) Z ?_)⟩))); refine U 1 Z (AS Z (AO.aC Z gY (fun b7=>(Rr 2 [0] Z Z (AS Z (AO.aO (l:=yC) Z Z Z Z wC Z Z ?_)))))); refine J 1 Z (AW.row 6 42 (AW.row 1 9 (LK4 (fun x1 bn v2 v3=>[(2,pP b2),(7,pP b7),(32,.own v1 (List.map aA.cells yC)),(33,iP (yC.length:Int)),(34,iP x1)]) (fun x1 bn v2 v3=>[.row v3 (List.map nD bn.keys).length 1 9,.row v2 (ah.aM bn.aW).length 6 42,.box b7 [iP bn.kind,.bool bn.eB,iP bn.gI,.str bn.fM,.own v2 (ah.aM bn.aW),.own v3 (List.map nD bn.keys)],.row v1 (List.map aA.cells yC).length 7 54,.box b2 [iP 0,.bool false,iP 0,.str ([]:Str),.own (.slice none 0 0) [],.own (.slice none 0 0) []]]) (fun Jj x1 bn v2 v3=>CB yC Jj x1 bn=some (r0,r1)) BIG 0 (ah.mk 5 false 0 ([]:Str) [] []) (.slice none 0 0) (.slice none 0 0) Z Z hf (fun _ _ _ _ hz=>bT hz) ?_))); intro Jj x1 bn v2 v3 hf; rw [CB] at hf; refine V 1 Z (C hf Z (fun h7 hf=>?_) fun h7 hf=>?_)
 ·
  refine B1 hf fun e2 h8 hf=>W 0 Z (AS Z (AO.aP h8 Z Z Z Z wC (aA.aD _) Z (U 1 Z (AS Z (AO.aC Z Qb (fun b9=>(Rr 5 [0,3,0] Z Z (AS Z (AO.bq (List.map nD ([e2.name]:List Str)) Z tH Z Z Z Z ?_))))))))); refine B1 hf fun x2 h9 hf=>AS Z (AO.eZ (i:=1) (l:=bn.keys) (m:=([e2.name]:List Str)) h9 Z Z Z Z Z Z Z tH jm Z Z Z (fun _=>Z) (fun _=>Z) (by decide) (fun v4 s1 hs1=>?_)); cases hs1; refine Rw 2 [3] Z Z (AW.draw 6 mixed (by kernel_rfl) Z ?_); refine Ev.cs bC 1 Z (Ev.cons Z Z Z (AO.aR (i:=3) Z Z Z IJ Z Z zg) (Ev.cs bC 1 Z (Ev.cons Z Z Z (AO.aR (i:=0) Z Z Z mK Z Z zg) ?_))); refine B1 hf fun x3 h10 hf=>Ev.cons rfl rfl rfl (AO.call rfl _ rfl rfl abp (K3 _ h10 ⟨rfl,rfl⟩)) (Ev.cons rfl rfl rfl (AO.bq (ah.aM [x3]) rfl yY rfl rfl rfl (by first | rfl | simp only [List.map,ah.aD,ah.aM]) ⟨rfl,rfl⟩) ?_); refine Ev.nil ?_; show AR _ _ _ _ _ _ _ _
  refine B1 hf fun x4 h11 hf=>AS Z (AO.eZ (i:=2) (l:=bn.aW) (m:=[x3]) h11 Z Z Z Z Z Z Z yY iK (ah.aB _) (ah.aB _) (ah.aB _).symm (ah.bG) (ah.cells_one) (by decide) (fun v5 s2 hs2=>?_)); cases hs2; refine Rn 4 [3] Z Z (AR.drop1 ?_); exact N 0 Z ⟨(cZ (x1 + 1)),(ah.mk bn.kind bn.eB bn.gI bn.fM x4 x2),v5,v4,Z,Z,Z,hf⟩
 cases hf; exact Wx 3 [2,4] Z Z (ZC [4] Z Z h)
section
variable [Am]
@[reducible] def zo :fB aI ah→dx
 | .ok r=>.ret (.agg (aN r))
 | .bad e=>.panic (.iface 181 (.agg [iP e.code]))
@[reducible] def zq :fB aI ah→dx
 | .ok r=>.ret (.agg (aN r))
 | .bad e=>.panic (.iface 181 (.agg [iP e.code]))
@[reducible] def Ap :fB aI (List ah)→dx
 | .ok r=>.ret (.list (ah.aM r))
 | .bad e=>.panic (.iface 181 (.agg [iP e.code]))
@[reducible] def xD :fB aI ah→dx
 | .ok r=>.ret (.agg (aN r))
 | .bad e=>.panic (.iface 181 (.agg [iP e.code]))
@[reducible] def vI :fB aI ah→dx
 | .ok r=>.ret (.agg (aN r))
 | .bad e=>.panic (.iface 181 (.agg [iP e.code]))
abbrev oK (bJ:List aA→aj→Option (fB aI ah)):Prop:=∀ (tQ:List aA) (j3:aj) {fq:fB aI ah},bJ tQ j3=some fq→∀ {τ:List bf} {Q:dx→List bf→Prop} (h:Q (zo fq) τ),PC 150 [.list (List.map aA.cells tQ),.agg (bE j3)] τ Q
abbrev oL (dD:List aA→aj→Option (fB aI ah)):Prop:=∀ (tQ:List aA) (j3:aj) {fq:fB aI ah},dD tQ j3=some fq→∀ {τ:List bf} {Q:dx→List bf→Prop} (h:Q (zq fq) τ),PC 175 [.list (List.map aA.cells tQ),.agg (bE j3)] τ Q
abbrev qb (dA:List aA→List aj→Option (fB aI (List ah))):Prop:=∀ (tQ:List aA) (ul1:List aj) {fq:fB aI (List ah)},dA tQ ul1=some fq→∀ {τ:List bf} {Q:dx→List bf→Prop} (h:Q (Ap fq) τ),PC 180 [.list (List.map aA.cells tQ),.list (aj.aM ul1)] τ Q
abbrev ng (cB:List aA→aj→Option (fB aI ah)):Prop:=∀ (tQ:List aA) (j3:aj) {fq:fB aI ah},cB tQ j3=some fq→∀ {τ:List bf} {Q:dx→List bf→Prop} (h:Q (xD fq) τ),PC 177 [.list (List.map aA.cells tQ),.agg (bE j3)] τ Q
abbrev mg (bZ:List aA→aj→Option (fB aI ah)):Prop:=∀ (tQ:List aA) (j3:aj) {fq:fB aI ah},bZ tQ j3=some fq→∀ {τ:List bf} {Q:dx→List bf→Prop} (h:Q (vI fq) τ),PC 182 [.list (List.map aA.cells tQ),.agg (bE j3)] τ Q
theorem Mv (bJ) (bW:oK bJ) (dD) (m_:oL dD) (dA) (jk:qb dA) (cB) (lC:ng cB) (bZ) (kR:mg bZ) (s1:List aA) (e1:aj) {rX:fB aI ah} (hf:zY bJ dD dA cB bZ s1 e1=some rX) (h:Q (zo rX) τ):PC 150 [.list (List.map aA.cells s1),.agg (bE e1)] τ Q:=by
 unfold zY at hf; refine BN 104 [.cell 4 42] [0,1] Tryz.func150 Z Z Z Z Z (W 1 Z (AS Z (AO.aC Z gY (fun b4=>(J 4 Z (C hf Z (fun h1 hf=>?_) fun h1 hf=>?_))))))
 · cases hf; exact Wx 3 [0] Z Z (ZC [0] Z Z h)
 refine V 2 Z (C hf Z (fun h2 hf=>?_) fun h2 hf=>?_)
 ·
  rcases bQ hf with ⟨e2,h3,hf⟩ | ⟨x1,h3,hf⟩
  · refine W 3 Z (CL Z (EO _ _ h3 ?_)); cases hf; exact ⟨Z,[],List.nil_sublist _,h⟩
  refine W 3 Z (CL Z (EO _ _ h3 ?_)); cases hf; exact Rx 1 [0] Z Z (ZC [0] Z Z h)
 refine V 2 Z (C hf Z (fun h4 hf=>?_) fun h4 hf=>?_)
 ·
  refine B1 hf fun e3 h5 hf=>?_; rcases bQ hf with ⟨e4,h6,hf⟩ | ⟨x2,h6,hf⟩
  ·
   refine V 0 Z (AW.Zd 5 8 mixed (by kernel_rfl) Z Z Z ?_); refine Ev.cs bC 3 Z (Ev.cons Z Z Z (AO.aP h5 Z Z (aj.aB _) Z iQ (aj.aD _) Z zg) (Ev.cs bC 1 Z (Ev.nil ?_))); refine ⟨_,_,Z,Z,Z,Z,AO.call Z _ Z Z I9 (bW _ _ h6 ?_),?_⟩
   · cases hf; exact ⟨Z,[],List.nil_sublist _,h⟩
   refine Ev.cs bC 2 Z (Ev.nil ?_); trivial
  refine V 0 Z (AW.draw 9 mixed (by kernel_rfl) Z ?_); refine Ev.cs bC 3 Z (Ev.cons Z Z Z (AO.aP h5 Z Z (aj.aB _) Z iQ (aj.aD _) Z zg) (Ev.cs bC 1 Z (Ev.cons Z Z Z (AO.call Z _ Z Z I9 (bW _ _ h6 zg)) ?_))); refine Ev.cs bC 2 Z ?_; refine B1 hf fun x3 h7 hf=>Ev.cons Z Z Z (AO.call Z _ Z Z abx (wK _ h7 zg)) (Ev.nil ?_); show AR _ _ _ _ _ _ _ _; rcases bQ hf with ⟨e5,h8,hf⟩ | ⟨x4,h8,hf⟩
  · refine CL Z (Db _ _ h8 ?_); cases hf; exact ⟨Z,[],List.nil_sublist _,h⟩
  refine CL Z (Db _ _ h8 ?_); cases hf; exact Rx 1 [0] Z Z (ZC [0] Z Z h)
 refine V 2 Z (C hf Z (fun h9 hf=>?_) fun h9 hf=>?_)
 ·
  refine B1 hf fun e6 h10 hf=>W 3 Z (AS Z (AO.aP h10 Z Z (aj.aB _) Z iQ (aj.aD _) Z ?_)); rcases bQ hf with ⟨e7,h11,hf⟩ | ⟨x5,h11,hf⟩
  · refine U 1 Z (CL Z (bW _ _ h11 ?_)); cases hf; exact ⟨Z,[],List.nil_sublist _,h⟩
  refine U 1 Z (CL Z (bW _ _ h11 (AS Z (AO.aC Z gY (fun b5=>?_))))); refine B1 hf fun e8 h12 hf=>?_; rcases bQ hf with ⟨e9,lZ,hf⟩ | ⟨x6,lZ,hf⟩
  ·
   refine Rw 1 [0] Z Z (AW.Zd 6 7 mixed (by kernel_rfl) Z Z Z ?_); refine Ev.cons Z Z Z (AO.aR (i:=0) Z Z Z mK Z Z zg) (Ev.cs bC 3 Z (Ev.cons Z Z Z (AO.aP h12 Z Z (aj.aB _) Z iQ (aj.aD _) Z zg) (Ev.cs bC 1 Z ?_))); refine Ev.nil (⟨_,_,Z,Z,Z,Z,AO.call Z _ Z Z I9 (bW _ _ lZ ?_),?_⟩)
   · cases hf; exact ⟨Z,[],List.nil_sublist _,h⟩
   refine Ev.nil ?_; trivial
  refine Rw 1 [0] Z Z (AW.draw 7 mixed (by kernel_rfl) Z ?_); refine Ev.cons Z Z Z (AO.aR (i:=0) Z Z Z mK Z Z zg) (Ev.cs bC 3 Z (Ev.cons Z Z Z (AO.aP h12 Z Z (aj.aB _) Z iQ (aj.aD _) Z zg) (Ev.cs bC 1 Z ?_))); refine Ev.cons Z Z Z (AO.call Z _ Z Z I9 (bW _ _ lZ zg)) (Ev.nil ?_); show AR _ _ _ _ _ _ _ _; rcases bQ hf with ⟨e10,nu,hf⟩ | ⟨x7,nu,hf⟩
  · refine CL Z (JN _ _ nu ?_); cases hf; exact ⟨Z,[],List.nil_sublist _,h⟩
  refine CL Z (JN _ _ nu ?_); cases hf; exact Rx 1 [1] Z Z (ZC [1] Z Z h)
 refine V 2 Z (C hf Z (fun tq hf=>?_) fun tq hf=>?_)
 ·
  rcases bQ hf with ⟨e11,h16,hf⟩ | ⟨x8,h16,hf⟩
  · refine W 2 Z (CL Z (m_ _ _ h16 ?_)); cases hf; exact ⟨Z,[],List.nil_sublist _,h⟩
  refine W 2 Z (CL Z (m_ _ _ h16 ?_)); cases hf; exact Rx 1 [0] Z Z (ZC [0] Z Z h)
 refine V 2 Z (C hf Z (fun Ao hf=>?_) fun Ao hf=>?_)
 ·
  refine B1 hf fun e12 h18 hf=>?_; rcases bQ hf with ⟨e13,h19,hf⟩ | ⟨x9,h19,hf⟩
  ·
   refine V 0 Z (AW.Zd 7 8 mixed (by kernel_rfl) Z Z Z ?_); refine Ev.cs bC 5 Z (Ev.cons Z Z Z (AO.aP h18 Z Z (aj.aB _) Z iQ (aj.aD _) Z zg) (Ev.cs bC 1 Z (Ev.nil ?_))); refine ⟨_,_,Z,Z,Z,Z,AO.call Z _ Z Z I9 (bW _ _ h19 ?_),?_⟩
   · cases hf; exact ⟨Z,[],List.nil_sublist _,h⟩
   refine Ev.nil ?_; trivial
  refine V 0 Z (AW.draw 8 mixed (by kernel_rfl) Z ?_); refine Ev.cs bC 5 Z (Ev.cons Z Z Z (AO.aP h18 Z Z (aj.aB _) Z iQ (aj.aD _) Z zg) (Ev.cs bC 1 Z (Ev.cons Z Z Z (AO.call Z _ Z Z I9 (bW _ _ h19 zg)) ?_))); refine Ev.nil ?_; show AR _ _ _ _ _ _ _ _; rcases bQ hf with ⟨e14,h20,hf⟩ | ⟨Il,h20,hf⟩
  · refine CL Z (Nl _ _ h20 ?_); cases hf; exact ⟨Z,[],List.nil_sublist _,h⟩
  refine CL Z (Nl _ _ h20 ?_); cases hf; exact Rx 1 [0] Z Z (ZC [0] Z Z h)
 refine V 2 Z (C hf Z (fun h21 hf=>?_) fun h21 hf=>?_)
 ·
  rcases bQ hf with ⟨e15,h22,hf⟩ | ⟨Li,h22,hf⟩
  · refine W 2 Z (CL Z (lC _ _ h22 ?_)); cases hf; exact ⟨Z,[],List.nil_sublist _,h⟩
  refine W 2 Z (CL Z (lC _ _ h22 ?_)); cases hf; exact Rx 1 [0] Z Z (ZC [0] Z Z h)
 refine V 2 Z (C hf Z (fun h23 hf=>?_) fun h23 hf=>?_)
 ·
  refine B1 hf fun e16 Ti hf=>W 3 Z (AS Z (AO.aP Ti Z Z (aj.aB _) Z iQ (aj.aD _) Z ?_)); rcases bQ hf with ⟨e17,Ux,hf⟩ | ⟨SB,Ux,hf⟩
  · refine U 1 Z (CL Z (bW _ _ Ux ?_)); cases hf; exact ⟨Z,[],List.nil_sublist _,h⟩
  refine U 1 Z (CL Z (bW _ _ Ux ?_)); rcases bQ hf with ⟨e18,Uw,hf⟩ | ⟨YB,Uw,hf⟩
  · refine CL Z (rC _ Uw ?_); cases hf; exact ⟨Z,[],List.nil_sublist _,h⟩
  refine CL Z (rC _ Uw (J 0 Z (C hf Z (fun h27 hf=>?_) fun h27 hf=>?_)))
  ·
   refine B1 hf fun e19 Uv hf=>W 3 Z (AS Z (AO.aP Uv Z Z (aj.aB _) Z iQ (aj.aD _) Z ?_)); rcases bQ hf with ⟨e20,KX,hf⟩ | ⟨Zv,KX,hf⟩
   · refine U 1 Z (CL Z (bW _ _ KX ?_)); cases hf; exact ⟨Z,[],List.nil_sublist _,h⟩
   refine U 1 Z (CL Z (bW _ _ KX ?_)); cases hf; exact Rx 1 [0] Z Z (ZC [0] Z Z h)
  refine B1 hf fun e21 NZ hf=>W 3 Z (AS Z (AO.aP NZ Z Z (aj.aB _) Z iQ (aj.aD _) Z ?_)); rcases bQ hf with ⟨e22,h31,hf⟩ | ⟨XQ,h31,hf⟩
  · refine U 1 Z (CL Z (bW _ _ h31 ?_)); cases hf; exact ⟨Z,[],List.nil_sublist _,h⟩
  refine U 1 Z (CL Z (bW _ _ h31 ?_)); cases hf; exact Rx 1 [0] Z Z (ZC [0] Z Z h)
 refine V 2 Z (C hf Z (fun h32 hf=>?_) fun h32 hf=>?_)
 ·
  rcases bQ hf with ⟨e23,XJ,hf⟩ | ⟨Qg,XJ,hf⟩
  · refine W 3 Z (CL Z (jk _ _ XJ ?_)); cases hf; exact ⟨Z,[],List.nil_sublist _,h⟩
  refine W 3 Z (CL Z (jk _ _ XJ ?_)); refine B1 hf fun XG h34 hf=>CL Z (Nn _ h34 (AS Z (AO.aC Z gY (fun b6=>?_)))); refine B1 hf fun Zu Y8 hf=>Rr 2 [0,0] Z Z (CL Z (pU _ Y8 ?_)); rcases bQ hf with ⟨e24,Vp,hf⟩ | ⟨_,Vp,hf⟩
  · refine U 1 Z (CL Z (bO _ _ Vp ?_)); cases hf; exact ⟨Z,[],List.nil_sublist _,h⟩
  refine U 1 Z (CL Z (bO _ _ Vp ?_)); cases hf; exact Rx 2 [0,1] Z Z (ZC [1] Z Z h)
 rcases bQ hf with ⟨e25,h37,hf⟩ | ⟨x19,h37,hf⟩
 · refine W 2 Z (CL Z (kR _ _ h37 ?_)); cases hf; exact ⟨Z,[],List.nil_sublist _,h⟩
 refine W 2 Z (CL Z (kR _ _ h37 ?_)); cases hf; exact Rx 1 [0] Z Z (ZC [0] Z Z h)
theorem Mw (bJ) (bW:oK bJ) (dD) (m_:oL dD) (dA) (jk:qb dA) (cB) (lC:ng cB) (bZ) (kR:mg bZ) (s1:List aA) (e1:aj) {rX:fB aI ah} (hf:zZ bJ dD dA cB bZ s1 e1=some rX) (h:Q (zq rX) τ):PC 175 [.list (List.map aA.cells s1),.agg (bE e1)] τ Q:=by
 unfold zZ at hf; refine BN 40 [.cell 4 42] [0,1] Tryz.func175 Z Z Z Z Z (W 1 Z (AS Z (AO.aC Z gY (fun b4=>?_)))); refine B1 hf fun n1 h1 hf=>U 2 Z (CL Z (VP _ h1 ?_)); rcases bQ hf with ⟨e2,h2,hf⟩ | ⟨_,h2,hf⟩
 · refine U 3 Z (CL Z (bO _ _ h2 ?_)); cases hf; exact ⟨Z,[],List.nil_sublist _,h⟩
 refine U 3 Z (CL Z (bO _ _ h2 (U 2 Z (AS Z (AO.aO (l:=e1.args) Z Z Z Z iQ Z (aj.aB _) ?_))))); rcases bQ hf with ⟨e3,h3,hf⟩ | ⟨_,h3,hf⟩
 · refine U 2 Z (CL Z (bO _ _ h3 ?_)); cases hf; exact ⟨Z,[],List.nil_sublist _,h⟩
 refine U 2 Z (CL Z (bO _ _ h3 ?_)); rcases bQ hf with ⟨e4,h4,hf⟩ | ⟨args1,h4,hf⟩
 · refine U 3 Z (CL Z (jk _ _ h4 ?_)); cases hf; exact ⟨Z,[],List.nil_sublist _,h⟩
 refine U 3 Z (CL Z (jk _ _ h4 (J 3 Z (C hf Z (fun h5 hf=>?_) fun h5 hf=>?_))))
 ·
  refine V 0 Z (AW.draw 5 mixed (by kernel_rfl) Z ?_); refine Ev.cs bC 3 Z ?_; refine B1 hf fun e5 h6 hf=>Ev.cons Z Z Z (AO.aP h6 Z Z (ah.aB _) Z iK (ah.aD _) Z zg) (Ev.cs bC 1 Z (Ev.nil ?_)); show AR _ _ _ _ _ _ _ _; rcases bQ hf with ⟨e6,h7,hf⟩ | ⟨x1,h7,hf⟩
  · refine CL Z (Sk _ _ h7 ?_); cases hf; exact ⟨Z,[],List.nil_sublist _,h⟩
  refine CL Z (Sk _ _ h7 ?_); cases hf; exact Rx 1 [0] Z Z (ZC [0] Z Z h)
 refine V 0 Z (AW.draw 8 mixed (by kernel_rfl) Z ?_); refine Ev.cs bC 3 Z ?_; refine B1 hf fun e7 h8 hf=>Ev.cons Z Z Z (AO.aP h8 Z Z (ah.aB _) Z iK (ah.aD _) Z zg) (Ev.cs bC 2 Z ?_); refine B1 hf fun e8 h9 hf=>Ev.cons Z Z Z (AO.aP h9 Z Z (ah.aB _) Z iK (ah.aD _) Z zg) (Ev.cs bC 1 Z (Ev.nil ?_)); show AR _ _ _ _ _ _ _ _; rcases bQ hf with ⟨e9,h10,hf⟩ | ⟨x2,h10,hf⟩
 · refine CL Z (Si _ _ _ h10 ?_); cases hf; exact ⟨Z,[],List.nil_sublist _,h⟩
 refine CL Z (Si _ _ _ h10 ?_); cases hf; exact Rx 1 [0] Z Z (ZC [0] Z Z h)
theorem Nu (bJ) (bW:oK bJ) (dD) (m_:oL dD) (dA) (jk:qb dA) (cB) (lC:ng cB) (bZ) (kR:mg bZ) (s1:List aA) (l1:List aj) {rX:fB aI (List ah)} (hf:AP bJ dD dA cB bZ s1 l1=some rX) (h:Q (Ap rX) τ):PC 180 [.list (List.map aA.cells s1),.list (aj.aM l1)] τ Q:=by
 unfold AP at hf; refine BN 22 [.tmp 4] [0,1] Tryz.func180 Z Z Z Z Z (W 0 Z (AS Z (AO.eO Z Z (U 2 Z (AS Z (AO.aO (l:=l1) Z Z Z Z iQ Z (aj.aB _) (J 1 Z (AW.row 6 42 (V5 (fun bn v1 x1=>[(0,.list (List.map aA.cells s1)),(5,.own v1 (ah.aM bn)),(8,.list (aj.aM l1)),(9,iP (l1.length:Int)),(10,iP x1)]) (fun bn v1 x1=>[.row v1 (ah.aM bn).length 6 42]) (fun bX bn v1 x1=>vv bJ s1 l1 bX bn x1=some rX) BIG [] (.slice none 0 0) 0 Z Z hf (fun _ _ _ hz=>bT hz) ?_))))))))); intro bX bn v1 x1 hf; rw [vv] at hf; refine V 1 Z (C hf Z (fun h1 hf=>?_) fun h1 hf=>?_)
 ·
  refine B1 hf fun e1 h2 hf=>W 0 Z (AS Z (AO.aP h2 Z Z (aj.aB _) Z iQ (aj.aD _) Z (U 1 Z (AS Z (AO.aC Z iO (fun b7=>?_)))))); rcases bQ hf with ⟨e2,h3,hf⟩ | ⟨x2,h3,hf⟩
  · refine Rr 4 [0,0] Z Z (CL Z (bW _ _ h3 ?_)); cases hf; exact ⟨Z,[],List.nil_sublist _,h⟩
  refine Rr 4 [0,0] rfl rfl (CL rfl (bW _ _ h3 (AS rfl (AO.bq (ah.aM [x2]) rfl yY rfl rfl rfl (by first | rfl | simp only [List.map,ah.aD,ah.aM]) ?_)))); refine B1 hf fun kY h4 hf=>AS Z (AO.eZ (i:=1) (l:=bn) (m:=[x2]) h4 Z Z Z Z Z Z Z yY iK (ah.aB _) (ah.aB _) (ah.aB _).symm (ah.bG) (ah.cells_one) (by decide) (fun v2 s2 hs2=>?_)); cases hs2; refine fI 3 Z (AR.drop1 ?_); exact N 0 Z ⟨kY,v2,(cZ (x1 + 1)),Z,Z,Z,hf⟩
 cases hf; exact M 2 Z (Y Z h)
theorem Ky (bJ) (bW:oK bJ) (dD) (m_:oL dD) (dA) (jk:qb dA) (cB) (lC:ng cB) (bZ) (kR:mg bZ) (s1:List aA) (e1:aj) {rX:fB aI ah} (hf:xF bJ dD dA cB bZ s1 e1=some rX) (h:Q (xD rX) τ):PC 177 [.list (List.map aA.cells s1),.agg (bE e1)] τ Q:=by
 unfold xF at hf; refine BN 95 [.cell 4 42] [0,1] Tryz.func177 Z Z Z Z Z (W 1 Z (AS Z (AO.aC Z gY (fun b4=>?_)))); refine B1 hf fun e2 h1 hf=>U 3 Z (AS Z (AO.aP h1 Z Z (aj.aB _) Z iQ (aj.aD _) Z ?_)); rcases bQ hf with ⟨e3,h2,hf⟩ | ⟨x1,h2,hf⟩
 · refine U 1 Z (CL Z (bW _ _ h2 ?_)); cases hf; exact ⟨Z,[],List.nil_sublist _,h⟩
 refine U 1 Z (CL Z (bW _ _ h2 (AS Z (AO.aC Z gY (fun b5=>(Rr 5 [0] Z Z (On 4 16 20 [0,3,4,5] (e1.name == ([124,124]:Str)) Z Z Z Z (J 0 Z (C hf Z (fun h4 hf=>?_) fun h4 hf=>?_)))))))))
 ·
  rcases bQ hf with ⟨e4,h5,hf⟩ | ⟨x2,h5,hf⟩
  ·
   refine V 0 Z (AW.Zd 1 5 mixed (by kernel_rfl) Z Z Z ?_); refine Ev.cons Z Z Z (AO.aR (i:=0) Z Z Z mK Z Z zg) (Ev.nil (⟨_,_,Z,Z,Z,Z,AO.call Z _ Z Z abw (rC _ h5 ?_),?_⟩))
   · cases hf; exact ⟨Z,[],List.nil_sublist _,h⟩
   refine Ev.cs bC 3 Z (Ev.nil ?_); trivial
  refine V 0 Z (AW.draw 6 mixed (by kernel_rfl) Z ?_); refine Ev.cons Z Z Z (AO.aR (i:=0) Z Z Z mK Z Z zg) (Ev.cons Z Z Z (AO.call Z _ Z Z abw (rC _ h5 zg)) (Ev.cs bC 3 Z (Ev.cons Z Z Z (AO.acs Z agp Z Z zg) ?_))); refine Ev.nil ?_; show AR _ _ _ _ _ _ _ _; refine J 0 Z (C hf Z (fun h6 hf=>?_) fun h6 hf=>?_)
  · cases hf; exact Wx 2 [0,1] Z Z (ZC [1] Z Z h)
  refine B1 hf fun e5 h7 hf=>W 3 Z (AS Z (AO.aP h7 Z Z (aj.aB _) Z iQ (aj.aD _) Z ?_)); rcases bQ hf with ⟨e6,h8,hf⟩ | ⟨x3,h8,hf⟩
  · refine U 1 Z (CL Z (bW _ _ h8 ?_)); cases hf; exact ⟨Z,[],List.nil_sublist _,h⟩
  refine U 1 Z (CL Z (bW _ _ h8 ?_)); rcases bQ hf with ⟨e7,h9,hf⟩ | ⟨x4,h9,hf⟩
  · refine CL Z (rC _ h9 ?_); cases hf; exact ⟨Z,[],List.nil_sublist _,h⟩
  refine CL Z (rC _ h9 ?_); refine B1 hf fun x5 h10 hf=>CL Z (kE _ h10 ?_); cases hf; exact Rx 1 [1] Z Z (ZC [1] Z Z h)
 refine B1 hf fun e8 h11 hf=>W 3 Z (AS Z (AO.aP h11 Z Z (aj.aB _) Z iQ (aj.aD _) Z ?_)); rcases bQ hf with ⟨e9,h12,hf⟩ | ⟨x6,h12,hf⟩
 · refine U 1 Z (CL Z (bW _ _ h12 ?_)); cases hf; exact ⟨Z,[],List.nil_sublist _,h⟩
 refine U 1 Z (CL Z (bW _ _ h12 (AS Z (AO.aC Z gY (fun b6=>(Rw 5 [0] Z Z (C hf Z (fun lZ hf=>?_) fun lZ hf=>?_)))))))
 · refine B1 hf fun x7 nu hf=>Wr 2 [1,0] Z Z (CL Z (Bo _ _ nu ?_)); refine B1 hf fun x8 tq hf=>CL Z (kE _ tq ?_); cases hf; exact Rx 1 [2] Z Z (ZC [2] Z Z h)
 refine V 2 Z (C hf Z (fun h16 hf=>?_) fun h16 hf=>?_)
 · refine B1 hf fun x9 Ao hf=>Wr 2 [1,0] Z Z (CL Z (Bo _ _ Ao ?_)); refine B1 hf fun Il h18 hf=>U 1 Z (CL Z (kE _ h18 ?_)); cases hf; exact Rx 1 [2] Z Z (ZC [2] Z Z h)
 refine V 2 Z (C hf Z (fun h19 hf=>?_) fun h19 hf=>?_)
 ·
  rcases bQ hf with ⟨e10,h20,hf⟩ | ⟨Li,h20,hf⟩
  · refine Wr 2 [1,0] Z Z (CL Z (rD _ _ h20 ?_)); cases hf; exact ⟨Z,[],List.nil_sublist _,h⟩
  refine Wr 2 [1,0] Z Z (CL Z (rD _ _ h20 ?_)); refine B1 hf fun SB h21 hf=>U 1 Z (CL Z (kE _ h21 ?_)); cases hf; exact Rx 1 [2] Z Z (ZC [2] Z Z h)
 refine V 2 Z (C hf Z (fun h22 hf=>?_) fun h22 hf=>?_)
 ·
  rcases bQ hf with ⟨e11,h23,hf⟩ | ⟨YB,h23,hf⟩
  · refine Wr 2 [1,0] Z Z (CL Z (rD _ _ h23 ?_)); cases hf; exact ⟨Z,[],List.nil_sublist _,h⟩
  refine Wr 2 [1,0] Z Z (CL Z (rD _ _ h23 ?_)); refine B1 hf fun Zv Ti hf=>U 1 Z (CL Z (kE _ Ti ?_)); cases hf; exact Rx 1 [2] Z Z (ZC [2] Z Z h)
 refine V 2 Z (C hf Z (fun Ux hf=>?_) fun Ux hf=>?_)
 ·
  rcases bQ hf with ⟨e12,Uw,hf⟩ | ⟨XQ,Uw,hf⟩
  · refine Wr 2 [1,0] Z Z (CL Z (rD _ _ Uw ?_)); cases hf; exact ⟨Z,[],List.nil_sublist _,h⟩
  refine Wr 2 [1,0] Z Z (CL Z (rD _ _ Uw ?_)); refine B1 hf fun Qg h27 hf=>U 1 Z (CL Z (kE _ h27 ?_)); cases hf; exact Rx 1 [2] Z Z (ZC [2] Z Z h)
 refine V 2 Z (C hf Z (fun Uv hf=>?_) fun Uv hf=>?_)
 ·
  rcases bQ hf with ⟨e13,KX,hf⟩ | ⟨XG,KX,hf⟩
  · refine Wr 2 [1,0] Z Z (CL Z (rD _ _ KX ?_)); cases hf; exact ⟨Z,[],List.nil_sublist _,h⟩
  refine Wr 2 [1,0] Z Z (CL Z (rD _ _ KX ?_)); refine B1 hf fun Zu NZ hf=>U 1 Z (CL Z (kE _ NZ ?_)); cases hf; exact Rx 1 [2] Z Z (ZC [2] Z Z h)
 refine V 2 Z (C hf Z (fun h31 hf=>?_) fun h31 hf=>?_)
 ·
  rcases bQ hf with ⟨e14,h32,hf⟩ | ⟨x19,h32,hf⟩
  · refine Wr 2 [1,0] Z Z (CL Z (Sj _ _ h32 ?_)); cases hf; exact ⟨Z,[],List.nil_sublist _,h⟩
  refine Wr 2 [1,0] Z Z (CL Z (Sj _ _ h32 ?_)); cases hf; exact Rx 1 [2] Z Z (ZC [2] Z Z h)
 rcases bQ hf with ⟨e15,XJ,hf⟩ | ⟨x20,XJ,hf⟩
 · refine Wr 4 [1,0] Z Z (CL Z (ES _ _ _ XJ ?_)); cases hf; exact ⟨Z,[],List.nil_sublist _,h⟩
 refine Wr 4 [1,0] Z Z (CL Z (ES _ _ _ XJ ?_)); cases hf; exact Rx 1 [2] Z Z (ZC [2] Z Z h)
theorem IB (bJ) (bW:oK bJ) (dD) (m_:oL dD) (dA) (jk:qb dA) (cB) (lC:ng cB) (bZ) (kR:mg bZ) (s1:List aA) (e1:aj) {rX:fB aI ah} (hf:wz bJ dD dA cB bZ s1 e1=some rX) (h:Q (vI rX) τ):PC 182 [.list (List.map aA.cells s1),.agg (bE e1)] τ Q:=by
 unfold wz at hf; refine BN 41 [.cell 4 42] [0,1] Tryz.func182 Z Z Z Z Z (W 1 Z (AS Z (AO.aC Z gY (fun b4=>?_)))); rcases bQ hf with ⟨e2,h1,hf⟩ | ⟨x1,h1,hf⟩
 · refine U 4 Z (CL Z (jk _ _ h1 ?_)); cases hf; exact ⟨Z,[],List.nil_sublist _,h⟩
 refine U 4 Z (CL Z (jk _ _ h1 (AS Z (AO.aO (l:=x1) Z Z Z Z iK Z (ah.aB _) ?_)))); refine J 1 Z (AW.row 7 54 (V5 (fun dL v1 i1=>[(3,.ref (bE e1)),(4,pP b4),(5,.own v1 (List.map aA.cells dL)),(13,.list (ah.aM x1)),(14,iP (x1.length:Int)),(15,iP i1)]) (fun dL v1 i1=>[.row v1 (List.map aA.cells dL).length 7 54,.box b4 [iP 0,.bool false,iP 0,.str ([]:Str),.own (.slice none 0 0) [],.own (.slice none 0 0) []]]) (fun bX dL v1 i1=>qz e1 x1 bX dL i1=some rX) BIG [] (.slice none 0 0) 0 Z Z hf (fun _ _ _ hz=>bT hz) ?_)); intro bX dL v1 i1 hf; rw [qz] at hf; refine V 1 Z (C hf Z (fun h2 hf=>?_) fun h2 hf=>?_)
 ·
  refine B1 hf fun e3 h3 hf=>W 1 Z (AS Z (AO.aP h3 Z Z (ah.aB _) Z iK (ah.aD _) Z (U 1 Z (AS Z (AO.aC Z gY (fun b7=>(Rw 2 [0] Z Z (AW.draw 9 mixed (by kernel_rfl) Z ?_)))))))); refine Ev.cs bC 4 Z ?_; refine B1 hf fun e4 h4 hf=>Ev.cons Z Z Z (AO.aP h4 Z Z Z Z jm Z Z zg) (Ev.cs bC 1 Z (Ev.cons Z Z Z (AO.aR (i:=0) Z Z Z mK Z Z zg) (Ev.cons Z Z Z (AO.build Z Qb aa7 Z zg) ?_))); refine Ev.cons rfl rfl rfl (AO.bq (List.map aA.cells [(aA.mk e4 e3)]) rfl DC rfl rfl rfl (by first | rfl | simp only [List.map,aA.aD]) ⟨rfl,rfl⟩) ?_; refine Ev.nil ?_; show AR _ _ _ _ _ _ _ _
  refine B1 hf fun aaL h5 hf=>AS Z (AO.eZ (i:=1) (l:=dL) (m:=[(aA.mk e4 e3)]) h5 Z Z Z Z Z Z Z DC wC Z Z Z (aA.bG) (aA.cells_one) (by decide) (fun v2 s2 hs2=>?_)); cases hs2; refine fI 3 Z (AR.drop1 ?_); exact N 0 Z ⟨aaL,v2,(cZ (i1 + 1)),Z,Z,Z,hf⟩
 obtain ⟨x2,wF,h6,hf⟩:=bP hf; refine W 1 Z (CL Z (Xr _ h6 (U 3 Z (AS Z (AO.aC Z gY (fun b8=>?_)))))); rcases bQ hf with ⟨e5,h7,hf⟩ | ⟨_,h7,hf⟩
 · refine Rr 5 [0] Z Z (CL Z (bO _ _ h7 ?_)); cases hf; exact ⟨Z,[],List.nil_sublist _,h⟩
 refine Rr 5 [0] Z Z (CL Z (bO _ _ h7 ?_)); cases hf; exact Rx 2 [0,2] Z Z (ZC [2] Z Z h)
theorem qV :∀ k:Nat,(oK (gP k))∧(oL (gQ k))∧(qb (iy k))∧(ng (fQ k))∧(mg (fH k)):=by
 intro k
 induction k with
 | zero=>exact ⟨fun _ _ _ hz=>by first | cases hz | (unfold gP at hz; cases hz),fun _ _ _ hz=>by first | cases hz | (unfold gQ at hz; cases hz),fun _ _ _ hz=>by first | cases hz | (unfold iy at hz; cases hz),fun _ _ _ hz=>by first | cases hz | (unfold fQ at hz; cases hz),fun _ _ _ hz=>by first | cases hz | (unfold fH at hz; cases hz)⟩
 | succ k ih=>exact ⟨fun tQ j3 fq hz τ Q hq=>Mv (gP k) ih.1 (gQ k) ih.2.1 (iy k) ih.2.2.1 (fQ k) ih.2.2.2.1 (fH k) ih.2.2.2.2 tQ j3 hz hq,fun tQ j3 fq hz τ Q hq=>Mw (gP k) ih.1 (gQ k) ih.2.1 (iy k) ih.2.2.1 (fQ k) ih.2.2.2.1 (fH k) ih.2.2.2.2 tQ j3 hz hq,fun tQ ul1 fq hz τ Q hq=>Nu (gP k) ih.1 (gQ k) ih.2.1 (iy k) ih.2.2.1 (fQ k) ih.2.2.2.1 (fH k) ih.2.2.2.2 tQ ul1 hz hq,fun tQ j3 fq hz τ Q hq=>Ky (gP k) ih.1 (gQ k) ih.2.1 (iy k) ih.2.2.1 (fQ k) ih.2.2.2.1 (fH k) ih.2.2.2.2 tQ j3 hz hq,fun tQ j3 fq hz τ Q hq=>IB (gP k) ih.1 (gQ k) ih.2.1 (iy k) ih.2.2.1 (fQ k) ih.2.2.2.1 (fH k) ih.2.2.2.2 tQ j3 hz hq⟩
theorem EP (tQ:List aA) (j3:aj) {fq:fB aI ah} (hf:Hu tQ j3=some fq) (h:Q (zo fq) τ):PC 150 [.list (List.map aA.cells tQ),.agg (bE j3)] τ Q:=
 ((qV BIG).1) tQ j3 hf h
theorem Zk (tQ:List aA) (j3:aj) {fq:fB aI ah} (hf:PD tQ j3=some fq) (h:Q (zq fq) τ):PC 175 [.list (List.map aA.cells tQ),.agg (bE j3)] τ Q:=
 ((qV BIG).2.1) tQ j3 hf h
theorem aar (tQ:List aA) (ul1:List aj) {fq:fB aI (List ah)} (hf:RA tQ ul1=some fq) (h:Q (Ap fq) τ):PC 180 [.list (List.map aA.cells tQ),.list (aj.aM ul1)] τ Q:=
 ((qV BIG).2.2.1) tQ ul1 hf h
theorem XK (tQ:List aA) (j3:aj) {fq:fB aI ah} (hf:M7 tQ j3=some fq) (h:Q (xD fq) τ):PC 177 [.list (List.map aA.cells tQ),.agg (bE j3)] τ Q:=
 ((qV BIG).2.2.2.1) tQ j3 hf h
theorem Xz (tQ:List aA) (j3:aj) {fq:fB aI ah} (hf:LY tQ j3=some fq) (h:Q (vI fq) τ):PC 182 [.list (List.map aA.cells tQ),.agg (bE j3)] τ Q:=
 ((qV BIG).2.2.2.2) tQ j3 hf h
end
section
variable [Am]
theorem Ov (s1:List aA) (e1:aj) {r0:ah} {r1:Int} (hf:wu s1 e1=some (r0,r1)) (h:Q (.ret (.tuple [.agg (aN r0),iP r1])) τ):PC 119 [.list (List.map aA.cells s1),.agg (bE e1)] τ Q:=by
 unfold wu at hf; refine AC.none (AC.OV 10 [.cell 4 42,.cell 5 25] [0,1] [0,1] Tryz.func119 Z Z Z Z Z Tryz.func149 Z Z Z Z Z Z Z aeR (AW.sr (AR.step Z Z Z (AO.Dc Z Z Z ?_)))); refine AR.step Z Z Z (AO.aC Z gY (fun b4=>(AR.step Z Z Z (AO.aC Z aaF (fun b5=>(AR.nil [0,3,4,5] Z (AW.sr ?_))))))); refine cs 1 Z (AR.defer (vs:=[.pointer (some ⟨b4,0,none⟩),.pointer (some ⟨b5,0,none⟩)]) Z Z Z Z Z Z (AR.nil [0,3,4,5] Z (AW.sr ?_))); refine cs 2 Z ?_; rcases bQ hf with ⟨f1,h1,hf⟩ | ⟨v1,h1,hf⟩
 ·
  refine AR.step Z Z Z (AO.call Z _ Z Z I9 (EP _ _ h1 ?_)); cases hf; refine ⟨[.pointer (some ⟨b4,0,none⟩),.pointer (some ⟨b5,0,none⟩)],_,Z,Z,Z,(AR.step Z Z Z (AO.YM Z Z ac6 (cs 3 Z (AR.step Z Z Z (AO.aC Z aaH (fun b6=>?_))))))⟩; refine AR.bF Z Z (AO.bR (i:=0) Z Z Z aa3 Z Z Z Z Z (cs 1 Z (AR.nil [0,1,2,3] Z (AW.sr ?_)))); refine cs 1 Z (AR.nil [0,1,2,9] Z (AW.cond Z (fun _=>?_) (fun hh=>by cases hh))); refine AW.Xi 1 3 4 [_] [_,_] mixed (by kernel_rfl) (by kernel_rfl) (by kernel_rfl) Z Z Z (List.Perm.refl _) ?_; refine Ev.cons Z Z Z (AO.build Z gY U8 Z zg) (Ev.nil ?_); show Ev _ _ _ _ _ _ _; refine Ev.cs bC 1 Z (Ev.cons Z Z Z (AO.aR (i:=0) Z Z Z EA Z Z zg) (Ev.nil (TF.bF Z Z (AO.bR (i:=1) Z Z Z mK Z Z Z Z Z ?_)))); refine TF.nil ?_; show AR _ _ _ _ _ _ _ _; refine AR.bF Z Z (AO.bR (i:=1) Z Z Z EA Z Z Z Z Z (AR.nil [] Z ?_)); exact ⟨rfl,_,⟨_,_,rfl,⟨_,_,2,_,_,rfl,rfl,mK,rfl⟩,⟨_,_,rfl,⟨_,_,1,_,_,rfl,rfl,EA,rfl⟩,rfl⟩⟩,[],List.nil_sublist _,h⟩
 refine AR.step Z Z Z (AO.call Z _ Z Z I9 (EP _ _ h1 ?_)); cases hf; refine AR.bF Z Z (AO.bR (i:=1) Z Z Z mK Z Z Z Z Z (AR.bF Z Z (AO.bR (i:=0) Z Z Z EA Z Z Z Z Z (AR.nil [4,5] Z (AW.ret ?_))))); refine ⟨[.pointer (some ⟨b4,0,none⟩),.pointer (some ⟨b5,0,none⟩)],_,Z,Z,Z,(AR.step Z Z Z (AO.Wm (p:=.agg [iP 0]) Z Z ac8 (fun _ _=>by simp only [dK]; exact ⟨[.int .i64 0],Z,bD.cons (by simp [dK]) bD.nil⟩) ?_))⟩; refine cs 3 Z (AR.step Z Z Z (AO.aC Z aaH (fun b6=>(AR.bF Z Z (AO.bR (i:=0) Z Z Z aa3 Z Z Z Z Z (cs 1 Z ?_)))))); refine AR.nil [3] Z (AW.sr (cs 1 Z (AR.nil [9] Z ?_))); refine AW.cond Z (fun hh=>by cases hh) (fun _=>?_); refine AW.skip ?_; exact ⟨rfl,_,⟨_,_,rfl,⟨_,_,2,_,_,rfl,rfl,mK,rfl⟩,⟨_,_,rfl,⟨_,_,1,_,_,rfl,rfl,EA,rfl⟩,rfl⟩⟩,[],List.nil_sublist _,h⟩
end
abbrev Nr (mJ:ah→Option ah):Prop:=∀ (tO:ah) {aZ:ah},mJ tO=some aZ→∀ {τ:List bf} {Q:dx→List bf→Prop} (h:Q (.ret (.agg (aN aZ))) τ),PC 120 [.agg (aN tO)] τ Q
theorem U0 (mJ) (Rq:Nr mJ) (v1:ah) {r0:ah} (hf:C8 mJ v1=some r0) (h:Q (.ret (.agg (aN r0))) τ):PC 120 [.agg (aN v1)] τ Q:=by
 unfold C8 at hf; refine BN 31 [.cell 2 42] [0] Tryz.func120 Z Z Z Z Z (W 1 Z (AS Z (AO.aC Z gY (fun b2=>(U 1 Z (AS Z (AO.aC Z gY (fun b3=>(Rr 7 [0,0,0] Z Z (AS Z (AO.aO (l:=v1.aW) Z Z Z Z iK Z (ah.aB _) ?_))))))))))); refine J 1 Z (AW.row 6 42 (AW.row 1 9 (LK4 (fun x1 bn v2 v3=>[(1,.ref (aN v1)),(2,pP b2),(3,pP b3),(10,.list (ah.aM v1.aW)),(11,iP (v1.aW.length:Int)),(12,iP x1)]) (fun x1 bn v2 v3=>[.row v3 (List.map nD bn.keys).length 1 9,.row v2 (ah.aM bn.aW).length 6 42,.box b3 [iP bn.kind,.bool bn.eB,iP bn.gI,.str bn.fM,.own v2 (ah.aM bn.aW),.own v3 (List.map nD bn.keys)],.box b2 [iP 0,.bool false,iP 0,.str ([]:Str),.own (.slice none 0 0) [],.own (.slice none 0 0) []]]) (fun bX x1 bn v2 v3=>xX mJ v1 bX x1 bn=some r0) BIG 0 (ah.mk v1.kind v1.eB v1.gI v1.fM [] []) (.slice none 0 0) (.slice none 0 0) Z Z hf (fun _ _ _ _ hz=>bT hz) ?_))); intro bX x1 bn v2 v3 hf; rw [xX] at hf; refine V 1 Z (C hf Z (fun h1 hf=>?_) fun h1 hf=>?_)
 ·
  refine B1 hf fun e1 h2 hf=>W 0 Z (AS Z (AO.aP h2 Z Z (ah.aB _) Z iK (ah.aD _) Z (U 1 Z (AS Z (AO.aC Z gY (fun b5=>(Rw 1 [0] Z Z (AW.draw 5 mixed (by kernel_rfl) Z ?_)))))))); refine Ev.cs bC 1 Z (Ev.cons Z Z Z (AO.aR (i:=3) Z Z Z IJ Z Z zg) (Ev.cons Z Z Z (AO.aR (i:=0) Z Z Z mK Z Z zg) ?_)); refine B1 hf fun x2 h3 hf=>Ev.cons rfl rfl rfl (AO.call rfl _ rfl rfl ae5 (Rq _ h3 ⟨rfl,rfl⟩)) (Ev.cons rfl rfl rfl (AO.bq (ah.aM [x2]) rfl yY rfl rfl rfl (by first | rfl | simp only [List.map,ah.aD,ah.aM]) ⟨rfl,rfl⟩) ?_)
  refine Ev.nil ?_; show AR _ _ _ _ _ _ _ _; refine B1 hf fun x3 h4 hf=>AS Z (AO.eZ (i:=2) (l:=bn.aW) (m:=[x2]) h4 Z Z Z Z Z Z Z yY iK (ah.aB _) (ah.aB _) (ah.aB _).symm (ah.bG) (ah.cells_one) (by decide) (fun v4 s1 hs1=>?_)); cases hs1; refine Rn 4 [3] Z Z (AR.drop1 ?_); exact N 0 Z ⟨(cZ (x1 + 1)),(ah.mk bn.kind bn.eB bn.gI bn.fM x3 bn.keys),v4,v3,Z,Z,Z,hf⟩
 refine B1 hf fun x4 h5 hf=>Wr 4 [2] Z Z (AS Z (AO.eZ (i:=0) (l:=bn.keys) (m:=v1.keys) h5 Z Z Z Z Z Z Z tH jm Z Z Z (fun _=>Z) (fun _=>Z) (by decide) (fun v5 s2 hs2=>?_))); cases hs2; cases hf; exact Rx 4 [2,2,3] Z Z (ZC [3] Z Z h)
theorem Vl :∀ k:Nat,(Nr (nX k)):=by
 intro k
 induction k with
 | zero=>exact fun _ _ hz=>by first | cases hz | (unfold nX at hz; cases hz)
 | succ k ih=>exact fun tO aZ hz τ Q hq=>U0 (nX k) ih tO hz hq
theorem VQ (tO:ah) {aZ:ah} (hf:AU tO=some aZ) (h:Q (.ret (.agg (aN aZ))) τ):PC 120 [.agg (aN tO)] τ Q:=
 ((Vl BIG)) tO hf h
section
variable [Am]
theorem JO (e1:aj) (ou:List aA) {r0:ah} {r1:Int} (hf:AV e1 ou=some (r0,r1)) (h:Q (.ret (.tuple [.agg (aN r0),iP r1])) τ):PC 89 [.agg (bE e1),.list (List.map aA.cells ou)] τ Q:=by
 unfold AV at hf; refine BN 28 [.cell 4 42,.tmp 5] [0,1] Tryz.func89 Z Z Z Z Z (W 1 Z (AS Z (AO.aC Z gY (fun b4=>?_)))); obtain ⟨s1,f1,h1,hf⟩:=bP hf; refine U 3 Z (CL Z (TP _ _ h1 (J 7 Z (C hf Z (fun h2 hf=>?_) fun h2 hf=>?_))))
 · cases hf; exact Wx 4 [0] Z Z (ZC [0] Z Z h)
 obtain ⟨x1,f2,h3,hf⟩:=bP hf; refine W 2 Z (CL Z (Ov _ _ h3 (U 3 Z (AS Z (AO.aC Z gY (fun b8=>?_)))))); refine B1 hf fun x2 h4 hf=>Rr 3 [0,0] Z Z (CL Z (VQ _ h4 ?_)); cases hf; exact Rx 3 [1] Z Z (ZC [1] Z Z h)
end
abbrev JZ (qL:aJ→Option aJ):Prop:=∀ (XH:aJ) {aZ:aJ},qL XH=some aZ→∀ {τ:List bf} {Q:dx→List bf→Prop} (h:Q (.ret (.agg (gu aZ))) τ),PC 110 [.agg (gu XH)] τ Q
theorem Ql (qL) (N7:JZ qL) (t1:aJ) {r0:aJ} (hf:vM qL t1=some r0) (h:Q (.ret (.agg (gu r0))) τ):PC 110 [.agg (gu t1)] τ Q:=by
 unfold vM at hf; refine BN 18 [.cell 2 61] [0] Tryz.func110 Z Z Z Z Z (W 1 Z (AS Z (AO.aC Z Ml (fun b2=>?_)))); refine B1 hf fun x1 h1 hf=>U 2 Z (CL Z (o7 _ h1 (J 1 Z (C hf Z (fun h2 hf=>?_) fun h2 hf=>?_))))
 · refine BR hf fun x2 h3 hf=>?_; refine W 2 Z (CL Z (lV _ h3 ?_)); cases hf; exact Rx 1 [0] Z Z (ZC [0] Z Z h)
 refine V 0 Z (AW.draw 8 mixed (by kernel_rfl) Z ?_); refine Ev.cs bC 4 Z ?_; refine B1 hf fun e1 h4 hf=>Ev.cons Z Z Z (AO.aP h4 Z Z (aJ.aB _) Z O3 (aJ.aD _) Z zg) (Ev.cs bC 1 Z ?_); refine B1 hf fun x3 h5 hf=>Ev.cons Z Z Z (AO.call Z _ Z Z ae9 (N7 _ h5 zg)) ?_; refine BR hf fun x4 h6 hf=>?_; refine Ev.cons Z Z Z (AO.call Z _ Z Z abl (BO _ _ h6 zg)) (Ev.nil ?_); show AR _ _ _ _ _ _ _ _; cases hf; exact Rx 1 [0] Z Z (ZC [0] Z Z h)
theorem Q6 :∀ k:Nat,(JZ (nZ k)):=by
 intro k
 induction k with
 | zero=>exact fun _ _ hz=>by first | cases hz | (unfold nZ at hz; cases hz)
 | succ k ih=>exact fun XH aZ hz τ Q hq=>Ql (nZ k) ih XH hz hq
theorem Jy (XH:aJ) {aZ:aJ} (hf:CJ XH=some aZ) (h:Q (.ret (.agg (gu aZ))) τ):PC 110 [.agg (gu XH)] τ Q:=
 ((Q6 BIG)) XH hf h
abbrev Ld (sI:aJ→aJ→Option aJ):Prop:=∀ (uy:aJ) (oz:aJ) {aZ:aJ},sI uy oz=some aZ→∀ {τ:List bf} {Q:dx→List bf→Prop} (h:Q (.ret (.agg (gu aZ))) τ),PC 70 [.agg (gu uy),.agg (gu oz)] τ Q
theorem SI (sI) (Px:Ld sI) (a1:aJ) (b1:aJ) {r0:aJ} (hf:rJ sI a1 b1=some r0) (h:Q (.ret (.agg (gu r0))) τ):PC 70 [.agg (gu a1),.agg (gu b1)] τ Q:=by
 unfold rJ at hf; refine BN 43 [.cell 4 61] [0,1] Tryz.func70 Z Z Z Z Z (W 2 Z (AS Z (AO.aC Z Ml (fun b4=>(J 4 Z (C hf Z (fun h1 hf=>?_) fun h1 hf=>?_))))))
 · refine BR hf fun x1 h2 hf=>?_; refine W 1 Z (CL Z (Jy _ h2 ?_)); cases hf; exact Rx 1 [0] Z Z (ZC [0] Z Z h)
 refine V 4 Z (C hf Z (fun h3 hf=>?_) fun h3 hf=>?_)
 · refine BR hf fun x2 h4 hf=>?_; refine W 1 Z (CL Z (Jy _ h4 ?_)); cases hf; exact Rx 1 [0] Z Z (ZC [0] Z Z h)
 refine V 6 Z (C hf Z (fun h5 hf=>?_) fun h5 hf=>?_)
 · refine BR hf fun x3 h6 hf=>?_; refine W 0 Z (CL Z (lV _ h6 ?_)); cases hf; exact Rx 1 [0] Z Z (ZC [0] Z Z h)
 refine B1 hf fun x4 h7 hf=>W 2 Z (CL Z (o7 _ h7 (J 1 Z (C hf Z (fun h8 hf=>?_) fun h8 hf=>?_))))
 ·
  refine V 0 Z (AW.draw 12 mixed (by kernel_rfl) Z ?_); refine Ev.cs bC 4 Z ?_; refine B1 hf fun e1 h9 hf=>Ev.cons Z Z Z (AO.aP h9 Z Z (aJ.aB _) Z O3 (aJ.aD _) Z zg) (Ev.cs bC 3 Z ?_); refine B1 hf fun e2 h10 hf=>Ev.cons Z Z Z (AO.aP h10 Z Z (aJ.aB _) Z O3 (aJ.aD _) Z zg) (Ev.cs bC 1 Z ?_); refine B1 hf fun x5 h11 hf=>Ev.cons Z Z Z (AO.call Z _ Z Z adU (Px _ _ h11 zg)) ?_; refine BR hf fun x6 h12 hf=>?_; refine Ev.cons Z Z Z (AO.call Z _ Z Z abl (BO _ _ h12 zg)) (Ev.nil ?_); show AR _ _ _ _ _ _ _ _; cases hf; exact Rx 1 [0] Z Z (ZC [0] Z Z h)
 refine BR hf fun x7 lZ hf=>?_; refine W 2 Z (CL Z (lV _ lZ ?_)); cases hf; exact Rx 1 [0] Z Z (ZC [0] Z Z h)
theorem S_ :∀ k:Nat,(Ld (mH k)):=by
 intro k
 induction k with
 | zero=>exact fun _ _ _ hz=>by first | cases hz | (unfold mH at hz; cases hz)
 | succ k ih=>exact fun uy oz aZ hz τ Q hq=>SI (mH k) ih uy oz hz hq
theorem Tw (uy:aJ) (oz:aJ) {aZ:aJ} (hf:Ey uy oz=some aZ) (h:Q (.ret (.agg (gu aZ))) τ):PC 70 [.agg (gu uy),.agg (gu oz)] τ Q:=
 ((S_ BIG)) uy oz hf h
abbrev Lf (lI:ah→Option aJ):Prop:=∀ (tO:ah) {aZ:aJ},lI tO=some aZ→∀ {τ:List bf} {Q:dx→List bf→Prop} (h:Q (.ret (.agg (gu aZ))) τ),PC 41 [.agg (aN tO)] τ Q
theorem SK (lI) (Py:Lf lI) (v1:ah) {r0:aJ} (hf:Bf lI v1=some r0) (h:Q (.ret (.agg (gu r0))) τ):PC 41 [.agg (aN v1)] τ Q:=by
 unfold Bf at hf; refine BN 40 [.cell 2 61] [0] Tryz.func41 Z Z Z Z Z (W 1 Z (AS Z (AO.aC Z Ml (fun b2=>(J 4 Z (C hf Z (fun h1 hf=>?_) fun h1 hf=>?_))))))
 · refine BR hf fun x1 h2 hf=>?_; refine W 0 Z (CL Z (lV _ h2 ?_)); cases hf; exact Rx 1 [0] Z Z (ZC [0] Z Z h)
 refine V 2 Z (C hf Z (fun h3 hf=>?_) fun h3 hf=>?_)
 · refine BR hf fun x2 h4 hf=>?_; refine W 0 Z (CL Z (lV _ h4 ?_)); cases hf; exact Rx 1 [0] Z Z (ZC [0] Z Z h)
 refine V 2 Z (C hf Z (fun h5 hf=>?_) fun h5 hf=>?_)
 · refine BR hf fun x3 h6 hf=>?_; refine W 0 Z (CL Z (lV _ h6 ?_)); cases hf; exact Rx 1 [0] Z Z (ZC [0] Z Z h)
 refine V 2 Z (C hf Z (fun h7 hf=>?_) fun h7 hf=>?_)
 · refine BR hf fun x4 h8 hf=>?_; refine W 0 Z (CL Z (lV _ h8 ?_)); cases hf; exact Rx 1 [0] Z Z (ZC [0] Z Z h)
 refine B1 hf fun x5 h9 hf=>W 0 Z (CL Z (lV _ h9 (AS Z (AO.aC Z Ml (fun b3=>(Rr 3 [0] Z Z (AS Z (AO.aO (l:=v1.aW) Z Z Z Z iK Z (ah.aB _) ?_)))))))); refine J 1 Z (Zq (fun x6 qE=>[(1,.ref (aN v1)),(2,pP b2),(3,pP b3),(22,.list (ah.aM v1.aW)),(23,iP (v1.aW.length:Int)),(24,iP x6)]) (fun x6 qE=>[.box b3 (gu qE),.box b2 [iP 0,.own (.slice none 0 0) []]]) (fun bX x6 qE=>vL lI v1 bX x6 qE=some r0) BIG 0 x5 Z Z hf (fun _ _ hz=>bT hz) ?_); intro bX x6 qE hf; rw [vL] at hf; refine V 1 Z (C hf Z (fun h10 hf=>?_) fun h10 hf=>?_)
 ·
  refine B1 hf fun e1 h11 hf=>W 0 Z (AS Z (AO.aP h11 Z Z (ah.aB _) Z iK (ah.aD _) Z (U 1 Z (AS Z (AO.aC Z gY (fun b5=>(Rw 1 [0] Z Z (AW.draw 4 mixed (by kernel_rfl) Z ?_)))))))); refine Ev.cons Z Z Z (AO.aR (i:=1) Z Z Z adM Z Z zg) (Ev.cons Z Z Z (AO.aR (i:=0) Z Z Z mK Z Z zg) ?_); refine B1 hf fun x7 h12 hf=>Ev.cons Z Z Z (AO.call Z _ Z Z adZ (Py _ h12 zg)) ?_; refine B1 hf fun x8 lZ hf=>Ev.cons Z Z Z (AO.call Z _ Z Z adU (Tw _ _ lZ zg)) (Ev.nil ?_); show AR _ _ _ _ _ _ _ _; refine Rn 3 [1] Z Z (AR.drop1 ?_); exact N 0 Z ⟨(cZ (x6 + 1)),x8,Z,Z,Z,hf⟩
 refine V 3 Z (C hf Z (fun nu hf=>?_) fun nu hf=>?_)
 · refine BR hf fun x9 tq hf=>?_; refine Wr 1 [0] Z Z (CL Z (BO _ _ tq ?_)); cases hf; exact Rx 1 [1] Z Z (ZC [1] Z Z h)
 refine BR hf fun Il h16 hf=>?_; refine Wr 1 [0] Z Z (CL Z (BO _ _ h16 ?_)); cases hf; exact Rx 1 [1] Z Z (ZC [1] Z Z h)
theorem Ta :∀ k:Nat,(Lf (nS k)):=by
 intro k
 induction k with
 | zero=>exact fun _ _ hz=>by first | cases hz | (unfold nS at hz; cases hz)
 | succ k ih=>exact fun tO aZ hz τ Q hq=>SK (nS k) ih tO hz hq
theorem Tx (tO:ah) {aZ:aJ} (hf:II tO=some aZ) (h:Q (.ret (.agg (gu aZ))) τ):PC 41 [.agg (aN tO)] τ Q:=
 ((Ta BIG)) tO hf h
theorem Jz (t1:aJ) {r0:Int} (hf:pF t1=some r0) (h:Q (.ret (iP r0)) τ):PC 108 [.agg (gu t1)] τ Q:=by
 unfold pF at hf; refine BN 43 [.tmp 2] [0] Tryz.func108 Z Z Z Z Z (W 0 Z (AS Z (AO.Kr Z Z (fun b1=>(J 2 Z (Zq (fun bS t2=>[(1,pP b1),(3,iP bS)]) (fun bS t2=>[.box b1 (gu t2)]) (fun bX bS t2=>lQ bX bS t2=some r0) BIG 1 t1 Z Z hf (fun _ _ hz=>bT hz) ?_)))))); intro bX bS t2 hf; rw [lQ] at hf; refine V 2 Z (C hf Z (fun h1 hf=>?_) fun h1 hf=>?_)
 · cases hf; exact M 1 Z (Y Z h)
 refine B1 hf fun x1 h2 hf=>Wr 2 [0] Z Z (CL Z (Fu _ h2 ?_)); refine B1 hf fun b1 h4 hf=>U 2 Z (AR.fK 10 12 22 false [1,3] b1 Z Z (fun h3=>?_) (fun h3=>?_) ?_)
 ·
  replace h4:=iw h3 h4; refine Is 12 h3 Z (U 1 Z (GO Z (AO.aR (i:=0) Z Z Z Ep Z Z ?_))); refine B1 h4 fun x2 h5 h4=>GO Z (AO.call Z _ Z Z abE (o7 _ h5 (U 1 Z (AR.and 5 16 21 [1,3,12] (x:=((t2.elem.length:Int) != 1)) Z Z (fun h6=>?_) (fun h6=>?_) ?_))))
  · refine Is 16 h6 Z (U 1 Z (GO Z (AO.aR (i:=0) Z Z Z adN Z Z (GO Z (AO.aO (l:=t2.elem) Z Z Z Z O3 Z (aJ.aB _) ?_))))); exact fI 2 Z (En [21,1,3,12] Z)
  · refine Is 16 h6 Z ?_; exact fI 5 Z (En [21,1,3,12] Z)
  cases h4; exact fI 1 Z (En [22,1,3] Z)
 · refine IT 12 h3 h4 Z fun h4=>?_; cases h4; exact fI 10 Z (En [22,1,3] Z)
 refine B1 hf fun b2 h8 hf=>U 1 Z (AR.fK 11 23 34 false [1,3] b2 Z Z (fun h7=>?_) (fun h7=>?_) ?_)
 ·
  replace h8:=iw h7 h8; refine Is 23 h7 Z (U 1 Z (GO Z (AO.aR (i:=0) Z Z Z Ep Z Z ?_))); refine B1 h8 fun x3 h9 h8=>GO Z (AO.call Z _ Z Z abE (o7 _ h9 (U 2 Z (AR.and 5 28 33 [1,3,23] (x:=((t2.elem.length:Int) != 0)) Z Z (fun h10=>?_) (fun h10=>?_) ?_))))
  · refine Is 28 h10 Z (U 1 Z (GO Z (AO.aR (i:=0) Z Z Z adN Z Z (GO Z (AO.aO (l:=t2.elem) Z Z Z Z O3 Z (aJ.aB _) ?_))))); exact fI 2 Z (En [33,1,3,23] Z)
  · refine Is 28 h10 Z ?_; exact fI 5 Z (En [33,1,3,23] Z)
  cases h8; exact fI 1 Z (En [34,1,3] Z)
 · refine IT 23 h7 h8 Z fun h8=>?_; cases h8; exact fI 11 Z (En [34,1,3] Z)
 refine J 0 Z (C hf Z (fun h11 hf=>?_) fun h11 hf=>?_)
 · cases hf; exact M 1 Z (Y Z h)
 refine B1 hf fun x4 h12 hf=>Wr 2 [0] Z Z (CL Z (o7 _ h12 (J 1 Z (C hf Z (fun lZ hf=>?_) fun lZ hf=>?_))))
 · cases hf; exact M 1 Z (Y Z h)
 refine B1 hf fun e1 nu hf=>Wr 2 [0] Z Z (AS Z (AO.aP nu Z Z (aJ.aB _) Z O3 (aJ.aD _) Z ?_)); exact Rx 5 [0] Z Z ⟨(cZ (bS + 1)),e1,Z,Z,Z,hf⟩
theorem Tz (a1:aJ) (b1:aJ) {r0:Bool} (hf:Ez a1 b1=some r0) (h:Q (.ret (.bool r0)) τ):PC 67 [.agg (gu a1),.agg (gu b1)] τ Q:=by
 unfold Ez at hf; refine BN 13 [.tmp 4] [0,1] Tryz.func67 Z Z Z Z Z ?_; refine B1 hf fun x1 h1 hf=>W 4 Z (CL Z (Jz _ h1 ?_)); refine BR hf fun b2 h3 hf=>?_; refine U 2 Z (AR.fK 4 8 12 true [] b2 Z Z (fun h2=>?_) (fun h2=>?_) ?_)
 · refine IT 8 h2 h3 Z fun h3=>?_; refine B1 h3 fun x2 h4 h3=>U 1 Z (GO Z (AO.call Z _ Z Z ae_ (Jz _ h4 ?_))); cases h3; exact fI 2 Z (En [12] Z)
 · refine IF 8 h2 h3 Z fun h3=>?_; cases h3; exact fI 4 Z (En [12] Z)
 cases hf; exact N 1 Z (Y Z h)
abbrev Ia (p9:aJ→aJ→Option Bool):Prop:=∀ (uy:aJ) (oz:aJ) {aZ:Bool},p9 uy oz=some aZ→∀ {τ:List bf} {Q:dx→List bf→Prop} (h:Q (.ret (.bool aZ)) τ),PC 68 [.agg (gu uy),.agg (gu oz)] τ Q
theorem Pg (p9) (M4:Ia p9) (a1:aJ) (b1:aJ) {r0:Bool} (hf:yu p9 a1 b1=some r0) (h:Q (.ret (.bool r0)) τ):PC 68 [.agg (gu a1),.agg (gu b1)] τ Q:=by
 unfold yu at hf; refine BN 33 [.tmp 4] [0,1] Tryz.func68 Z Z Z Z Z (W 7 Z (On 4 9 13 [2,3] (b1.kind == 0) Z Z Z Z (J 1 Z (C hf Z (fun h2 hf=>?_) fun h2 hf=>?_))))
 · cases hf; exact M 1 Z (Y Z h)
 refine V 6 Z (C hf Z (fun h3 hf=>?_) fun h3 hf=>?_)
 · cases hf; exact M 1 Z (Y Z h)
 refine B1 hf fun x1 h4 hf=>W 2 Z (CL Z (o7 _ h4 (J 1 Z (C hf Z (fun h5 hf=>?_) fun h5 hf=>?_))))
 ·
  refine V 0 Z (AW.draw 10 mixed (by kernel_rfl) Z ?_); refine Ev.cs bC 2 Z ?_; refine B1 hf fun e1 h6 hf=>Ev.cons Z Z Z (AO.aP h6 Z Z (aJ.aB _) Z O3 (aJ.aD _) Z zg) (Ev.cs bC 3 Z ?_); refine B1 hf fun e2 h7 hf=>Ev.cons Z Z Z (AO.aP h7 Z Z (aJ.aB _) Z O3 (aJ.aD _) Z zg) (Ev.cs bC 1 Z ?_); refine BR hf fun x2 h8 hf=>?_; refine Ev.cons Z Z Z (AO.call Z _ Z Z adV (M4 _ _ h8 zg)) (Ev.cs bC 1 Z (Ev.nil ?_)); show AR _ _ _ _ _ _ _ _; cases hf; exact N 0 Z (Y Z h)
 cases hf; exact M 1 Z (Y Z h)
theorem Pv :∀ k:Nat,(Ia (qJ k)):=by
 intro k
 induction k with
 | zero=>exact fun _ _ _ hz=>by first | cases hz | (unfold qJ at hz; cases hz)
 | succ k ih=>exact fun uy oz aZ hz τ Q hq=>Pg (qJ k) ih uy oz hz hq
theorem PI (uy:aJ) (oz:aJ) {aZ:Bool} (hf:EY uy oz=some aZ) (h:Q (.ret (.bool aZ)) τ):PC 68 [.agg (gu uy),.agg (gu oz)] τ Q:=
 ((Pv BIG)) uy oz hf h
theorem VK (a1:aJ) (b1:aJ) {r0:Bool} (hf:Gc a1 b1=some r0) (h:Q (.ret (.bool r0)) τ):PC 40 [.agg (gu a1),.agg (gu b1)] τ Q:=by
 unfold Gc at hf; refine BN 13 [.tmp 4] [0,1] Tryz.func40 Z Z Z Z Z ?_; refine B1 hf fun x1 h1 hf=>W 5 Z (CL Z (Tz _ _ h1 ?_)); refine BR hf fun b2 h3 hf=>?_; refine U 1 Z (AR.fK 4 8 12 true [] b2 Z Z (fun h2=>?_) (fun h2=>?_) ?_)
 · refine IT 8 h2 h3 Z fun h3=>?_; refine BR h3 fun x2 h4 h3=>?_; refine U 2 Z (GO Z (AO.call Z _ Z Z adV (PI _ _ h4 ?_))); cases h3; exact fI 1 Z (En [12] Z)
 · refine IF 8 h2 h3 Z fun h3=>?_; cases h3; exact fI 4 Z (En [12] Z)
 cases hf; exact N 1 Z (Y Z h)
theorem K4 (v1:ah) (t1:aJ) {r0:Bool} (hf:yX v1 t1=some r0) (h:Q (.ret (.bool r0)) τ):PC 22 [.agg (aN v1),.agg (gu t1)] τ Q:=by
 unfold yX at hf; refine BN 14 [.tmp 4] [0,1] Tryz.func22 Z Z Z Z Z (V 3 Z (AW.draw 10 mixed (by kernel_rfl) Z ?_)); refine Ev.cs bC 1 Z ?_; refine B1 hf fun x1 h1 hf=>Ev.cons Z Z Z (AO.call Z _ Z Z ad1 (pU _ h1 zg)) (Ev.cs bC 2 Z ?_); refine BR hf fun b1 h3 hf=>?_; refine Ev.fK hKA 5 8 13 true [] (.bool b1) Z Z (fun h2=>?_) (fun h2=>?_) ?_
 · replace h3:=jF h2 h3; refine Ev.is W_ 8 h2 Z (Ev.cs bC 1 Z ?_); refine B1 h3 fun x2 h4 h3=>Ev.run Z Z Z Z Z Z Z (AO.call Z _ Z Z adZ (Tx _ h4 zg)) (Ev.cs bC 1 Z ?_); refine BR h3 fun x3 h5 h3=>?_; refine Ev.run Z Z Z Z Z Z Z (AO.call Z _ Z Z agU (VK _ _ h5 zg)) ?_; cases h3; refine Ev.cs bC 1 Z ?_; exact Ev.nil (Less.settle (ps:=[13]) Z)
 · replace h3:=iw h2 h3; refine Ev.is W_ 8 h2 Z ?_; cases h3; refine Ev.cs bC 5 Z ?_; exact Ev.nil (Less.settle (ps:=[13]) Z)
 refine Ev.cs bC 1 Z (Ev.nil ?_); show AR _ _ _ _ _ _ _ _; cases hf; exact N 0 Z (Y Z h)
section
variable [Am]
theorem Oi (b1:au) {r0:bN} {r1:Int} (hf:Dx b1=some (r0,r1)) (h:Q (.ret (.tuple [.agg (zl r0),iP r1])) τ):PC 83 [.agg (dY b1)] τ Q:=by
 unfold Dx at hf; refine BN 101 [.cell 2 63,.tmp 3] [0] Tryz.func83 Z Z Z Z Z (W 1 Z (AS Z (AO.aC Z Yz (fun b2=>?_)))); refine B1 hf fun x1 h1 hf=>U 3 Z (CL Z (Oh _ h1 (U 2 Z (AR.or 5 16 21 [1,2] (x:=(decide (0 < (b1.blocks.length:Int)))) Z Z (fun h2=>?_) (fun h2=>?_) ?_))))
 · refine Is 16 h2 Z (U 2 Z (GO Z (AO.aO (l:=b1.blocks) Z Z Z Z jG Z (au.aB _) ?_))); exact fI 2 Z (En [21,1,2] Z)
 · refine Is 16 h2 Z ?_; exact fI 5 Z (En [21,1,2] Z)
 refine J 0 Z (C hf Z (fun h3 hf=>?_) fun h3 hf=>?_)
 · cases hf; exact Wx 3 [0] Z Z (ZC [0] Z Z h)
 refine W 2 Z (AS Z (AO.aO (l:=b1.attrs) Z Z Z Z o9 Z Z ?_)); refine J 1 Z (JY (fun x2=>[(1,.ref (dY b1)),(2,pP b2),(24,.list (List.map aK.cells b1.attrs)),(25,iP (b1.attrs.length:Int)),(26,iP x2)]) (fun x2=>[.box b2 [.str ([]:Str),iP 0,.own (.slice none 0 0) [],.bool false,iP 0,.bool false,iP 0,.str ([]:Str),.own (.slice none 0 0) [],.own (.slice none 0 0) []]]) (fun bX x2=>u6 b1 bX x2=some (r0,r1)) BIG 0 Z Z hf (fun _ hz=>bT hz) ?_); intro bX x2 hf; rw [u6] at hf; refine V 1 Z (C hf Z (fun h4 hf=>?_) fun h4 hf=>?_)
 ·
  refine B1 hf fun e1 h5 hf=>W 0 Z (AS Z (AO.aP h5 Z Z Z Z o9 (aK.aD _) Z (U 1 Z (AS Z (AO.aC Z OA (fun b5=>(Rr 5 [0,0] Z Z (AR.and 4 33 37 [1,2,24,25,26] (x:=(!(e1.name == ([100,101,102,97,117,108,116]:Str)))) Z Z (fun h6=>?_) (fun h6=>?_) ?_))))))))
  · refine Is 33 h6 Z (U 1 Z (GO Z (AO.aR (i:=0) Z Z Z Qw Z Z ?_))); exact fI 2 Z (En [37,1,2,24,25,26] Z)
  · refine Is 33 h6 Z ?_; exact fI 4 Z (En [37,1,2,24,25,26] Z)
  refine J 0 Z (C hf Z (fun h7 hf=>?_) fun h7 hf=>?_)
  · cases hf; exact Wx 3 [1] Z Z (ZC [1] Z Z h)
  refine Wn0 2 Z (AR.drop1 ?_); exact N 0 Z ⟨(cZ (x2 + 1)),Z,Z,Z,hf⟩
 obtain ⟨x3,is1,h8,hf⟩:=bP hf; refine W 1 Z (CL Z (Fx _ _ h8 (U 3 Z (AS Z (AO.aC Z iO (fun b6=>(Rw 5 [0] Z Z (C hf Z (fun h9 hf=>?_) fun h9 hf=>?_))))))))
 · cases hf; exact Wx 3 [1] Z Z (ZC [1] Z Z h)
 refine Wr 4 [0] Z Z (AR.or 5 53 58 [1,2,6] (x:=(x3.value.kind != 3)) Z Z (fun h10=>?_) (fun h10=>?_) ?_)
 · refine Is 53 h10 Z (U 2 Z (GO Z (AO.aR (i:=0) Z Z Z Ep Z Z ?_))); exact fI 2 Z (En [58,1,2,6] Z)
 · refine Is 53 h10 Z ?_; exact fI 5 Z (En [58,1,2,6] Z)
 refine J 1 Z (C hf Z (fun h11 hf=>?_) fun h11 hf=>?_)
 · cases hf; exact Wx 3 [1] Z Z (ZC [1] Z Z h)
 obtain ⟨x4,e2,h12,hf⟩:=bP hf; refine Wr 3 [0] Z Z (CL Z (RX _ h12 (U 3 Z (AS Z (AO.aC Z Ml (fun b8=>(Rw 4 [0] Z Z (C hf Z (fun lZ hf=>?_) fun lZ hf=>?_))))))))
 · cases hf; exact Wx 4 [2] Z Z (ZC [2] Z Z h)
 refine Wr 4 [0] Z Z (AS Z (AO.aC Z Yz (fun b10=>?_))); obtain ⟨x5,is2,nu,hf⟩:=bP hf; refine Rr 2 [0] Z Z (CL Z (Fx _ _ nu (U 3 Z (AS Z (AO.aC Z iO (fun b11=>(Rw 4 [0] Z Z (C hf Z (fun tq hf=>?_) fun tq hf=>?_))))))))
 · cases hf; exact Wx 3 [1,4] Z Z (ZC [4] Z Z h)
 obtain ⟨x6,e3,h16,hf⟩:=bP hf; refine Wr 3 [1,0] Z Z (CL Z (JO _ _ h16 (Rw 8 [1] Z Z (C hf Z (fun Ao hf=>?_) fun Ao hf=>?_))))
 · cases hf; exact Wx 4 [4] Z Z (ZC [4] Z Z h)
 refine B1 hf fun x7 h18 hf=>Wr 3 [1,2] Z Z (CL Z (K4 _ _ h18 (J 1 Z (C hf Z (fun h19 hf=>?_) fun h19 hf=>?_))))
 · cases hf; exact Wx 3 [4] Z Z (ZC [4] Z Z h)
 cases hf; exact Wx 3 [1,4] Z Z (ZC [4] Z Z h)
end
theorem KH (q1:bN) (c1:bN) {r0:Bool} (hf:u7 q1 c1=some r0) (h:Q (.ret (.bool r0)) τ):PC 85 [.agg (zl q1),.ref (zl c1)] τ Q:=by
 unfold u7 at hf; refine BN 9 [.tmp 3] [0,1] Tryz.func85 Z Z Z Z Z ?_; cases hf; exact M 8 Z (Y Z h)
theorem nE (s1:List bN) (f1:bN→Option Bool) (zX:FuncId) (DY:List PV) (Ru:aU Tryz.prog zX=true) (Rv:∀ a0 b0,f1 a0=some b0→∀ {τ:List bf} {Q:dx→List bf→Prop},Q (.ret (.bool b0)) τ→PC zX ([.agg (zl a0)] ++ DY) τ Q) {r0:Int} (hf:gL s1 f1=some r0) (h:Q (.ret (iP r0)) τ):PC 19 [.list (List.map bN.cells s1),.fn zX DY] τ Q:=by
 unfold gL at hf; refine BN 19 [.tmp 4] [0,1] Tryz.func19 Z Z Z Z Z (W 2 Z (AS Z (AO.aO (l:=s1) Z Z Z Z Uz Z Z (J 1 Z (JY (fun i1=>[(0,.list (List.map bN.cells s1)),(1,.fn zX DY),(7,iP (s1.length:Int)),(8,iP i1)]) (fun i1=>[]) (fun bX i1=>iB s1 f1 bX i1=some r0) BIG 0 Z Z hf (fun _ hz=>bT hz) ?_))))); intro bX i1 hf; rw [iB] at hf; refine V 1 Z (C hf Z (fun h1 hf=>?_) fun h1 hf=>?_)
 ·
  refine B1 hf fun e1 h2 hf=>W 5 Z (AS Z (AO.aP h2 Z Z Z Z Uz (bN.aD _) Z ?_)); refine B1 hf fun x1 h3 hf=>U 1 Z (AS Z (AO.call Z _ Z Z Ru (Rv _ _ h3 (J 0 Z (C hf Z (fun h4 hf=>?_) fun h4 hf=>?_)))))
  · cases hf; exact M 2 Z (Y Z h)
  exact M 2 Z ⟨(cZ (i1 + 1)),Z,Z,Z,hf⟩
 cases hf; exact M 1 Z (Y Z h)
theorem tC (s1:List bN) (f1:bN→Option Bool) (zX:FuncId) (DY:List PV) (Ru:aU Tryz.prog zX=true) (Rv:∀ a0 b0,f1 a0=some b0→∀ {τ:List bf} {Q:dx→List bf→Prop},Q (.ret (.bool b0)) τ→PC zX ([.agg (zl a0)] ++ DY) τ Q) {r0:Bool} (hf:jW s1 f1=some r0) (h:Q (.ret (.bool r0)) τ):PC 84 [.list (List.map bN.cells s1),.fn zX DY] τ Q:=by
 unfold jW at hf; refine BN 9 [.tmp 4] [0,1] Tryz.func84 Z Z Z Z Z ?_; refine B1 hf fun x1 h1 hf=>W 3 Z (CL Z (nE _ f1 zX DY Ru @Rv h1 ?_)); cases hf; exact N 2 Z (Y Z h)
section
variable [Am]
theorem Nf (b1:au) {r0:List bN} {r1:au} {r2:Int} (hf:Cg b1=some (r0,r1,r2)) (h:Q (.ret (.tuple [.list (List.map bN.cells r0),.agg (dY r1),iP r2])) τ):PC 50 [.agg (dY b1)] τ Q:=by
 unfold Cg at hf; refine BN 56 [.tmp 2,.cell 3 38,.tmp 4] [0] Tryz.func50 Z Z Z Z Z (W 1 Z (AS Z (AO.eO Z Z (AS Z (AO.aC Z nP (fun b3=>(J 2 Z (AW.ab9 8 38 [6] mixed (by kernel_rfl) Z nP Z (by kernel_rfl) (by decide) ?_)))))))); refine Ev.cs bC 6 Z ?_; refine B1 hf fun x1 h1 hf=>Ev.cons Z Z Z (AO.call Z _ Z Z abk (BS _ h1 zg)) (Ev.cons Z Z Z (AO.build Z nP Lv Z zg) (Ev.nil ?_)); intro b6; show AR _ _ _ _ _ _ _ _; refine Rr 3 [0] Z Z (AS Z (AO.aO (l:=b1.blocks) Z Z Z Z jG Z (au.aB _) ?_)); refine J 1 Z (AW.row 10 63 (AW.row 4 38 (LK5 (fun ps1 v1 x2 jI v2=>[(3,pP b3),(5,.own v1 (List.map bN.cells ps1)),(6,pP b6),(20,.list (au.aM b1.blocks)),(21,iP (b1.blocks.length:Int)),(22,iP x2)]) (fun ps1 v1 x2 jI v2=>[.row v2 (au.aM jI.blocks).length 4 38,.row v1 (List.map bN.cells ps1).length 10 63,.box b6 [.str jI.kind,.str jI.name,.list (List.map aK.cells jI.attrs),.own v2 (au.aM jI.blocks)],.box b3 [.str ([]:Str),.str ([]:Str),.own (.slice none 0 0) [],.own (.slice none 0 0) []]]) (fun bX ps1 v1 x2 jI v2=>qc b1 bX ps1 x2 jI=some (r0,r1,r2)) BIG [] (.slice none 0 0) 0 (au.mk b1.kind b1.name x1 []) (.slice none 0 0) Z Z hf (fun _ _ _ _ _ hz=>bT hz) ?_))); intro bX ps1 v1 x2 jI v2 hf; rw [qc] at hf; refine V 1 Z (C hf Z (fun h2 hf=>?_) fun h2 hf=>?_)
 ·
  refine B1 hf fun e1 h3 hf=>W 0 Z (AS Z (AO.aP h3 Z Z (au.aB _) Z jG (au.aD _) Z (U 1 Z (AS Z (AO.aC Z nP (fun b8=>(Rw 4 [0,0] Z Z (C hf Z (fun h4 hf=>?_) fun h4 hf=>?_))))))))
  ·
   refine V 0 Z (AW.draw 5 mixed (by kernel_rfl) Z ?_); refine Ev.cs bC 1 Z (Ev.cons Z Z Z (AO.aR (i:=3) Z Z Z rZ Z Z zg) (Ev.cons Z Z Z (AO.aR (i:=0) Z Z Z nQ Z Z zg) ?_)); refine B1 hf fun x3 h5 hf=>Ev.cons rfl rfl rfl (AO.call rfl _ rfl rfl abm (BQ _ h5 ⟨rfl,rfl⟩)) (Ev.cons rfl rfl rfl (AO.bq (au.aM [x3]) rfl tJ rfl rfl rfl (by first | rfl | simp only [List.map,au.aD,au.aM]) ⟨rfl,rfl⟩) ?_); refine Ev.nil ?_; show AR _ _ _ _ _ _ _ _
   refine B1 hf fun x4 h6 hf=>AS Z (AO.eZ (i:=1) (l:=jI.blocks) (m:=[x3]) h6 Z Z Z Z Z Z Z tJ jG (au.aB _) (au.aB _) (au.aB _).symm (au.bG) (au.cells_one) (by decide) (fun v3 s1 hs1=>?_)); cases hs1; refine Rn 4 [3] Z Z (AR.drop1 ?_); exact N 0 Z ⟨ps1,v1,(cZ (x2 + 1)),(au.mk jI.kind jI.name jI.attrs x4),v3,Z,Z,Z,hf⟩
  obtain ⟨x5,e2,h7,hf⟩:=bP hf; refine Wr 1 [0] Z Z (CL Z (Oi _ h7 (U 3 Z (AS Z (AO.aC Z Yz (fun b9=>(Rw 4 [0] Z Z (C hf Z (fun h8 hf=>?_) fun h8 hf=>?_))))))))
  · refine W 2 Z (AS Z (AO.eO Z Z ?_)); cases hf; exact Rx 2 [5] Z Z (ZC [5] Z Z h)
  refine W 1 Z (AR.OH 9 0 Z Z Z Z ?_); refine B1 hf fun x6 h9 hf=>U 1 Z (CL Z (tC _ (fun z0=>u7 z0 x5) 85 [.ref (zl x5)] agG (fun _ _ hz=>KH _ _ hz) h9 (J 0 Z (C hf Z (fun h10 hf=>?_) fun h10 hf=>?_))))
  · refine W 1 Z (AS Z (AO.eO Z Z ?_)); cases hf; exact Rx 2 [4] Z Z (ZC [4] Z Z h)
  refine W 2 rfl (AS rfl (AO.bq (List.map bN.cells [x5]) rfl abb rfl rfl rfl (by first | rfl | simp only [List.map,bN.aD]) ?_)); refine B1 hf fun ps2 h11 hf=>AS Z (AO.eZ (i:=2) (l:=ps1) (m:=[x5]) h11 Z Z Z Z Z Z Z abb Uz Z Z Z (bN.bG) (bN.cells_one) (by decide) (fun v4 s2 hs2=>?_)); cases hs2; refine fI 3 Z (AR.drop1 ?_); exact N 0 Z ⟨ps2,v4,(cZ (x2 + 1)),jI,v2,Z,Z,Z,hf⟩
 refine V 0 Z (AW.draw 3 mixed (by kernel_rfl) Z ?_); refine Ev.cs bC 1 Z (Ev.cons Z Z Z (AO.aR (i:=2) Z Z Z nQ Z Z zg) (Ev.cs bC 1 Z (Ev.nil ?_))); show AR _ _ _ _ _ _ _ _; cases hf; exact Rx 2 [3] Z Z (ZC [3] Z Z h)
end
theorem JA (t1:bI) (c1:au) {r0:Bool} (hf:tV t1 c1=some r0) (h:Q (.ret (.bool r0)) τ):PC 52 [.agg (CU t1),.ref (dY c1)] τ Q:=by
 unfold tV at hf; refine BN 9 [.tmp 3] [0,1] Tryz.func52 Z Z Z Z Z ?_; cases hf; exact M 8 Z (Y Z h)
theorem lM (s1:List bI) (f1:bI→Option Bool) (zX:FuncId) (DY:List PV) (Ru:aU Tryz.prog zX=true) (Rv:∀ a0 b0,f1 a0=some b0→∀ {τ:List bf} {Q:dx→List bf→Prop},Q (.ret (.bool b0)) τ→PC zX ([.agg (CU a0)] ++ DY) τ Q) {r0:Int} (hf:fE s1 f1=some r0) (h:Q (.ret (iP r0)) τ):PC 86 [.list (List.map bI.cells s1),.fn zX DY] τ Q:=by
 unfold fE at hf; refine BN 19 [.tmp 4] [0,1] Tryz.func86 Z Z Z Z Z (W 2 Z (AS Z (AO.aO (l:=s1) Z Z Z Z Xg Z Z (J 1 Z (JY (fun i1=>[(0,.list (List.map bI.cells s1)),(1,.fn zX DY),(7,iP (s1.length:Int)),(8,iP i1)]) (fun i1=>[]) (fun bX i1=>gB s1 f1 bX i1=some r0) BIG 0 Z Z hf (fun _ hz=>bT hz) ?_))))); intro bX i1 hf; rw [gB] at hf; refine V 1 Z (C hf Z (fun h1 hf=>?_) fun h1 hf=>?_)
 ·
  refine B1 hf fun e1 h2 hf=>W 5 Z (AS Z (AO.aP h2 Z Z Z Z Xg (bI.aD _) Z ?_)); refine B1 hf fun x1 h3 hf=>U 1 Z (AS Z (AO.call Z _ Z Z Ru (Rv _ _ h3 (J 0 Z (C hf Z (fun h4 hf=>?_) fun h4 hf=>?_)))))
  · cases hf; exact M 2 Z (Y Z h)
  exact M 2 Z ⟨(cZ (i1 + 1)),Z,Z,Z,hf⟩
 cases hf; exact M 1 Z (Y Z h)
theorem qD (s1:List bI) (f1:bI→Option Bool) (zX:FuncId) (DY:List PV) (Ru:aU Tryz.prog zX=true) (Rv:∀ a0 b0,f1 a0=some b0→∀ {τ:List bf} {Q:dx→List bf→Prop},Q (.ret (.bool b0)) τ→PC zX ([.agg (CU a0)] ++ DY) τ Q) {r0:Bool} (hf:iZ s1 f1=some r0) (h:Q (.ret (.bool r0)) τ):PC 51 [.list (List.map bI.cells s1),.fn zX DY] τ Q:=by
 unfold iZ at hf; refine BN 9 [.tmp 4] [0,1] Tryz.func51 Z Z Z Z Z ?_; refine B1 hf fun x1 h1 hf=>W 3 Z (CL Z (lM _ f1 zX DY Ru @Rv h1 ?_)); cases hf; exact N 2 Z (Y Z h)
section
variable [Am]
theorem L_ (f1:cO) {r0:List bI} {r1:cO} {r2:Int} (hf:r9 f1=some (r0,r1,r2)) (h:Q (.ret (.tuple [.list (List.map bI.cells r0),.agg [.list (au.aM r1.blocks)],iP r2])) τ):PC 28 [.agg [.list (au.aM f1.blocks)]] τ Q:=by
 unfold r9 at hf; refine BN 68 [.tmp 2,.cell 3 34,.tmp 4] [0] Tryz.func28 Z Z Z Z Z (W 1 Z (AS Z (AO.eO Z Z (AS Z (AO.aC Z Dt (fun b3=>?_)))))); refine B1 hf fun e1 h1 hf=>U 2 Z (CL Z (Ee _ h1 (J 3 Z (C hf Z (fun h2 hf=>?_) fun h2 hf=>?_))))
 · refine W 2 Z (AS Z (AO.eO Z Z ?_)); cases hf; exact Rx 2 [0] Z Z (ZC [0] Z Z h)
 refine W 1 Z (AS Z (AO.aC Z Dt (fun b7=>(U 2 Z (AS Z (AO.aO (l:=f1.blocks) Z Z Z Z jG Z (au.aB _) ?_)))))); refine J 1 Z (AW.row 6 98 (AW.row 4 38 (LK5 (fun Ej v1 x1 jI v2=>[(3,pP b3),(6,.own v1 (List.map bI.cells Ej)),(7,pP b7),(20,.list (au.aM f1.blocks)),(21,iP (f1.blocks.length:Int)),(22,iP x1)]) (fun Ej v1 x1 jI v2=>[.row v2 (au.aM jI.blocks).length 4 38,.row v1 (List.map bI.cells Ej).length 6 98,.box b7 [.own v2 (au.aM jI.blocks)],.box b3 [.own (.slice none 0 0) []]]) (fun bX Ej v1 x1 jI v2=>o8 f1 bX Ej x1 jI=some (r0,r1,r2)) BIG [] (.slice none 0 0) 0 (cO.mk []) (.slice none 0 0) Z Z hf (fun _ _ _ _ _ hz=>bT hz) ?_))); intro bX Ej v1 x1 jI v2 hf; rw [o8] at hf; refine V 1 Z (C hf Z (fun h3 hf=>?_) fun h3 hf=>?_)
 ·
  refine B1 hf fun e2 h4 hf=>W 0 Z (AS Z (AO.aP h4 Z Z (au.aB _) Z jG (au.aD _) Z (U 1 Z (AS Z (AO.aC Z nP (fun b9=>(Rw 4 [0,0] Z Z (C hf Z (fun h5 hf=>?_) fun h5 hf=>?_))))))))
  ·
   refine V 0 Z (AW.draw 5 mixed (by kernel_rfl) Z ?_); refine Ev.cs bC 1 Z (Ev.cons Z Z Z (AO.aR (i:=3) Z Z Z rZ Z Z zg) (Ev.cons Z Z Z (AO.aR (i:=0) Z Z Z nQ Z Z zg) ?_)); refine B1 hf fun x2 h6 hf=>Ev.cons rfl rfl rfl (AO.call rfl _ rfl rfl abm (BQ _ h6 ⟨rfl,rfl⟩)) (Ev.cons rfl rfl rfl (AO.bq (au.aM [x2]) rfl tJ rfl rfl rfl (by first | rfl | simp only [List.map,au.aD,au.aM]) ⟨rfl,rfl⟩) ?_); refine Ev.nil ?_; show AR _ _ _ _ _ _ _ _
   refine B1 hf fun x3 h7 hf=>AS Z (AO.eZ (i:=1) (l:=jI.blocks) (m:=[x2]) h7 Z Z Z Z Z Z Z tJ jG (au.aB _) (au.aB _) (au.aB _).symm (au.bG) (au.cells_one) (by decide) (fun v3 s1 hs1=>?_)); cases hs1; refine Rn 4 [3] Z Z (AR.drop1 ?_); exact N 0 Z ⟨Ej,v1,(cZ (x1 + 1)),(cO.mk x3),v3,Z,Z,Z,hf⟩
  refine B1 hf fun x4 h8 hf=>Wr 2 [0] Z Z (CL Z (VO _ h8 (J 1 Z (C hf Z (fun h9 hf=>?_) fun h9 hf=>?_))))
  · refine W 1 Z (AS Z (AO.eO Z Z ?_)); cases hf; exact Rx 2 [4] Z Z (ZC [4] Z Z h)
  obtain ⟨ps1,x5,e3,h10,hf⟩:=kg hf; refine Wr 1 [0] Z Z (CL Z (Nf _ h10 (U 4 Z (AS Z (AO.aC Z nP (fun b11=>(Rw 5 [0] Z Z (C hf Z (fun h11 hf=>?_) fun h11 hf=>?_))))))))
  · refine W 2 Z (AS Z (AO.eO Z Z ?_)); cases hf; exact Rx 2 [5] Z Z (ZC [5] Z Z h)
  refine W 1 Z (AR.OH 9 1 Z Z Z Z ?_); refine B1 hf fun x6 h12 hf=>U 1 Z (CL Z (qD _ (fun z0=>tV z0 e2) 52 [.ref (dY e2)] agS (fun _ _ hz=>JA _ _ hz) h12 (J 0 Z (C hf Z (fun lZ hf=>?_) fun lZ hf=>?_))))
  · refine W 1 Z (AS Z (AO.eO Z Z ?_)); cases hf; exact Rx 2 [4] Z Z (ZC [4] Z Z h)
  refine Wr 10 [0,0,0] rfl rfl (AS rfl (AO.bq (List.map bI.cells [(bI.mk e2.name ps1 (au.mk ([]:Str) ([]:Str) x5.attrs x5.blocks))]) rfl adQ rfl rfl rfl (by first | rfl | simp only [List.map,bI.aD]) ?_)); refine B1 hf fun ts2 nu hf=>AS Z (AO.eZ (i:=2) (l:=Ej) (m:=[(bI.mk e2.name ps1 (au.mk ([]:Str) ([]:Str) x5.attrs x5.blocks))]) nu Z Z Z Z Z Z Z adQ Xg Z Z Z (bI.bG) (bI.cells_one) (by decide) (fun v4 s2 hs2=>?_)); cases hs2
  refine fI 3 Z (AR.drop1 ?_); exact N 0 Z ⟨ts2,v4,(cZ (x1 + 1)),jI,v2,Z,Z,Z,hf⟩
 refine V 0 Z (AW.draw 3 mixed (by kernel_rfl) Z ?_); refine Ev.cs bC 1 Z (Ev.cons Z Z Z (AO.aR (i:=2) Z Z Z agt Z Z zg) (Ev.cs bC 1 Z (Ev.nil ?_))); show AR _ _ _ _ _ _ _ _; cases hf; exact Rx 2 [3] Z Z (ZC [3] Z Z h)
end
theorem BP (t1:bI) (c1:au) {r0:Bool} (hf:j4 t1 c1=some r0) (h:Q (.ret (.bool r0)) τ):PC 88 [.agg (CU t1),.ref (dY c1)] τ Q:=by
 unfold j4 at hf; refine BN 9 [.tmp 3] [0,1] Tryz.func88 Z Z Z Z Z ?_; cases hf; exact M 8 Z (Y Z h)
theorem Nh (p1:bN) (c1:aA) {r0:Bool} (hf:uE p1 c1=some r0) (h:Q (.ret (.bool r0)) τ):PC 20 [.agg (zl p1),.ref (Bl c1)] τ Q:=by
 unfold uE at hf; refine BN 9 [.tmp 3] [0,1] Tryz.func20 Z Z Z Z Z ?_; cases hf; exact M 8 Z (Y Z h)
theorem Nc (v1:aA) (c1:Str) {r0:Bool} (hf:yB v1 c1=some r0) (h:Q (.ret (.bool r0)) τ):PC 38 [.agg (Bl v1),.ref [.str c1]] τ Q:=by
 unfold yB at hf; refine BN 8 [.tmp 3] [0,1] Tryz.func38 Z Z Z Z Z ?_; cases hf; exact M 7 Z (Y Z h)
theorem yG (dL:List aA) (name1:Str) {r0:ah} {r1:Bool} (hf:nT dL name1=some (r0,r1)) (h:Q (.ret (.tuple [.agg (aN r0),.bool r1])) τ):PC 21 [.list (List.map aA.cells dL),.str name1] τ Q:=by
 unfold nT at hf; refine BN 18 [.cell 4 42,.tmp 5] [0,1] Tryz.func21 Z Z Z Z Z (W 1 Z (AS Z (AO.aC Z gY (fun b4=>?_)))); refine B1 hf fun i1 h1 hf=>U 3 Z (CL Z (pq _ (fun z0=>yB z0 name1) 38 [.ref [.str name1]] agV (fun _ _ hz=>Nc _ _ hz) h1 (J 3 Z (C hf Z (fun h2 hf=>?_) fun h2 hf=>?_))))
 · cases hf; exact Wx 3 [0] Z Z (ZC [0] Z Z h)
 refine B1 hf fun e1 h3 hf=>W 2 Z (AS Z (AO.aP h3 Z Z Z Z wC (aA.aD _) Z ?_)); cases hf; exact Rx 4 [0] Z Z (ZC [0] Z Z h)
theorem HV (ps1:List bN) (args1:List aA) {r0:List aA} {r1:Int} (hf:uQ ps1 args1=some (r0,r1)) (h:Q (.ret (.tuple [.list (List.map aA.cells r0),iP r1])) τ):PC 7 [.list (List.map bN.cells ps1),.list (List.map aA.cells args1)] τ Q:=by
 unfold uQ at hf; refine AC.none (AC.jX 87 [.tmp 4,.tmp 5] [0,1] Tryz.func7 Z Z Z Z Z (AW.sr (AR.step Z Z Z (AO.eO Z Z ?_)))); refine cs 1 Z (AR.nil [0,1] Z (AW.seq (AW.sr ?_))); refine cs 1 Z (AR.step Z Z Z (AO.aO (l:=args1) Z Z Z Z wC Z Z (cs 1 Z (AR.nil [0,1,16,17,18] Z ?_)))); refine AW.block (AW.settle [0,1,16,17,18] Z (AW.afr (fun i1=>[(0,.list (List.map bN.cells ps1)),(1,.list (List.map aA.cells args1)),(16,.list (List.map aA.cells args1)),(17,iP (args1.length:Int)),(18,iP i1)]) (fun i1=>[]) (fun bX i1=>pW ps1 args1 bX i1=some (r0,r1)) BIG 0 Z Z hf (fun _ hz=>bT hz) ?_)); intro bX i1 hf; rw [pW] at hf; refine AW.sr (cs 1 Z (AR.nil [0,1,16,17,18,19] Z (AW.seq ?_))); refine AW.cond Z (fun h1=>?_) (fun h1=>?_)
 ·
  replace hf:=jF h1 hf; refine AW.skip (AW.seq (AW.block (AW.sr ?_))); refine cs 1 Z ?_; refine B1 hf fun e1 h2 hf=>AR.step Z Z Z (AO.aP h2 Z Z Z Z wC (aA.aD _) Z (cs 1 Z (AR.step Z Z Z (AO.aC Z Qb (fun b7=>(cs 1 Z ?_)))))); refine AR.bF Z Z (AO.bR (i:=0) Z Z Z agr Z Z Z Z Z (AR.nil [0,1,6,7,16,17,18] Z (AW.sr (cs 1 Z ?_)))); refine AR.OH 7 0 Z Z Z Z (cs 1 Z ?_); refine B1 hf fun Al h3 hf=>AR.step Z Z Z (AO.call Z _ Z Z ag2 (nE _ (fun z0=>uE z0 e1) 20 [.ref (Bl e1)] ag1 (fun _ _ hz=>Nh _ _ hz) h3 (cs 1 Z (AR.nil [0,1,6,7,8,16,17,18] Z (AW.seq ?_))))); refine AW.Xi 0 9 11 [] [] mixed (by kernel_rfl) (by kernel_rfl) (by kernel_rfl) Z Z Z (List.Perm.refl _) ?_; refine Ev.nil ?_; show Ev _ _ _ _ _ _ _; refine Ev.cs bC 2 Z ?_; refine B1 hf fun x1 h4 hf=>Ev.cons Z Z Z (AO.YU h4 Z wC Z Z Z (aA.bG) Z ⟨_,Z⟩ zg) (Ev.cs bC 2 Z ?_); obtain ⟨x2,Qv,h5,hf⟩:=bP hf; refine Ev.cons Z Z Z (AO.call Z _ Z Z abr (yG _ _ h5 zg)) (Ev.cs bC 3 Z (Ev.nil (TF.step Z Z Z (AO.aC Z gY (fun b9=>?_))))); refine TF.bF Z Z (AO.bR (i:=0) Z Z Z mK Z Z Z Z Z (TF.nil ?_)); show AR _ _ _ _ _ _ _ _; refine cs 1 Z (AR.nil [0,1,7,8,10,16,17,18] Z (AW.block (AW.sr ?_))); refine cs 3 Z (AR.nil [0,1,7,8,10,16,17,18,35] Z (AW.cond Z (fun h6=>?_) (fun h6=>?_)))
  · replace hf:=jF h6 hf; refine AW.sr (AR.step Z Z Z (AO.eO Z Z (cs 1 Z (AR.nil [4,5] Z ?_)))); refine AW.ret ?_; cases hf; exact ⟨rfl,_,⟨_,_,rfl,rfl,_,_,rfl,rfl,rfl⟩,[],List.nil_sublist _,h⟩
  replace hf:=iw h6 hf; refine AW.sr (cs 2 Z (AR.nil [0,1,7,8,16,17,18,38] Z (AW.cond Z (fun h7=>?_) (fun h7=>?_))))
  · replace hf:=jF h7 hf; refine AW.sr (AR.step Z Z Z (AO.eO Z Z (cs 1 Z (AR.nil [4,5] Z ?_)))); refine AW.ret ?_; cases hf; exact ⟨rfl,_,⟨_,_,rfl,rfl,_,_,rfl,rfl,rfl⟩,[],List.nil_sublist _,h⟩
  replace hf:=iw h7 hf; refine AW.seq (AW.draw 10 mixed (by kernel_rfl) Z ?_); refine Ev.cs bC 4 Z ?_; refine B1 hf fun e2 h8 hf=>Ev.cons Z Z Z (AO.aP h8 Z Z Z Z Uz (bN.aD _) Z zg) (Ev.cs bC 2 Z ?_); refine B1 hf fun x3 h9 hf=>Ev.cons Z Z Z (AO.call Z _ Z Z ag0 (K4 _ _ h9 zg)) (Ev.cs bC 2 Z (Ev.nil ?_)); show AR _ _ _ _ _ _ _ _; refine AR.nil [0,1,16,17,18,40] Z (AW.cond Z (fun h10=>?_) (fun h10=>?_))
  · replace hf:=jF h10 hf; refine AW.sr (AR.step Z Z Z (AO.eO Z Z (cs 1 Z (AR.nil [4,5] Z ?_)))); refine AW.ret ?_; cases hf; exact ⟨rfl,_,⟨_,_,rfl,rfl,_,_,rfl,rfl,rfl⟩,[],List.nil_sublist _,h⟩
  replace hf:=iw h10 hf; refine AW.skip (AW.region (cs 2 Z (AR.drop1 ?_))); refine AR.nil [0,1,16,17,18] Z ?_; exact ⟨(cZ (i1 + 1)),Z,Z,Z,hf⟩
 replace hf:=iw h1 hf; refine AW.exit (AW.sr (cs 1 Z (AR.nil [0,1,11] Z ?_))); refine AW.seq (AW.sr (cs 1 Z (AR.step Z Z Z (AO.aO (l:=ps1) Z Z Z Z Uz Z Z ?_)))); refine cs 1 Z (AR.nil [1,11,51,52,53] Z (AW.block (AW.row 7 54 ?_))); refine AW.settle [1,11,51,52,53] Z (AW.afq (fun bn v1 x4=>[(1,.list (List.map aA.cells args1)),(11,.own v1 (List.map aA.cells bn)),(51,.list (List.map bN.cells ps1)),(52,iP (ps1.length:Int)),(53,iP x4)]) (fun bn v1 x4=>[.row v1 (List.map aA.cells bn).length 7 54]) (fun Jj bn v1 x4=>nH ps1 args1 Jj bn x4=some (r0,r1)) BIG [] (.slice none 0 0) 0 Z Z hf (fun _ _ _ hz=>bT hz) ?_); intro Jj bn v1 x4 hf; rw [nH] at hf; refine AW.sr (cs 1 Z (AR.nil [1,11,51,52,53,54] Z (AW.seq ?_))); refine AW.cond Z (fun h11=>?_) (fun h11=>?_)
 ·
  replace hf:=jF h11 hf; refine AW.skip (AW.seq (AW.block (AW.sr ?_))); refine B1 hf fun e3 h12 hf=>AR.step Z Z Z (AO.aP h12 Z Z Z Z Uz (bN.aD _) Z (cs 1 Z (AR.step Z Z Z (AO.aC Z Yz (fun b13=>(AR.bF Z Z (AO.bR (i:=0) Z Z Z agq Z Z Z Z Z ?_))))))); refine AR.nil [1,11,13,51,52,53] Z (AW.sr (cs 2 Z (AR.step Z Z Z (AO.aR (i:=0) Z Z Z Qw Z Z ?_)))); obtain ⟨x5,is1,lZ,hf⟩:=bP hf; refine AR.step Z Z Z (AO.call Z _ Z Z abr (yG _ _ lZ (cs 3 Z (AR.step Z Z Z (AO.aC Z gY (fun b14=>(AR.bF Z Z (AO.bR (i:=0) Z Z Z mK Z Z Z Z Z ?_)))))))); refine cs 1 Z (AR.nil [1,11,13,14,15,51,52,53] Z (AW.seq ?_)); refine AW.ahF (fun v2=>[(1,.list (List.map aA.cells args1)),(11,.own v1 (List.map aA.cells bn)),(13,pP b13),(14,pP b14),(51,.list (List.map bN.cells ps1)),(52,iP (ps1.length:Int)),(53,iP x4)]) (fun v2=>[.box b14 (aN v2),.box b13 (zl e3),.row v1 (List.map aA.cells bn).length 7 54]) (fun v2=>r_ bn x4 e3 (nH ps1 args1 Jj) v2=some (r0,r1)) ?_ ?_
  ·
   refine AW.block (AW.sr (cs 3 Z (AR.and 4 67 71 [1,11,13,14,15,51,52,53] (x:=(!e3.has)) Z Z (fun nu=>?_) (fun nu=>?_) ?_)))
   · refine AR.is 67 nu Z (cs 1 Z (AR.go Z Z Z Z Z Z (AO.aR (i:=1) Z Z Z ags Z Z (cs 2 Z ?_)))); refine AR.nil [71,1,11,13,14,15,51,52,53] Z ?_; exact ⟨Z,Z,Z,Z⟩
   · refine AR.is 67 nu Z (cs 4 Z (AR.nil [71,1,11,13,14,15,51,52,53] Z ?_)); exact ⟨Z,Z,Z,Z⟩
   refine cs 1 Z (AR.nil [1,11,13,14,15,51,52,53,64] Z (AW.cond Z (fun tq=>?_) (fun tq=>?_)))
   · replace hf:=jF tq hf; refine AW.sr (AR.step Z Z Z (AO.eO Z Z (cs 1 Z (AR.nil [4,5] Z ?_)))); refine AW.ret ?_; cases hf; exact ⟨rfl,_,⟨_,_,rfl,rfl,_,_,rfl,rfl,rfl⟩,[],List.nil_sublist _,h⟩
   replace hf:=iw tq hf; refine AW.sr (cs 3 Z (AR.nil [1,11,13,14,51,52,53,72] Z (AW.cond Z (fun h16=>?_) (fun h16=>?_))))
   · replace hf:=jF h16 hf; refine AW.region (cs 1 Z (AR.step Z Z Z (AO.aR (i:=1) Z Z Z mK Z Z (AR.bF Z Z (AO.bR (i:=0) Z Z Z mK Z Z Z Z Z ?_))))); refine AR.nil [1,11,13,14,51,52,53] Z ?_; exact ⟨e3.default,Z,Z,Z,hf⟩
   replace hf:=iw h16 hf; refine AW.settle [1,11,13,14,51,52,53] Z (AW.skip ?_); exact ⟨x5,Z,Z,Z,hf⟩
  intro v2 hf; unfold r_ at hf; refine AW.draw 7 mixed (by kernel_rfl) Z ?_; refine Ev.cs bC 2 Z (Ev.cons Z Z Z (AO.aR (i:=1) Z Z Z Qw Z Z zg) (Ev.cons Z Z Z (AO.aR (i:=0) Z Z Z mK Z Z zg) ?_)); refine B1 hf fun x6 Ao hf=>Ev.cons rfl rfl rfl (AO.call rfl _ rfl rfl Y0 (wH _ Ao ⟨rfl,rfl⟩)) (Ev.cons rfl rfl rfl (AO.build rfl Qb aa7 rfl ⟨rfl,rfl⟩) (Ev.cons rfl rfl rfl (AO.bq (List.map aA.cells [(aA.mk e3.name x6)]) rfl DC rfl rfl rfl (by first | rfl | simp only [List.map,aA.aD]) ⟨rfl,rfl⟩) ?_))
  refine Ev.nil ?_; show AR _ _ _ _ _ _ _ _; refine B1 hf fun kY h18 hf=>AR.step Z Z Z (AO.eZ (i:=2) (l:=bn) (m:=[(aA.mk e3.name x6)]) h18 Z Z Z Z Z Z Z DC wC Z Z Z (aA.bG) (aA.cells_one) (by decide) (fun v3 s1 hs1=>?_)); cases hs1; refine cs 1 Z (AR.nil [1,11,51,52,53] Z (AW.region (cs 2 Z ?_))); refine AR.drop1 (AR.drop1 (AR.nil [1,11,51,52,53] Z ?_)); exact ⟨kY,v3,(cZ (x4 + 1)),Z,Z,Z,hf⟩
 replace hf:=iw h11 hf; refine AW.exit (AW.sr (cs 3 Z (AR.nil [4,5] Z ?_))); refine AW.ret ?_; cases hf; exact ⟨rfl,_,⟨_,_,rfl,rfl,_,_,rfl,rfl,rfl⟩,[],List.nil_sublist _,h⟩
theorem PW (s1:Str) (jL:Int) {r0:Int} (hf:Fe s1 jL=some r0) (h:Q (.ret (iP r0)) τ):PC 217 [.str s1,iP jL] τ Q:=by
 unfold Fe at hf; refine BN 27 [.tmp 4] [0,1] Tryz.func217 Z Z Z Z Z (V 4 Z (JY (fun i1=>[(0,.str s1),(5,iP i1)]) (fun i1=>[]) (fun bX i1=>sF s1 bX i1=some r0) BIG (cZ (jL + 1)) Z Z hf (fun _ hz=>bT hz) ?_)); intro bX i1 hf; rw [sF] at hf; refine W 2 Z (AS Z (AO.cK Z Z Z Z dR Z (J 1 Z (C hf Z (fun h1 hf=>?_) fun h1 hf=>?_))))
 ·
  refine B1 hf fun x1 h2 hf=>W 2 Z (AS Z (AO.fV h2 Z dR Z Z (J 2 Z (C hf Z (fun h3 hf=>?_) fun h3 hf=>?_))))
  · exact M 6 Z ⟨(cZ ((cZ (i1 + 1)) + 1)),Z,Z,Z,hf⟩
  refine V 2 Z (C hf Z (fun h4 hf=>?_) fun h4 hf=>?_)
  · cases hf; exact M 3 Z (Y Z h)
  exact M 3 Z ⟨(cZ (i1 + 1)),Z,Z,Z,hf⟩
 refine W 1 Z (AS Z (AO.cK Z Z Z Z dR Z ?_)); cases hf; exact N 1 Z (Y Z h)
theorem Ou (s1:Str) (jL:Int) {r0:Int} (hf:DW s1 jL=some r0) (h:Q (.ret (iP r0)) τ):PC 184 [.str s1,iP jL] τ Q:=by
 unfold DW at hf; refine BN 31 [.tmp 4] [0,1] Tryz.func184 Z Z Z Z Z (V 2 Z (Zq (fun at2 kT=>[(0,.str s1),(1,iP at2),(5,iP kT)]) (fun at2 kT=>[]) (fun bX at2 kT=>mW s1 bX at2 kT=some r0) BIG jL 0 Z Z hf (fun _ _ hz=>bT hz) ?_)); intro bX at2 kT hf; rw [mW] at hf; refine W 2 Z (AS Z (AO.cK Z Z Z Z dR Z (J 1 Z (C hf Z (fun h1 hf=>?_) fun h1 hf=>?_))))
 ·
  refine B1 hf fun x1 h2 hf=>W 2 Z (AS Z (AO.fV h2 Z dR Z Z (J 2 Z (C hf Z (fun h3 hf=>?_) fun h3 hf=>?_))))
  · refine B1 hf fun at3 h4 hf=>W 2 Z (CL Z (PW _ _ h4 ?_)); exact N 1 Z ⟨at3,kT,Z,Z,Z,hf⟩
  refine V 2 Z (C hf Z (fun h5 hf=>?_) fun h5 hf=>?_)
  · exact M 6 Z ⟨(cZ (at2 + 1)),(cZ (kT + 1)),Z,Z,Z,hf⟩
  refine V 2 Z (C hf Z (fun h6 hf=>?_) fun h6 hf=>?_)
  ·
   refine V 2 Z (C hf Z (fun h7 hf=>?_) fun h7 hf=>?_)
   · cases hf; exact M 2 Z (Y Z h)
   exact M 6 Z ⟨(cZ (at2 + 1)),(cZ (kT - 1)),Z,Z,Z,hf⟩
  exact M 3 Z ⟨(cZ (at2 + 1)),kT,Z,Z,Z,hf⟩
 cases hf; exact M 1 Z (Y Z h)
theorem Ot (qB:Int) {r0:Bool} (hf:DV qB=some r0) (h:Q (.ret (.bool r0)) τ):PC 252 [.int .i32 qB] τ Q:=by
 unfold DV at hf; refine BN 9 [.tmp 2] [0] Tryz.func252 Z Z Z Z Z (W 4 Z (On 3 5 8 [] (qB == 9) Z Z Z Z ?_)); cases hf; exact N 1 Z (Y Z h)
theorem Fw (s1:Str) (jL:Int) (Jw:UInt8→Option Bool) (Qa:FuncId) (VE:List PV) (adw:aU Tryz.prog Qa=true) (adx:∀ a0 b0,Jw a0=some b0→∀ {τ:List bf} {Q:dx→List bf→Prop},Q (.ret (.bool b0)) τ→PC Qa ([.int .u8 (a0.toNat:Int)] ++ VE) τ Q) {r0:Int} (hf:BG s1 jL Jw=some r0) (h:Q (.ret (iP r0)) τ):PC 253 [.str s1,iP jL,.fn Qa VE] τ Q:=by
 unfold BG at hf; refine BN 21 [.tmp 6] [0,1,2] Tryz.func253 Z Z Z Z Z (V 1 Z (JY (fun at2=>[(0,.str s1),(1,iP at2),(2,.fn Qa VE)]) (fun at2=>[]) (fun bX at2=>zP s1 Jw bX at2=some r0) BIG jL Z Z hf (fun _ hz=>bT hz) ?_)); intro bX at2 hf; rw [zP] at hf; refine W 2 Z (AS Z (AO.cK Z Z Z Z dR Z ?_)); refine B1 hf fun b1 h2 hf=>U 2 Z (AR.fK 6 11 17 true [0,1,2] b1 Z Z (fun h1=>?_) (fun h1=>?_) ?_)
 · refine IT 11 h1 h2 Z fun h2=>?_; refine B1 h2 fun x1 h3 h2=>U 3 Z (GO Z (AO.fV h3 Z dR Z Z ?_)); refine BR h2 fun x2 h4 h2=>?_; refine GO Z (AO.call Z _ Z Z adw (adx _ _ h4 ?_)); cases h2; exact fI 1 Z (En [17,0,1,2] Z)
 · refine IF 11 h1 h2 Z fun h2=>?_; cases h2; exact fI 6 Z (En [17,0,1,2] Z)
 refine J 0 Z (C hf Z (fun h5 hf=>?_) fun h5 hf=>?_)
 · exact M 3 Z ⟨(cZ (at2 + 1)),Z,Z,Z,hf⟩
 cases hf; exact M 2 Z (Y Z h)
theorem Oq (c1:UInt8) {r0:Bool} (hf:zS c1=some r0) (h:Q (.ret (.bool r0)) τ):PC 254 [.int .u8 (c1.toNat:Int)] τ Q:=by
 unfold zS at hf; refine BN 5 [.tmp 2] [0] Tryz.func254 Z Z Z Z Z ?_; cases hf; exact M 4 Z (Y Z h)
theorem Ed (c1:UInt8) {r0:Bool} (hf:zQ c1=some r0) (h:Q (.ret (.bool r0)) τ):PC 279 [.int .u8 (c1.toNat:Int)] τ Q:=by
 unfold zQ at hf; refine BN 21 [.tmp 2] [0] Tryz.func279 Z Z Z Z Z (W 4 Z (An 3 5 8 [0] (decide ((c1.toNat:Int)≤122)) Z Z Z Z (U 1 Z (AR.or 7 9 16 [0] (x:=((decide (65≤(c1.toNat:Int))) && (decide ((c1.toNat:Int)≤90)))) Z Z (fun h2=>?_) (fun h2=>?_) ?_))))
 · refine Is 9 h2 Z (U 3 Z (An 3 12 15 [0,9] (decide ((c1.toNat:Int)≤90)) Z Z Z Z ?_)); exact fI 1 Z (En [16,0] Z)
 · refine Is 9 h2 Z ?_; exact fI 7 Z (En [16,0] Z)
 refine U 1 Z (On 3 17 20 [] ((c1.toNat:Int) == 95) Z Z Z Z ?_); cases hf; exact N 1 Z (Y Z h)
theorem Bp (c1:UInt8) {r0:Bool} (hf:vU c1=some r0) (h:Q (.ret (.bool r0)) τ):PC 281 [.int .u8 (c1.toNat:Int)] τ Q:=by
 unfold vU at hf; refine BN 9 [.tmp 2] [0] Tryz.func281 Z Z Z Z Z (W 4 Z (An 3 5 8 [] (decide ((c1.toNat:Int)≤57)) Z Z Z Z ?_)); cases hf; exact N 1 Z (Y Z h)
theorem Sc (c1:UInt8) {r0:Bool} (hf:CS c1=some r0) (h:Q (.ret (.bool r0)) τ):PC 309 [.int .u8 (c1.toNat:Int)] τ Q:=by
 unfold CS at hf; refine BN 9 [.tmp 2] [0] Tryz.func309 Z Z Z Z Z ?_; refine B1 hf fun x1 h1 hf=>W 2 Z (CL Z (Ed _ h1 ?_)); refine BR hf fun b1 h3 hf=>?_; refine U 1 Z (AR.fK 3 5 8 false [] b1 Z Z (fun h2=>?_) (fun h2=>?_) ?_)
 · refine IF 5 h2 h3 Z fun h3=>?_; refine BR h3 fun x2 h4 h3=>?_; refine U 1 Z (GO Z (AO.call Z _ Z Z abo (Bp _ h4 ?_))); cases h3; exact fI 1 Z (En [8] Z)
 · refine IT 5 h2 h3 Z fun h3=>?_; cases h3; exact fI 3 Z (En [8] Z)
 cases hf; exact N 1 Z (Y Z h)
theorem VN (gG:Str) (jL:Int) {r0:aX} {r1:Int} {r2:Int} (hf:LM gG jL=some (r0,r1,r2)) (h:Q (.ret (.tuple [.agg (zk r0),iP r1,iP r2])) τ):PC 280 [.str gG,iP jL] τ Q:=by
 unfold LM at hf; refine BN 23 [.cell 4 243,.tmp 5,.tmp 6] [0,1] Tryz.func280 Z Z Z Z Z (W 0 Z (AS Z (AO.aC Z yI (fun b4=>?_)))); refine B1 hf fun xG h1 hf=>U 4 Z (CL Z (Fw _ _ CS 309 [] aev (fun _ _ hz=>Sc _  hz) h1 (J 5 Z (C hf Z (fun h2 hf=>?_) fun h2 hf=>?_))))
 · cases hf; exact Wx 4 [0] Z Z (ZC [0] Z Z h)
 refine B1 hf fun x1 h3 hf=>W 3 Z (AS Z (AO.qd h3 Z dR Z ⟨_,Z⟩ ⟨_,Z⟩ ?_)); cases hf; exact Rx 6 [0] Z Z (ZC [0] Z Z h)
theorem TL (Bn:Str) {r0:Bool} (hf:Jh Bn=some r0) (h:Q (.ret (.bool r0)) τ):PC 310 [.str Bn] τ Q:=by
 unfold Jh at hf; refine BN 25 [.tmp 2] [0] Tryz.func310 Z Z Z Z Z (V 3 Z (Zq (fun n1 i1=>[(0,.str Bn),(3,iP n1),(4,iP i1)]) (fun n1 i1=>[]) (fun bX n1 i1=>zR Bn bX n1 i1=some r0) BIG 0 0 Z Z hf (fun _ _ hz=>bT hz) ?_)); intro bX n1 i1 hf; rw [zR] at hf; refine W 2 Z (AS Z (AO.cK Z Z Z Z dR Z (U 2 Z (An 3 9 12 [0,3,4] (decide (n1≤9007199254740992)) Z Z Z Z (J 0 Z (C hf Z (fun h2 hf=>?_) fun h2 hf=>?_))))))
 · refine B1 hf fun x1 h3 hf=>W 4 Z (AS Z (AO.fV h3 Z dR Z Z (AS Z (AO.U4 x1 48 Z Z Z Z Z (AS Z (AO.FT Z Wd Qs Z Z ?_)))))); exact N 5 Z ⟨(cZ ((cZ (10 * n1)) + ((x1 - 48).toNat:Int))),(cZ (i1 + 1)),Z,Z,Z,hf⟩
 cases hf; exact M 3 Z (Y Z h)
theorem Sb (gG:Str) (jL:Int) {r0:aX} {r1:Int} {r2:Int} (hf:Gx gG jL=some (r0,r1,r2)) (h:Q (.ret (.tuple [.agg (zk r0),iP r1,iP r2])) τ):PC 282 [.str gG,iP jL] τ Q:=by
 unfold Gx at hf; refine BN 44 [.cell 4 243,.tmp 5,.tmp 6] [0,1] Tryz.func282 Z Z Z Z Z (W 0 Z (AS Z (AO.aC Z yI (fun b4=>?_)))); refine B1 hf fun xG h1 hf=>U 4 Z (CL Z (Fw _ _ vU 281 [] abo (fun _ _ hz=>Bp _  hz) h1 ?_)); refine B1 hf fun text1 h2 hf=>U 4 Z (AS Z (AO.qd h2 Z dR Z ⟨_,Z⟩ ⟨_,Z⟩ (U 2 Z (AS Z (AO.cK Z Z Z Z dR Z ?_))))); refine B1 hf fun b1 h4 hf=>U 2 Z (AR.fK 4 19 23 true [0,1,4,7,8] b1 Z Z (fun h3=>?_) (fun h3=>?_) ?_)
 · refine IT 19 h3 h4 Z fun h4=>?_; refine B1 h4 fun x1 h5 h4=>U 1 Z (GO Z (AO.fV h5 Z dR Z Z ?_)); cases h4; exact fI 2 Z (En [23,0,1,4,7,8] Z)
 · refine IF 19 h3 h4 Z fun h4=>?_; cases h4; exact fI 4 Z (En [23,0,1,4,7,8] Z)
 refine B1 hf fun b2 h7 hf=>U 1 Z (AR.fK 11 24 35 false [1,4,7,8] b2 Z Z (fun h6=>?_) (fun h6=>?_) ?_)
 ·
  replace h7:=iw h6 h7; refine Is 24 h6 Z (U 2 Z (GO Z (AO.cK Z Z Z Z dR Z ?_))); refine BR h7 fun b3 h9 h7=>?_; refine U 2 Z (AR.fK 5 29 34 true [1,4,7,8,24] b3 Z Z (fun h8=>?_) (fun h8=>?_) ?_)
  · refine IT 29 h8 h9 Z fun h9=>?_; refine B1 h9 fun x2 h10 h9=>U 2 Z (GO Z (AO.fV h10 Z dR Z Z ?_)); refine BR h9 fun x3 h11 h9=>?_; refine GO Z (AO.call Z _ Z Z aex (Ed _ h11 ?_)); cases h9; exact fI 1 Z (En [34,1,4,7,8,24] Z)
  · refine IF 29 h8 h9 Z fun h9=>?_; cases h9; exact fI 5 Z (En [34,1,4,7,8,24] Z)
  cases h7; exact fI 1 Z (En [35,1,4,7,8] Z)
 · refine IT 24 h6 h7 Z fun h7=>?_; cases h7; exact fI 11 Z (En [35,1,4,7,8] Z)
 refine J 0 Z (C hf Z (fun h12 hf=>?_) fun h12 hf=>?_)
 · cases hf; exact Wx 4 [0] Z Z (ZC [0] Z Z h)
 refine B1 hf fun x4 lZ hf=>W 1 Z (CL Z (TL _ lZ (J 0 Z (C hf Z (fun nu hf=>?_) fun nu hf=>?_))))
 · cases hf; exact Wx 4 [0] Z Z (ZC [0] Z Z h)
 cases hf; exact Wx 7 [0] Z Z (ZC [0] Z Z h)
theorem BX (c1:UInt8) {r0:Int} (hf:Az c1=some r0) (h:Q (.ret (iP r0)) τ):PC 328 [.int .u8 (c1.toNat:Int)] τ Q:=by
 unfold Az at hf; refine BN 31 [.tmp 2] [0] Tryz.func328 Z Z Z Z Z ?_; refine B1 hf fun x1 h1 hf=>W 2 Z (CL Z (Bp _ h1 (J 1 Z (C hf Z (fun h2 hf=>?_) fun h2 hf=>?_))))
 · refine W 1 Z (AS Z (AO.U4 c1 48 Z Z Z Z Z (AS Z (AO.FT Z Wd Qs Z Z ?_)))); cases hf; exact N 1 Z (Y Z h)
 refine W 3 Z (An 3 12 15 [0] (decide ((c1.toNat:Int)≤102)) Z Z Z Z (J 1 Z (C hf Z (fun h4 hf=>?_) fun h4 hf=>?_)))
 · refine W 1 Z (AS Z (AO.U4 c1 97 Z Z Z Z Z (AS Z (AO.FT Z Wd Qs Z Z ?_)))); cases hf; exact N 2 Z (Y Z h)
 refine W 3 Z (An 3 23 26 [0] (decide ((c1.toNat:Int)≤70)) Z Z Z Z (J 1 Z (C hf Z (fun h6 hf=>?_) fun h6 hf=>?_)))
 · refine W 1 Z (AS Z (AO.U4 c1 65 Z Z Z Z Z (AS Z (AO.FT Z Wd Qs Z Z ?_)))); cases hf; exact N 2 Z (Y Z h)
 cases hf; exact M 1 Z (Y Z h)
theorem PU (gG:Str) (jL:Int) {r0:UInt8} {r1:Int} (hf:Fa gG jL=some (r0,r1)) (h:Q (.ret (.tuple [.int .u8 (r0.toNat:Int),iP r1])) τ):PC 311 [.str gG,iP jL] τ Q:=by
 unfold Fa at hf; refine BN 61 [.tmp 4,.tmp 5] [0,1] Tryz.func311 Z Z Z Z Z (W 5 Z (AS Z (AO.cK Z Z Z Z dR Z (J 1 Z (C hf Z (fun h1 hf=>?_) fun h1 hf=>?_)))))
 · cases hf; exact M 2 Z (Y Z h)
 refine B1 hf fun c1 h2 hf=>W 3 Z (AS Z (AO.fV h2 Z dR Z Z (J 4 Z (C hf Z (fun h3 hf=>?_) fun h3 hf=>?_))))
 ·
  refine V 0 Z (AW.cond Z (fun h4=>?_) (fun h4=>?_))
  · cases hf; exact M 3 Z (Y Z h)
  cases h3.symm.trans h4
 refine V 2 Z (C hf Z (fun h5 hf=>?_) fun h5 hf=>?_)
 · cases hf; exact M 3 Z (Y Z h)
 refine V 2 Z (C hf Z (fun h6 hf=>?_) fun h6 hf=>?_)
 · cases hf; exact M 2 Z (Y Z h)
 refine V 2 Z (C hf Z (fun h7 hf=>?_) fun h7 hf=>?_)
 · cases hf; exact M 2 Z (Y Z h)
 refine V 2 Z (C hf Z (fun h8 hf=>?_) fun h8 hf=>?_)
 ·
  refine W 3 Z (AS Z (AO.cK Z Z Z Z dR Z ?_)); refine B1 hf fun b1 h10 hf=>U 2 Z (AR.fK 7 32 39 true [0,1] b1 Z Z (fun h9=>?_) (fun h9=>?_) ?_)
  · refine IT 32 h9 h10 Z fun h10=>?_; refine B1 h10 fun x1 h11 h10=>U 3 Z (GO Z (AO.fV h11 Z dR Z Z ?_)); refine B1 h10 fun x2 h12 h10=>GO Z (AO.call Z _ Z Z QS (BX _ h12 ?_)); cases h10; exact fI 2 Z (En [39,0,1] Z)
  · refine IF 32 h9 h10 Z fun h10=>?_; cases h10; exact fI 7 Z (En [39,0,1] Z)
  refine B1 hf fun b2 nu hf=>U 1 Z (AR.fK 7 40 47 true [0,1] b2 Z Z (fun lZ=>?_) (fun lZ=>?_) ?_)
  · refine IT 40 lZ nu Z fun nu=>?_; refine B1 nu fun x3 tq nu=>U 3 Z (GO Z (AO.fV tq Z dR Z Z ?_)); refine B1 nu fun x4 h16 nu=>GO Z (AO.call Z _ Z Z QS (BX _ h16 ?_)); cases nu; exact fI 2 Z (En [47,0,1] Z)
  · refine IF 40 lZ nu Z fun nu=>?_; cases nu; exact fI 7 Z (En [47,0,1] Z)
  refine J 0 Z (C hf Z (fun Ao hf=>?_) fun Ao hf=>?_)
  ·
   refine V 0 Z (AW.draw 15 mixed (by kernel_rfl) Z ?_); refine Ev.cs bC 3 Z ?_; refine B1 hf fun x5 h18 hf=>Ev.cons Z Z Z (AO.fV h18 Z dR Z Z zg) ?_; refine B1 hf fun x6 h19 hf=>Ev.cons Z Z Z (AO.call Z _ Z Z QS (BX _ h19 zg)) (Ev.cs bC 4 Z ?_); refine B1 hf fun x7 h20 hf=>Ev.cons Z Z Z (AO.fV h20 Z dR Z Z zg) ?_; refine B1 hf fun x8 h21 hf=>Ev.cons Z Z Z (AO.call Z _ Z Z QS (BX _ h21 zg)) (Ev.cs bC 1 Z (Ev.cons Z Z Z (AO.Xl Z Qs Wd Z zg) (Ev.cs bC 2 Z ?_))); refine Ev.nil ?_; show AR _ _ _ _ _ _ _ _; cases hf; exact N 0 Z (Y Z h)
  cases hf; exact M 2 Z (Y Z h)
 cases hf; exact M 2 Z (Y Z h)
theorem TK (gG:Str) (jL:Int) {r0:Bool} (hf:Jg gG jL=some r0) (h:Q (.ret (.bool r0)) τ):PC 312 [.str gG,iP jL] τ Q:=by
 unfold Jg at hf; refine BN 32 [.tmp 4] [0,1] Tryz.func312 Z Z Z Z Z ?_; refine B1 hf fun jI h1 hf=>W 4 Z (AS Z (AO.qd h1 Z dR Z ⟨_,Z⟩ Z (U 4 Z (On 3 12 15 [5] (jI == ([120]:Str)) Z Z Z Z ?_)))); refine BR hf fun b1 h4 hf=>?_; refine U 1 Z (AR.fK 15 16 31 false [] b1 Z Z (fun h3=>?_) (fun h3=>?_) ?_)
 ·
  replace h4:=iw h3 h4; refine Is 16 h3 Z (U 1 Z (GO Z (AO.cK Z Z Z Z dR Z ?_))); refine B1 h4 fun b2 h6 h4=>U 2 Z (AR.fK 4 20 24 true [5,16] b2 Z Z (fun h5=>?_) (fun h5=>?_) ?_)
  · refine IT 20 h5 h6 Z fun h6=>?_; refine B1 h6 fun x1 h7 h6=>U 1 Z (GO Z (AO.fV h7 Z dR Z Z ?_)); cases h6; exact fI 2 Z (En [24,5,16] Z)
  · refine IF 20 h5 h6 Z fun h6=>?_; cases h6; exact fI 4 Z (En [24,5,16] Z)
  refine BR h4 fun b3 h9 h4=>?_; refine U 1 Z (AR.fK 5 25 30 true [16] b3 Z Z (fun h8=>?_) (fun h8=>?_) ?_)
  · refine IT 25 h8 h9 Z fun h9=>?_; refine B1 h9 fun x2 h10 h9=>U 1 Z (GO Z (AO.fV h10 Z dR Z Z ?_)); refine B1 h9 fun x3 h11 h9=>GO Z (AO.call Z _ Z Z QS (BX _ h11 ?_)); cases h9; exact fI 2 Z (En [30,16] Z)
  · refine IF 25 h8 h9 Z fun h9=>?_; cases h9; exact fI 5 Z (En [30,16] Z)
  cases h4; exact fI 1 Z (En [31] Z)
 · refine IT 16 h3 h4 Z fun h4=>?_; cases h4; exact fI 15 Z (En [31] Z)
 cases hf; exact N 1 Z (Y Z h)
theorem VL (gG:Str) (jL:Int) {r0:aX} {r1:Int} {r2:Int} (hf:LK gG jL=some (r0,r1,r2)) (h:Q (.ret (.tuple [.agg (zk r0),iP r1,iP r2])) τ):PC 283 [.str gG,iP jL] τ Q:=by
 unfold LK at hf; refine BN 68 [.cell 4 243,.tmp 5,.tmp 6] [0,1] Tryz.func283 Z Z Z Z Z (W 0 Z (AS Z (AO.aC Z yI (fun b4=>(U 2 Z (AS Z (AO.Dr (eu:=5) Z Ns Z (fun b7=>(J 3 Z (V5 (fun i1 b1 v1=>[(0,.str gG),(1,iP jL),(4,pP b4),(7,pP b7),(8,iP i1)]) (fun i1 b1 v1=>[.K_ b7 v1 167 5 b1,.box b4 [iP 0,.str ([]:Str),iP 0]]) (fun bX i1 b1 v1=>xS gG jL bX i1 b1=some (r0,r1,r2)) BIG (cZ (jL + 1)) [] (.slice none 0 0) Z Z hf (fun _ _ _ hz=>bT hz) ?_)))))))))); intro bX i1 b1 v1 hf; rw [xS] at hf; refine W 2 Z (AS Z (AO.cK Z Z Z Z dR Z (J 1 Z (C hf Z (fun h1 hf=>?_) fun h1 hf=>?_))))
 ·
  refine B1 hf fun c1 h2 hf=>W 2 Z (AS Z (AO.fV h2 Z dR Z Z (J 4 Z (C hf Z (fun h3 hf=>?_) fun h3 hf=>?_))))
  ·
   refine W 0 Z (CL Z (AC.one 0 Z (UJ ⟨_,Z,(J 1 Z (C hf Z (fun h4 hf=>?_) fun h4 hf=>?_))⟩)))
   · cases hf; exact Wx 4 [1] Z Z (ZC [1] Z Z h)
   refine W 0 Z (CL Z (AC.Kc 0 Z (w_ ?_))); cases hf; exact Rx 7 [0] Z Z (ZC [0] Z Z h)
  refine V 3 Z (C hf Z (fun h5 hf=>?_) fun h5 hf=>?_)
  · cases hf; exact Wx 4 [1] Z Z (ZC [1] Z Z h)
  refine V 3 Z (C hf Z (fun h6 hf=>?_) fun h6 hf=>?_)
  ·
   obtain ⟨x1,n1,h7,hf⟩:=bP hf; refine W 2 Z (CL Z (PU _ _ h7 ?_)); refine B1 hf fun b2 h9 hf=>U 8 Z (AR.fK 4 52 56 true [0,1,4,7,8,10,11] b2 Z Z (fun h8=>?_) (fun h8=>?_) ?_)
   · refine IT 52 h8 h9 Z fun h9=>?_; refine BR h9 fun x2 h10 h9=>?_; refine U 2 Z (GO Z (AO.call Z _ Z Z aeu (TK _ _ h10 ?_))); cases h9; exact fI 1 Z (En [56,0,1,4,7,8,10,11] Z)
   · refine IF 52 h8 h9 Z fun h9=>?_; cases h9; exact fI 4 Z (En [56,0,1,4,7,8,10,11] Z)
   refine J 1 Z (C hf Z (fun h11 hf=>?_) fun h11 hf=>?_)
   · cases hf; exact Wx 4 [1] Z Z (ZC [1] Z Z h)
   refine V 3 Z (C hf Z (fun h12 hf=>?_) fun h12 hf=>?_)
   · cases hf; exact Wx 4 [1] Z Z (ZC [1] Z Z h)
   refine B1 hf fun b3 lZ hf=>W 1 Z (CL Z (AC.one 0 Z (iC lZ (fun v2=>⟨_,Z,?_⟩)))); exact N 4 Z ⟨(cZ (i1 + n1)),b3,v2,Z,Z,Z,hf⟩
  refine B1 hf fun b4 nu hf=>W 1 Z (CL Z (AC.one 0 Z (iC nu (fun v3=>⟨_,Z,?_⟩)))); exact N 3 Z ⟨(cZ (i1 + 1)),b4,v3,Z,Z,Z,hf⟩
 cases hf; exact Wx 4 [1] Z Z (ZC [1] Z Z h)
theorem Om (gG:Str) (jL:Int) {r0:aX} {r1:Int} {r2:Int} (hf:DT gG jL=some (r0,r1,r2)) (h:Q (.ret (.tuple [.agg (zk r0),iP r1,iP r2])) τ):PC 284 [.str gG,iP jL] τ Q:=by
 unfold DT at hf; refine BN 63 [.cell 4 243,.tmp 5,.tmp 6] [0,1] Tryz.func284 Z Z Z Z Z (W 0 Z (AS Z (AO.aC Z yI (fun b4=>(U 2 Z (AS Z (AO.bq (List.map MX ([2,1]:List Int)) Z QB Z Z Z Z (AS Z (AO.aO (l:=([2,1]:List Int)) Z Z Z Z Fj Z Z ?_))))))))); refine J 1 Z (JY (fun x1=>[(0,.str gG),(1,iP jL),(4,pP b4),(10,.list (List.map MX ([2,1]:List Int))),(11,iP (([2,1]:List Int).length:Int)),(12,iP x1)]) (fun x1=>[.box b4 [iP 0,.str ([]:Str),iP 0]]) (fun bX x1=>qW gG jL bX x1=some (r0,r1,r2)) BIG 0 Z Z hf (fun _ hz=>bT hz) ?_); intro bX x1 hf; rw [qW] at hf; refine V 1 Z (C hf Z (fun h1 hf=>?_) fun h1 hf=>?_)
 ·
  refine B1 hf fun n1 h2 hf=>W 0 Z (AS Z (AO.aP h2 Z Z Z Z Fj Z Z (U 6 Z (AS Z (AO.cK Z Z Z Z dR Z (J 1 Z (C hf Z (fun h3 hf=>?_) fun h3 hf=>?_)))))))
  · exact M 2 Z ⟨(cZ (x1 + 1)),Z,Z,Z,hf⟩
  refine B1 hf fun s1 h4 hf=>W 5 Z (AS Z (AO.qd h4 Z dR Z ⟨_,Z⟩ ⟨_,Z⟩ (J 4 Z (C hf Z (fun h5 hf=>?_) fun h5 hf=>?_))))
  ·
   refine V 0 Z (AW.cond Z (fun h6=>?_) (fun h6=>?_))
   · cases hf; exact Wx 9 [0] Z Z (ZC [0] Z Z h)
   cases h5.symm.trans h6
  refine V 2 Z (C hf Z (fun h7 hf=>?_) fun h7 hf=>?_)
  ·
   refine V 0 Z (AW.cond Z (fun h8=>?_) (fun h8=>?_))
   · cases hf; exact Wx 9 [0] Z Z (ZC [0] Z Z h)
   cases h7.symm.trans h8
  refine V 2 Z (C hf Z (fun h9 hf=>?_) fun h9 hf=>?_)
  ·
   refine V 0 Z (AW.cond Z (fun h10=>?_) (fun h10=>?_))
   · cases hf; exact Wx 9 [0] Z Z (ZC [0] Z Z h)
   cases h9.symm.trans h10
  refine V 2 Z (C hf Z (fun h11 hf=>?_) fun h11 hf=>?_)
  ·
   refine V 0 Z (AW.cond Z (fun h12=>?_) (fun h12=>?_))
   · cases hf; exact Wx 9 [0] Z Z (ZC [0] Z Z h)
   cases h11.symm.trans h12
  refine V 2 Z (C hf Z (fun lZ hf=>?_) fun lZ hf=>?_)
  ·
   refine V 0 Z (AW.cond Z (fun nu=>?_) (fun nu=>?_))
   · cases hf; exact Wx 9 [0] Z Z (ZC [0] Z Z h)
   cases lZ.symm.trans nu
  refine V 2 Z (C hf Z (fun tq hf=>?_) fun tq hf=>?_)
  ·
   refine V 0 Z (AW.cond Z (fun h16=>?_) (fun h16=>?_))
   · cases hf; exact Wx 9 [0] Z Z (ZC [0] Z Z h)
   cases tq.symm.trans h16
  refine V 2 Z (C hf Z (fun Ao hf=>?_) fun Ao hf=>?_)
  ·
   refine V 0 Z (AW.cond Z (fun h18=>?_) (fun h18=>?_))
   · cases hf; exact Wx 9 [0] Z Z (ZC [0] Z Z h)
   cases Ao.symm.trans h18
  refine V 2 Z (C hf Z (fun h19 hf=>?_) fun h19 hf=>?_)
  ·
   refine V 0 Z (AW.cond Z (fun h20=>?_) (fun h20=>?_))
   · cases hf; exact Wx 9 [0] Z Z (ZC [0] Z Z h)
   cases h19.symm.trans h20
  refine V 2 Z (C hf Z (fun h21 hf=>?_) fun h21 hf=>?_)
  ·
   refine V 0 Z (AW.cond Z (fun h22=>?_) (fun h22=>?_))
   · cases hf; exact Wx 9 [0] Z Z (ZC [0] Z Z h)
   cases h21.symm.trans h22
  refine V 2 Z (C hf Z (fun h23 hf=>?_) fun h23 hf=>?_)
  ·
   refine V 0 Z (AW.cond Z (fun Ti=>?_) (fun Ti=>?_))
   · cases hf; exact Wx 9 [0] Z Z (ZC [0] Z Z h)
   cases h23.symm.trans Ti
  refine V 2 Z (C hf Z (fun Ux hf=>?_) fun Ux hf=>?_)
  ·
   refine V 0 Z (AW.cond Z (fun Uw=>?_) (fun Uw=>?_))
   · cases hf; exact Wx 9 [0] Z Z (ZC [0] Z Z h)
   cases Ux.symm.trans Uw
  refine V 2 Z (C hf Z (fun h27 hf=>?_) fun h27 hf=>?_)
  ·
   refine V 0 Z (AW.cond Z (fun Uv=>?_) (fun Uv=>?_))
   · cases hf; exact Wx 9 [0] Z Z (ZC [0] Z Z h)
   cases h27.symm.trans Uv
  refine V 2 Z (C hf Z (fun KX hf=>?_) fun KX hf=>?_)
  ·
   refine V 0 Z (AW.cond Z (fun NZ=>?_) (fun NZ=>?_))
   · cases hf; exact Wx 9 [0] Z Z (ZC [0] Z Z h)
   cases KX.symm.trans NZ
  refine V 2 Z (C hf Z (fun h31 hf=>?_) fun h31 hf=>?_)
  ·
   refine V 0 Z (AW.cond Z (fun h32=>?_) (fun h32=>?_))
   · cases hf; exact Wx 9 [0] Z Z (ZC [0] Z Z h)
   cases h31.symm.trans h32
  refine V 2 Z (C hf Z (fun XJ hf=>?_) fun XJ hf=>?_)
  ·
   refine V 0 Z (AW.cond Z (fun h34=>?_) (fun h34=>?_))
   · cases hf; exact Wx 9 [0] Z Z (ZC [0] Z Z h)
   cases XJ.symm.trans h34
  refine V 2 Z (C hf Z (fun Y8 hf=>?_) fun Y8 hf=>?_)
  ·
   refine V 0 Z (AW.cond Z (fun Vp=>?_) (fun Vp=>?_))
   · cases hf; exact Wx 9 [0] Z Z (ZC [0] Z Z h)
   cases Y8.symm.trans Vp
  refine V 2 Z (C hf Z (fun h37 hf=>?_) fun h37 hf=>?_)
  ·
   refine V 0 Z (AW.cond Z (fun h38=>?_) (fun h38=>?_))
   · cases hf; exact Wx 9 [0] Z Z (ZC [0] Z Z h)
   cases h37.symm.trans h38
  refine V 2 Z (C hf Z (fun h39 hf=>?_) fun h39 hf=>?_)
  ·
   refine V 0 Z (AW.cond Z (fun h40=>?_) (fun h40=>?_))
   · cases hf; exact Wx 9 [0] Z Z (ZC [0] Z Z h)
   cases h39.symm.trans h40
  refine V 2 Z (C hf Z (fun h41 hf=>?_) fun h41 hf=>?_)
  ·
   refine V 0 Z (AW.cond Z (fun Z9=>?_) (fun Z9=>?_))
   · cases hf; exact Wx 9 [0] Z Z (ZC [0] Z Z h)
   cases h41.symm.trans Z9
  refine V 2 Z (C hf Z (fun h43 hf=>?_) fun h43 hf=>?_)
  ·
   refine V 0 Z (AW.cond Z (fun h44=>?_) (fun h44=>?_))
   · cases hf; exact Wx 9 [0] Z Z (ZC [0] Z Z h)
   cases h43.symm.trans h44
  refine V 2 Z (C hf Z (fun h45 hf=>?_) fun h45 hf=>?_)
  ·
   refine V 0 Z (AW.cond Z (fun h46=>?_) (fun h46=>?_))
   · cases hf; exact Wx 9 [0] Z Z (ZC [0] Z Z h)
   cases h45.symm.trans h46
  refine V 2 Z (C hf Z (fun h47 hf=>?_) fun h47 hf=>?_)
  ·
   refine V 0 Z (AW.cond Z (fun h48=>?_) (fun h48=>?_))
   · cases hf; exact Wx 9 [0] Z Z (ZC [0] Z Z h)
   cases h47.symm.trans h48
  refine V 2 Z (C hf Z (fun h49 hf=>?_) fun h49 hf=>?_)
  ·
   refine V 0 Z (AW.cond Z (fun h50=>?_) (fun h50=>?_))
   · cases hf; exact Wx 9 [0] Z Z (ZC [0] Z Z h)
   cases h49.symm.trans h50
  refine V 2 Z (C hf Z (fun h51 hf=>?_) fun h51 hf=>?_)
  ·
   refine V 0 Z (AW.cond Z (fun h52=>?_) (fun h52=>?_))
   · cases hf; exact Wx 9 [0] Z Z (ZC [0] Z Z h)
   cases h51.symm.trans h52
  refine V 2 Z (C hf Z (fun h53 hf=>?_) fun h53 hf=>?_)
  · cases hf; exact Wx 9 [0] Z Z (ZC [0] Z Z h)
  exact M 2 Z ⟨(cZ (x1 + 1)),Z,Z,Z,hf⟩
 cases hf; exact Wx 4 [0] Z Z (ZC [0] Z Z h)
theorem TJ (gG:Str) (jL:Int) {r0:aX} {r1:Int} {r2:Int} (hf:Jf gG jL=some (r0,r1,r2)) (h:Q (.ret (.tuple [.agg (zk r0),iP r1,iP r2])) τ):PC 255 [.str gG,iP jL] τ Q:=by
 unfold Jf at hf; refine BN 44 [.cell 4 243,.tmp 5,.tmp 6] [0,1] Tryz.func255 Z Z Z Z Z (W 0 Z (AS Z (AO.aC Z yI (fun b4=>?_)))); refine B1 hf fun c1 h1 hf=>U 4 Z (AS Z (AO.fV h1 Z dR Z Z ?_)); refine B1 hf fun x1 h2 hf=>U 2 Z (CL Z (Ed _ h2 (J 1 Z (C hf Z (fun h3 hf=>?_) fun h3 hf=>?_))))
 · replace hf:=(FZ _).trans hf; obtain ⟨x2,x3,x4,h4,hf⟩:=kg hf; refine W 2 Z (CL Z (VN _ _ h4 ?_)); cases hf; exact Rx 6 [0] Z Z (ZC [0] Z Z h)
 refine B1 hf fun x5 h5 hf=>W 1 Z (CL Z (Bp _ h5 (J 1 Z (C hf Z (fun h6 hf=>?_) fun h6 hf=>?_))))
 · replace hf:=(FZ _).trans hf; obtain ⟨x6,x7,x8,h7,hf⟩:=kg hf; refine W 2 Z (CL Z (Sb _ _ h7 ?_)); cases hf; exact Rx 6 [0] Z Z (ZC [0] Z Z h)
 refine V 3 Z (C hf Z (fun h8 hf=>?_) fun h8 hf=>?_)
 · replace hf:=(FZ _).trans hf; obtain ⟨x9,Il,Li,h9,hf⟩:=kg hf; refine W 2 Z (CL Z (VL _ _ h9 ?_)); cases hf; exact Rx 6 [0] Z Z (ZC [0] Z Z h)
 replace hf:=(FZ _).trans hf; obtain ⟨SB,YB,Zv,h10,hf⟩:=kg hf; refine W 2 Z (CL Z (Om _ _ h10 ?_)); cases hf; exact Rx 6 [0] Z Z (ZC [0] Z Z h)
theorem Oo (op1:Str) (kT:Int) {r0:Int} (hf:DU op1 kT=some r0) (h:Q (.ret (iP r0)) τ):PC 256 [.str op1,iP kT] τ Q:=by
 unfold DU at hf; refine BN 18 [.tmp 4] [0,1] Tryz.func256 Z Z Z Z Z (V 4 Z (C hf Z (fun h1 hf=>?_) fun h1 hf=>?_))
 ·
  refine V 0 Z (AW.cond Z (fun h2=>?_) (fun h2=>?_))
  · cases hf; exact M 3 Z (Y Z h)
  cases h1.symm.trans h2
 refine V 2 Z (C hf Z (fun h3 hf=>?_) fun h3 hf=>?_)
 · cases hf; exact M 3 Z (Y Z h)
 refine V 2 Z (C hf Z (fun h4 hf=>?_) fun h4 hf=>?_)
 ·
  refine V 0 Z (AW.cond Z (fun h5=>?_) (fun h5=>?_))
  · refine W 2 Z (AS Z (AO.max2 Z Z Z Z Z ?_)); cases hf; exact N 1 Z (Y Z h)
  cases h4.symm.trans h5
 refine V 2 Z (C hf Z (fun h6 hf=>?_) fun h6 hf=>?_)
 · refine W 2 Z (AS Z (AO.max2 Z Z Z Z Z ?_)); cases hf; exact N 1 Z (Y Z h)
 cases hf; exact M 2 Z (Y Z h)
theorem Sd (gG:Str) {r0:List aX} {r1:Int} {r2:Int} (hf:Gy gG=some (r0,r1,r2)) (h:Q (.ret (.tuple [.list (List.map aX.cells r0),iP r1,iP r2])) τ):PC 218 [.str gG] τ Q:=by
 unfold Gy at hf; refine BN 84 [.tmp 2,.tmp 3,.tmp 4] [0] Tryz.func218 Z Z Z Z Z (W 0 Z (AS Z (AO.eO Z Z (U 3 Z (AS Z (AO.cK Z Z Z Z dR Z (J 1 Z (C hf Z (fun h1 hf=>?_) fun h1 hf=>?_))))))))
 · refine W 0 Z (AS Z (AO.eO Z Z ?_)); cases hf; exact N 2 Z (Y Z h)
 refine W 5 Z (AS Z (AO.ZM Z dR Z (fun ahd=>(J 0 Z (AW.row 3 243 (LK5 (fun bn v1 FM kT pos1=>[(0,.str gG),(5,.own v1 (List.map aX.cells bn)),(6,.fn 252 []),(7,iP FM),(8,iP kT),(18,pP ahd)]) (fun bn v1 FM kT pos1=>[.row v1 (List.map aX.cells bn).length 3 243,.obj ahd (.stringIter ⟨List.toArray gG⟩ pos1)]) (fun bX bn v1 FM kT pos1=>lT gG bX bn FM kT pos1=some (r0,r1,r2)) BIG [] (.slice none 0 0) 0 0 0 Z Z hf (fun _ _ _ _ _ hz=>bT hz) ?_)))))); intro bX bn v1 FM kT pos1 hf; rw [lT] at hf; rcases Bool.eq_false_or_eq_true (decide (pos1 < gG.length)) with h2 | h2
 ·
  replace hf:=jF h2 hf; refine W 0 Z (AS Z (AO.abN (i:=1) Z Z Z h2 (J 1 Z (AW.cond Z (fun h3=>?_) (fun h3=>?_)))))
  ·
   refine B1 hf fun b1 h5 hf=>W 8 Z (AR.fK 4 26 30 false [0,5,6,7,8,9,10,18] b1 Z Z (fun h4=>?_) (fun h4=>?_) ?_)
   · refine IF 26 h4 h5 Z fun h5=>?_; refine BR h5 fun x1 h6 h5=>?_; refine U 2 Z (GO Z (AO.call Z _ Z Z aeA (Ot _ h6 ?_))); cases h5; exact fI 1 Z (En [30,0,5,6,7,8,9,10,18] Z)
   · refine IT 26 h4 h5 Z fun h5=>?_; cases h5; exact fI 4 Z (En [30,0,5,6,7,8,9,10,18] Z)
   refine J 0 Z (C hf Z (fun h7 hf=>?_) fun h7 hf=>?_)
   · exact M 0 Z ⟨bn,v1,FM,kT,(pos1 + (dec gG pos1).2),Z,Z,Z,hf⟩
   refine V 2 Z (C hf Z (fun h8 hf=>?_) fun h8 hf=>?_)
   · refine B1 hf fun abO h9 hf=>W 2 Z (CL Z (Fw _ _ zS 254 [] aez (fun _ _ hz=>Oq _  hz) h9 ?_)); exact N 1 Z ⟨bn,v1,abO,kT,(pos1 + (dec gG pos1).2),Z,Z,Z,hf⟩
   refine V 2 Z (C hf Z (fun h10 hf=>?_) fun h10 hf=>?_)
   ·
    refine B1 hf fun b2 h12 hf=>W 3 Z (AR.fK 14 40 54 true [0,5,6,7,8,9,18] b2 Z Z (fun h11=>?_) (fun h11=>?_) ?_)
    ·
     replace h12:=jF h11 h12; refine Is 40 h11 Z (U 1 Z (GO Z (AO.aO (l:=bn) Z Z Z Z z_ Z Z ?_))); refine BR h12 fun b3 nu h12=>?_; refine U 2 Z (AR.fK 9 44 53 false [0,5,6,7,8,9,18,40] b3 Z Z (fun lZ=>?_) (fun lZ=>?_) ?_)
     · replace nu:=iw lZ nu; refine Is 44 lZ Z (U 2 Z (GO Z (AO.aO (l:=bn) Z Z Z Z z_ Z Z ?_))); refine B1 nu fun e1 tq nu=>U 1 Z (GO Z (AO.aP tq Z Z Z Z z_ (aX.aD _) Z ?_)); cases nu; exact fI 4 Z (En [53,0,5,6,7,8,9,18,40] Z)
     · refine IT 44 lZ nu Z fun nu=>?_; cases nu; exact fI 9 Z (En [53,0,5,6,7,8,9,18,40] Z)
     cases h12; exact fI 1 Z (En [54,0,5,6,7,8,9,18] Z)
    · refine IF 40 h11 h12 Z fun h12=>?_; cases h12; exact fI 14 Z (En [54,0,5,6,7,8,9,18] Z)
    refine J 0 Z (C hf Z (fun h16 hf=>?_) fun h16 hf=>?_)
    · refine W 3 rfl (AS rfl (AO.bq (List.map aX.cells [(aX.mk 5 ([]:Str) (pos1:Int))]) rfl ND rfl rfl rfl (by first | rfl | simp only [List.map,aX.aD]) ?_)); refine B1 hf fun kY Ao hf=>AS Z (AO.eZ (i:=0) (l:=bn) (m:=[(aX.mk 5 ([]:Str) (pos1:Int))]) Ao Z Z Z Z Z Z Z ND z_ Z Z Z (aX.bG) (aX.cells_one) (by decide) (fun v2 s1 hs1=>?_)); cases hs1; exact N 1 Z ⟨kY,v2,FM,kT,(pos1 + (dec gG pos1).2),Z,Z,Z,hf⟩
    exact M 0 Z ⟨bn,v1,FM,kT,(pos1 + (dec gG pos1).2),Z,Z,Z,hf⟩
   obtain ⟨x2,xG,e2,h18,hf⟩:=kg hf; refine W 2 Z (CL Z (TJ _ _ h18 (U 4 Z (AS Z (AO.aC Z yI (fun b11=>(Rw 5 [0] Z Z (C hf Z (fun h19 hf=>?_) fun h19 hf=>?_))))))))
   · refine W 2 Z (AS Z (AO.eO Z Z ?_)); cases hf; exact N 2 Z (Y Z h)
   refine Ww 3 [0] Z Z (C hf Z (fun h20 hf=>?_) fun h20 hf=>?_)
   · refine B1 hf fun abM h21 hf=>Wr 3 [0] rfl rfl (CL rfl (Oo _ _ h21 (Rr 3 [0] rfl rfl (AS rfl (AO.bq (List.map aX.cells [x2]) rfl ND rfl rfl rfl (by first | rfl | simp only [List.map,aX.aD]) ?_))))); refine B1 hf fun afi h22 hf=>AS Z (AO.eZ (i:=1) (l:=bn) (m:=[x2]) h22 Z Z Z Z Z Z Z ND z_ Z Z Z (aX.bG) (aX.cells_one) (by decide) (fun v3 s2 hs2=>?_)); cases hs2; refine fI 3 Z (AR.drop1 ?_); exact N 0 Z ⟨afi,v3,xG,abM,(pos1 + (dec gG pos1).2),Z,Z,Z,hf⟩
   refine Wr 2 [0] rfl rfl (AS rfl (AO.bq (List.map aX.cells [x2]) rfl ND rfl rfl rfl (by first | rfl | simp only [List.map,aX.aD]) ?_)); refine B1 hf fun afh h23 hf=>AS Z (AO.eZ (i:=1) (l:=bn) (m:=[x2]) h23 Z Z Z Z Z Z Z ND z_ Z Z Z (aX.bG) (aX.cells_one) (by decide) (fun v4 s3 hs3=>?_)); cases hs3; refine fI 3 Z (AR.drop1 ?_); exact N 0 Z ⟨afh,v4,xG,kT,(pos1 + (dec gG pos1).2),Z,Z,Z,hf⟩
  cases h3
 replace hf:=iw h2 hf; refine W 0 Z (AS Z (AO.Z0 (i:=1) Z Z Z h2 (J 1 Z (AW.cond Z (fun Ti=>?_) (fun Ti=>?_)))))
 · cases Ti
 cases hf; exact M 4 Z (Y Z h)
section
variable [Am]
theorem Ol (s1:Str) {r0:Bool} (hf:DN s1=some r0) (h:Q (.ret (.bool r0)) τ):PC 345 [.str s1] τ Q:=by
 unfold DN at hf; refine BN 40 [.tmp 2] [0] Tryz.func345 Z Z Z Z Z ?_; refine B1 hf fun b1 h2 hf=>W 4 Z (AR.fK 9 8 17 false [0] b1 Z Z (fun h1=>?_) (fun h1=>?_) ?_)
 ·
  replace h2:=iw h1 h2; refine Is 8 h1 Z (U 1 Z (GO Z (AO.cK Z Z Z Z dR Z ?_))); refine BR h2 fun b2 h4 h2=>?_; refine U 2 Z (AR.fK 4 12 16 true [0,8] b2 Z Z (fun h3=>?_) (fun h3=>?_) ?_)
  · refine IT 12 h3 h4 Z fun h4=>?_; refine B1 h4 fun x1 h5 h4=>U 1 Z (GO Z (AO.fV h5 Z dR Z Z ?_)); cases h4; exact fI 2 Z (En [16,0,8] Z)
  · refine IF 12 h3 h4 Z fun h4=>?_; cases h4; exact fI 4 Z (En [16,0,8] Z)
  cases h2; exact fI 1 Z (En [17,0] Z)
 · refine IT 8 h1 h2 Z fun h2=>?_; cases h2; exact fI 9 Z (En [17,0] Z)
 refine J 0 Z (C hf Z (fun h6 hf=>?_) fun h6 hf=>?_)
 · cases hf; exact M 1 Z (Y Z h)
 refine V 1 Z (JY (fun i1=>[(0,.str s1),(3,iP i1)]) (fun i1=>[]) (fun bX i1=>vg s1 bX i1=some r0) BIG 0 Z Z hf (fun _ hz=>bT hz) ?_); intro bX i1 hf; rw [vg] at hf; refine W 2 Z (AS Z (AO.cK Z Z Z Z dR Z (J 1 Z (C hf Z (fun h7 hf=>?_) fun h7 hf=>?_))))
 ·
  refine B1 hf fun x2 h8 hf=>W 2 Z (AS Z (AO.fV h8 Z dR Z Z ?_)); refine B1 hf fun x3 h9 hf=>CL Z (JI _ h9 (J 1 Z (C hf Z (fun h10 hf=>?_) fun h10 hf=>?_)))
  · cases hf; exact M 1 Z (Y Z h)
  exact M 3 Z ⟨(cZ (i1 + 1)),Z,Z,Z,hf⟩
 obtain ⟨n1,Er,h11,hf⟩:=bP hf; refine W 1 Z (CL Z (Eb _ h11 (U 6 Z (AS Z (AO.eqNil Z abX Z Z (U 1 Z (An 3 36 39 [] (decide (n1≤9007199254740992)) Z Z Z Z ?_))))))); cases hf; exact N 1 Z (Y Z h)
end
section
variable [Am]
theorem TD (t1:aX) {r0:Bool} (hf:I_ t1=some r0) (h:Q (.ret (.bool r0)) τ):PC 341 [.agg (zk t1)] τ Q:=by
 unfold I_ at hf; refine BN 23 [.tmp 2] [0] Tryz.func341 Z Z Z Z Z (V 6 Z (C hf Z (fun h1 hf=>?_) fun h1 hf=>?_))
 · refine BR hf fun x1 h2 hf=>?_; refine W 2 Z (CL Z (K5 _ h2 ?_)); cases hf; exact N 1 Z (Y Z h)
 refine V 2 Z (C hf Z (fun h3 hf=>?_) fun h3 hf=>?_)
 · refine BR hf fun x2 h4 hf=>?_; refine W 2 Z (CL Z (Ol _ h4 ?_)); cases hf; exact N 1 Z (Y Z h)
 refine V 2 Z (C hf Z (fun h5 hf=>?_) fun h5 hf=>?_)
 · refine W 2 Z (AS Z (AO.cK Z Z Z Z dR Z ?_)); cases hf; exact N 2 Z (Y Z h)
 refine V 2 Z (C hf Z (fun h6 hf=>?_) fun h6 hf=>?_)
 · cases hf; exact M 1 Z (Y Z h)
 cases hf; exact M 1 Z (Y Z h)
end
section
variable [Am]
theorem rA (p1:Nat) (qB:ak) {r0:aX} {qA:ak} (hf:nI qB=some (r0,qA)) {Q:dx→List bf→Prop} (h:Q (.ret (.agg (zk r0))) [.box p1 (aV qA)]):PC 330 [pP p1] [.box p1 (aV qB)] Q:=by
 unfold nI at hf; refine BD 37 [.cell 2 243] [0] Tryz.func330 Z Z Z Z Z (W 0 Z (AS Z (AO.aC Z yI (fun b2=>(J 0 Z (AW.draw 23 mixed (by kernel_rfl) Z ?_)))))); refine Ev.cs bC 3 Z (Ev.cons Z Z Z (AO.aR (i:=1) Z Z Z Ep Z Z zg) (Ev.cs bC 3 Z (Ev.cons Z Z Z (AO.aR (i:=1) Z Z Z U5 Z Z zg) ?_))); refine Ev.cons Z Z Z (AO.aO (l:=qB.ts) Z Z Z Z z_ Z Z zg) (Ev.cs bC 2 Z ?_); refine B1 hf fun b1 h2 hf=>Ev.fK hKA 12 13 25 true [0,2] (.bool b1) Z Z (fun h1=>?_) (fun h1=>?_) ?_
 ·
  replace h2:=jF h1 h2; refine Ev.is W_ 13 h1 Z (Ev.cs bC 3 Z (Ev.run Z Z Z Z Z Z Z (AO.aR (i:=1) Z Z Z U5 Z Z zg) (Ev.cs bC 3 Z ?_))); refine Ev.run Z Z Z Z Z Z Z (AO.aR (i:=1) Z Z Z Ep Z Z zg) ?_; refine B1 h2 fun e1 h3 h2=>Ev.run Z Z Z Z Z Z Z (AO.aP h3 Z Z Z Z z_ (aX.aD _) Z zg) (Ev.cs bC 1 Z ?_); refine BR h2 fun x1 h4 h2=>?_; refine Ev.run Z Z Z Z Z Z Z (AO.call Z _ Z Z aes (TD _ h4 zg)) ?_; cases h2; refine Ev.cs bC 1 Z ?_; exact Ev.nil (Less.settle (ps:=[25,0,2]) Z)
 · replace h2:=iw h1 h2; refine Ev.is W_ 13 h1 Z ?_; cases h2; refine Ev.cs bC 12 Z ?_; exact Ev.nil (Less.settle (ps:=[25,0,2]) Z)
 refine Ev.nil ?_; show AR _ _ _ _ _ _ _ _; refine J 0 Z (C hf Z (fun h5 hf=>?_) fun h5 hf=>?_)
 ·
  refine V 0 Z (AW.draw 10 mixed (by kernel_rfl) Z ?_); refine Ev.cs bC 3 Z (Ev.cons Z Z Z (AO.aR (i:=1) Z Z Z U5 Z Z zg) (Ev.cs bC 3 Z (Ev.cons Z Z Z (AO.aR (i:=1) Z Z Z Ep Z Z zg) ?_))); refine B1 hf fun e2 h6 hf=>Ev.cons Z Z Z (AO.aP h6 Z Z Z Z z_ (aX.aD _) Z zg) (Ev.cs bC 1 Z (Ev.nil ?_)); show AR _ _ _ _ _ _ _ _; cases hf; exact Rx 1 [0] rfl rfl ⟨rfl,_,⟨_,_,rfl,⟨_,_,0,_,_,rfl,rfl,Ny,rfl⟩,rfl⟩,_,(.cons _ (.cons_cons _ (List.nil_sublist _))),h⟩
 cases hf; exact Wx 2 [0] rfl rfl ⟨rfl,_,⟨_,_,rfl,⟨_,_,0,_,_,rfl,rfl,Ny,rfl⟩,rfl⟩,_,(.cons _ (.cons_cons _ (List.nil_sublist _))),h⟩
end
section
variable [Am]
theorem Mg (p1:Nat) (qB:ak) (op1:Str) {r0:Bool} {qA:ak} (hf:Aw qB op1=some (r0,qA)) {Q:dx→List bf→Prop} (h:Q (.ret (.bool r0)) [.box p1 (aV qA)]):PC 331 [pP p1,.str op1] [.box p1 (aV qB)] Q:=by
 unfold Aw at hf; refine BD 17 [.tmp 4] [0,1] Tryz.func331 Z Z Z Z Z ?_; obtain ⟨x1,y1,h1,hf⟩:=bP hf; refine W 2 Z (CL Z (AC.one 0 Z (rA _ _ h1 ⟨_,Z,(AS Z (AO.aC Z yI (fun b5=>(Rr 5 [0,0] Z Z (AR.and 5 11 16 [] (x:=(x1.text == op1)) Z Z (fun h2=>?_) (fun h2=>?_) ?_)))))⟩)))
 · refine Is 11 h2 Z (U 1 Z (GO Z (AO.aR (i:=0) Z Z Z Qw Z Z ?_))); exact fI 3 Z (En [16] Z)
 · refine Is 11 h2 Z ?_; exact fI 5 Z (En [16] Z)
 cases hf; exact N 1 rfl ⟨rfl,_,⟨_,_,rfl,rfl,rfl⟩,_,(.cons _ (.cons_cons _ (List.nil_sublist _))),h⟩
end
section
variable [Am]
theorem eH (p1:Nat) (qB:ak) (op1:Str) {r0:Bool} {qA:ak} (hf:d9 qB op1=some (r0,qA)) {Q:dx→List bf→Prop} (h:Q (.ret (.bool r0)) [.box p1 (aV qA)]):PC 314 [pP p1,.str op1] [.box p1 (aV qB)] Q:=by
 unfold d9 at hf; refine BD 16 [.tmp 4] [0,1] Tryz.func314 Z Z Z Z Z ?_; obtain ⟨x1,y1,h1,hf⟩:=bP hf; refine W 3 Z (CL Z (AC.one 0 Z (Mg _ _ _ h1 ⟨_,Z,(J 1 Z (C hf Z (fun h2 hf=>?_) fun h2 hf=>?_))⟩)))
 · cases hf; exact M 1 rfl ⟨rfl,_,⟨_,_,rfl,rfl,rfl⟩,_,(.cons_cons _ (List.nil_sublist _)),h⟩
 cases hf; exact Wx 9 [0,0] rfl rfl ⟨rfl,_,⟨_,_,rfl,rfl,rfl⟩,_,(.cons_cons _ (List.nil_sublist _)),h⟩
end
@[reducible] def Ip :fB ay Unit→dx
 | .ok r=>.ret (.tuple [])
 | .bad e=>.panic (.iface 292 (.agg (kD e)))
theorem fA (p1:Nat) (qB:ak) (e1:Int) {rX:fB ay Unit} {qA:ak} (hf:jP qB e1=some (rX,qA)) {Q:dx→List bf→Prop} (h:Q (Ip rX) [.box p1 (aV qA)]):PC 333 [pP p1,iP e1] [.box p1 (aV qB)] Q:=by
 unfold jP at hf; refine BD 11 [] [0,1] Tryz.func333 Z Z Z Z Z (Wr 6 [0] Z Z (AS Z (AO.Y3 Z afl Z (AR.bF Z Z (AO.abI Z Z ?_))))); cases hf; exact ⟨rfl,_,(.cons_cons _ (List.nil_sublist _)),h⟩
section
variable [Am]
@[reducible] def Io :fB ay aX→dx
 | .ok r=>.ret (.agg (zk r))
 | .bad e=>.panic (.iface 292 (.agg (kD e)))
theorem jJ (p1:Nat) (qB:ak) {rX:fB ay aX} {qA:ak} (hf:nJ qB=some (rX,qA)) {Q:dx→List bf→Prop} (h:Q (Io rX) [.box p1 (aV qA)]):PC 332 [pP p1] [.box p1 (aV qB)] Q:=by
 unfold nJ at hf; refine BD 24 [.cell 2 243] [0] Tryz.func332 Z Z Z Z Z (W 0 Z (AS Z (AO.aC Z yI (fun b2=>(J 0 Z (AW.draw 10 mixed (by kernel_rfl) Z ?_)))))); refine Ev.cs bC 3 Z (Ev.cons Z Z Z (AO.aR (i:=1) Z Z Z Ep Z Z zg) (Ev.cs bC 3 Z (Ev.cons Z Z Z (AO.aR (i:=1) Z Z Z U5 Z Z zg) ?_))); refine Ev.cons Z Z Z (AO.aO (l:=qB.ts) Z Z Z Z z_ Z Z zg) (Ev.cs bC 1 Z (Ev.nil ?_)); show AR _ _ _ _ _ _ _ _; refine J 0 Z (C hf Z (fun h1 hf=>?_) fun h1 hf=>?_)
 ·
  rcases dX hf with ⟨e1,y2,h2,hf⟩ | ⟨_,y1,h2,hf⟩
  · refine W 1 Z (CL Z (AC.one 1 Z (fA _ _ _ h2 ⟨_,Z,?_⟩))); cases hf; exact ⟨rfl,_,(.cons _ (.cons_cons _ (List.nil_sublist _))),h⟩
  refine W 1 Z (CL Z (AC.one 1 Z (fA _ _ _ h2 ⟨_,Z,?_⟩))); obtain ⟨x1,y3,h3,hf⟩:=bP hf; refine U 1 Z (CL Z (AC.one 1 Z (rA _ _ h3 ⟨_,Z,(AS Z (AO.aC Z yI (fun b3=>(Rw 4 [0,0] Z Z (C hf Z (fun h4 hf=>?_) fun h4 hf=>?_)))))⟩)))
  ·
   rcases dX hf with ⟨e2,y5,h5,hf⟩ | ⟨_,y4,h5,hf⟩
   · refine W 1 Z (CL Z (AC.one 2 Z (fA _ _ _ h5 ⟨_,Z,?_⟩))); cases hf; exact ⟨rfl,_,(.cons _ (.cons _ (.cons_cons _ (List.nil_sublist _)))),h⟩
   refine W 1 Z (CL Z (AC.one 2 Z (fA _ _ _ h5 ⟨_,Z,?_⟩))); cases hf; exact Rx 2 [0,1] rfl rfl ⟨rfl,_,⟨_,_,rfl,⟨_,_,1,_,_,rfl,rfl,Ny,rfl⟩,rfl⟩,_,(.cons _ (.cons _ (.cons_cons _ (List.nil_sublist _)))),h⟩
  cases hf; exact Wx 2 [0,1] rfl rfl ⟨rfl,_,⟨_,_,rfl,⟨_,_,1,_,_,rfl,rfl,Ny,rfl⟩,rfl⟩,_,(.cons _ (.cons _ (.cons_cons _ (List.nil_sublist _)))),h⟩
 obtain ⟨x2,y6,h6,hf⟩:=bP hf; refine W 1 Z (CL Z (AC.one 1 Z (rA _ _ h6 ⟨_,Z,(AS Z (AO.aC Z yI (fun ajI=>(Rw 4 [0,0] Z Z (C hf Z (fun h7 hf=>?_) fun h7 hf=>?_)))))⟩)))
 ·
  rcases dX hf with ⟨e3,y8,h8,hf⟩ | ⟨_,y7,h8,hf⟩
  · refine W 1 Z (CL Z (AC.one 2 Z (fA _ _ _ h8 ⟨_,Z,?_⟩))); cases hf; exact ⟨rfl,_,(.cons _ (.cons _ (.cons_cons _ (List.nil_sublist _)))),h⟩
  refine W 1 Z (CL Z (AC.one 2 Z (fA _ _ _ h8 ⟨_,Z,?_⟩))); cases hf; exact Rx 2 [0,1] rfl rfl ⟨rfl,_,⟨_,_,rfl,⟨_,_,1,_,_,rfl,rfl,Ny,rfl⟩,rfl⟩,_,(.cons _ (.cons _ (.cons_cons _ (List.nil_sublist _)))),h⟩
 cases hf; exact Wx 2 [0,1] rfl rfl ⟨rfl,_,⟨_,_,rfl,⟨_,_,1,_,_,rfl,rfl,Ny,rfl⟩,rfl⟩,_,(.cons _ (.cons _ (.cons_cons _ (List.nil_sublist _)))),h⟩
end
theorem wZ (v1:ah) {r0:aj} (hf:sD v1=some r0) (h:Q (.ret (.agg (bE r0))) τ):PC 346 [.agg (aN v1)] τ Q:=by
 unfold sD at hf; refine BN 5 [.cell 2 45] [0] Tryz.func346 Z Z Z Z Z (W 1 Z (AS Z (AO.aC Z iO (fun b2=>?_)))); cases hf; exact Rx 3 [0] Z Z (ZC [0] Z Z h)
section
variable [Am]
@[reducible] def F6 :fB ay Unit→dx
 | .ok r=>.ret (.tuple [])
 | .bad e=>.panic (.iface 292 (.agg (kD e)))
theorem dP (p1:Nat) (qB:ak) (op1:Str) {rX:fB ay Unit} {qA:ak} (hf:iq qB op1=some (rX,qA)) {Q:dx→List bf→Prop} (h:Q (F6 rX) [.box p1 (aV qA)]):PC 315 [pP p1,.str op1] [.box p1 (aV qB)] Q:=by
 unfold iq at hf; refine BD 12 [] [0,1] Tryz.func315 Z Z Z Z Z ?_; rcases dX hf with ⟨e1,y2,h1,hf⟩ | ⟨x1,y1,h1,hf⟩
 · refine W 1 Z (CL Z (AC.one 0 Z (jJ _ _ h1 ⟨_,Z,?_⟩))); cases hf; exact ⟨rfl,_,(.cons_cons _ (List.nil_sublist _)),h⟩
 refine W 1 Z (CL Z (AC.one 0 Z (jJ _ _ h1 ⟨_,Z,?_⟩))); obtain ⟨x2,y3,h2,hf⟩:=bP hf; refine U 2 Z (CL Z (AC.one 0 Z (eH _ _ _ h2 ⟨_,Z,(J 1 Z (C hf Z (fun h3 hf=>?_) fun h3 hf=>?_))⟩)))
 ·
  rcases dX hf with ⟨e2,y5,h4,hf⟩ | ⟨_,y4,h4,hf⟩
  · refine W 1 Z (CL Z (AC.one 0 Z (fA _ _ _ h4 ⟨_,Z,?_⟩))); cases hf; exact ⟨rfl,_,(.cons_cons _ (List.nil_sublist _)),h⟩
  refine W 1 Z (CL Z (AC.one 0 Z (fA _ _ _ h4 ⟨_,Z,?_⟩))); cases hf; exact N 0 rfl ⟨rfl,_,rfl,_,(.cons_cons _ (List.nil_sublist _)),h⟩
 cases hf; exact M 0 rfl ⟨rfl,_,rfl,_,(.cons_cons _ (List.nil_sublist _)),h⟩
end
section
variable [Am]
@[reducible] def qG :fB ay aj→dx
 | .ok r=>.ret (.agg (bE r))
 | .bad e=>.panic (.iface 292 (.agg (kD e)))
@[reducible] def qF :fB ay aj→dx
 | .ok r=>.ret (.agg (bE r))
 | .bad e=>.panic (.iface 292 (.agg (kD e)))
@[reducible] def uS :fB ay aj→dx
 | .ok r=>.ret (.agg (bE r))
 | .bad e=>.panic (.iface 292 (.agg (kD e)))
@[reducible] def uT :fB ay aj→dx
 | .ok r=>.ret (.agg (bE r))
 | .bad e=>.panic (.iface 292 (.agg (kD e)))
@[reducible] def vG :fB ay aj→dx
 | .ok r=>.ret (.agg (bE r))
 | .bad e=>.panic (.iface 292 (.agg (kD e)))
@[reducible] def vF :fB ay aj→dx
 | .ok r=>.ret (.agg (bE r))
 | .bad e=>.panic (.iface 292 (.agg (kD e)))
@[reducible] def vH :fB ay (List aj)→dx
 | .ok r=>.ret (.list (aj.aM r))
 | .bad e=>.panic (.iface 292 (.agg (kD e)))
@[reducible] def rT :fB ay aj→dx
 | .ok r=>.ret (.agg (bE r))
 | .bad e=>.panic (.iface 292 (.agg (kD e)))
abbrev gq (aG:ak→Option (fB ay aj × ak)):Prop:=∀ (mE:Nat) (gV:ak) {fq:fB ay aj} {jv:ak},aG gV=some (fq,jv)→∀ {Q:dx→List bf→Prop} (h:Q (qG fq) [.box mE (aV jv)]),PC 286 [pP mE] [.box mE (aV gV)] Q
abbrev f_ (aL:ak→Int→Option (fB ay aj × ak)):Prop:=∀ (mE:Nat) (gV:ak) (un1:Int) {fq:fB ay aj} {jv:ak},aL gV un1=some (fq,jv)→∀ {Q:dx→List bf→Prop} (h:Q (qF fq) [.box mE (aV jv)]),PC 313 [pP mE,iP un1] [.box mE (aV gV)] Q
abbrev iH (aQ:ak→Option (fB ay aj × ak)):Prop:=∀ (mE:Nat) (gV:ak) {fq:fB ay aj} {jv:ak},aQ gV=some (fq,jv)→∀ {Q:dx→List bf→Prop} (h:Q (uS fq) [.box mE (aV jv)]),PC 329 [pP mE] [.box mE (aV gV)] Q
abbrev iI (aS:ak→Option (fB ay aj × ak)):Prop:=∀ (mE:Nat) (gV:ak) {fq:fB ay aj} {jv:ak},aS gV=some (fq,jv)→∀ {Q:dx→List bf→Prop} (h:Q (uT fq) [.box mE (aV jv)]),PC 340 [pP mE] [.box mE (aV gV)] Q
abbrev jg (bB:ak→Option (fB ay aj × ak)):Prop:=∀ (mE:Nat) (gV:ak) {fq:fB ay aj} {jv:ak},bB gV=some (fq,jv)→∀ {Q:dx→List bf→Prop} (h:Q (vG fq) [.box mE (aV jv)]),PC 344 [pP mE] [.box mE (aV gV)] Q
abbrev jf (bA:ak→Str→Option (fB ay aj × ak)):Prop:=∀ (mE:Nat) (gV:ak) (tQ:Str) {fq:fB ay aj} {jv:ak},bA gV tQ=some (fq,jv)→∀ {Q:dx→List bf→Prop} (h:Q (vF fq) [.box mE (aV jv)]),PC 347 [pP mE,.str tQ] [.box mE (aV gV)] Q
abbrev jh (bg:ak→Str→Option (fB ay (List aj) × ak)):Prop:=∀ (mE:Nat) (gV:ak) (Hl:Str) {fq:fB ay (List aj)} {jv:ak},bg gV Hl=some (fq,jv)→∀ {Q:dx→List bf→Prop} (h:Q (vH fq) [.box mE (aV jv)]),PC 348 [pP mE,.str Hl] [.box mE (aV gV)] Q
abbrev gT (aT:ak→Option (fB ay aj × ak)):Prop:=∀ (mE:Nat) (gV:ak) {fq:fB ay aj} {jv:ak},aT gV=some (fq,jv)→∀ {Q:dx→List bf→Prop} (h:Q (rT fq) [.box mE (aV jv)]),PC 349 [pP mE] [.box mE (aV gV)] Q
theorem Eo (aG) (bM:gq aG) (aL) (dJ:f_ aL) (aQ) (fG:iH aQ) (aS) (gN:iI aS) (bB) (g_:jg bB) (bA) (gZ:jf bA) (bg) (fP:jh bg) (aT) (fZ:gT aT) (p1:Nat) (qB:ak) {rX:fB ay aj} {qA:ak} (hf:qI aG aL aQ aS bB bA bg aT qB=some (rX,qA)) {Q:dx→List bf→Prop} (h:Q (qG rX) [.box p1 (aV qA)]):PC 286 [pP p1] [.box p1 (aV qB)] Q:=by
 unfold qI at hf; refine BD 23 [.cell 2 45] [0] Tryz.func286 Z Z Z Z Z (W 0 Z (AS Z (AO.aC Z iO (fun b2=>?_)))); rcases dX hf with ⟨e1,y2,h1,hf⟩ | ⟨x1,y1,h1,hf⟩
 · refine U 1 Z (CL Z (AC.one 1 Z (dJ _ _ _ h1 ⟨_,Z,?_⟩))); cases hf; exact ⟨rfl,_,(.cons _ (.cons_cons _ (List.nil_sublist _))),h⟩
 refine U 1 Z (CL Z (AC.one 1 Z (dJ _ _ _ h1 ⟨_,Z,(AS Z (AO.aC Z iO (fun b3=>?_)))⟩))); obtain ⟨x2,y3,h2,hf⟩:=bP hf; refine Rr 2 [0] Z Z (CL Z (AC.one 2 Z (eH _ _ _ h2 ⟨_,Z,(J 1 Z (C hf Z (fun h3 hf=>?_) fun h3 hf=>?_))⟩)))
 · cases hf; exact Wx 2 [0,1] rfl rfl ⟨rfl,_,⟨_,_,rfl,⟨_,_,1,_,_,rfl,rfl,gM,rfl⟩,rfl⟩,_,(.cons _ (.cons _ (.cons_cons _ (List.nil_sublist _)))),h⟩
 rcases dX hf with ⟨e2,y5,h4,hf⟩ | ⟨x3,y4,h4,hf⟩
 · refine W 1 Z (CL Z (AC.one 2 Z (bM _ _ h4 ⟨_,Z,?_⟩))); cases hf; exact ⟨rfl,_,(.cons _ (.cons _ (.cons_cons _ (List.nil_sublist _)))),h⟩
 refine W 1 Z (CL Z (AC.one 2 Z (bM _ _ h4 ⟨_,Z,(AS Z (AO.aC Z iO (fun b4=>?_)))⟩))); rcases dX hf with ⟨e3,y7,h5,hf⟩ | ⟨_,y6,h5,hf⟩
 · refine Rr 2 [0] Z Z (CL Z (AC.one 3 Z (dP _ _ _ h5 ⟨_,Z,?_⟩))); cases hf; exact ⟨rfl,_,(.cons _ (.cons _ (.cons _ (.cons_cons _ (List.nil_sublist _))))),h⟩
 refine Rr 2 [0] Z Z (CL Z (AC.one 3 Z (dP _ _ _ h5 ⟨_,Z,?_⟩))); rcases dX hf with ⟨e4,y9,h6,hf⟩ | ⟨x4,y8,h6,hf⟩
 · refine U 1 Z (CL Z (AC.one 3 Z (bM _ _ h6 ⟨_,Z,?_⟩))); cases hf; exact ⟨rfl,_,(.cons _ (.cons _ (.cons _ (.cons_cons _ (List.nil_sublist _))))),h⟩
 refine U 1 rfl (CL rfl (AC.one 3 rfl (bM _ _ h6 ⟨_,rfl,(AS rfl (AO.aC rfl iO (fun b5=>(Rr 4 [0,2,1,0] rfl rfl (AS rfl (AO.bq (aj.aM [x1,x3,x4]) rfl u_ rfl rfl rfl (by first | rfl | simp only [List.map,aj.aD,aj.aM]) ?_))))))⟩))); cases hf; exact Rx 2 [3] rfl rfl ⟨rfl,_,⟨_,_,rfl,⟨_,_,3,_,_,rfl,rfl,gM,rfl⟩,rfl⟩,_,(.cons _ (.cons _ (.cons _ (.cons _ (.cons_cons _ (List.nil_sublist _)))))),h⟩
theorem Em (aG) (bM:gq aG) (aL) (dJ:f_ aL) (aQ) (fG:iH aQ) (aS) (gN:iI aS) (bB) (g_:jg bB) (bA) (gZ:jf bA) (bg) (fP:jh bg) (aT) (fZ:gT aT) (p1:Nat) (qB:ak) (n1:Int) {rX:fB ay aj} {qA:ak} (hf:qH aG aL aQ aS bB bA bg aT qB n1=some (rX,qA)) {Q:dx→List bf→Prop} (h:Q (qF rX) [.box p1 (aV qA)]):PC 313 [pP p1,iP n1] [.box p1 (aV qB)] Q:=by
 unfold qH at hf; refine BD 47 [.cell 4 45] [0,1] Tryz.func313 Z Z Z Z Z (W 0 Z (AS Z (AO.aC Z iO (fun b4=>(J 2 Z (C hf Z (fun h1 hf=>?_) fun h1 hf=>?_))))))
 ·
  rcases dX hf with ⟨e1,y2,h2,hf⟩ | ⟨x1,y1,h2,hf⟩
  · refine W 1 Z (CL Z (AC.one 1 Z (fG _ _ h2 ⟨_,Z,?_⟩))); cases hf; exact ⟨rfl,_,(.cons _ (.cons_cons _ (List.nil_sublist _))),h⟩
  refine W 1 Z (CL Z (AC.one 1 Z (fG _ _ h2 ⟨_,Z,?_⟩))); cases hf; exact Rx 1 [0] rfl rfl ⟨rfl,_,⟨_,_,rfl,⟨_,_,0,_,_,rfl,rfl,gM,rfl⟩,rfl⟩,_,(.cons _ (.cons_cons _ (List.nil_sublist _))),h⟩
 rcases dX hf with ⟨e2,y4,h3,hf⟩ | ⟨x2,y3,h3,hf⟩
 · refine W 3 Z (CL Z (AC.one 1 Z (dJ _ _ _ h3 ⟨_,Z,?_⟩))); cases hf; exact ⟨rfl,_,(.cons _ (.cons_cons _ (List.nil_sublist _))),h⟩
 refine W 3 Z (CL Z (AC.one 1 Z (dJ _ _ _ h3 ⟨_,Z,(AS Z (AO.aC Z iO (fun b5=>?_)))⟩))); refine Rw 1 [0] Z Z (Zq (fun e3 y5=>[(0,pP p1),(1,iP n1),(4,pP b4),(5,pP b5)]) (fun e3 y5=>[.box b5 (bE e3),.box b4 [iP 0,.str ([]:Str),iP 0,.bool false,iP 0,.str ([]:Str),.own (.slice none 0 0) [],.own (.slice none 0 0) [],.own (.slice none 0 0) [],.own (.slice none 0 0) []],.box p1 (aV y5)]) (fun bX e3 y5=>mR aL n1 bX e3 y5=some (rX,qA)) BIG x2 y3 Z Z hf (fun _ _ hz=>bT hz) ?_); intro bX e3 y5 hf; rw [mR] at hf; obtain ⟨x3,y6,h4,hf⟩:=bP hf; refine W 1 Z (CL Z (AC.one 2 Z (rA _ _ h4 ⟨_,Z,(AS Z (AO.aC Z yI (fun b6=>?_)))⟩))); refine B1 hf fun b1 h6 hf=>Rr 5 [0,0] Z Z (AR.fK 6 20 26 false [0,1,4,5,6] b1 Z Z (fun h5=>?_) (fun h5=>?_) ?_)
 · replace h6:=iw h5 h6; refine Is 20 h5 Z (U 1 Z (GO Z (AO.aR (i:=0) Z Z Z Qw Z Z ?_))); refine B1 h6 fun x4 h7 h6=>GO Z (AO.call Z _ Z Z agL (vw _ h7 ?_)); cases h6; exact fI 3 Z (En [26,0,1,4,5,6] Z)
 · refine IT 20 h5 h6 Z fun h6=>?_; cases h6; exact fI 6 Z (En [26,0,1,4,5,6] Z)
 refine J 0 Z (C hf Z (fun h8 hf=>?_) fun h8 hf=>?_)
 · cases hf; exact Wx 2 [1,2] rfl rfl ⟨rfl,_,⟨_,_,rfl,⟨_,_,2,_,_,rfl,rfl,gM,rfl⟩,rfl⟩,_,(.cons _ (.cons _ (.cons _ (.cons_cons _ (List.nil_sublist _))))),h⟩
 refine Ww 8 [3,3] Z Z (AW.Xk 0 6 8 3 mixed (by kernel_rfl) (by kernel_rfl) (by kernel_rfl) Z Z Z Z ?_); refine Ev.nil ?_; show Ev _ _ _ _ _ _ _; refine Ev.cs bC 1 Z (Ev.cons Z Z Z (AO.aR (i:=0) Z Z Z Qw Z Z zg) (Ev.cons Z Z Z (AO.aR (i:=1) Z Z Z gM Z Z zg) (Ev.cs bC 3 Z ?_))); refine Ev.nil ?_; rcases dX hf with ⟨e4,y8,h9,hf⟩ | ⟨x5,y7,h9,hf⟩
 · refine TF.step Z Z Z (AO.call Z _ Z Z abn (AC.one 0 Z (dJ _ _ _ h9 ⟨_,Z,?_⟩))); cases hf; exact ⟨rfl,_,(.cons _ (.cons _ (.cons _ (.cons_cons _ (List.nil_sublist _))))),h⟩
 refine TF.step rfl rfl rfl (AO.call rfl _ rfl rfl abn (AC.one 0 rfl (dJ _ _ _ h9 ⟨_,rfl,(TF.step rfl rfl rfl (AO.bq (aj.aM [e3,x5]) rfl u_ rfl rfl rfl (by first | rfl | simp only [List.map,aj.aD,aj.aM]) ?_))⟩))); refine TF.nil ?_; show AR _ _ _ _ _ _ _ _
 refine Rw 4 [1] Z Z (C hf Z (fun h10 hf=>?_) fun h10 hf=>?_)
 · cases hf; exact Wx 2 [1,2] rfl rfl ⟨rfl,_,⟨_,_,rfl,⟨_,_,2,_,_,rfl,rfl,gM,rfl⟩,rfl⟩,_,(.cons _ (.cons _ (.cons _ (.cons_cons _ (List.nil_sublist _))))),h⟩
 refine AW.drop1 (AW.V8 0 Z ?_); exact M 0 Z ⟨(aj.mk 7 x3.text (ah.mk 0 false 0 ([]:Str) [] []) [e3,x5] []),y7,Z,Z,Z,hf⟩
theorem Ib (aG) (bM:gq aG) (aL) (dJ:f_ aL) (aQ) (fG:iH aQ) (aS) (gN:iI aS) (bB) (g_:jg bB) (bA) (gZ:jf bA) (bg) (fP:jh bg) (aT) (fZ:gT aT) (p1:Nat) (qB:ak) {rX:fB ay aj} {qA:ak} (hf:uU aG aL aQ aS bB bA bg aT qB=some (rX,qA)) {Q:dx→List bf→Prop} (h:Q (uS rX) [.box p1 (aV qA)]):PC 329 [pP p1] [.box p1 (aV qB)] Q:=by
 unfold uU at hf; refine BD 22 [.cell 2 45] [0] Tryz.func329 Z Z Z Z Z (W 0 Z (AS Z (AO.aC Z iO (fun b2=>(U 0 Z (AS Z (AO.bq (List.map nD ([([33]:Str),([45]:Str)]:List Str)) Z tH Z Z Z Z (AS Z (AO.aO (l:=([([33]:Str),([45]:Str)]:List Str)) Z Z Z Z jm Z Z ?_))))))))); refine J 1 Z (Zq (fun x1 y1=>[(0,pP p1),(2,pP b2),(5,sP (([([33]:Str),([45]:Str)]:List Str))),(6,iP (([([33]:Str),([45]:Str)]:List Str).length:Int)),(7,iP x1)]) (fun x1 y1=>[.box b2 [iP 0,.str ([]:Str),iP 0,.bool false,iP 0,.str ([]:Str),.own (.slice none 0 0) [],.own (.slice none 0 0) [],.own (.slice none 0 0) [],.own (.slice none 0 0) []],.box p1 (aV y1)]) (fun bX x1 y1=>pG aQ aS bX x1 y1=some (rX,qA)) BIG 0 qB Z Z hf (fun _ _ hz=>bT hz) ?_); intro bX x1 y1 hf; rw [pG] at hf; refine V 1 Z (C hf Z (fun h1 hf=>?_) fun h1 hf=>?_)
 ·
  refine B1 hf fun op1 h2 hf=>W 0 Z (AS Z (AO.aP h2 Z Z Z Z jm Z Z ?_)); obtain ⟨x2,y2,h3,hf⟩:=bP hf; refine U 4 Z (CL Z (AC.one 1 Z (eH _ _ _ h3 ⟨_,Z,(J 0 Z (C hf Z (fun h4 hf=>?_) fun h4 hf=>?_))⟩)))
  ·
   rcases dX hf with ⟨e1,y4,h5,hf⟩ | ⟨x3,y3,h5,hf⟩
   · refine W 2 Z (CL Z (AC.one 1 Z (fG _ _ h5 ⟨_,Z,?_⟩))); cases hf; exact ⟨rfl,_,(.cons _ (.cons_cons _ (List.nil_sublist _))),h⟩
   refine W 2 rfl (CL rfl (AC.one 1 rfl (fG _ _ h5 ⟨_,rfl,(AS rfl (AO.bq (aj.aM [x3]) rfl u_ rfl rfl rfl (by first | rfl | simp only [List.map,aj.aD,aj.aM]) ?_))⟩))); cases hf; exact Rx 2 [0] rfl rfl ⟨rfl,_,⟨_,_,rfl,⟨_,_,0,_,_,rfl,rfl,gM,rfl⟩,rfl⟩,_,(.cons _ (.cons_cons _ (List.nil_sublist _))),h⟩
  exact M 2 Z ⟨(cZ (x1 + 1)),y2,Z,Z,Z,hf⟩
 rcases dX hf with ⟨e2,y6,h6,hf⟩ | ⟨x4,y5,h6,hf⟩
 · refine W 1 Z (CL Z (AC.one 1 Z (gN _ _ h6 ⟨_,Z,?_⟩))); cases hf; exact ⟨rfl,_,(.cons _ (.cons_cons _ (List.nil_sublist _))),h⟩
 refine W 1 Z (CL Z (AC.one 1 Z (gN _ _ h6 ⟨_,Z,?_⟩))); cases hf; exact Rx 1 [0] rfl rfl ⟨rfl,_,⟨_,_,rfl,⟨_,_,0,_,_,rfl,rfl,gM,rfl⟩,rfl⟩,_,(.cons _ (.cons_cons _ (List.nil_sublist _))),h⟩
theorem Ic (aG) (bM:gq aG) (aL) (dJ:f_ aL) (aQ) (fG:iH aQ) (aS) (gN:iI aS) (bB) (g_:jg bB) (bA) (gZ:jf bA) (bg) (fP:jh bg) (aT) (fZ:gT aT) (p1:Nat) (qB:ak) {rX:fB ay aj} {qA:ak} (hf:uV aG aL aQ aS bB bA bg aT qB=some (rX,qA)) {Q:dx→List bf→Prop} (h:Q (uT rX) [.box p1 (aV qA)]):PC 340 [pP p1] [.box p1 (aV qB)] Q:=by
 unfold uV at hf; refine BD 47 [.cell 2 45] [0] Tryz.func340 Z Z Z Z Z (W 0 Z (AS Z (AO.aC Z iO (fun b2=>?_)))); rcases dX hf with ⟨e1,y2,h1,hf⟩ | ⟨x1,y1,h1,hf⟩
 · refine U 1 Z (CL Z (AC.one 1 Z (g_ _ _ h1 ⟨_,Z,?_⟩))); cases hf; exact ⟨rfl,_,(.cons _ (.cons_cons _ (List.nil_sublist _))),h⟩
 refine U 1 Z (CL Z (AC.one 1 Z (g_ _ _ h1 ⟨_,Z,(AS Z (AO.aC Z iO (fun b3=>?_)))⟩))); refine Rw 1 [0] Z Z (Zq (fun e2 y3=>[(0,pP p1),(2,pP b2),(3,pP b3)]) (fun e2 y3=>[.box b3 (bE e2),.box b2 [iP 0,.str ([]:Str),iP 0,.bool false,iP 0,.str ([]:Str),.own (.slice none 0 0) [],.own (.slice none 0 0) [],.own (.slice none 0 0) [],.own (.slice none 0 0) []],.box p1 (aV y3)]) (fun bX e2 y3=>kM aG bX e2 y3=some (rX,qA)) BIG x1 y1 Z Z hf (fun _ _ hz=>bT hz) ?_); intro bX e2 y3 hf; rw [kM] at hf; obtain ⟨x2,y4,h2,hf⟩:=bP hf; refine W 1 Z (CL Z (AC.one 2 Z (eH _ _ _ h2 ⟨_,Z,(J 1 Z (C hf Z (fun h3 hf=>?_) fun h3 hf=>?_))⟩)))
 ·
  rcases dX hf with ⟨e3,y6,h4,hf⟩ | ⟨x3,y5,h4,hf⟩
  · refine W 1 Z (CL Z (AC.one 2 Z (jJ _ _ h4 ⟨_,Z,?_⟩))); cases hf; exact ⟨rfl,_,(.cons _ (.cons _ (.cons_cons _ (List.nil_sublist _)))),h⟩
  refine W 1 Z (CL Z (AC.one 2 Z (jJ _ _ h4 ⟨_,Z,(AS Z (AO.aC Z yI (fun b4=>?_)))⟩))); refine B1 hf fun b1 h6 hf=>Rr 5 [0,0] Z Z (AR.fK 4 17 21 false [0,2,3,4] b1 Z Z (fun h5=>?_) (fun h5=>?_) ?_)
  · replace h6:=iw h5 h6; refine Is 17 h5 Z (U 1 Z (GO Z (AO.aR (i:=0) Z Z Z Qw Z Z ?_))); refine BR h6 fun x4 h7 h6=>?_; refine GO Z (AO.call Z _ Z Z abt (Fv _ h7 ?_)); cases h6; exact fI 1 Z (En [21,0,2,3,4] Z)
  · refine IT 17 h5 h6 Z fun h6=>?_; cases h6; exact fI 4 Z (En [21,0,2,3,4] Z)
  refine J 0 Z (C hf Z (fun h8 hf=>?_) fun h8 hf=>?_)
  ·
   rcases dX hf with ⟨e4,y8,h9,hf⟩ | ⟨_,y7,h9,hf⟩
   · refine W 1 Z (CL Z (AC.one 3 Z (fA _ _ _ h9 ⟨_,Z,?_⟩))); cases hf; exact ⟨rfl,_,(.cons _ (.cons _ (.cons _ (.cons_cons _ (List.nil_sublist _))))),h⟩
   refine W 1 rfl (CL rfl (AC.one 3 rfl (fA _ _ _ h9 ⟨_,rfl,(Rr 11 [3,3,0,1] rfl rfl (AS rfl (AO.bq (aj.aM [e2]) rfl u_ rfl rfl rfl (by first | rfl | simp only [List.map,aj.aD,aj.aM]) ?_)))⟩))); refine Rn 2 [1] Z Z (AR.drop1 (AR.V8 0 Z ?_)); exact N 0 Z ⟨(aj.mk 3 x3.text (ah.mk 0 false 0 ([]:Str) [] []) [e2] []),(ak.mk y7.ts (cZ (y7.at_ + 1))),Z,Z,Z,hf⟩
  refine Wr 11 [3,3,0,1] rfl rfl (AS rfl (AO.bq (aj.aM [e2]) rfl u_ rfl rfl rfl (by first | rfl | simp only [List.map,aj.aD,aj.aM]) ?_)); refine Rn 2 [1] Z Z (AR.drop1 (AR.V8 0 Z ?_)); exact N 0 Z ⟨(aj.mk 3 x3.text (ah.mk 0 false 0 ([]:Str) [] []) [e2] []),(ak.mk y5.ts (cZ (y5.at_ + 1))),Z,Z,Z,hf⟩
 obtain ⟨x5,y9,h10,hf⟩:=bP hf; refine W 1 Z (CL Z (AC.one 2 Z (eH _ _ _ h10 ⟨_,Z,(J 1 Z (C hf Z (fun h11 hf=>?_) fun h11 hf=>?_))⟩)))
 ·
  rcases dX hf with ⟨e5,y11,h12,hf⟩ | ⟨x6,y10,h12,hf⟩
  · refine W 1 Z (CL Z (AC.one 2 Z (bM _ _ h12 ⟨_,Z,?_⟩))); cases hf; exact ⟨rfl,_,(.cons _ (.cons _ (.cons_cons _ (List.nil_sublist _)))),h⟩
  refine W 1 Z (CL Z (AC.one 2 Z (bM _ _ h12 ⟨_,Z,(AS Z (AO.aC Z iO (fun b5=>?_)))⟩))); rcases dX hf with ⟨e6,y13,lZ,hf⟩ | ⟨_,y12,lZ,hf⟩
  · refine Rr 2 [0] Z Z (CL Z (AC.one 3 Z (dP _ _ _ lZ ⟨_,Z,?_⟩))); cases hf; exact ⟨rfl,_,(.cons _ (.cons _ (.cons _ (.cons_cons _ (List.nil_sublist _))))),h⟩
  refine Rr 2 [0] rfl rfl (CL rfl (AC.one 3 rfl (dP _ _ _ lZ ⟨_,rfl,(Rr 2 [1,0] rfl rfl (AS rfl (AO.bq (aj.aM [e2,x6]) rfl u_ rfl rfl rfl (by first | rfl | simp only [List.map,aj.aD,aj.aM]) ?_)))⟩))); refine Rn 2 [1] Z Z (AR.drop1 (AR.V8 0 Z ?_)); exact N 0 Z ⟨(aj.mk 4 ([]:Str) (ah.mk 0 false 0 ([]:Str) [] []) [e2,x6] []),y12,Z,Z,Z,hf⟩
 cases hf; exact Wx 2 [0,1] rfl rfl ⟨rfl,_,⟨_,_,rfl,⟨_,_,1,_,_,rfl,rfl,gM,rfl⟩,rfl⟩,_,(.cons _ (.cons _ (.cons_cons _ (List.nil_sublist _)))),h⟩
theorem Iy (aG) (bM:gq aG) (aL) (dJ:f_ aL) (aQ) (fG:iH aQ) (aS) (gN:iI aS) (bB) (g_:jg bB) (bA) (gZ:jf bA) (bg) (fP:jh bg) (aT) (fZ:gT aT) (p1:Nat) (qB:ak) {rX:fB ay aj} {qA:ak} (hf:vP aG aL aQ aS bB bA bg aT qB=some (rX,qA)) {Q:dx→List bf→Prop} (h:Q (vG rX) [.box p1 (aV qA)]):PC 344 [pP p1] [.box p1 (aV qB)] Q:=by
 unfold vP at hf; refine BD 77 [.cell 2 45] [0] Tryz.func344 Z Z Z Z Z (W 0 Z (AS Z (AO.aC Z iO (fun b2=>?_)))); rcases dX hf with ⟨e1,y2,h1,hf⟩ | ⟨x1,y1,h1,hf⟩
 · refine U 1 Z (CL Z (AC.one 1 Z (jJ _ _ h1 ⟨_,Z,?_⟩))); cases hf; exact ⟨rfl,_,(.cons _ (.cons_cons _ (List.nil_sublist _))),h⟩
 refine U 1 Z (CL Z (AC.one 1 Z (jJ _ _ h1 ⟨_,Z,(AS Z (AO.aC Z yI (fun b3=>(Rw 5 [0,0] Z Z (C hf Z (fun h2 hf=>?_) fun h2 hf=>?_)))))⟩)))
 · obtain ⟨n1,x2,h3,hf⟩:=bP hf; refine Wr 10 [2,2,0] Z Z (CL Z (Eb _ h3 ?_)); refine B1 hf fun x3 h4 hf=>U 7 Z (CL Z (wZ _ h4 ?_)); cases hf; exact Rx 1 [1] rfl rfl ⟨rfl,_,⟨_,_,rfl,⟨_,_,1,_,_,rfl,rfl,gM,rfl⟩,rfl⟩,_,(.cons _ (.cons _ (.cons_cons _ (List.nil_sublist _)))),h⟩
 refine V 2 Z (C hf Z (fun h5 hf=>?_) fun h5 hf=>?_)
 · refine B1 hf fun x4 h6 hf=>Wr 11 [2,2,0] Z Z (CL Z (wZ _ h6 ?_)); cases hf; exact Rx 1 [1] rfl rfl ⟨rfl,_,⟨_,_,rfl,⟨_,_,1,_,_,rfl,rfl,gM,rfl⟩,rfl⟩,_,(.cons _ (.cons _ (.cons_cons _ (List.nil_sublist _)))),h⟩
 refine V 2 Z (C hf Z (fun h7 hf=>?_) fun h7 hf=>?_)
 ·
  rcases dX hf with ⟨e2,y4,h8,hf⟩ | ⟨x5,y3,h8,hf⟩
  · refine Wr 11 [2,2,0] Z Z (CL Z (AC.one 2 Z (gZ _ _ _ h8 ⟨_,Z,?_⟩))); cases hf; exact ⟨rfl,_,(.cons _ (.cons _ (.cons_cons _ (List.nil_sublist _)))),h⟩
  refine Wr 11 [2,2,0] Z Z (CL Z (AC.one 2 Z (gZ _ _ _ h8 ⟨_,Z,?_⟩))); cases hf; exact Rx 1 [1] rfl rfl ⟨rfl,_,⟨_,_,rfl,⟨_,_,1,_,_,rfl,rfl,gM,rfl⟩,rfl⟩,_,(.cons _ (.cons _ (.cons_cons _ (List.nil_sublist _)))),h⟩
 obtain ⟨x6,y5,h9,hf⟩:=bP hf; refine W 1 Z (CL Z (AC.one 2 Z (eH _ _ _ h9 ⟨_,Z,(J 1 Z (C hf Z (fun h10 hf=>?_) fun h10 hf=>?_))⟩)))
 ·
  rcases dX hf with ⟨e3,y7,h11,hf⟩ | ⟨x7,y6,h11,hf⟩
  · refine W 1 Z (CL Z (AC.one 2 Z (bM _ _ h11 ⟨_,Z,?_⟩))); cases hf; exact ⟨rfl,_,(.cons _ (.cons _ (.cons_cons _ (List.nil_sublist _)))),h⟩
  refine W 1 Z (CL Z (AC.one 2 Z (bM _ _ h11 ⟨_,Z,(AS Z (AO.aC Z iO (fun b6=>?_)))⟩))); rcases dX hf with ⟨e4,y9,h12,hf⟩ | ⟨_,y8,h12,hf⟩
  · refine Rr 2 [0] Z Z (CL Z (AC.one 3 Z (dP _ _ _ h12 ⟨_,Z,?_⟩))); cases hf; exact ⟨rfl,_,(.cons _ (.cons _ (.cons _ (.cons_cons _ (List.nil_sublist _))))),h⟩
  refine Rr 2 [0] Z Z (CL Z (AC.one 3 Z (dP _ _ _ h12 ⟨_,Z,?_⟩))); cases hf; exact Rx 2 [0,2] rfl rfl ⟨rfl,_,⟨_,_,rfl,⟨_,_,2,_,_,rfl,rfl,gM,rfl⟩,rfl⟩,_,(.cons _ (.cons _ (.cons _ (.cons_cons _ (List.nil_sublist _))))),h⟩
 obtain ⟨x8,y10,lZ,hf⟩:=bP hf; refine W 1 Z (CL Z (AC.one 2 Z (eH _ _ _ lZ ⟨_,Z,(J 1 Z (C hf Z (fun nu hf=>?_) fun nu hf=>?_))⟩)))
 ·
  rcases dX hf with ⟨e5,y12,tq,hf⟩ | ⟨x9,y11,tq,hf⟩
  · refine W 1 Z (CL Z (AC.one 2 Z (fP _ _ _ tq ⟨_,Z,?_⟩))); cases hf; exact ⟨rfl,_,(.cons _ (.cons _ (.cons_cons _ (List.nil_sublist _)))),h⟩
  refine W 1 Z (CL Z (AC.one 2 Z (fP _ _ _ tq ⟨_,Z,?_⟩))); cases hf; exact Rx 2 [1] rfl rfl ⟨rfl,_,⟨_,_,rfl,⟨_,_,1,_,_,rfl,rfl,gM,rfl⟩,rfl⟩,_,(.cons _ (.cons _ (.cons_cons _ (List.nil_sublist _)))),h⟩
 obtain ⟨Il,y13,h16,hf⟩:=bP hf; refine W 1 Z (CL Z (AC.one 2 Z (eH _ _ _ h16 ⟨_,Z,(J 1 Z (C hf Z (fun Ao hf=>?_) fun Ao hf=>?_))⟩)))
 ·
  rcases dX hf with ⟨e6,y15,h18,hf⟩ | ⟨Li,y14,h18,hf⟩
  · refine W 1 Z (CL Z (AC.one 2 Z (fZ _ _ h18 ⟨_,Z,?_⟩))); cases hf; exact ⟨rfl,_,(.cons _ (.cons _ (.cons_cons _ (List.nil_sublist _)))),h⟩
  refine W 1 Z (CL Z (AC.one 2 Z (fZ _ _ h18 ⟨_,Z,?_⟩))); cases hf; exact Rx 1 [1] rfl rfl ⟨rfl,_,⟨_,_,rfl,⟨_,_,1,_,_,rfl,rfl,gM,rfl⟩,rfl⟩,_,(.cons _ (.cons _ (.cons_cons _ (List.nil_sublist _)))),h⟩
 rcases dX hf with ⟨e7,y17,h19,hf⟩ | ⟨_,y16,h19,hf⟩
 · refine W 1 Z (CL Z (AC.one 2 Z (fA _ _ _ h19 ⟨_,Z,?_⟩))); cases hf; exact ⟨rfl,_,(.cons _ (.cons _ (.cons_cons _ (List.nil_sublist _)))),h⟩
 refine W 1 Z (CL Z (AC.one 2 Z (fA _ _ _ h19 ⟨_,Z,?_⟩))); cases hf; exact Rx 2 [1] rfl rfl ⟨rfl,_,⟨_,_,rfl,⟨_,_,1,_,_,rfl,rfl,gM,rfl⟩,rfl⟩,_,(.cons _ (.cons _ (.cons_cons _ (List.nil_sublist _)))),h⟩
theorem Iw (aG) (bM:gq aG) (aL) (dJ:f_ aL) (aQ) (fG:iH aQ) (aS) (gN:iI aS) (bB) (g_:jg bB) (bA) (gZ:jf bA) (bg) (fP:jh bg) (aT) (fZ:gT aT) (p1:Nat) (qB:ak) (s1:Str) {rX:fB ay aj} {qA:ak} (hf:vO aG aL aQ aS bB bA bg aT qB s1=some (rX,qA)) {Q:dx→List bf→Prop} (h:Q (vF rX) [.box p1 (aV qA)]):PC 347 [pP p1,.str s1] [.box p1 (aV qB)] Q:=by
 unfold vO at hf; refine BD 26 [.cell 4 45] [0,1] Tryz.func347 Z Z Z Z Z (W 0 Z (AS Z (AO.aC Z iO (fun b4=>(J 3 Z (C hf Z (fun h1 hf=>?_) fun h1 hf=>?_))))))
 · refine B1 hf fun x1 h2 hf=>W 1 Z (CL Z (wZ _ h2 ?_)); cases hf; exact Rx 1 [0] rfl rfl ⟨rfl,_,⟨_,_,rfl,⟨_,_,0,_,_,rfl,rfl,gM,rfl⟩,rfl⟩,_,(.cons _ (.cons_cons _ (List.nil_sublist _))),h⟩
 refine B1 hf fun x2 h3 hf=>W 1 Z (CL Z (Fv _ h3 (J 1 Z (C hf Z (fun h4 hf=>?_) fun h4 hf=>?_))))
 · refine B1 hf fun x3 h5 hf=>W 3 Z (CL Z (wZ _ h5 ?_)); cases hf; exact Rx 1 [0] rfl rfl ⟨rfl,_,⟨_,_,rfl,⟨_,_,0,_,_,rfl,rfl,gM,rfl⟩,rfl⟩,_,(.cons _ (.cons_cons _ (List.nil_sublist _))),h⟩
 obtain ⟨x4,y1,h6,hf⟩:=bP hf; refine W 1 Z (CL Z (AC.one 1 Z (eH _ _ _ h6 ⟨_,Z,(J 1 Z (C hf Z (fun h7 hf=>?_) fun h7 hf=>?_))⟩)))
 ·
  rcases dX hf with ⟨e1,y3,h8,hf⟩ | ⟨x5,y2,h8,hf⟩
  · refine W 2 Z (CL Z (AC.one 1 Z (fP _ _ _ h8 ⟨_,Z,?_⟩))); cases hf; exact ⟨rfl,_,(.cons _ (.cons_cons _ (List.nil_sublist _))),h⟩
  refine W 2 Z (CL Z (AC.one 1 Z (fP _ _ _ h8 ⟨_,Z,?_⟩))); cases hf; exact Rx 2 [0] rfl rfl ⟨rfl,_,⟨_,_,rfl,⟨_,_,0,_,_,rfl,rfl,gM,rfl⟩,rfl⟩,_,(.cons _ (.cons_cons _ (List.nil_sublist _))),h⟩
 cases hf; exact Wx 3 [0] rfl rfl ⟨rfl,_,⟨_,_,rfl,⟨_,_,0,_,_,rfl,rfl,gM,rfl⟩,rfl⟩,_,(.cons _ (.cons_cons _ (List.nil_sublist _))),h⟩
theorem Iz (aG) (bM:gq aG) (aL) (dJ:f_ aL) (aQ) (fG:iH aQ) (aS) (gN:iI aS) (bB) (g_:jg bB) (bA) (gZ:jf bA) (bg) (fP:jh bg) (aT) (fZ:gT aT) (p1:Nat) (qB:ak) (xG:Str) {rX:fB ay (List aj)} {qA:ak} (hf:vQ aG aL aQ aS bB bA bg aT qB xG=some (rX,qA)) {Q:dx→List bf→Prop} (h:Q (vH rX) [.box p1 (aV qA)]):PC 348 [pP p1,.str xG] [.box p1 (aV qB)] Q:=by
 unfold vQ at hf; refine BD 21 [.tmp 4] [0,1] Tryz.func348 Z Z Z Z Z (W 0 Z (AS Z (AO.eO Z Z ?_))); obtain ⟨x1,y1,h1,hf⟩:=bP hf; refine U 2 Z (CL Z (AC.one 0 Z (eH _ _ _ h1 ⟨_,Z,(J 0 Z (C hf Z (fun h2 hf=>?_) fun h2 hf=>?_))⟩)))
 · refine W 0 Z (AS Z (AO.eO Z Z ?_)); cases hf; exact N 0 rfl ⟨rfl,_,⟨_,_,rfl,rfl,rfl⟩,_,(.cons_cons _ (List.nil_sublist _)),h⟩
 refine V 1 Z (AW.row 10 45 (V5 (fun bn v1 y2=>[(0,pP p1),(1,.str xG),(5,.own v1 (aj.aM bn))]) (fun bn v1 y2=>[.row v1 (aj.aM bn).length 10 45,.box p1 (aV y2)]) (fun bX bn v1 y2=>qy aG xG bX bn y2=some (rX,qA)) BIG [] (.slice none 0 0) y1 Z Z hf (fun _ _ _ hz=>bT hz) ?_)); intro bX bn v1 y2 hf; rw [qy] at hf; rcases dX hf with ⟨e1,y4,h3,hf⟩ | ⟨x2,y3,h3,hf⟩
 · refine W 2 Z (CL Z (AC.one 1 Z (bM _ _ h3 ⟨_,Z,?_⟩))); cases hf; exact ⟨rfl,_,(.cons _ (.cons_cons _ (List.nil_sublist _))),h⟩
 refine W 2 rfl (CL rfl (AC.one 1 rfl (bM _ _ h3 ⟨_,rfl,(AS rfl (AO.bq (aj.aM [x2]) rfl u_ rfl rfl rfl (by first | rfl | simp only [List.map,aj.aD,aj.aM]) ?_))⟩))); refine B1 hf fun kY h4 hf=>AS Z (AO.eZ (i:=0) (l:=bn) (m:=[x2]) h4 Z Z Z Z Z Z Z u_ iQ (aj.aB _) (aj.aB _) (aj.aB _).symm (aj.bG) (aj.cells_one) (by decide) (fun v2 s1 hs1=>?_)); cases hs1; obtain ⟨x3,y5,h5,hf⟩:=bP hf
 refine U 2 Z (CL Z (AC.one 1 Z (eH _ _ _ h5 ⟨_,Z,(J 1 Z (C hf Z (fun h6 hf=>?_) fun h6 hf=>?_))⟩)))
 ·
  rcases dX hf with ⟨e2,y7,h7,hf⟩ | ⟨_,y6,h7,hf⟩
  · refine W 2 Z (CL Z (AC.one 1 Z (dP _ _ _ h7 ⟨_,Z,?_⟩))); cases hf; exact ⟨rfl,_,(.cons _ (.cons_cons _ (List.nil_sublist _))),h⟩
  refine W 2 Z (CL Z (AC.one 1 Z (dP _ _ _ h7 ⟨_,Z,?_⟩))); cases hf; exact N 2 rfl ⟨rfl,_,⟨_,_,rfl,rfl,rfl⟩,_,(.cons _ (.cons_cons _ (List.nil_sublist _))),h⟩
 exact M 0 Z ⟨kY,v2,y5,Z,Z,Z,hf⟩
theorem Fy (aG) (bM:gq aG) (aL) (dJ:f_ aL) (aQ) (fG:iH aQ) (aS) (gN:iI aS) (bB) (g_:jg bB) (bA) (gZ:jf bA) (bg) (fP:jh bg) (aT) (fZ:gT aT) (p1:Nat) (qB:ak) {rX:fB ay aj} {qA:ak} (hf:su aG aL aQ aS bB bA bg aT qB=some (rX,qA)) {Q:dx→List bf→Prop} (h:Q (rT rX) [.box p1 (aV qA)]):PC 349 [pP p1] [.box p1 (aV qB)] Q:=by
 unfold su at hf; refine BD 50 [.cell 2 45] [0] Tryz.func349 Z Z Z Z Z (W 0 Z (AS Z (AO.aC Z iO (fun b2=>(U 1 Z (AS Z (AO.aC Z iO (fun b3=>?_)))))))); obtain ⟨x1,y1,h1,hf⟩:=bP hf; refine Rr 2 [0] Z Z (CL Z (AC.one 2 Z (eH _ _ _ h1 ⟨_,Z,(J 0 Z (C hf Z (fun h2 hf=>?_) fun h2 hf=>?_))⟩)))
 · cases hf; exact Wx 2 [0,1] rfl rfl ⟨rfl,_,⟨_,_,rfl,⟨_,_,1,_,_,rfl,rfl,gM,rfl⟩,rfl⟩,_,(.cons _ (.cons _ (.cons_cons _ (List.nil_sublist _)))),h⟩
 refine V 0 Z (AW.row 10 45 (AW.row 1 9 (AW.settle [0,2,3] Z (AW.Ct 2 [false,false,false,false,false,false,true,true] Z (LK4 (fun bn v1 v2 y2=>[(0,pP p1),(2,pP b2),(3,pP b3)]) (fun bn v1 v2 y2=>[.row v2 (List.map nD bn.keys).length 1 9,.row v1 (aj.aM bn.args).length 10 45,.box b3 [iP bn.kind,.str bn.name,iP bn.value.kind,.bool bn.value.eB,iP bn.value.gI,.str bn.value.fM,.list (ah.aM bn.value.aW),sP bn.value.keys,.own v1 (aj.aM bn.args),.own v2 (List.map nD bn.keys)],.box b2 [iP 0,.str ([]:Str),iP 0,.bool false,iP 0,.str ([]:Str),.own (.slice none 0 0) [],.own (.slice none 0 0) [],.own (.slice none 0 0) [],.own (.slice none 0 0) []],.box p1 (aV y2)]) (fun bX bn v1 v2 y2=>lF aG bX bn y2=some (rX,qA)) BIG (aj.mk 10 ([]:Str) (ah.mk 0 false 0 ([]:Str) [] []) [] []) (.slice none 0 0) (.slice none 0 0) y1 Z Z hf (fun _ _ _ _ hz=>bT hz) ?_))))); intro bX bn v1 v2 y2 hf; rw [lF] at hf; rcases dX hf with ⟨e1,y4,h3,hf⟩ | ⟨x2,y3,h3,hf⟩
 · refine W 1 Z (CL Z (AC.one 4 Z (jJ _ _ h3 ⟨_,Z,?_⟩))); cases hf; exact ⟨rfl,_,(.cons _ (.cons _ (.cons _ (.cons _ (.cons_cons _ (List.nil_sublist _)))))),h⟩
 refine W 1 Z (CL Z (AC.one 4 Z (jJ _ _ h3 ⟨_,Z,(AS Z (AO.aC Z yI (fun b4=>(Rr 5 [0,0] Z Z (AR.and 4 14 18 [0,2,3,4] (x:=(x2.kind != 3)) Z Z (fun h4=>?_) (fun h4=>?_) ?_)))))⟩)))
 · refine Is 14 h4 Z (U 1 Z (GO Z (AO.aR (i:=0) Z Z Z Ep Z Z ?_))); exact fI 2 Z (En [18,0,2,3,4] Z)
 · refine Is 14 h4 Z ?_; exact fI 4 Z (En [18,0,2,3,4] Z)
 refine J 0 Z (C hf Z (fun h5 hf=>?_) fun h5 hf=>?_)
 ·
  rcases dX hf with ⟨e2,y6,h6,hf⟩ | ⟨_,y5,h6,hf⟩
  · refine W 1 Z (CL Z (AC.one 5 Z (fA _ _ _ h6 ⟨_,Z,?_⟩))); cases hf; exact ⟨rfl,_,(.cons _ (.cons _ (.cons _ (.cons _ (.cons _ (.cons_cons _ (List.nil_sublist _))))))),h⟩
  refine W 1 Z (CL Z (AC.one 5 Z (fA _ _ _ h6 ⟨_,Z,?_⟩))); rcases dX hf with ⟨e3,y8,h7,hf⟩ | ⟨_,y7,h7,hf⟩
  · refine Rr 9 [5,5] Z Z (CL Z (AC.one 5 Z (dP _ _ _ h7 ⟨_,Z,?_⟩))); cases hf; exact ⟨rfl,_,(.cons _ (.cons _ (.cons _ (.cons _ (.cons _ (.cons_cons _ (List.nil_sublist _))))))),h⟩
  refine Rr 9 [5,5] Z Z (CL Z (AC.one 5 Z (dP _ _ _ h7 ⟨_,Z,(Rr 4 [3,0] Z Z (AS Z (AO.bq (List.map nD ([x2.text]:List Str)) Z tH Z Z Z Z ?_)))⟩))); refine B1 hf fun x3 h8 hf=>AS Z (AO.eZ (i:=1) (l:=bn.keys) (m:=([x2.text]:List Str)) h8 Z Z Z Z Z Z Z tH jm Z Z Z (fun _=>Z) (fun _=>Z) (by decide) (fun v3 s1 hs1=>?_)); cases hs1; refine Rw 2 [3] Z Z (AW.Xk 0 3 5 5 mixed (by kernel_rfl) (by kernel_rfl) (by kernel_rfl) Z Z Z Z ?_); refine Ev.nil ?_; show Ev _ _ _ _ _ _ _; refine Ev.cs bC 1 Z (Ev.cons Z Z Z (AO.aR (i:=3) Z Z Z OI Z Z zg) (Ev.cs bC 1 Z (Ev.nil ?_))); rcases dX hf with ⟨e4,y10,h9,hf⟩ | ⟨x4,y9,h9,hf⟩
  · refine TF.step Z Z Z (AO.call Z _ Z Z NR (AC.one 0 Z (bM _ _ h9 ⟨_,Z,?_⟩))); cases hf; exact ⟨rfl,_,(.cons _ (.cons _ (.cons _ (.cons _ (.cons _ (.cons_cons _ (List.nil_sublist _))))))),h⟩
  refine TF.step rfl rfl rfl (AO.call rfl _ rfl rfl NR (AC.one 0 rfl (bM _ _ h9 ⟨_,rfl,(TF.step rfl rfl rfl (AO.bq (aj.aM [x4]) rfl u_ rfl rfl rfl (by first | rfl | simp only [List.map,aj.aD,aj.aM]) ?_))⟩))); refine TF.nil ?_; show AR _ _ _ _ _ _ _ _
  refine B1 hf fun x5 h10 hf=>AS Z (AO.eZ (i:=2) (l:=bn.args) (m:=[x4]) h10 Z Z Z Z Z Z Z u_ iQ (aj.aB _) (aj.aB _) (aj.aB _).symm (aj.bG) (aj.cells_one) (by decide) (fun v4 s2 hs2=>?_)); cases hs2; obtain ⟨x6,y11,h11,hf⟩:=bP hf; refine Rr 3 [3] Z Z (CL Z (AC.one 5 Z (eH _ _ _ h11 ⟨_,Z,(J 1 Z (C hf Z (fun h12 hf=>?_) fun h12 hf=>?_))⟩)))
  ·
   rcases dX hf with ⟨e5,y13,lZ,hf⟩ | ⟨_,y12,lZ,hf⟩
   · refine W 1 Z (CL Z (AC.one 5 Z (dP _ _ _ lZ ⟨_,Z,?_⟩))); cases hf; exact ⟨rfl,_,(.cons _ (.cons _ (.cons _ (.cons _ (.cons _ (.cons_cons _ (List.nil_sublist _))))))),h⟩
   refine W 1 Z (CL Z (AC.one 5 Z (dP _ _ _ lZ ⟨_,Z,?_⟩))); cases hf; exact Rx 2 [3,4] rfl rfl ⟨rfl,_,⟨_,_,rfl,⟨_,_,4,_,_,rfl,rfl,gM,rfl⟩,rfl⟩,_,(.cons _ (.cons _ (.cons _ (.cons _ (.cons _ (.cons_cons _ (List.nil_sublist _))))))),h⟩
  refine AW.drop1 ?_; exact M 0 Z ⟨(aj.mk bn.kind bn.name bn.value x5 x3),v4,v3,y11,Z,Z,Z,hf⟩
 rcases dX hf with ⟨e6,y15,nu,hf⟩ | ⟨_,y14,nu,hf⟩
 · refine Wr 9 [5,5] Z Z (CL Z (AC.one 5 Z (dP _ _ _ nu ⟨_,Z,?_⟩))); cases hf; exact ⟨rfl,_,(.cons _ (.cons _ (.cons _ (.cons _ (.cons _ (.cons_cons _ (List.nil_sublist _))))))),h⟩
 refine Wr 9 [5,5] Z Z (CL Z (AC.one 5 Z (dP _ _ _ nu ⟨_,Z,(Rr 4 [3,0] Z Z (AS Z (AO.bq (List.map nD ([x2.text]:List Str)) Z tH Z Z Z Z ?_)))⟩))); refine B1 hf fun x7 tq hf=>AS Z (AO.eZ (i:=1) (l:=bn.keys) (m:=([x2.text]:List Str)) tq Z Z Z Z Z Z Z tH jm Z Z Z (fun _=>Z) (fun _=>Z) (by decide) (fun v5 s3 hs3=>?_)); cases hs3; refine Rw 2 [3] Z Z (AW.Xk 0 3 5 5 mixed (by kernel_rfl) (by kernel_rfl) (by kernel_rfl) Z Z Z Z ?_); refine Ev.nil ?_; show Ev _ _ _ _ _ _ _; refine Ev.cs bC 1 Z (Ev.cons Z Z Z (AO.aR (i:=3) Z Z Z OI Z Z zg) (Ev.cs bC 1 Z (Ev.nil ?_))); rcases dX hf with ⟨e7,y17,h16,hf⟩ | ⟨x8,y16,h16,hf⟩
 · refine TF.step Z Z Z (AO.call Z _ Z Z NR (AC.one 0 Z (bM _ _ h16 ⟨_,Z,?_⟩))); cases hf; exact ⟨rfl,_,(.cons _ (.cons _ (.cons _ (.cons _ (.cons _ (.cons_cons _ (List.nil_sublist _))))))),h⟩
 refine TF.step rfl rfl rfl (AO.call rfl _ rfl rfl NR (AC.one 0 rfl (bM _ _ h16 ⟨_,rfl,(TF.step rfl rfl rfl (AO.bq (aj.aM [x8]) rfl u_ rfl rfl rfl (by first | rfl | simp only [List.map,aj.aD,aj.aM]) ?_))⟩))); refine TF.nil ?_; show AR _ _ _ _ _ _ _ _
 refine B1 hf fun x9 Ao hf=>AS Z (AO.eZ (i:=2) (l:=bn.args) (m:=[x8]) Ao Z Z Z Z Z Z Z u_ iQ (aj.aB _) (aj.aB _) (aj.aB _).symm (aj.bG) (aj.cells_one) (by decide) (fun v6 s4 hs4=>?_)); cases hs4; obtain ⟨Il,y18,h18,hf⟩:=bP hf; refine Rr 3 [3] Z Z (CL Z (AC.one 5 Z (eH _ _ _ h18 ⟨_,Z,(J 1 Z (C hf Z (fun h19 hf=>?_) fun h19 hf=>?_))⟩)))
 ·
  rcases dX hf with ⟨e8,y20,h20,hf⟩ | ⟨_,y19,h20,hf⟩
  · refine W 1 Z (CL Z (AC.one 5 Z (dP _ _ _ h20 ⟨_,Z,?_⟩))); cases hf; exact ⟨rfl,_,(.cons _ (.cons _ (.cons _ (.cons _ (.cons _ (.cons_cons _ (List.nil_sublist _))))))),h⟩
  refine W 1 Z (CL Z (AC.one 5 Z (dP _ _ _ h20 ⟨_,Z,?_⟩))); cases hf; exact Rx 2 [3,4] rfl rfl ⟨rfl,_,⟨_,_,rfl,⟨_,_,4,_,_,rfl,rfl,gM,rfl⟩,rfl⟩,_,(.cons _ (.cons _ (.cons _ (.cons _ (.cons _ (.cons_cons _ (List.nil_sublist _))))))),h⟩
 refine AW.drop1 ?_; exact M 0 Z ⟨(aj.mk bn.kind bn.name bn.value x9 x7),v6,v5,y18,Z,Z,Z,hf⟩
theorem gW :∀ k:Nat,(gq (bV k))∧(f_ (bU k))∧(iH (dh k))∧(iI (dn k))∧(jg (dH k))∧(jf (dG k))∧(jh (dI k))∧(gT (cu k)):=by
 intro k
 induction k with
 | zero=>exact ⟨fun _ _ _ _ hz=>by first | cases hz | (unfold bV at hz; cases hz),fun _ _ _ _ _ hz=>by first | cases hz | (unfold bU at hz; cases hz),fun _ _ _ _ hz=>by first | cases hz | (unfold dh at hz; cases hz),fun _ _ _ _ hz=>by first | cases hz | (unfold dn at hz; cases hz),fun _ _ _ _ hz=>by first | cases hz | (unfold dH at hz; cases hz),fun _ _ _ _ _ hz=>by first | cases hz | (unfold dG at hz; cases hz),fun _ _ _ _ _ hz=>by first | cases hz | (unfold dI at hz; cases hz),fun _ _ _ _ hz=>by first | cases hz | (unfold cu at hz; cases hz)⟩
 | succ k ih=>exact ⟨fun mE gV fq jv hz  Q hq=>Eo (bV k) ih.1 (bU k) ih.2.1 (dh k) ih.2.2.1 (dn k) ih.2.2.2.1 (dH k) ih.2.2.2.2.1 (dG k) ih.2.2.2.2.2.1 (dI k) ih.2.2.2.2.2.2.1 (cu k) ih.2.2.2.2.2.2.2 mE gV hz hq,fun mE gV un1 fq jv hz  Q hq=>Em (bV k) ih.1 (bU k) ih.2.1 (dh k) ih.2.2.1 (dn k) ih.2.2.2.1 (dH k) ih.2.2.2.2.1 (dG k) ih.2.2.2.2.2.1 (dI k) ih.2.2.2.2.2.2.1 (cu k) ih.2.2.2.2.2.2.2 mE gV un1 hz hq,fun mE gV fq jv hz  Q hq=>Ib (bV k) ih.1 (bU k) ih.2.1 (dh k) ih.2.2.1 (dn k) ih.2.2.2.1 (dH k) ih.2.2.2.2.1 (dG k) ih.2.2.2.2.2.1 (dI k) ih.2.2.2.2.2.2.1 (cu k) ih.2.2.2.2.2.2.2 mE gV hz hq,fun mE gV fq jv hz  Q hq=>Ic (bV k) ih.1 (bU k) ih.2.1 (dh k) ih.2.2.1 (dn k) ih.2.2.2.1 (dH k) ih.2.2.2.2.1 (dG k) ih.2.2.2.2.2.1 (dI k) ih.2.2.2.2.2.2.1 (cu k) ih.2.2.2.2.2.2.2 mE gV hz hq,fun mE gV fq jv hz  Q hq=>Iy (bV k) ih.1 (bU k) ih.2.1 (dh k) ih.2.2.1 (dn k) ih.2.2.2.1 (dH k) ih.2.2.2.2.1 (dG k) ih.2.2.2.2.2.1 (dI k) ih.2.2.2.2.2.2.1 (cu k) ih.2.2.2.2.2.2.2 mE gV hz hq,fun mE gV tQ fq jv hz  Q hq=>Iw (bV k) ih.1 (bU k) ih.2.1 (dh k) ih.2.2.1 (dn k) ih.2.2.2.1 (dH k) ih.2.2.2.2.1 (dG k) ih.2.2.2.2.2.1 (dI k) ih.2.2.2.2.2.2.1 (cu k) ih.2.2.2.2.2.2.2 mE gV tQ hz hq,fun mE gV Hl fq jv hz  Q hq=>Iz (bV k) ih.1 (bU k) ih.2.1 (dh k) ih.2.2.1 (dn k) ih.2.2.2.1 (dH k) ih.2.2.2.2.1 (dG k) ih.2.2.2.2.2.1 (dI k) ih.2.2.2.2.2.2.1 (cu k) ih.2.2.2.2.2.2.2 mE gV Hl hz hq,fun mE gV fq jv hz  Q hq=>Fy (bV k) ih.1 (bU k) ih.2.1 (dh k) ih.2.2.1 (dn k) ih.2.2.2.1 (dH k) ih.2.2.2.2.1 (dG k) ih.2.2.2.2.2.1 (dI k) ih.2.2.2.2.2.2.1 (cu k) ih.2.2.2.2.2.2.2 mE gV hz hq⟩
theorem xw (mE:Nat) (gV:ak) {fq:fB ay aj} {jv:ak} (hf:zh gV=some (fq,jv)) {Q:dx→List bf→Prop} (h:Q (qG fq) [.box mE (aV jv)]):PC 286 [pP mE] [.box mE (aV gV)] Q:=
 ((gW BIG).1) mE gV hf h
theorem SC (mE:Nat) (gV:ak) (un1:Int) {fq:fB ay aj} {jv:ak} (hf:FJ gV un1=some (fq,jv)) {Q:dx→List bf→Prop} (h:Q (qF fq) [.box mE (aV jv)]):PC 313 [pP mE,iP un1] [.box mE (aV gV)] Q:=
 ((gW BIG).2.1) mE gV un1 hf h
theorem V3 (mE:Nat) (gV:ak) {fq:fB ay aj} {jv:ak} (hf:Kz gV=some (fq,jv)) {Q:dx→List bf→Prop} (h:Q (uS fq) [.box mE (aV jv)]):PC 329 [pP mE] [.box mE (aV gV)] Q:=
 ((gW BIG).2.2.1) mE gV hf h
theorem V4 (mE:Nat) (gV:ak) {fq:fB ay aj} {jv:ak} (hf:KA gV=some (fq,jv)) {Q:dx→List bf→Prop} (h:Q (uT fq) [.box mE (aV jv)]):PC 340 [pP mE] [.box mE (aV gV)] Q:=
 ((gW BIG).2.2.2.1) mE gV hf h
theorem Xx (mE:Nat) (gV:ak) {fq:fB ay aj} {jv:ak} (hf:LG gV=some (fq,jv)) {Q:dx→List bf→Prop} (h:Q (vG fq) [.box mE (aV jv)]):PC 344 [pP mE] [.box mE (aV gV)] Q:=
 ((gW BIG).2.2.2.2.1) mE gV hf h
theorem Xw (mE:Nat) (gV:ak) (tQ:Str) {fq:fB ay aj} {jv:ak} (hf:LD gV tQ=some (fq,jv)) {Q:dx→List bf→Prop} (h:Q (vF fq) [.box mE (aV jv)]):PC 347 [pP mE,.str tQ] [.box mE (aV gV)] Q:=
 ((gW BIG).2.2.2.2.2.1) mE gV tQ hf h
theorem Xy (mE:Nat) (gV:ak) (Hl:Str) {fq:fB ay (List aj)} {jv:ak} (hf:LH gV Hl=some (fq,jv)) {Q:dx→List bf→Prop} (h:Q (vH fq) [.box mE (aV jv)]):PC 348 [pP mE,.str Hl] [.box mE (aV gV)] Q:=
 ((gW BIG).2.2.2.2.2.2.1) mE gV Hl hf h
theorem UH (mE:Nat) (gV:ak) {fq:fB ay aj} {jv:ak} (hf:Ie gV=some (fq,jv)) {Q:dx→List bf→Prop} (h:Q (rT fq) [.box mE (aV jv)]):PC 349 [pP mE] [.box mE (aV gV)] Q:=
 ((gW BIG).2.2.2.2.2.2.2) mE gV hf h
end
section
variable [Am]
theorem TG (Ej:List aX) {r0:aj} {r1 r2:Int} (hf:Ja Ej=some (r0,r1,r2)) (h:Q (.ret (.tuple [.agg (bE r0),iP r1,iP r2])) τ):PC 257 [.list (List.map aX.cells Ej)] τ Q:=by
 unfold Ja at hf; refine AC.none (AC.OV 17 [.cell 2 45,.cell 3 3,.cell 4 25] [0] [0,1,2] Tryz.func257 Z Z Z Z Z Tryz.func285 Z Z Z Z Z Z Z aew (AW.sr (AR.step Z Z Z (AO.aC Z iO (fun b2=>?_))))); refine AR.step Z Z Z (AO.aC Z aga (fun b3=>(AR.step Z Z Z (AO.aC Z aaF (fun b4=>(AR.nil [0,2,3,4] Z (AW.sr ?_))))))); refine cs 1 Z (AR.step Z Z Z (AO.build Z aed ac_ Z (AR.step Z Z Z (AO.Kr Z Z (fun b8=>(cs 1 Z ?_)))))); refine AR.nil [2,3,4,5] Z (AW.sr (cs 1 Z (AR.defer (vs:=[.pointer (some ⟨b2,0,none⟩),.pointer (some ⟨b3,0,none⟩),.pointer (some ⟨b4,0,none⟩)]) Z Z Z Z Z Z ?_))); refine AR.nil [2,3,4,5] Z (AW.sr (cs 1 Z ?_)); rcases dX hf with ⟨f1,s1,h1,hf⟩ | ⟨e1,s1,h1,hf⟩
 ·
  refine AR.step Z Z Z (AO.call Z _ Z Z NR (AC.one 0 Z (xw _ _ h1 ⟨_,Z,?_⟩))); cases hf; refine ⟨[.pointer (some ⟨b2,0,none⟩),.pointer (some ⟨b3,0,none⟩),.pointer (some ⟨b4,0,none⟩)],_,Z,Z,Z,(AR.step Z Z Z (AO.YM Z Z ac5 (cs 3 Z (AR.step Z Z Z (AO.aC Z aaD (fun b5=>?_))))))⟩; refine AR.bF Z Z (AO.bR (i:=0) Z Z Z aa1 Z Z Z Z Z (cs 1 Z (AR.nil [0,1,2,3,4] Z (AW.sr ?_)))); refine cs 1 Z (AR.nil [0,1,2,3,10] Z (AW.cond Z (fun _=>?_) (fun hh=>by cases hh))); refine AW.Xi 1 5 7 [_] [_,_,_,_] mixed (by kernel_rfl) (by kernel_rfl) (by kernel_rfl) Z Z Z (List.Perm.refl _) ?_; refine Ev.cons Z Z Z (AO.build Z iO E5 Z zg) (Ev.nil ?_); show Ev _ _ _ _ _ _ _; refine Ev.cs bC 1 Z (Ev.cons Z Z Z (AO.aR (i:=0) Z Z Z Ep Z Z zg) (Ev.cs bC 1 Z (Ev.cons Z Z Z (AO.aR (i:=0) Z Z Z EA Z Z zg) ?_))); refine Ev.nil (TF.bF Z Z (AO.bR (i:=3) Z Z Z gM Z Z Z Z Z (TF.bF Z Z (AO.bR (i:=2) Z Z Z Ep Z Z Z Z Z (TF.nil ?_))))); show AR _ _ _ _ _ _ _ _; refine AR.bF Z Z (AO.bR (i:=2) Z Z Z EA Z Z Z Z Z (AR.nil [] Z ?_)); exact ⟨rfl,_,⟨_,_,rfl,⟨_,_,4,_,_,rfl,rfl,gM,rfl⟩,⟨_,_,rfl,⟨_,_,3,_,_,rfl,rfl,Ep,rfl⟩,⟨_,_,rfl,⟨_,_,2,_,_,rfl,rfl,EA,rfl⟩,rfl⟩⟩⟩,[],List.nil_sublist _,h⟩
 refine AR.step Z Z Z (AO.call Z _ Z Z NR (AC.one 0 Z (xw _ _ h1 ⟨_,Z,?_⟩))); cases hf; refine AR.bF Z Z (AO.bR (i:=3) Z Z Z gM Z Z Z Z Z (AR.nil [2,3,4,5] Z (AW.seq (AW.Xk 1 5 6 3 mixed (by kernel_rfl) (by kernel_rfl) (by kernel_rfl) Z Z Z Z ?_)))); refine Ev.cons Z Z Z (AO.aR (i:=3) Z Z Z gM Z Z zg) (Ev.nil ?_); show Ev _ _ _ _ _ _ _; refine Ev.cs bC 3 Z (Ev.cons Z Z Z (AO.aR (i:=0) Z Z Z Ep Z Z zg) (Ev.nil (TF.bF Z Z (AO.bR (i:=0) Z Z Z gM Z Z Z Z Z ?_)))); refine TF.nil ?_; show AR _ _ _ _ _ _ _ _; refine AR.bF Z Z (AO.bR (i:=2) Z Z Z Ep Z Z Z Z Z (AR.bF Z Z (AO.bR (i:=1) Z Z Z EA Z Z Z Z Z (AR.nil [2,3,4] Z (AW.ret ?_))))); refine ⟨[.pointer (some ⟨b2,0,none⟩),.pointer (some ⟨b3,0,none⟩),.pointer (some ⟨b4,0,none⟩)],_,Z,Z,Z,(AR.step Z Z Z (AO.Wm (p:=.agg [iP 0,iP 0]) Z Z ac7 (fun _ _=>by simp only [dK]; exact ⟨[.int .i64 0,.int .i64 0],Z,bD.cons (by simp [dK]) (bD.cons (by simp [dK]) bD.nil)⟩) ?_))⟩; refine cs 3 Z (AR.step Z Z Z (AO.aC Z aaD (fun b5=>(AR.bF Z Z (AO.bR (i:=0) Z Z Z aa1 Z Z Z Z Z (cs 1 Z ?_)))))); refine AR.nil [4] Z (AW.sr (cs 1 Z (AR.nil [10] Z ?_))); refine AW.cond Z (fun hh=>by cases hh) (fun _=>?_); refine AW.skip ?_; exact ⟨rfl,_,⟨_,_,rfl,⟨_,_,4,_,_,rfl,rfl,gM,rfl⟩,⟨_,_,rfl,⟨_,_,3,_,_,rfl,rfl,Ep,rfl⟩,⟨_,_,rfl,⟨_,_,2,_,_,rfl,rfl,EA,rfl⟩,rfl⟩⟩⟩,[],List.nil_sublist _,h⟩
end
section
variable [Am]
theorem TI (Ej:List aX) {r0:aj} {r1:Int} {r2:Int} (hf:Jb Ej=some (r0,r1,r2)) (h:Q (.ret (.tuple [.agg (bE r0),iP r1,iP r2])) τ):PC 219 [.list (List.map aX.cells Ej)] τ Q:=by
 unfold Jb at hf; refine BN 27 [.cell 2 45,.tmp 3,.tmp 4] [0] Tryz.func219 Z Z Z Z Z (W 0 Z (AS Z (AO.aC Z iO (fun b2=>?_)))); obtain ⟨x1,n1,wF,h1,hf⟩:=kg hf; refine U 3 Z (CL Z (TG _ h1 (U 4 Z (AS Z (AO.aC Z iO (fun b5=>(Rw 5 [0] Z Z (C hf Z (fun h2 hf=>?_) fun h2 hf=>?_))))))))
 · cases hf; exact Wx 6 [1] Z Z (ZC [1] Z Z h)
 refine B1 hf fun Jt h3 hf=>Wr 1 [0] Z Z (CL Z (sU _ h3 (J 3 Z (C hf Z (fun h4 hf=>?_) fun h4 hf=>?_))))
 · cases hf; exact Wx 5 [1] Z Z (ZC [1] Z Z h)
 cases hf; exact Wx 5 [0,1] Z Z (ZC [1] Z Z h)
end
theorem RZ (Ej:List aX) (n1:Int) (gG:Str) {r0:Int} (hf:Gm Ej n1 gG=some r0) (h:Q (.ret (iP r0)) τ):PC 220 [.list (List.map aX.cells Ej),iP n1,.str gG] τ Q:=by
 unfold Gm at hf; refine BN 18 [.tmp 6] [0,1,2] Tryz.func220 Z Z Z Z Z (W 3 Z (AS Z (AO.aO (l:=Ej) Z Z Z Z z_ Z Z (J 1 Z (C hf Z (fun h1 hf=>?_) fun h1 hf=>?_)))))
 · refine B1 hf fun e1 h2 hf=>W 2 Z (AS Z (AO.aP h2 Z Z Z Z z_ (aX.aD _) Z ?_)); cases hf; exact N 3 Z (Y Z h)
 refine W 1 Z (AS Z (AO.cK Z Z Z Z dR Z ?_)); cases hf; exact N 1 Z (Y Z h)
section
variable [Am]
theorem R7 (gG:Str) {r0:aj} {r1:Int} {r2:Int} (hf:Gq gG=some (r0,r1,r2)) (h:Q (.ret (.tuple [.agg (bE r0),iP r1,iP r2])) τ):PC 185 [.str gG] τ Q:=by
 unfold Gq at hf; refine BN 46 [.cell 2 45,.tmp 3,.tmp 4] [0] Tryz.func185 Z Z Z Z Z (W 0 Z (AS Z (AO.aC Z iO (fun b2=>?_)))); obtain ⟨Ej,jL,wF,h1,hf⟩:=kg hf; refine U 3 Z (CL Z (Sd _ h1 (J 9 Z (C hf Z (fun h2 hf=>?_) fun h2 hf=>?_))))
 · cases hf; exact Wx 6 [0] Z Z (ZC [0] Z Z h)
 obtain ⟨x1,n1,Jt,h3,hf⟩:=kg hf; refine W 1 Z (CL Z (TI _ h3 (U 4 Z (AS Z (AO.aC Z iO (fun b8=>(Rw 5 [0] Z Z (C hf Z (fun h4 hf=>?_) fun h4 hf=>?_))))))))
 · refine B1 hf fun x2 h5 hf=>W 4 Z (CL Z (RZ _ _ _ h5 ?_)); cases hf; exact Rx 4 [1] Z Z (ZC [1] Z Z h)
 refine W 2 Z (AS Z (AO.aO (l:=Ej) Z Z Z Z z_ Z Z (J 1 Z (C hf Z (fun h6 hf=>?_) fun h6 hf=>?_))))
 ·
  refine V 0 Z (AW.Xk 1 6 7 1 mixed (by kernel_rfl) (by kernel_rfl) (by kernel_rfl) Z Z Z Z ?_); refine Ev.cons Z Z Z (AO.build Z iO E5 Z zg) (Ev.nil ?_); show Ev _ _ _ _ _ _ _; refine Ev.cs bC 2 Z ?_; refine B1 hf fun e1 h7 hf=>Ev.cons Z Z Z (AO.aP h7 Z Z Z Z z_ (aX.aD _) Z zg) (Ev.cs bC 2 Z (Ev.nil (TF.bF Z Z (AO.bR (i:=0) Z Z Z gM Z Z Z Z Z ?_)))); refine TF.nil ?_; show AR _ _ _ _ _ _ _ _; cases hf; exact N 2 Z (ZC [1] Z Z h)
 cases hf; exact Wx 4 [0,1] Z Z (ZC [1] Z Z h)
end
section
variable [Am]
theorem Ag {b:Nat} {vp v p:Value} {mq r0:List aY} {text1:Str} (hf:qY mq text1=some r0) (hroom:roomy v=true) {R:dx→List bf→Prop} (h:∀ vp',R (.ret (.tuple [])) [.kV b 209 [.val vp',.val (.pointer none),.own (.slice none 0 0) (List.map jK [])],.buf vp' r0.length 12 189 (r0.flatMap aY.cells)]):PC 186 [pP b] [.row v (List.length text1) 1 5,.kV b 209 [.val vp,.val p,.own v (List.map jK text1)],.buf vp mq.length 12 189 (mq.flatMap aY.cells)] R:=by
 unfold qY at hf; refine AC.jX 25 [] [0] Tryz.func186 Z Z Z Z Z (AW.seq (AW.sr (AR.step Z Z Z (AO.calc' Z ?_)))); refine AR.step Z Z Z (AO.nilCheck Z Z (AR.step Z Z Z (AO.dB Z Z FR (AR.step Z Z Z (AO.call Z _ Z Z aeO (AC.frame (σ:=[_,_]) (τ:=[_]) (acn (AR.step Z Z Z (AO.calc' Z ?_))))))))); refine AR.nil [0,6] Z (AW.cond Z (fun h1=>?_) (fun h1=>?_))
 ·
  replace hf:=jF h1 hf; refine AW.Ze 4 12 [] [.row v (List.length text1) 1 5,.kV b 209 [.val vp,.val p,.own v (List.map jK text1)],.buf vp mq.length 12 189 (mq.flatMap aY.cells)] (fun S e s=>∃ v2:Value,e.get 0=pP b∧e.get 7=pP b∧e.get 10=pP b∧(S 4=true→e.get 11=.val vp)∧(S 5=true→e.get 12=pP b)∧(S 6=true→e.get 13=pP b)∧(S 7=true→e.get 14=.val (.pointer (some ⟨b,1,none⟩)))∧(S 8=true→e.get 15=.str text1)∧(S 9=true→e.get 16=.agg [.str text1,.bool false,iP 0,.str ([]:Str),iP 0,.bool false,iP 0,.str ([]:Str),.own (.slice none 0 0) [],.own (.slice none 0 0) [],.own (.slice none 0 0) [],.own (.slice none 0 0) []])∧(S 10=true→e.get 17=.list ((List.map aY.cells [(aY.mk text1 false (aj.mk 0 ([]:Str) (ah.mk 0 false 0 ([]:Str) [] []) [] []))])))∧(S 11=true→e.get 18=.val v2)∧s=(bif S 8 then [] else [.row v (List.length text1) 1 5]) ++ [.kV b 209 [.val vp,.val p,.own v (List.map jK text1)],bif S 11 then .buf v2 r0.length 12 189 (r0.flatMap aY.cells) else .buf vp mq.length 12 189 (mq.flatMap aY.cells)]) mixed (by kernel_rfl) Z Z (List.Perm.refl _) ?_ ?_ ?_ ?_
  ·
   refine Ev.cs bC 4 Z (Ev.nil ?_); exact ⟨.nilIface,Z,Z,Z,(fun h=>by cases h),(fun h=>by cases h),(fun h=>by cases h),(fun h=>by cases h),(fun h=>by cases h),(fun h=>by cases h),(fun h=>by cases h),(fun h=>by cases h),Z⟩
  ·
   rintro S S' e s hS ⟨v2,p0,p7,ZW,q4,q5,q6,q7,q8,q9,q10,q11,qs⟩; have z:=fun i h1 h2=>(hS i h1 h2).symm; refine ⟨v2,p0,p7,ZW,?_,?_,?_,?_,?_,?_,?_,?_,?_⟩
   ·
    rw [z 4 (by decide) (by decide)]; exact q4
   ·
    rw [z 5 (by decide) (by decide)]; exact q5
   ·
    rw [z 6 (by decide) (by decide)]; exact q6
   ·
    rw [z 7 (by decide) (by decide)]; exact q7
   ·
    rw [z 8 (by decide) (by decide)]; exact q8
   ·
    rw [z 9 (by decide) (by decide)]; exact q9
   ·
    rw [z 10 (by decide) (by decide)]; exact q10
   ·
    rw [z 11 (by decide) (by decide)]; exact q11
   ·
    rw [z 8 (by decide) (by decide),z 11 (by decide) (by decide)]; exact qs
  ·
   rintro S e s i o ⟨v2,p0,p7,ZW,q4,q5,q6,q7,q8,q9,q10,q11,rfl⟩ hi1 hi2 Yk hp' ho; have hi:i=4∨i=5∨i=6∨i=7∨i=8∨i=9∨i=10∨i=11:=by omega
   rcases hi with rfl | rfl | rfl | rfl | rfl | rfl | rfl | rfl
   ·
    cases ho; refine ⟨Z,(fun t ht=>by cases ht; decide),AO.less (Less.add ZW Less.nil) ?_⟩; cases h8:S 8 with
    | false=>
     refine AO.kN (i:=1) Z Z Z Nz Z Z ?_; exact ⟨v2,p0,p7,ZW,(fun _=>Z),q5,q6,q7,(fun h=>by rw [show S 8=true from h] at h8; cases h8),q9,q10,q11,by simp [h8]⟩
    | true=>
     refine AO.kN (i:=0) Z Z Z Nz Z Z ?_; exact ⟨v2,p0,p7,ZW,(fun _=>Z),q5,q6,q7,q8,q9,q10,q11,by simp [h8]⟩
   ·
    cases ho; refine ⟨Z,(fun t ht=>by cases ht; decide),AO.less (Less.add p0 Less.nil) (AO.calc' Z ?_)⟩; exact ⟨v2,p0,p7,ZW,q4,(fun _=>Z),q6,q7,q8,q9,q10,q11,Z⟩
   ·
    cases ho; have s5:=hp' 5 (any_beq.1 Z) (by decide); refine ⟨Z,(fun t ht=>by cases ht; decide),AO.less (Less.add (q5 s5) Less.nil) (AO.nilCheck Z Z ?_)⟩; exact ⟨v2,p0,p7,ZW,q4,q5,(fun _=>Z),q7,q8,q9,q10,q11,Z⟩
   ·
    cases ho; have s6:=hp' 6 (any_beq.1 Z) (by decide); refine ⟨Z,(fun t ht=>by cases ht; decide),AO.less (Less.add (q6 s6) Less.nil) (AO.dB Z Z FR ?_)⟩; exact ⟨v2,p0,p7,ZW,q4,q5,q6,(fun _=>Z),q8,q9,q10,q11,Z⟩
   ·
    cases ho; have s7:=hp' 7 (any_beq.1 Z) (by decide); rw [Yk]; refine ⟨Z,(fun t ht=>by cases ht; decide),AO.less (Less.add (q7 s7) Less.nil) ?_⟩; refine AO.call Z _ Z Z aeV (AC.frame (σ:=[_,_]) (τ:=[_]) (XA hroom ?_)); exact ⟨v2,p0,p7,ZW,q4,q5,q6,q7,(fun _=>Z),q9,q10,q11,Z⟩
   ·
    cases ho; have s8:=hp' 8 (any_beq.1 Z) (by decide); refine ⟨Z,(fun t ht=>by cases ht; decide),AO.less (Less.add (q8 s8) Less.nil) (AO.build Z Qc YP Z ?_)⟩; exact ⟨v2,p0,p7,ZW,q4,q5,q6,q7,q8,(fun _=>Z),q10,q11,Z⟩
   ·
    cases ho; have s9:=hp' 9 (any_beq.1 Z) (by decide); refine ⟨Z,(fun t ht=>by cases ht; decide),AO.less (Less.add (q9 s9) Less.nil) (AO.bq ((List.map aY.cells [(aY.mk text1 false (aj.mk 0 ([]:Str) (ah.mk 0 false 0 ([]:Str) [] []) [] []))])) rfl U9 rfl rfl rfl (by first | rfl | simp only [List.map,aY.aD]) ?_)⟩
    exact ⟨v2,p0,p7,ZW,q4,q5,q6,q7,q8,q9,(fun _=>Z),q11,Z⟩
   ·
    cases ho; have s4:=hp' 4 (any_beq.1 Z) (by decide); have s8:=hp' 8 (any_beq.1 Z) (by decide); have s10:=hp' 10 (any_beq.1 Z) (by decide); rw [Yk,s8]; refine ⟨Z,(fun t ht=>by cases ht; decide),AO.less (Less.add (q4 s4) (Less.add (q10 s10) Less.nil)) ?_⟩; refine AO.XE (i:=1) hf Z Z Z Z Z Z Z U9 DZ aY.bG aY.cells_one (by decide) (fun v3 s2 hs2=>?_); cases hs2; exact ⟨v3,p0,p7,ZW,q4,q5,q6,q7,q8,q9,q10,(fun _=>Z),by simp [s8]⟩
  rintro S e s hS ⟨v2,p0,p7,ZW,q4,q5,q6,q7,q8,q9,q10,q11,rfl⟩; rw [hS 8 (by decide) (by decide),hS 11 (by decide) (by decide)]; refine AR.less (Less.add p0 (Less.add p7 (Less.add (q11 (hS 11 (by decide) (by decide))) Less.nil))) ?_; refine AR.step Z Z Z (AO.nilCheck Z Z (AR.step Z Z Z (AO.dB Z Z M6 (AR.Kq 1 Z (fun hv1 hv2=>?_))))); refine AR.bF Z Z (AO.tX (i:=0) Z Z Z Nz hv1 hv2 Z Z Z ?_); refine AR.nil [0] Z (AW.region (AR.step Z Z Z (AO.calc' Z (AR.step Z Z Z (AO.nilCheck Z Z ?_))))); refine AR.step Z Z Z (AO.dB Z Z FR (AR.step Z Z Z (AO.call Z _ Z Z abq (AC.frame (σ:=[_]) (τ:=[_]) (Sq (AR.nil [] Z ?_)))))); exact ⟨Z,[],Z,_,List.Sublist.refl _,h v2⟩
 ·
  obtain rfl:=Option.some.inj (iw h1 hf); refine AW.skip (AW.drop1 (AW.region (AR.step Z Z Z (AO.calc' Z ?_)))); refine AR.step Z Z Z (AO.nilCheck Z Z (AR.step Z Z Z (AO.dB Z Z FR (AR.step Z Z Z (AO.call Z _ Z Z abq (AC.frame (σ:=[_]) (τ:=[_]) (Sq (AR.nil [] Z ?_)))))))); exact ⟨Z,[],Z,_,List.Sublist.refl _,h vp⟩
theorem EN (s1:Str) {r0:List aY} {r1:Int} {r2:Int} (hf:t_ s1=some (r0,r1,r2)) {Q:dx→List bf→Prop} (h:∀ v,Q (.ret (.tuple [.val v,iP r1,iP r2])) [.buf v r0.length 12 189 (r0.flatMap aY.cells)]):PC 152 [.str s1] [] Q:=by
 unfold t_ at hf; refine AC.jX 76 [.tmp 2,.tmp 3,.tmp 4] [0] Tryz.func152 Z Z Z Z Z (AW.sr (AR.step Z Z Z (AO.eO Z Z (cs 2 Z ?_)))); refine AR.nil [0] Z (AW.seq (AW.sr (cs 1 Z ?_))); refine AR.step Z Z Z (AO.cK Z Z Z Z dR Z (cs 1 Z (AR.nil [0,14] Z (AW.cond Z (fun h1=>?_) (fun h1=>?_)))))
 · replace hf:=jF h1 hf; refine AW.sr (AR.step Z Z Z (AO.zM Z Z (cs 2 Z (AR.nil [2,3,4] Z ?_)))); refine AW.TS 12 189 (AW.ret ?_); cases hf; exact ⟨rfl,_,⟨_,_,rfl,rfl,_,_,rfl,rfl,_,_,rfl,rfl,rfl⟩,_,(List.nil_sublist _).cons_cons _,h _⟩
 replace hf:=iw h1 hf; refine AW.skip (AW.TS 12 189 (AW.sr ?_)); refine AR.step Z Z Z (AO.Yu Z aee (fun b=>?_)); refine AR.nil [0,5] Z (AW.Vh 0 0 Z Z (AW.row 1 5 (AW.seq ?_))); refine AW.sr (cs 1 Z (AR.nil [0,5,6] Z (AW.block ?_))); refine AW.settle [0,5,6] Z ?_; refine AW.afn (fun jL mq vp text1 vt p=>[(0,.str s1),(5,pP b),(6,iP jL)]) (fun jL mq vp text1 vt p=>[.row vt (List.length text1) 1 5,.kV b 209 [.val vp,.val p,.own vt (List.map jK text1)],.buf vp mq.length 12 189 (mq.flatMap aY.cells)]) (fun bX jL mq vp text1 vt p=>qK s1 bX jL mq text1=some (r0,r1,r2)∧(p=Value.pointer none∨p=.pointer (some ⟨b,1,none⟩))∧roomy vt=true) BIG 0 [] (.slice none 0 0) [] (.slice none 0 0) (.pointer none) Z Z ⟨hf,.inl Z,Z⟩ (fun _ _ _ _ _ _ hz=>bT hz.1) ?_; intro bX jL mq vp text1 vt p hfI; obtain ⟨hf,hp,hroom⟩:=hfI; rw [qK] at hf; refine AW.seq (AW.sr (cs 2 Z (AR.step Z Z Z (AO.cK Z Z Z Z dR Z ?_)))); refine cs 1 Z (AR.nil [0,5,6,18] Z (AW.cond Z (fun h2=>?_) (fun h2=>?_)))
 ·
  replace hf:=jF h2 hf; refine AW.skip (AW.block (AW.sr (cs 2 Z ?_))); refine B1 hf fun jI h3 hf=>AR.step Z Z Z (AO.qd h3 Z dR Z ⟨_,Z⟩ Z (cs 1 Z (AR.nil [0,5,6,7] Z (AW.block ?_)))); refine AW.sr (cs 1 Z ?_); refine B1 hf fun b1 h4 hf=>AR.step Z Z Z (AO.call Z _ Z Z abv (xH _ _ h4 (cs 1 Z (AR.nil [0,5,6,7,29] Z (AW.cond Z (fun h5=>?_) (fun h5=>?_))))))
  · replace hf:=jF h5 hf; refine B1 hf fun aa5 h6 hf=>AW.sr (AR.step Z Z Z (AO.dB Z Z FR (AR.step Z Z Z (AO.call Z _ Z Z abB (AC.frame (σ:=[_,_]) (τ:=[_]) (JR hp hroom h6 (fun v2 hr2=>(AR.nil [0,5,6] Z ?_)))))))); refine AW.region (cs 3 Z (AR.nil [0,5,6] Z ?_)); exact ⟨(cZ (jL + 2)),mq,vp,aa5,v2,_,Z,Z,Z,hf,.inr Z,hr2⟩
  replace hf:=iw h5 hf; refine B1 hf fun b2 h6 hf=>AW.sr (cs 1 Z (AR.step Z Z Z (AO.call Z _ Z Z abv (xH _ _ h6 (cs 1 Z ?_))))); refine AR.nil [0,5,6,36] Z (AW.cond Z (fun h7=>?_) (fun h7=>?_))
  ·
   replace hf:=jF h7 hf; refine AW.sr (cs 3 Z ?_); refine B1 hf fun xG h8 hf=>AR.step Z Z Z (AO.call Z _ Z Z aeJ (Ou _ _ h8 (cs 1 Z (AR.nil [0,5,6,8] Z (AW.seq ?_))))); refine AW.sr (cs 2 Z (AR.nil [0,5,6,8,44] Z (AW.cond Z (fun h9=>?_) (fun h9=>?_))))
   · replace hf:=jF h9 hf; refine AW.sr (cs 1 Z (AR.step Z Z Z (AO.zM Z Z (cs 2 Z ?_)))); refine AR.nil [2,3,4] Z (AW.TS 12 189 (AW.ret ?_)); cases hf; exact ⟨rfl,_,⟨_,_,rfl,rfl,_,_,rfl,rfl,_,_,rfl,rfl,rfl⟩,_,(List.nil_sublist _).cons_cons _,h _⟩
   replace hf:=iw h9 hf; refine AW.skip (AW.sr (cs 4 Z ?_)); refine B1 hf fun x1 h10 hf=>AR.step Z Z Z (AO.qd h10 Z dR Z ⟨_,Z⟩ ⟨_,Z⟩ ?_); obtain ⟨e1,n1,wF,h11,hf⟩:=kg hf; refine AR.step Z Z Z (AO.call Z _ Z Z aeI (R7 _ h11 (cs 4 Z (AR.step Z Z Z (AO.aC Z iO (fun b9=>(AR.bF Z Z (AO.bR (i:=0) Z Z Z gM Z Z Z Z Z ?_)))))))); refine cs 2 Z (AR.nil [0,5,6,8,9,10,11] Z (AW.seq (AW.sr ?_))); refine cs 2 Z (AR.nil [0,5,6,8,9,10,11,57] Z (AW.cond Z (fun h12=>?_) (fun h12=>?_)))
   · replace hf:=jF h12 hf; refine AW.sr (cs 5 Z (AR.step Z Z Z (AO.zM Z Z (cs 2 Z ?_)))); refine AR.nil [2,3,4] Z (AW.TS 12 189 (AW.ret ?_)); cases hf; exact ⟨rfl,_,⟨_,_,rfl,rfl,_,_,rfl,rfl,_,_,rfl,rfl,rfl⟩,_,(List.nil_sublist _).cons_cons _,h _⟩
   replace hf:=iw h12 hf; refine B1 hf fun YZ lZ hf=>B1 hf fun Vf nu hf=>AW.skip (AW.sr (AR.step Z Z Z (AO.call Z _ Z Z abu (AC.perm (ZU _ _ _ _) (AC.frame (σ:=[_,_,_]) (τ:=[_]) (Ag lZ hroom (fun vp2=>(AR.nil [0,5,8,9] Z ?_)))))))); refine AW.row 1 5 (AW.sr (AR.step Z Z Z (AO.dB Z Z M6 ?_))); refine AR.step Z Z Z (AO.kN (i:=1) Z Z Z Nz Z Z ?_); refine AR.step rfl rfl rfl (AO.aR (i:=3) rfl rfl rfl gM rfl rfl (AR.step rfl rfl rfl (AO.build rfl Qc YP rfl (AR.step rfl rfl rfl (AO.bq ((List.map aY.cells [(aY.mk ([]:Str) true e1)])) rfl U9 rfl rfl rfl (by first | rfl | simp only [List.map,aY.aD]) ?_))))); refine AR.step Z Z Z (AO.XE (i:=2) nu Z Z Z Z Z Z Z U9 DZ aY.bG aY.cells_one (by decide) (fun vp3 s2 hs2=>?_)); cases hs2; refine AR.step Z Z Z (AO.dB Z Z M6 (AR.Kq 2 Z (fun hv1 hv2=>?_)))
   refine AR.bF Z Z (AO.tX (i:=1) Z Z Z Nz hv1 hv2 Z Z Z ?_); refine AR.nil [0,5,8] Z (AW.GR 3 Z (AW.region (cs 3 Z ?_))); refine AR.nil [0,5,6] Z ?_; exact ⟨(cZ (xG + 1)),Vf,vp3,[],.slice none 0 0,_,Z,Z,Z,hf,.inl Z,Z⟩
  replace hf:=iw h7 hf; refine B1 hf fun c1 h8 hf=>B1 hf fun aa4 h9 hf=>AW.sr (AR.step Z Z Z (AO.dB Z Z FR (cs 2 Z (AR.step Z Z Z (AO.fV h8 Z dR Z Z ?_))))); refine AR.step Z Z Z (AO.call Z _ Z Z abB (AC.frame (σ:=[_,_]) (τ:=[_]) (JR hp hroom h9 (fun v2 hr2=>(AR.nil [0,5,6] Z (AW.region (cs 3 Z ?_))))))); refine AR.nil [0,5,6] Z ?_; exact ⟨(cZ (jL + 1)),mq,vp,aa4,v2,_,Z,Z,Z,hf,.inr Z,hr2⟩
 replace hf:=iw h2 hf; refine B1 hf fun YX h3 hf=>AW.exit (AW.sr (AR.step Z Z Z (AO.call Z _ Z Z abu (Ag h3 hroom (fun vp2=>(AR.nil [5] Z ?_)))))); refine AW.sr (AR.step Z Z Z (AO.dB Z Z M6 ?_)); refine AR.step Z Z Z (AO.kN (i:=0) Z Z Z Nz Z Z ?_); refine cs 3 Z (AR.nil [2,3,4] Z (AW.ret ?_)); cases hf; exact ⟨rfl,_,⟨_,_,rfl,rfl,_,_,rfl,rfl,_,_,rfl,rfl,rfl⟩,_,List.sublist_cons_self _ _,h _⟩
theorem JM (s1:Str) {r0:List aY} {r1:Int} {r2:Int} (hf:t_ s1=some (r0,r1,r2)) (h:Q (.ret (.tuple [.list (List.map aY.cells r0),iP r1,iP r2])) τ):PC 152 [.str s1] τ Q:=by
 exact AC.none (AC.frozen (List.flatMap_def ..).symm (fun x hx=>by obtain ⟨s,_,rfl⟩:=List.mem_map.1 hx; exact aY.bG s) (by rw [List.length_map]) (EN s1 hf fun v=>⟨v,Z,Z⟩) h)
end
theorem wI (s1:List aj) (f1:aj→Option Bool) (zX:FuncId) (DY:List PV) (Ru:aU Tryz.prog zX=true) (Rv:∀ a0 b0,f1 a0=some b0→∀ {τ:List bf} {Q:dx→List bf→Prop},Q (.ret (.bool b0)) τ→PC zX ([.agg (bE a0)] ++ DY) τ Q) {r0:Int} (hf:kW s1 f1=some r0) (h:Q (.ret (iP r0)) τ):PC 258 [.list (aj.aM s1),.fn zX DY] τ Q:=by
 unfold kW at hf; refine BN 19 [.tmp 4] [0,1] Tryz.func258 Z Z Z Z Z (W 2 Z (AS Z (AO.aO (l:=s1) Z Z Z Z iQ Z (aj.aB _) (J 1 Z (JY (fun i1=>[(0,.list (aj.aM s1)),(1,.fn zX DY),(7,iP (s1.length:Int)),(8,iP i1)]) (fun i1=>[]) (fun bX i1=>iT s1 f1 bX i1=some r0) BIG 0 Z Z hf (fun _ hz=>bT hz) ?_))))); intro bX i1 hf; rw [iT] at hf; refine V 1 Z (C hf Z (fun h1 hf=>?_) fun h1 hf=>?_)
 ·
  refine B1 hf fun e1 h2 hf=>W 5 Z (AS Z (AO.aP h2 Z Z (aj.aB _) Z iQ (aj.aD _) Z ?_)); refine B1 hf fun x1 h3 hf=>U 1 Z (AS Z (AO.call Z _ Z Z Ru (Rv _ _ h3 (J 0 Z (C hf Z (fun h4 hf=>?_) fun h4 hf=>?_)))))
  · cases hf; exact M 2 Z (Y Z h)
  exact M 2 Z ⟨(cZ (i1 + 1)),Z,Z,Z,hf⟩
 cases hf; exact M 1 Z (Y Z h)
theorem uO (s1:List aj) (f1:aj→Option Bool) (zX:FuncId) (DY:List PV) (Ru:aU Tryz.prog zX=true) (Rv:∀ a0 b0,f1 a0=some b0→∀ {τ:List bf} {Q:dx→List bf→Prop},Q (.ret (.bool b0)) τ→PC zX ([.agg (bE a0)] ++ DY) τ Q) {r0:Bool} (hf:j6 s1 f1=some r0) (h:Q (.ret (.bool r0)) τ):PC 223 [.list (aj.aM s1),.fn zX DY] τ Q:=by
 unfold j6 at hf; refine BN 9 [.tmp 4] [0,1] Tryz.func223 Z Z Z Z Z ?_; refine B1 hf fun x1 h1 hf=>W 3 Z (CL Z (wI _ f1 zX DY Ru @Rv h1 ?_)); cases hf; exact N 2 Z (Y Z h)
theorem uY (s1:List aY) (f1:aY→Option Bool) (zX:FuncId) (DY:List PV) (Ru:aU Tryz.prog zX=true) (Rv:∀ a0 b0,f1 a0=some b0→∀ {τ:List bf} {Q:dx→List bf→Prop},Q (.ret (.bool b0)) τ→PC zX ([.agg (Dm a0)] ++ DY) τ Q) {r0:Int} (hf:kC s1 f1=some r0) (h:Q (.ret (iP r0)) τ):PC 222 [.list (List.map aY.cells s1),.fn zX DY] τ Q:=by
 unfold kC at hf; refine BN 19 [.tmp 4] [0,1] Tryz.func222 Z Z Z Z Z (W 2 Z (AS Z (AO.aO (l:=s1) Z Z Z Z DZ Z Z (J 1 Z (JY (fun i1=>[(0,.list (List.map aY.cells s1)),(1,.fn zX DY),(7,iP (s1.length:Int)),(8,iP i1)]) (fun i1=>[]) (fun bX i1=>iA s1 f1 bX i1=some r0) BIG 0 Z Z hf (fun _ hz=>bT hz) ?_))))); intro bX i1 hf; rw [iA] at hf; refine V 1 Z (C hf Z (fun h1 hf=>?_) fun h1 hf=>?_)
 ·
  refine B1 hf fun e1 h2 hf=>W 5 Z (AS Z (AO.aP h2 Z Z Z Z DZ (aY.aD _) Z ?_)); refine B1 hf fun x1 h3 hf=>U 1 Z (AS Z (AO.call Z _ Z Z Ru (Rv _ _ h3 (J 0 Z (C hf Z (fun h4 hf=>?_) fun h4 hf=>?_)))))
  · cases hf; exact M 2 Z (Y Z h)
  exact M 2 Z ⟨(cZ (i1 + 1)),Z,Z,Z,hf⟩
 cases hf; exact M 1 Z (Y Z h)
theorem tu (s1:List aY) (f1:aY→Option Bool) (zX:FuncId) (DY:List PV) (Ru:aU Tryz.prog zX=true) (Rv:∀ a0 b0,f1 a0=some b0→∀ {τ:List bf} {Q:dx→List bf→Prop},Q (.ret (.bool b0)) τ→PC zX ([.agg (Dm a0)] ++ DY) τ Q) {r0:Bool} (hf:jV s1 f1=some r0) (h:Q (.ret (.bool r0)) τ):PC 187 [.list (List.map aY.cells s1),.fn zX DY] τ Q:=by
 unfold jV at hf; refine BN 9 [.tmp 4] [0,1] Tryz.func187 Z Z Z Z Z ?_; refine B1 hf fun x1 h1 hf=>W 3 Z (CL Z (uY _ f1 zX DY Ru @Rv h1 ?_)); cases hf; exact N 2 Z (Y Z h)
section
variable [Am]
abbrev uP (fC:List aY→List aA→Option Bool):Prop:=∀ (Pm:List aY) (jS:List aA) {aZ:Bool},fC Pm jS=some aZ→∀ {τ:List bf} {Q:dx→List bf→Prop} (h:Q (.ret (.bool aZ)) τ),PC 153 [.list (List.map aY.cells Pm),.list (List.map aA.cells jS)] τ Q
abbrev rH (dS:aY→List aA→Option Bool):Prop:=∀ (mE:aY) (Pn:List aA) {aZ:Bool},dS mE Pn=some aZ→∀ {τ:List bf} {Q:dx→List bf→Prop} (h:Q (.ret (.bool aZ)) τ),PC 188 [.agg (Dm mE),.ref [.list (List.map aA.cells Pn)]] τ Q
abbrev sW (eG:aj→List aA→Option Bool):Prop:=∀ (j3:aj) (jS:List aA) {aZ:Bool},eG j3 jS=some aZ→∀ {τ:List bf} {Q:dx→List bf→Prop} (h:Q (.ret (.bool aZ)) τ),PC 189 [.agg (bE j3),.list (List.map aA.cells jS)] τ Q
abbrev qp (dO:aj→List aA→Option Bool):Prop:=∀ (uy:aj) (Pn:List aA) {aZ:Bool},dO uy Pn=some aZ→∀ {τ:List bf} {Q:dx→List bf→Prop} (h:Q (.ret (.bool aZ)) τ),PC 224 [.agg (bE uy),.ref [.list (List.map aA.cells Pn)]] τ Q
theorem Ph (fC) (vk:uP fC) (dS) (rR:rH dS) (eG) (qj:sW eG) (dO) (qZ:qp dO) (ps1:List aY) (dL:List aA) {r0:Bool} (hf:Ce fC dS eG dO ps1 dL=some r0) (h:Q (.ret (.bool r0)) τ):PC 153 [.list (List.map aY.cells ps1),.list (List.map aA.cells dL)] τ Q:=by
 unfold Ce at hf; refine BN 8 [.tmp 4] [0,1] Tryz.func153 Z Z Z Z Z ?_; refine BR hf fun x1 h1 hf=>?_; refine W 4 Z (CL Z (tu _ (fun z0=>dS z0 dL) 188 [.ref [.list (List.map aA.cells dL)]] aeH (fun _ _ hz=>rR _ _ hz) h1 ?_)); cases hf; exact N 1 Z (Y Z h)
theorem Mt (fC) (vk:uP fC) (dS) (rR:rH dS) (eG) (qj:sW eG) (dO) (qZ:qp dO) (p1:aY) (c1:List aA) {r0:Bool} (hf:zw fC dS eG dO p1 c1=some r0) (h:Q (.ret (.bool r0)) τ):PC 188 [.agg (Dm p1),.ref [.list (List.map aA.cells c1)]] τ Q:=by
 unfold zw at hf; refine BN 12 [.tmp 3] [0,1] Tryz.func188 Z Z Z Z Z ?_; refine BR hf fun b1 h2 hf=>?_; refine W 5 Z (AR.fK 5 6 11 true [] b1 Z Z (fun h1=>?_) (fun h1=>?_) ?_)
 · refine IT 6 h1 h2 Z fun h2=>?_; refine BR h2 fun x1 h3 h2=>?_; refine U 3 Z (GO Z (AO.call Z _ Z Z aeG (qj _ _ h3 ?_))); cases h2; exact fI 1 Z (En [11] Z)
 · refine IF 6 h1 h2 Z fun h2=>?_; cases h2; exact fI 5 Z (En [11] Z)
 cases hf; exact N 1 Z (Y Z h)
theorem Nt (fC) (vk:uP fC) (dS) (rR:rH dS) (eG) (qj:sW eG) (dO) (qZ:qp dO) (e1:aj) (dL:List aA) {r0:Bool} (hf:Ar fC dS eG dO e1 dL=some r0) (h:Q (.ret (.bool r0)) τ):PC 189 [.agg (bE e1),.list (List.map aA.cells dL)] τ Q:=by
 unfold Ar at hf; refine BN 51 [.tmp 4] [0,1] Tryz.func189 Z Z Z Z Z (V 7 Z (C hf Z (fun h1 hf=>?_) fun h1 hf=>?_))
 · obtain ⟨x1,is1,h2,hf⟩:=bP hf; refine W 3 Z (CL Z (yG _ _ h2 (U 3 Z (AS Z (AO.aC Z gY (fun b5=>?_)))))); cases hf; exact Rx 4 [0] Z Z (Y Z h)
 refine W 4 Z (An 5 26 31 [2,3] (e1.value.kind == 3) Z Z Z Z (J 1 Z (C hf Z (fun h4 hf=>?_) fun h4 hf=>?_)))
 ·
  obtain ⟨ps1,x2,Er,h5,hf⟩:=kg hf; refine W 3 Z (CL Z (JM _ h5 ?_)); refine BR hf fun b1 h7 hf=>?_; refine U 10 Z (AR.fK 4 42 46 true [] b1 Z Z (fun h6=>?_) (fun h6=>?_) ?_)
  · refine IT 42 h6 h7 Z fun h7=>?_; refine BR h7 fun x3 h8 h7=>?_; refine U 2 Z (GO Z (AO.call Z _ Z Z aby (vk _ _ h8 ?_))); cases h7; exact fI 1 Z (En [46] Z)
  · refine IF 42 h6 h7 Z fun h7=>?_; cases h7; exact fI 4 Z (En [46] Z)
  cases hf; exact N 1 Z (Y Z h)
 refine BR hf fun x4 h9 hf=>?_; refine W 3 Z (CL Z (uO _ (fun z0=>dO z0 dL) 224 [.ref [.list (List.map aA.cells dL)]] aeF (fun _ _ hz=>qZ _ _ hz) h9 ?_)); cases hf; exact N 1 Z (Y Z h)
theorem Ll (fC) (vk:uP fC) (dS) (rR:rH dS) (eG) (qj:sW eG) (dO) (qZ:qp dO) (a1:aj) (c1:List aA) {r0:Bool} (hf:yJ fC dS eG dO a1 c1=some r0) (h:Q (.ret (.bool r0)) τ):PC 224 [.agg (bE a1),.ref [.list (List.map aA.cells c1)]] τ Q:=by
 unfold yJ at hf; refine BN 7 [.tmp 3] [0,1] Tryz.func224 Z Z Z Z Z ?_; refine BR hf fun x1 h1 hf=>?_; refine W 4 Z (CL Z (qj _ _ h1 ?_)); cases hf; exact N 1 Z (Y Z h)
theorem yD :∀ k:Nat,(uP (jT k))∧(rH (iX k))∧(sW (jy k))∧(qp (iE k)):=by
 intro k
 induction k with
 | zero=>exact ⟨fun _ _ _ hz=>by first | cases hz | (unfold jT at hz; cases hz),fun _ _ _ hz=>by first | cases hz | (unfold iX at hz; cases hz),fun _ _ _ hz=>by first | cases hz | (unfold jy at hz; cases hz),fun _ _ _ hz=>by first | cases hz | (unfold iE at hz; cases hz)⟩
 | succ k ih=>exact ⟨fun Pm jS aZ hz τ Q hq=>Ph (jT k) ih.1 (iX k) ih.2.1 (jy k) ih.2.2.1 (iE k) ih.2.2.2 Pm jS hz hq,fun mE Pn aZ hz τ Q hq=>Mt (jT k) ih.1 (iX k) ih.2.1 (jy k) ih.2.2.1 (iE k) ih.2.2.2 mE Pn hz hq,fun j3 jS aZ hz τ Q hq=>Nt (jT k) ih.1 (iX k) ih.2.1 (jy k) ih.2.2.1 (iE k) ih.2.2.2 j3 jS hz hq,fun uy Pn aZ hz τ Q hq=>Ll (jT k) ih.1 (iX k) ih.2.1 (jy k) ih.2.2.1 (iE k) ih.2.2.2 uy Pn hz hq⟩
theorem PL (Pm:List aY) (jS:List aA) {aZ:Bool} (hf:KS Pm jS=some aZ) (h:Q (.ret (.bool aZ)) τ):PC 153 [.list (List.map aY.cells Pm),.list (List.map aA.cells jS)] τ Q:=
 ((yD BIG).1) Pm jS hf h
theorem Zj (mE:aY) (Pn:List aA) {aZ:Bool} (hf:Po mE Pn=some aZ) (h:Q (.ret (.bool aZ)) τ):PC 188 [.agg (Dm mE),.ref [.list (List.map aA.cells Pn)]] τ Q:=
 ((yD BIG).2.1) mE Pn hf h
theorem aam (j3:aj) (jS:List aA) {aZ:Bool} (hf:Qx j3 jS=some aZ) (h:Q (.ret (.bool aZ)) τ):PC 189 [.agg (bE j3),.list (List.map aA.cells jS)] τ Q:=
 ((yD BIG).2.2.1) j3 jS hf h
theorem Yp (uy:aj) (Pn:List aA) {aZ:Bool} (hf:NA uy Pn=some aZ) (h:Q (.ret (.bool aZ)) τ):PC 224 [.agg (bE uy),.ref [.list (List.map aA.cells Pn)]] τ Q:=
 ((yD BIG).2.2.2) uy Pn hf h
end
section
variable [Am]
theorem VJ (v1:ah) {r0:Str} (hf:Ls v1=some r0) (h:Q (.ret (.str r0)) τ):PC 61 [.agg (aN v1)] τ Q:=by
 unfold Ls at hf; refine BN 8 [.tmp 2] [0] Tryz.func61 Z Z Z Z Z ?_; refine B1 hf fun x1 h1 hf=>W 3 Z (CL Z (pU _ h1 (J 1 Z (C hf Z (fun h2 hf=>?_) fun h2 hf=>?_))))
 · cases hf; exact M 1 Z (Y Z h)
 refine BR hf fun x2 h3 hf=>?_; refine W 1 Z (CL Z (Hy _ h3 ?_)); cases hf; exact N 1 Z (Y Z h)
end
theorem R5 (e1:aj) {r0:Int} (hf:Gn e1=some r0) (h:Q (.ret (iP r0)) τ):PC 101 [.agg (bE e1)] τ Q:=by
 unfold Gn at hf; refine BN 33 [.tmp 2] [0] Tryz.func101 Z Z Z Z Z (V 6 Z (C hf Z (fun h1 hf=>?_) fun h1 hf=>?_))
 · cases hf; exact M 1 Z (Y Z h)
 refine V 4 Z (C hf Z (fun h2 hf=>?_) fun h2 hf=>?_)
 · refine BR hf fun x1 h3 hf=>?_; refine W 2 Z (CL Z (vw _ h3 ?_)); cases hf; exact N 1 Z (Y Z h)
 refine V 4 Z (C hf Z (fun h4 hf=>?_) fun h4 hf=>?_)
 ·
  refine V 0 Z (AW.cond Z (fun h5=>?_) (fun h5=>?_))
  · cases hf; exact M 1 Z (Y Z h)
  cases h4.symm.trans h5
 refine W 4 Z (An 5 21 26 [1,14] (e1.value.kind == 2) Z Z Z Z (U 1 Z (An 5 27 32 [14] (decide (e1.value.gI < 0)) Z Z Z Z (J 1 Z (C hf Z (fun h8 hf=>?_) fun h8 hf=>?_)))))
 · cases hf; exact M 1 Z (Y Z h)
 cases hf; exact M 1 Z (Y Z h)
theorem TM (s1:Str) {r0:Str} (hf:Ji s1=some r0) (h:Q (.ret (.str r0)) τ):PC 102 [.str s1] τ Q:=by
 unfold Ji at hf; refine BN 64 [.tmp 2] [0] Tryz.func102 Z Z Z Z Z (W 1 Z (AS Z (AO.Dr (eu:=5) Z Ns Z (fun b3=>?_)))); refine B1 hf fun b1 h1 hf=>U 0 Z (CL Z (AC.one 0 Z (iC h1 (fun v1=>⟨_,Z,(J 1 Z (V5 (fun i1 b2 v2=>[(0,.str s1),(3,pP b3),(4,iP i1)]) (fun i1 b2 v2=>[.K_ b3 v2 167 5 b2]) (fun bX i1 b2 v2=>oo s1 bX i1 b2=some r0) BIG 0 b1 v1 Z Z hf (fun _ _ _ hz=>bT hz) ?_))⟩)))); intro bX i1 b2 v2 hf; rw [oo] at hf; refine W 2 Z (AS Z (AO.cK Z Z Z Z dR Z (J 1 Z (C hf Z (fun h2 hf=>?_) fun h2 hf=>?_))))
 ·
  refine B1 hf fun c1 h3 hf=>W 2 Z (AS Z (AO.fV h3 Z dR Z Z (U 4 Z (On 3 21 24 [0,3,4,5] ((c1.toNat:Int) == 92) Z Z Z Z (J 1 Z (C hf Z (fun h5 hf=>?_) fun h5 hf=>?_))))))
  · refine B1 hf fun x1 h6 hf=>W 4 Z (AS Z (AO.qd h6 Z dR Z ⟨_,Z⟩ ⟨_,Z⟩ ?_)); refine B1 hf fun x2 h7 hf=>AS Z (AO.qC h7 Z Z Z ?_); refine B1 hf fun b3 h8 hf=>CL Z (AC.one 0 Z (jH h8 (fun v3=>⟨_,Z,?_⟩))); exact N 3 Z ⟨(cZ (i1 + 1)),b3,v3,Z,Z,Z,hf⟩
  refine V 3 Z (C hf Z (fun h9 hf=>?_) fun h9 hf=>?_)
  · refine B1 hf fun b4 h10 hf=>W 0 Z (CL Z (AC.one 0 Z (jH h10 (fun v4=>⟨_,Z,?_⟩)))); exact N 3 Z ⟨(cZ (i1 + 1)),b4,v4,Z,Z,Z,hf⟩
  refine V 3 Z (C hf Z (fun h11 hf=>?_) fun h11 hf=>?_)
  · refine B1 hf fun b5 h12 hf=>W 0 Z (CL Z (AC.one 0 Z (jH h12 (fun v5=>⟨_,Z,?_⟩)))); exact N 3 Z ⟨(cZ (i1 + 1)),b5,v5,Z,Z,Z,hf⟩
  refine W 3 Z (On 3 43 46 [0,3,4,5] (decide (126 < (c1.toNat:Int))) Z Z Z Z (J 1 Z (C hf Z (fun nu hf=>?_) fun nu hf=>?_)))
  ·
   refine AW.draw 14 mixed (by kernel_rfl) Z ?_; refine Ev.cs bC 1 Z (Ev.cons Z Z Z (AO.u8_quo c1 16 Z Z Z Z Z (by decide) zg) ?_); refine Ev.cs bC 1 Z (Ev.cons Z Z Z (AO.u8_quo c1 16 Z Z Z Z Z (by decide) zg) ?_); refine Ev.cons Z Z Z (AO.aaV (c1 / 16) 1 Z Z Z Z Z zg) ?_; refine B1 hf fun x3 tq hf=>Ev.cons Z Z Z (AO.qd tq Z dR Z ⟨_,Z⟩ ⟨_,Z⟩ zg) ?_; refine B1 hf fun x4 h16 hf=>Ev.cons Z Z Z (AO.qC h16 Z Z Z zg) (Ev.cs bC 1 Z (Ev.cons Z Z Z (AO.XW c1 16 Z Z Z Z Z (by decide) zg) ?_)); refine Ev.cs bC 1 Z (Ev.cons Z Z Z (AO.XW c1 16 Z Z Z Z Z (by decide) zg) ?_); refine Ev.cons Z Z Z (AO.aaV (c1 % 16) 1 Z Z Z Z Z zg) ?_; refine B1 hf fun x5 Ao hf=>Ev.cons Z Z Z (AO.qd Ao Z dR Z ⟨_,Z⟩ ⟨_,Z⟩ zg) ?_; refine B1 hf fun x6 h18 hf=>Ev.cons Z Z Z (AO.qC h18 Z Z Z zg) (Ev.nil ?_); show AR _ _ _ _ _ _ _ _; refine B1 hf fun b6 h19 hf=>CL Z (AC.one 0 Z (jH h19 (fun v6=>⟨_,Z,?_⟩))); exact N 3 Z ⟨(cZ (i1 + 1)),b6,v6,Z,Z,Z,hf⟩
  refine B1 hf fun b7 h20 hf=>W 1 Z (CL Z (AC.one 0 Z (iC h20 (fun v7=>⟨_,Z,?_⟩)))); exact N 3 Z ⟨(cZ (i1 + 1)),b7,v7,Z,Z,Z,hf⟩
 refine BR hf fun b8 h21 hf=>?_; refine W 0 Z (CL Z (AC.one 0 Z (iC h21 (fun v8=>⟨_,Z,(U 0 Z (CL Z (AC.Kc 0 Z (w_ ?_))))⟩)))); cases hf; exact N 1 Z (Y Z h)
section
variable [Am]
abbrev yH (gJ:aj→Option Str):Prop:=∀ (j3:aj) {aZ:Str},gJ j3=some aZ→∀ {τ:List bf} {Q:dx→List bf→Prop} (h:Q (.ret (.str aZ)) τ),PC 36 [.agg (bE j3)] τ Q
abbrev Df (dN:aj→Int→Option Str):Prop:=∀ (j3:aj) (oM:Int) {aZ:Str},dN j3 oM=some aZ→∀ {τ:List bf} {Q:dx→List bf→Prop} (h:Q (.ret (.str aZ)) τ),PC 62 [.agg (bE j3),iP oM] τ Q
abbrev Br (gX:aj→Option Str):Prop:=∀ (j3:aj) {aZ:Str},gX j3=some aZ→∀ {τ:List bf} {Q:dx→List bf→Prop} (h:Q (.ret (.str aZ)) τ),PC 63 [.agg (bE j3)] τ Q
theorem Pj (gJ) (vo:yH gJ) (dN) (je:Df dN) (gX) (uJ:Br gX) (e1:aj) {r0:Str} (hf:Ci gJ dN gX e1=some r0) (h:Q (.ret (.str r0)) τ):PC 36 [.agg (bE e1)] τ Q:=by
 unfold Ci at hf; refine BN 121 [.tmp 2] [0] Tryz.func36 Z Z Z Z Z (V 6 Z (C hf Z (fun h1 hf=>?_) fun h1 hf=>?_))
 · refine BR hf fun x1 h2 hf=>?_; refine W 2 Z (CL Z (VJ _ h2 ?_)); cases hf; exact N 1 Z (Y Z h)
 refine V 2 Z (C hf Z (fun h3 hf=>?_) fun h3 hf=>?_)
 · cases hf; exact M 3 Z (Y Z h)
 refine V 2 Z (C hf Z (fun h4 hf=>?_) fun h4 hf=>?_)
 ·
  refine V 0 Z (AW.draw 10 mixed (by kernel_rfl) Z ?_); refine Ev.cs bC 2 Z ?_; refine B1 hf fun e2 h5 hf=>Ev.cons Z Z Z (AO.aP h5 Z Z (aj.aB _) Z iQ (aj.aD _) Z zg) (Ev.cs bC 1 Z ?_); refine B1 hf fun x2 h6 hf=>Ev.cons Z Z Z (AO.call Z _ Z Z I8 (je _ _ h6 zg)) ?_; refine B1 hf fun x3 h7 hf=>Ev.cons Z Z Z (AO.qC h7 Z Z Z zg) (Ev.cs bC 2 Z ?_); refine BR hf fun x4 h8 hf=>?_; refine Ev.cons Z Z Z (AO.qC h8 Z Z Z zg) (Ev.cs bC 1 Z (Ev.nil ?_)); show AR _ _ _ _ _ _ _ _; cases hf; exact N 0 Z (Y Z h)
 refine V 2 Z (C hf Z (fun h9 hf=>?_) fun h9 hf=>?_)
 ·
  refine V 0 Z (AW.draw 14 mixed (by kernel_rfl) Z ?_); refine Ev.cs bC 2 Z ?_; refine B1 hf fun e3 h10 hf=>Ev.cons Z Z Z (AO.aP h10 Z Z (aj.aB _) Z iQ (aj.aD _) Z zg) (Ev.cs bC 1 Z ?_); refine B1 hf fun x5 h11 hf=>Ev.cons Z Z Z (AO.call Z _ Z Z I8 (je _ _ h11 zg)) ?_; refine B1 hf fun x6 h12 hf=>Ev.cons Z Z Z (AO.qC h12 Z Z Z zg) (Ev.cs bC 2 Z ?_); refine B1 hf fun e4 lZ hf=>Ev.cons Z Z Z (AO.aP lZ Z Z (aj.aB _) Z iQ (aj.aD _) Z zg) (Ev.cs bC 1 Z ?_); refine B1 hf fun x7 nu hf=>Ev.cons Z Z Z (AO.call Z _ Z Z I8 (je _ _ nu zg)) ?_; refine B1 hf fun x8 tq hf=>Ev.cons Z Z Z (AO.qC tq Z Z Z zg) ?_; refine BR hf fun x9 h16 hf=>?_; refine Ev.cons Z Z Z (AO.qC h16 Z Z Z zg) (Ev.cs bC 1 Z (Ev.nil ?_)); show AR _ _ _ _ _ _ _ _; cases hf; exact N 0 Z (Y Z h)
 refine V 2 Z (C hf Z (fun Ao hf=>?_) fun Ao hf=>?_)
 ·
  refine V 0 Z (AW.draw 8 mixed (by kernel_rfl) Z ?_); refine Ev.cs bC 2 Z ?_; refine B1 hf fun Il h18 hf=>Ev.cons Z Z Z (AO.qC h18 Z Z Z zg) (Ev.cs bC 1 Z ?_); refine B1 hf fun Li h19 hf=>Ev.cons Z Z Z (AO.call Z _ Z Z agM (uJ _ h19 zg)) ?_; refine B1 hf fun SB h20 hf=>Ev.cons Z Z Z (AO.qC h20 Z Z Z zg) ?_; refine BR hf fun YB h21 hf=>?_; refine Ev.cons Z Z Z (AO.qC h21 Z Z Z zg) (Ev.cs bC 1 Z (Ev.nil ?_)); show AR _ _ _ _ _ _ _ _; cases hf; exact N 0 Z (Y Z h)
 refine V 2 Z (C hf Z (fun h22 hf=>?_) fun h22 hf=>?_)
 ·
  refine V 0 Z (AW.draw 9 mixed (by kernel_rfl) Z ?_); refine Ev.cs bC 4 Z ?_; refine B1 hf fun e5 h23 hf=>Ev.cons Z Z Z (AO.aP h23 Z Z (aj.aB _) Z iQ (aj.aD _) Z zg) (Ev.cs bC 1 Z ?_); refine B1 hf fun Zv Ti hf=>Ev.cons Z Z Z (AO.call Z _ Z Z I8 (je _ _ Ti zg)) ?_; refine BR hf fun XQ Ux hf=>?_; refine Ev.cons Z Z Z (AO.qC Ux Z Z Z zg) (Ev.cs bC 1 Z (Ev.nil ?_)); show AR _ _ _ _ _ _ _ _; cases hf; exact N 0 Z (Y Z h)
 refine V 2 Z (C hf Z (fun Uw hf=>?_) fun Uw hf=>?_)
 ·
  refine B1 hf fun n1 h27 hf=>W 2 Z (CL Z (vw _ h27 (J 5 Z (C hf Z (fun Uv hf=>?_) fun Uv hf=>?_))))
  ·
   refine V 3 Z (AW.draw 20 mixed (by kernel_rfl) Z ?_); refine Ev.cs bC 2 Z ?_; refine B1 hf fun e6 KX hf=>Ev.cons Z Z Z (AO.aP KX Z Z (aj.aB _) Z iQ (aj.aD _) Z zg) (Ev.cs bC 2 Z ?_); refine B1 hf fun Qg NZ hf=>Ev.cons Z Z Z (AO.call Z _ Z Z I8 (je _ _ NZ zg)) ?_; refine B1 hf fun XG h31 hf=>Ev.cons Z Z Z (AO.qC h31 Z Z Z zg) (Ev.cs bC 2 Z ?_); refine B1 hf fun Zu h32 hf=>Ev.cons Z Z Z (AO.qC h32 Z Z Z zg) ?_; refine B1 hf fun x19 XJ hf=>Ev.cons Z Z Z (AO.qC XJ Z Z Z zg) (Ev.cs bC 2 Z ?_); refine B1 hf fun e7 h34 hf=>Ev.cons Z Z Z (AO.aP h34 Z Z (aj.aB _) Z iQ (aj.aD _) Z zg) (Ev.cs bC 3 Z ?_); refine B1 hf fun x20 Y8 hf=>Ev.cons Z Z Z (AO.call Z _ Z Z I8 (je _ _ Y8 zg)) ?_; refine BR hf fun x21 Vp hf=>?_; refine Ev.cons Z Z Z (AO.qC Vp Z Z Z zg) (Ev.cs bC 1 Z (Ev.nil ?_)); show AR _ _ _ _ _ _ _ _; cases hf; exact N 0 Z (Y Z h)
  refine V 0 Z (AW.draw 20 mixed (by kernel_rfl) Z ?_); refine Ev.cs bC 2 Z ?_; refine B1 hf fun e8 h37 hf=>Ev.cons Z Z Z (AO.aP h37 Z Z (aj.aB _) Z iQ (aj.aD _) Z zg) (Ev.cs bC 2 Z ?_); refine B1 hf fun x22 h38 hf=>Ev.cons Z Z Z (AO.call Z _ Z Z I8 (je _ _ h38 zg)) ?_; refine B1 hf fun x23 h39 hf=>Ev.cons Z Z Z (AO.qC h39 Z Z Z zg) (Ev.cs bC 2 Z ?_); refine B1 hf fun x24 h40 hf=>Ev.cons Z Z Z (AO.qC h40 Z Z Z zg) ?_; refine B1 hf fun x25 h41 hf=>Ev.cons Z Z Z (AO.qC h41 Z Z Z zg) (Ev.cs bC 2 Z ?_); refine B1 hf fun e9 Z9 hf=>Ev.cons Z Z Z (AO.aP Z9 Z Z (aj.aB _) Z iQ (aj.aD _) Z zg) (Ev.cs bC 3 Z ?_); refine B1 hf fun x26 h43 hf=>Ev.cons Z Z Z (AO.call Z _ Z Z I8 (je _ _ h43 zg)) ?_; refine BR hf fun x27 h44 hf=>?_; refine Ev.cons Z Z Z (AO.qC h44 Z Z Z zg) (Ev.cs bC 1 Z (Ev.nil ?_)); show AR _ _ _ _ _ _ _ _; cases hf; exact N 0 Z (Y Z h)
 refine V 2 Z (C hf Z (fun h45 hf=>?_) fun h45 hf=>?_)
 ·
  refine V 0 Z (AW.draw 20 mixed (by kernel_rfl) Z ?_); refine Ev.cs bC 2 Z ?_; refine B1 hf fun e10 h46 hf=>Ev.cons Z Z Z (AO.aP h46 Z Z (aj.aB _) Z iQ (aj.aD _) Z zg) (Ev.cs bC 1 Z ?_); refine B1 hf fun x28 h47 hf=>Ev.cons Z Z Z (AO.call Z _ Z Z I8 (je _ _ h47 zg)) ?_; refine B1 hf fun x29 h48 hf=>Ev.cons Z Z Z (AO.qC h48 Z Z Z zg) (Ev.cs bC 2 Z ?_); refine B1 hf fun e11 h49 hf=>Ev.cons Z Z Z (AO.aP h49 Z Z (aj.aB _) Z iQ (aj.aD _) Z zg) (Ev.cs bC 1 Z ?_); refine B1 hf fun x30 h50 hf=>Ev.cons Z Z Z (AO.call Z _ Z Z I8 (je _ _ h50 zg)) ?_; refine B1 hf fun x31 h51 hf=>Ev.cons Z Z Z (AO.qC h51 Z Z Z zg) ?_; refine B1 hf fun x32 h52 hf=>Ev.cons Z Z Z (AO.qC h52 Z Z Z zg) (Ev.cs bC 2 Z ?_); refine B1 hf fun e12 h53 hf=>Ev.cons Z Z Z (AO.aP h53 Z Z (aj.aB _) Z iQ (aj.aD _) Z zg) (Ev.cs bC 1 Z ?_); refine B1 hf fun x33 h54 hf=>Ev.cons Z Z Z (AO.call Z _ Z Z I8 (je _ _ h54 zg)) ?_; refine BR hf fun x34 h55 hf=>?_; refine Ev.cons Z Z Z (AO.qC h55 Z Z Z zg) (Ev.cs bC 1 Z (Ev.nil ?_)); show AR _ _ _ _ _ _ _ _; cases hf; exact N 0 Z (Y Z h)
 refine V 2 Z (C hf Z (fun h56 hf=>?_) fun h56 hf=>?_)
 · refine B1 hf fun x35 h57 hf=>W 1 Z (CL Z (uJ _ h57 ?_)); refine B1 hf fun x36 h58 hf=>AS Z (AO.qC h58 Z Z Z ?_); refine BR hf fun x37 XI hf=>?_; refine AS Z (AO.qC XI Z Z Z ?_); cases hf; exact N 1 Z (Y Z h)
 refine B1 hf fun x38 h60 hf=>W 1 Z (CL Z (uJ _ h60 ?_)); refine B1 hf fun x39 h61 hf=>AS Z (AO.qC h61 Z Z Z ?_); refine BR hf fun x40 h62 hf=>?_; refine AS Z (AO.qC h62 Z Z Z ?_); cases hf; exact N 1 Z (Y Z h)
theorem UZ (gJ) (vo:yH gJ) (dN) (je:Df dN) (gX) (uJ:Br gX) (e1:aj) (Ka:Int) {r0:Str} (hf:Gp gJ dN gX e1 Ka=some r0) (h:Q (.ret (.str r0)) τ):PC 62 [.agg (bE e1),iP Ka] τ Q:=by
 unfold Gp at hf; refine BN 15 [.tmp 4] [0,1] Tryz.func62 Z Z Z Z Z ?_; refine B1 hf fun x1 h1 hf=>W 3 Z (CL Z (R5 _ h1 (J 2 Z (C hf Z (fun h2 hf=>?_) fun h2 hf=>?_))))
 · refine B1 hf fun x2 h3 hf=>W 1 Z (CL Z (vo _ h3 ?_)); refine B1 hf fun x3 h4 hf=>AS Z (AO.qC h4 Z Z Z ?_); refine BR hf fun x4 h5 hf=>?_; refine AS Z (AO.qC h5 Z Z Z ?_); cases hf; exact N 1 Z (Y Z h)
 refine BR hf fun x5 h6 hf=>?_; refine W 1 Z (CL Z (vo _ h6 ?_)); cases hf; exact N 1 Z (Y Z h)
theorem SL (gJ) (vo:yH gJ) (dN) (je:Df dN) (gX) (uJ:Br gX) (e1:aj) {r0:Str} (hf:E9 gJ dN gX e1=some r0) (h:Q (.ret (.str r0)) τ):PC 63 [.agg (bE e1)] τ Q:=by
 unfold E9 at hf; refine BN 36 [.tmp 2] [0] Tryz.func63 Z Z Z Z Z (W 5 Z (AS Z (AO.aO (l:=e1.args) Z Z Z Z iQ Z (aj.aB _) ?_))); refine J 1 Z (AW.row 1 9 (V5 (fun oQ v1 i1=>[(1,.ref (bE e1)),(3,.own v1 (List.map nD oQ)),(8,.list (aj.aM e1.args)),(9,iP (e1.args.length:Int)),(10,iP i1)]) (fun oQ v1 i1=>[.row v1 (List.map nD oQ).length 1 9]) (fun bX oQ v1 i1=>vR dN e1 bX oQ i1=some r0) BIG [] (.slice none 0 0) 0 Z Z hf (fun _ _ _ hz=>bT hz) ?_)); intro bX oQ v1 i1 hf; rw [vR] at hf; refine V 1 Z (C hf Z (fun h1 hf=>?_) fun h1 hf=>?_)
 ·
  refine B1 hf fun e2 h2 hf=>W 1 Z (AS Z (AO.aP h2 Z Z (aj.aB _) Z iQ (aj.aD _) Z (U 1 Z (AS Z (AO.aC Z iO (fun b5=>?_)))))); refine B1 hf fun s1 h3 hf=>Rr 3 [0,0] Z Z (CL Z (je _ _ h3 (J 4 Z (C hf Z (fun h4 hf=>?_) fun h4 hf=>?_))))
  ·
   refine B1 hf fun e3 h5 hf=>W 3 Z (AS Z (AO.aP h5 Z Z Z Z jm Z Z ?_)); refine B1 hf fun x1 h6 hf=>U 1 Z (CL Z (TM _ h6 ?_)); refine B1 hf fun x2 h7 hf=>AS Z (AO.qC h7 Z Z Z ?_); refine B1 hf fun s2 h8 hf=>U 1 Z (AS Z (AO.qC h8 Z Z Z (U 3 Z (AS Z (AO.bq (List.map nD ([s2]:List Str)) Z tH Z Z Z Z ?_))))); refine B1 hf fun LC h9 hf=>AS Z (AO.eZ (i:=1) (l:=oQ) (m:=([s2]:List Str)) h9 Z Z Z Z Z Z Z tH jm Z Z Z (fun _=>Z) (fun _=>Z) (by decide) (fun v2 s3 hs3=>?_)); cases hs3; refine fI 3 Z (AR.drop1 ?_); exact N 0 Z ⟨LC,v2,(cZ (i1 + 1)),Z,Z,Z,hf⟩
  refine W 2 Z (AS Z (AO.bq (List.map nD ([s1]:List Str)) Z tH Z Z Z Z ?_)); refine B1 hf fun LB h10 hf=>AS Z (AO.eZ (i:=1) (l:=oQ) (m:=([s1]:List Str)) h10 Z Z Z Z Z Z Z tH jm Z Z Z (fun _=>Z) (fun _=>Z) (by decide) (fun v3 s4 hs4=>?_)); cases hs4; refine fI 3 Z (AR.drop1 ?_); exact N 0 Z ⟨LB,v3,(cZ (i1 + 1)),Z,Z,Z,hf⟩
 refine BR hf fun x3 h11 hf=>?_; refine W 1 Z (CL Z (Ae _ _ h11 ?_)); cases hf; exact N 1 Z (Y Z h)
theorem Cj :∀ k:Nat,(yH (lS k))∧(Df (pI k))∧(Br (nV k)):=by
 intro k
 induction k with
 | zero=>exact ⟨fun _ _ hz=>by first | cases hz | (unfold lS at hz; cases hz),fun _ _ _ hz=>by first | cases hz | (unfold pI at hz; cases hz),fun _ _ hz=>by first | cases hz | (unfold nV at hz; cases hz)⟩
 | succ k ih=>exact ⟨fun j3 aZ hz τ Q hq=>Pj (lS k) ih.1 (pI k) ih.2.1 (nV k) ih.2.2 j3 hz hq,fun j3 oM aZ hz τ Q hq=>UZ (lS k) ih.1 (pI k) ih.2.1 (nV k) ih.2.2 j3 oM hz hq,fun j3 aZ hz τ Q hq=>SL (lS k) ih.1 (pI k) ih.2.1 (nV k) ih.2.2 j3 hz hq⟩
theorem PS (j3:aj) {aZ:Str} (hf:KV j3=some aZ) (h:Q (.ret (.str aZ)) τ):PC 36 [.agg (bE j3)] τ Q:=
 ((Cj BIG).1) j3 hf h
theorem ady (j3:aj) (oM:Int) {aZ:Str} (hf:Ya j3 oM=some aZ) (h:Q (.ret (.str aZ)) τ):PC 62 [.agg (bE j3),iP oM] τ Q:=
 ((Cj BIG).2.1) j3 oM hf h
theorem acW (j3:aj) {aZ:Str} (hf:WI j3=some aZ) (h:Q (.ret (.str aZ)) τ):PC 63 [.agg (bE j3)] τ Q:=
 ((Cj BIG).2.2) j3 hf h
end
section
variable [Am]
theorem K6 (e1:aj) {r0:Str} (hf:EG e1=some r0) (h:Q (.ret (.str r0)) τ):PC 18 [.agg (bE e1)] τ Q:=by
 unfold EG at hf; refine BN 8 [.tmp 2] [0] Tryz.func18 Z Z Z Z Z ?_; refine B1 hf fun x1 h1 hf=>W 3 Z (CL Z (sU _ h1 (J 1 Z (C hf Z (fun h2 hf=>?_) fun h2 hf=>?_))))
 · cases hf; exact M 1 Z (Y Z h)
 refine BR hf fun x2 h3 hf=>?_; refine W 1 Z (CL Z (PS _ h3 ?_)); cases hf; exact N 1 Z (Y Z h)
end
section
variable [Am]
def MF :Go.Shelf.Ren:=⟨fun | 155=>190 | 154=>225 | 138=>259 | 165=>143 | 143=>260 | 166=>141 | 197=>227 | 169=>142 | 195=>287 | 218=>288 | 240=>166 | 241=>167 | 219=>289 | 260=>261 | 276=>200 | 277=>201 | 217=>316 | 225=>293 | 224=>292 | 267=>317 | 266=>334 | 314=>335 | n=>n,fun | 9=>9 | 3=>3 | 4=>4 | 72=>167 | 0=>0 | 76=>171 | 105=>248 | 21=>21 | 5=>5 | 70=>165 | 20=>20 | 37=>73 | 75=>169 | 127=>196 | 164=>227 | 46=>278 | 119=>296 | 139=>299 | 138=>298 | 146=>332 | 51=>276 | 80=>173 | n=>n,fun | 1=>0 | 3=>2 | 4=>3 | n=>n⟩
theorem abe :Go.Proofs.Lays.n155 Tryz.prog MF:=by repeat' first | (intros; kernel_rfl) | constructor | decide
theorem abd :Go.Proofs.Builder.Extra Tryz.prog MF:=by repeat' first | (intros; kernel_rfl) | constructor | decide
theorem JB (s1:Str) (adh:Str) (new1:Str) {r0:Str} (hf:strings_ReplaceAll s1 adh new1=some r0) (h:Q (.ret (.str r0)) τ):PC 190 [.str s1,.str adh,.str new1] τ Q:=by
 unfold strings_ReplaceAll at hf; split at hf
 case isFalse=>cases hf
 rename_i hg; obtain ⟨hg,rfl,rfl⟩:=hg; rw [←QF (by decide)] at hf; cases hf; refine AC.none ?_; exact AC.replaceAll Am.hD abe abd hg (by decide) Am.max (by rw [Lib.count_one]; have:=List.count_le_length (a:=(36:UInt8)) (l:=s1); simp only [List.length_cons,List.length_nil]; omega) h
end
section
variable [Am]
theorem TN (ps1:List aY) {r0:Str} (hf:Jk ps1=some r0) (h:Q (.ret (.str r0)) τ):PC 154 [.list (List.map aY.cells ps1)] τ Q:=by
 unfold Jk at hf; refine BN 26 [.tmp 2] [0] Tryz.func154 Z Z Z Z Z (W 1 Z (AS Z (AO.Dr (eu:=5) Z Ns Z (fun b3=>(U 1 Z (AS Z (AO.aO (l:=ps1) Z Z Z Z DZ Z Z (J 1 Z (V5 (fun x1 b1 v1=>[(3,pP b3),(6,.list (List.map aY.cells ps1)),(7,iP (ps1.length:Int)),(8,iP x1)]) (fun x1 b1 v1=>[.K_ b3 v1 167 5 b1]) (fun bX x1 b1 v1=>vV ps1 bX x1 b1=some r0) BIG 0 [] (.slice none 0 0) Z Z hf (fun _ _ _ hz=>bT hz) ?_))))))))); intro bX x1 b1 v1 hf; rw [vV] at hf; refine V 1 Z (C hf Z (fun h1 hf=>?_) fun h1 hf=>?_)
 ·
  refine B1 hf fun e1 h2 hf=>W 0 Z (AS Z (AO.aP h2 Z Z Z Z DZ (aY.aD _) Z (U 1 Z (AS Z (AO.aC Z Qc (fun b5=>(Rw 3 [0,0] Z Z (C hf Z (fun h3 hf=>?_) fun h3 hf=>?_))))))))
  · refine B1 hf fun x2 h4 hf=>Wr 2 [0] Z Z (CL Z (K6 _ h4 ?_)); refine B1 hf fun x3 h5 hf=>AS Z (AO.qC h5 Z Z Z ?_); refine B1 hf fun x4 h6 hf=>AS Z (AO.qC h6 Z Z Z ?_); refine B1 hf fun b2 h7 hf=>CL Z (AC.one 1 Z (jH h7 (fun v2=>⟨_,Z,(fI 2 Z (AR.drop1 ?_))⟩))); exact N 0 Z ⟨(cZ (x1 + 1)),b2,v2,Z,Z,Z,hf⟩
  refine B1 hf fun x5 h8 hf=>Wr 2 [0] Z Z (CL Z (JB _ _ _ h8 ?_)); refine B1 hf fun b3 h9 hf=>CL Z (AC.one 1 Z (jH h9 (fun v3=>⟨_,Z,(fI 2 Z (AR.drop1 ?_))⟩))); exact N 0 Z ⟨(cZ (x1 + 1)),b3,v3,Z,Z,Z,hf⟩
 refine W 0 Z (CL Z (AC.Kc 0 Z (w_ ?_))); cases hf; exact N 1 Z (Y Z h)
end
section
variable [Am]
theorem Kw (go:aj→List aA→Option (aj × Bool × Int)) (dL:List aA) (D:PV) (goH:∀ (a0:aj) (r0:aj) (r1:Bool) (r2:Int),go a0 dL=some (r0,r1,r2)→∀ {τ:List bf} {Q:dx→List bf→Prop},Q (.ret (.tuple [.agg (bE r0),.bool r1,iP r2])) τ→PC 151 ([.agg (bE a0)] ++ [.ref [.list (List.map aA.cells dL)],D]) τ Q) (e1:aj) {r0:aj} {r1:Bool} {r2:Int} (hf:rP go e1 dL=some (r0,r1,r2)) (h:Q (.ret (.tuple [.agg (bE r0),.bool r1,iP r2])) τ):PC 151 [.agg (bE e1),.ref [.list (List.map aA.cells dL)],.ref [.fn 151 [.ref [.list (List.map aA.cells dL)],D]]] τ Q:=by
 unfold rP at hf; refine AC.none (AC.jX 93 [.cell 4 45,.tmp 5,.tmp 6] [0,1,2] Tryz.func151 Z Z Z Z Z (AW.sr (AR.step Z Z Z (AO.Dc Z Z Z ?_)))); refine AR.step Z Z Z (AO.aC Z iO (fun b4=>(cs 2 Z (AR.nil [1,2,3,4] Z (AW.seq ?_))))); refine AW.sr (cs 3 Z ?_); obtain ⟨v1,is1,h1,hf⟩:=bP hf; refine AR.step Z Z Z (AO.call Z _ Z Z abr (yG _ _ h1 (cs 3 Z (AR.step Z Z Z (AO.aC Z gY (fun b7=>(AR.bF Z Z (AO.bR (i:=0) Z Z Z mK Z Z Z Z Z ?_)))))))); refine cs 1 Z (AR.nil [1,2,3,4,7,8] Z (AW.sr (cs 2 Z ?_))); refine AR.and 4 23 27 [1,2,3,4,7] (x:=(e1.kind == 2)) Z Z (fun h2=>?_) (fun h2=>?_) ?_
 · refine AR.is 23 h2 Z (cs 4 Z (AR.nil [27,1,2,3,4,7] Z ?_)); exact ⟨Z,Z,Z,Z⟩
 · refine AR.is 23 h2 Z (cs 4 Z (AR.nil [27,1,2,3,4,7] Z ?_)); exact ⟨Z,Z,Z,Z⟩
 refine AR.nil [1,2,3,4,7,27] Z (AW.cond Z (fun h3=>?_) (fun h3=>?_))
 · replace hf:=jF h3 hf; refine B1 hf fun x1 hx1 hf=>AW.sr (AR.step Z Z Z (AO.aR (i:=0) Z Z Z mK Z Z (AR.step Z Z Z (AO.call Z _ Z Z Y0 (wH _ hx1 (AR.step Z Z Z (AO.build Z iO E5 Z ?_))))))); refine AR.bF Z Z (AO.bR (i:=1) Z Z Z gM Z Z Z Z Z (cs 2 Z (AR.nil [4,5,6] Z (AW.ret ?_)))); cases hf; exact ⟨rfl,_,⟨_,_,rfl,⟨_,_,1,_,_,rfl,rfl,gM,rfl⟩,_,_,rfl,rfl,_,_,rfl,rfl,rfl⟩,[],List.nil_sublist _,h⟩
 replace hf:=iw h3 hf; refine AW.skip (AW.GR 0 Z (AW.seq (AW.sr ?_))); refine cs 4 Z (AR.or 5 34 39 [1,2,3,4] (x:=(e1.value.kind != 3)) Z Z (fun h4=>?_) (fun h4=>?_) ?_)
 · refine AR.is 34 h4 Z (cs 5 Z (AR.nil [39,1,2,3,4] Z ?_)); exact ⟨Z,Z,Z,Z⟩
 · refine AR.is 34 h4 Z (cs 5 Z (AR.nil [39,1,2,3,4] Z ?_)); exact ⟨Z,Z,Z,Z⟩
 refine AR.nil [1,2,3,4,39] Z (AW.cond Z (fun h5=>?_) (fun h5=>?_))
 · replace hf:=jF h5 hf; refine AW.sr (AR.step Z Z Z (AO.build Z iO E5 Z (AR.bF Z Z (AO.bR (i:=0) Z Z Z gM Z Z Z Z Z (cs 2 Z ?_))))); refine AR.nil [4,5,6] Z (AW.ret ?_); cases hf; exact ⟨rfl,_,⟨_,_,rfl,⟨_,_,0,_,_,rfl,rfl,gM,rfl⟩,_,_,rfl,rfl,_,_,rfl,rfl,rfl⟩,[],List.nil_sublist _,h⟩
 replace hf:=iw h5 hf; refine AW.skip (AW.sr (cs 3 Z ?_)); obtain ⟨ps1,x2,Er,h6,hf⟩:=kg hf; refine AR.step Z Z Z (AO.call Z _ Z Z aeQ (AC.none (EN _ h6 (fun v9=>(cs 7 Z (AR.nil [1,2,4,9,11] Z (AW.seq ?_))))))); refine AW.sr (cs 3 Z ?_); refine B1 hf fun b1 h7 hf=>AR.fK 5 51 56 false [1,2,4,9] b1 Z Z (fun h8=>?_) (fun h8=>?_) ?_
 · replace h7:=iw h8 h7; refine B1 h7 fun u1 h9 h7=>AR.is 51 h8 rfl (cs 2 rfl (AR.go rfl rfl rfl rfl rfl rfl (AO.call rfl _ rfl rfl aby (AC.frame (σ:=[_]) (τ:=[_]) (AC.borrow (l:=List.map aY.cells ps1) (List.flatMap_def ..).symm (fun x hx=>by obtain ⟨s,_,rfl⟩:=List.mem_map.1 hx; exact aY.bG s) (by rw [List.length_map]) (PL _ _ h9 zg) ?_))))); cases h7; refine cs 2 Z (AR.nil [56,1,2,4,9] Z ?_); exact ⟨Z,Z,Z,Z⟩
 · replace h7:=jF h8 h7; cases h7; refine AR.is 51 h8 Z (cs 5 Z (AR.nil [56,1,2,4,9] Z ?_)); exact ⟨Z,Z,Z,Z⟩
 refine AR.nil [1,2,4,9,56] Z (AW.cond Z (fun h10=>?_) (fun h10=>?_))
 · replace hf:=jF h10 hf; refine AW.sr (AR.step Z Z Z (AO.build Z iO E5 Z (AR.bF Z Z (AO.bR (i:=1) Z Z Z gM Z Z Z Z Z (cs 2 Z ?_))))); refine AR.nil [4,5,6] Z (AW.ret ?_); cases hf; exact ⟨rfl,_,⟨_,_,rfl,⟨_,_,1,_,_,rfl,rfl,gM,rfl⟩,_,_,rfl,rfl,_,_,rfl,rfl,rfl⟩,[],List.nil_sublist _,h⟩
 replace hf:=iw h10 hf; obtain ⟨ps2,Vw,hl,hf⟩:=bP hf; refine AW.skip (AW.seq (AW.sr (cs 1 Z ?_))); refine AR.step Z Z Z (AO.MU (i:=0) Z Z Z Z DZ Z Z (cs 1 Z (AR.nil [1,2,4,9,58,59,60] Z (AW.block ?_)))); refine AW.settle [1,2,4,9,58,59,60] Z ?_; refine AW.NU (fun (l:List aY) (i:Int)=>[(1,.ref [.list (List.map aA.cells dL)]),(2,.ref [.fn 151 [.ref [.list (List.map aA.cells dL)],D]]),(4,pP b4),(9,.val v9),(58,.val v9),(59,iP (ps1.length:Int)),(60,iP i)]) (fun (l:List aY) (i:Int)=>[.buf v9 ps1.length 12 189 (l.flatMap aY.cells),.box b4 [iP 0,.str ([]:Str),iP 0,.bool false,iP 0,.str ([]:Str),.own (.slice none 0 0) [],.own (.slice none 0 0) [],.own (.slice none 0 0) [],.own (.slice none 0 0) []]]) (fun kk l i=>l.length=ps1.length∧n_ go dL (ps1.length:Int) kk l i=some (ps2,Vw)) BIG ps1 0 Z Z ⟨Z,hl⟩ (fun _ _ hz=>bT hz.2) ?_; rintro kk l i ⟨hlen,hg⟩; rw [n_] at hg; refine AW.sr (cs 1 Z (AR.nil [1,2,4,9,58,59,60,61] Z (AW.seq ?_))); refine AW.cond Z (fun h11=>?_) (fun h11=>?_)
 ·
  replace hg:=jF h11 hg; obtain ⟨p1,hp1,hg⟩:=Ku hg; obtain ⟨hi0,hp1⟩:=vX hp1; obtain ⟨hlt,hp1⟩:=List.getElem?_eq_some_iff.1 hp1; refine AW.skip (AW.seq (AW.block (AW.sr ?_))); refine cs 1 Z (AR.step Z Z Z (AO.mI (i:=0) (sz:=12) Z Z Z Z DZ hi0 (by omega) ?_)); refine AR.step Z Z Z (AO.FN (i:=0) Z Z Z aa2 (by rw [sO aY.bG]; omega) (by rw [AJ aY.bG l i.toNat hlt,hp1,aY.aD]; rfl) ?_); refine AR.step Z Z Z (AO.aC Z Qc (fun b13=>(cs 1 Z (AR.bF Z Z (AO.bR (i:=0) Z Z Z aa2 Z Z Z Z Z (AR.nil [1,2,4,9,12,13,58,59,60] Z ?_)))))); refine AW.seq (AW.sr (cs 1 Z (AR.step Z Z Z (AO.aR (i:=0) Z Z Z ags Z Z ?_)))); refine cs 1 Z (AR.nil [1,2,4,9,12,13,58,59,60,67] Z (AW.cond Z (fun h12=>?_) (fun h12=>?_)))
  · replace hg:=jF h12 hg; refine AW.exit (AW.GR 0 Z (AW.region (cs 2 Z ?_))); refine AR.nil [1,2,4,9,58,59,60] Z ?_; exact ⟨_,_,Z,Z,Z,hlen,hg⟩
  replace hg:=iw h12 hg; obtain ⟨x3,aiE,hx3,hg⟩:=bP hg; refine AW.skip (AW.sr (cs 3 Z (AR.step Z Z Z (AO.aR (i:=0) Z Z Z gM Z Z ?_)))); refine cs 1 Z (AR.step Z Z Z (AO.call Z _ Z Z X9 (yR _ (fun z0=>go z0 dL) 151 [.ref [.list (List.map aA.cells dL)],D] abz goH hx3 (cs 3 Z (AR.step Z Z Z (AO.mI (i:=1) (sz:=12) Z Z Z Z DZ hi0 (by omega) ?_)))))); refine cs 1 Z (AR.bF Z Z (AO.Dz (i:=1) (cs':=(l.set i.toNat (aY.mk p1.text p1.is_ x3)).flatMap aY.cells) Z Z Z gM Z Z Z (Nat.succ_pos _) (by rw [sO aY.bG]; simp only [List.length_cons,List.length_nil]; omega) (Rs aY.bG l _ 2 hlt _ (aY.mk p1.text p1.is_ x3) (by rw [hp1,aY.aD,aY.aD]; rfl) (by simp only [List.length_cons,List.length_nil]; omega)) Z ?_)); refine cs 1 Z (AR.nil [1,2,4,9,11,58,59,60] Z (AW.GR 0 Z (AW.sr ?_))); refine cs 2 Z (AR.nil [1,2,4,9,11,58,59,60,80] Z (AW.cond Z (fun lZ=>?_) (fun lZ=>?_)))
  · cases jF lZ hg; replace hf:=jF lZ hf; refine AW.sr (AR.step Z Z Z (AO.build Z iO E5 Z (cs 1 Z (AR.bF Z Z (AO.bR (i:=1) Z Z Z gM Z Z Z Z Z ?_))))); refine cs 2 Z (AR.nil [4,5,6] Z (AW.ret ?_)); cases hf; exact ⟨rfl,_,⟨_,_,rfl,⟨_,_,1,_,_,rfl,rfl,gM,rfl⟩,_,_,rfl,rfl,_,_,rfl,rfl,rfl⟩,[],List.nil_sublist _,h⟩
  replace hg:=iw lZ hg; refine AW.skip (AW.region (cs 2 Z (AR.nil [1,2,4,9,58,59,60] Z ?_))); exact ⟨_,_,Z,Z,Z,(List.length_set ..).trans hlen,hg⟩
 cases iw h11 hg; obtain ⟨s1,hs1,hf⟩:=Ku (show av _ _=_ from hf); refine AW.exit (AW.freeze 9 0 (List.map aY.cells ps2) rfl rfl (List.flatMap_def ..).symm (fun x hx=>by obtain ⟨s,_,rfl⟩:=List.mem_map.1 hx; exact aY.bG s) (by rw [List.length_map,hlen]) ?_); refine AW.settle [4,9] Z (AW.drop1 (AW.sr (cs 1 Z ?_))); refine AR.step Z Z Z (AO.call Z _ Z Z aeP (TN _ hs1 (cs 1 Z (AR.nil [4,14] Z (AW.seq ?_))))); refine AW.sr (cs 1 Z (AR.step Z Z Z (AO.cK Z Z Z Z dR Z (cs 1 Z ?_)))); refine AR.nil [4,14,88] Z (AW.cond Z (fun nu=>?_) (fun nu=>?_))
 · replace hf:=jF nu hf; refine AW.sr (AR.step Z Z Z (AO.build Z iO E5 Z (AR.bF Z Z (AO.bR (i:=0) Z Z Z gM Z Z Z Z Z (cs 2 Z ?_))))); refine AR.nil [4,5,6] Z (AW.ret ?_); cases hf; exact ⟨rfl,_,⟨_,_,rfl,⟨_,_,0,_,_,rfl,rfl,gM,rfl⟩,_,_,rfl,rfl,_,_,rfl,rfl,rfl⟩,[],List.nil_sublist _,h⟩
 replace hf:=iw nu hf; refine AW.skip (AW.sr (cs 1 Z (AR.step Z Z Z (AO.build Z gY U8 Z ?_)))); refine AR.step Z Z Z (AO.build Z iO E5 Z (AR.bF Z Z (AO.bR (i:=0) Z Z Z gM Z Z Z Z Z (cs 2 Z (AR.nil [4,5,6] Z ?_))))); refine AW.ret ?_; cases hf; exact ⟨rfl,_,⟨_,_,rfl,⟨_,_,0,_,_,rfl,rfl,gM,rfl⟩,_,_,rfl,rfl,_,_,rfl,rfl,rfl⟩,[],List.nil_sublist _,h⟩
theorem Cv (dL:List aA) (b:Nat):∀ (k:Nat) (a0:aj) (r0:aj) (r1:Bool) (r2:Int),iN k a0 dL=some (r0,r1,r2)→∀ {τ:List bf} {Q:dx→List bf→Prop},Q (.ret (.tuple [.agg (bE r0),.bool r1,iP r2])) τ→PC 151 ([.agg (bE a0)] ++ [.ref [.list (List.map aA.cells dL)],SS 151 (.ref [.list (List.map aA.cells dL)]) b k]) τ Q
 | 0,_,_,_,_,hz,_,_,_=>bT hz
 | k + 1,x,_,_,_,hz,_,_,hq=>Kw (iN k) dL (SS 151 (.ref [.list (List.map aA.cells dL)]) b k) (Cv dL b k) x hz hq
end
section
variable [Am]
theorem Nb (e1:aj) (dL:List aA) {r0:aj} {r1:Int} (hf:oN e1 dL=some (r0,r1)) (h:Q (.ret (.tuple [.agg (bE r0),iP r1])) τ):PC 121 [.agg (bE e1),.list (List.map aA.cells dL)] τ Q:=by
 unfold oN at hf; refine AC.none (AC.jX 13 [.cell 4 45,.tmp 5] [0,1] Tryz.func121 Z Z Z Z Z (AW.sr (AR.step Z Z Z (AO.Dc Z Z Z ?_)))); refine AR.step Z Z Z (AO.Dc Z Z Z (AR.step Z Z Z (AO.aC Z iO (fun b4=>(cs 1 Z (AR.nil [2,3,4] Z ?_)))))); refine AW.sr (AR.step Z Z Z (AO.aC Z aef (fun b6=>(AR.nil [2,3,4,6] Z (AW.sr ?_))))); refine cs 1 Z (AR.bF Z Z (AO.bR (i:=0) Z Z Z ael Z Z Z Z Z (AR.nil [2,4,6] Z (AW.tie 6 0 (BIG + 1) Z Z Z ?_)))); rw [ZB]; refine AW.settle [2,4,6] Z (AW.sr (cs 2 Z (AR.step Z Z Z (AO.call Z _ Z Z X9 (yR _ (fun z0=>iN BIG z0 dL) 151 [.ref [.list (List.map aA.cells dL)],SS 151 (.ref [.list (List.map aA.cells dL)]) b6 BIG] abz (Cv dL b6 BIG) hf ?_))))); refine cs 2 Z (AR.bF Z Z (AO.bR (i:=0) Z Z Z gM Z Z Z Z Z (cs 1 Z (AR.nil [4,5] Z ?_)))); refine AW.ret ?_; exact ⟨rfl,_,⟨_,_,rfl,⟨_,_,0,_,_,rfl,rfl,gM,rfl⟩,_,_,rfl,rfl,rfl⟩,[],List.nil_sublist _,h⟩
end
section
variable [Am]
theorem Nk (p1:aY) (ou:List aA) {r0:Str} {r1:Int} (hf:Ck p1 ou=some (r0,r1)) (h:Q (.ret (.tuple [.str r0,iP r1])) τ):PC 155 [.agg (Dm p1),.list (List.map aA.cells ou)] τ Q:=by
 unfold Ck at hf; refine BN 27 [.tmp 4,.tmp 5] [0,1] Tryz.func155 Z Z Z Z Z (V 6 Z (C hf Z (fun h1 hf=>?_) fun h1 hf=>?_))
 · cases hf; exact M 4 Z (Y Z h)
 obtain ⟨x1,wF,h2,hf⟩:=bP hf; refine W 3 Z (CL Z (JO _ _ h2 (U 3 Z (AS Z (AO.aC Z gY (fun b6=>(Rw 4 [0] Z Z (C hf Z (fun h3 hf=>?_) fun h3 hf=>?_))))))))
 · cases hf; exact M 3 Z (Y Z h)
 replace hf:=(Kt _).trans hf; obtain ⟨x2,x3,h4,hf⟩:=bP hf; refine Wr 1 [0] Z Z (CL Z (Na _ h4 ?_)); cases hf; exact N 4 Z (Y Z h)
end
section
variable [Am]
theorem PX (s1:Str) (ou:List aA) {r0:Str} {r1:Int} (hf:xU s1 ou=some (r0,r1)) (h:Q (.ret (.tuple [.str r0,iP r1])) τ):PC 122 [.str s1,.list (List.map aA.cells ou)] τ Q:=by
 unfold xU at hf; refine BN 50 [.tmp 4,.tmp 5] [0,1] Tryz.func122 Z Z Z Z Z ?_; obtain ⟨ps1,x1,wF,h1,hf⟩:=kg hf; refine W 3 Z (CL Z (JM _ h1 (J 9 Z (C hf Z (fun h2 hf=>?_) fun h2 hf=>?_))))
 · cases hf; exact M 3 Z (Y Z h)
 refine B1 hf fun Jt h3 hf=>W 1 Z (CL Z (G7 _ h3 (J 3 Z (C hf Z (fun h4 hf=>?_) fun h4 hf=>?_))))
 · cases hf; exact M 3 Z (Y Z h)
 refine W 0 Z (AS Z (AO.Dr (eu:=5) Z Ns Z (fun b10=>(U 1 Z (AS Z (AO.aO (l:=ps1) Z Z Z Z DZ Z Z (J 1 Z (V5 (fun x2 b1 v1=>[(1,.list (List.map aA.cells ou)),(10,pP b10),(29,.list (List.map aY.cells ps1)),(30,iP (ps1.length:Int)),(31,iP x2)]) (fun x2 b1 v1=>[.K_ b10 v1 167 5 b1]) (fun bX x2 b1 v1=>wR ou ps1 bX x2 b1=some (r0,r1)) BIG 0 [] (.slice none 0 0) Z Z hf (fun _ _ _ hz=>bT hz) ?_)))))))); intro bX x2 b1 v1 hf; rw [wR] at hf; refine V 1 Z (C hf Z (fun h5 hf=>?_) fun h5 hf=>?_)
 ·
  refine B1 hf fun e1 h6 hf=>W 0 Z (AS Z (AO.aP h6 Z Z Z Z DZ (aY.aD _) Z (U 1 Z (AS Z (AO.aC Z Qc (fun b12=>?_)))))); obtain ⟨t1,acf,h7,hf⟩:=bP hf; refine Rr 3 [0,0] Z Z (CL Z (Nk _ _ h7 (J 7 Z (C hf Z (fun h8 hf=>?_) fun h8 hf=>?_))))
  · cases hf; exact M 3 Z (Y Z h)
  refine B1 hf fun b2 h9 hf=>W 1 Z (CL Z (AC.one 1 Z (jH h9 (fun v2=>⟨_,Z,(fI 2 Z (AR.drop1 ?_))⟩)))); exact N 0 Z ⟨(cZ (x2 + 1)),b2,v2,Z,Z,Z,hf⟩
 refine W 0 Z (CL Z (AC.one 0 Z (UJ ⟨_,Z,(J 1 Z (C hf Z (fun h10 hf=>?_) fun h10 hf=>?_))⟩)))
 · cases hf; exact M 2 Z (Y Z h)
 refine W 0 Z (CL Z (AC.Kc 0 Z (w_ ?_))); cases hf; exact N 2 Z (Y Z h)
end
section
variable [Am]
abbrev Ai (dU:au→List aA→Option (au × Int)):Prop:=∀ (oz:au) (jS:List aA) {aZ:au} {rW:Int},dU oz jS=some (aZ,rW)→∀ {τ:List bf} {Q:dx→List bf→Prop} (h:Q (.ret (.tuple [.agg (dY aZ),iP rW])) τ),PC 90 [.agg (dY oz),.list (List.map aA.cells jS)] τ Q
theorem F7 (dU) (Fg:Ai dU) (b1:au) (dL:List aA) {r0:au} {r1:Int} (hf:mM dU b1 dL=some (r0,r1)) (h:Q (.ret (.tuple [.agg (dY r0),iP r1])) τ):PC 90 [.agg (dY b1),.list (List.map aA.cells dL)] τ Q:=by
 unfold mM at hf; refine BN 87 [.cell 4 38,.tmp 5] [0,1] Tryz.func90 Z Z Z Z Z (W 1 Z (AS Z (AO.aC Z nP (fun b4=>(U 6 Z (AS Z (AO.aC Z nP (fun b6=>(Rr 3 [0] Z Z (AS Z (AO.aO (l:=b1.attrs) Z Z Z Z o9 Z Z ?_))))))))))); refine J 1 Z (AW.row 11 48 (AW.row 4 38 (LK4 (fun x1 bn v1 v2=>[(1,.list (List.map aA.cells dL)),(2,.ref (dY b1)),(4,pP b4),(6,pP b6),(22,.list (List.map aK.cells b1.attrs)),(23,iP (b1.attrs.length:Int)),(24,iP x1)]) (fun x1 bn v1 v2=>[.row v2 (au.aM bn.blocks).length 4 38,.row v1 (List.map aK.cells bn.attrs).length 11 48,.box b6 [.str bn.kind,.str bn.name,.own v1 (List.map aK.cells bn.attrs),.own v2 (au.aM bn.blocks)],.box b4 [.str ([]:Str),.str ([]:Str),.own (.slice none 0 0) [],.own (.slice none 0 0) []]]) (fun bX x1 bn v1 v2=>jA dU b1 dL bX x1 bn=some (r0,r1)) BIG 0 (au.mk b1.kind b1.name [] []) (.slice none 0 0) (.slice none 0 0) Z Z hf (fun _ _ _ _ hz=>bT hz) ?_))); intro bX x1 bn v1 v2 hf; rw [jA] at hf; refine V 1 Z (C hf Z (fun h1 hf=>?_) fun h1 hf=>?_)
 ·
  refine B1 hf fun e1 h2 hf=>W 0 Z (AS Z (AO.aP h2 Z Z Z Z o9 (aK.aD _) Z (U 1 Z (AS Z (AO.aC Z OA (fun b8=>?_)))))); obtain ⟨x2,e2,h3,hf⟩:=bP hf; refine Rr 4 [0,0] Z Z (CL Z (Nb _ _ h3 (U 3 Z (AS Z (AO.aC Z iO (fun b9=>(Rw 4 [0] Z Z (C hf Z (fun h4 hf=>?_) fun h4 hf=>?_))))))))
  · cases hf; exact Wx 4 [5] Z Z (ZC [5] Z Z h)
  refine Wr 6 [4,1,0] rfl rfl (AS rfl (AO.bq (List.map aK.cells [(aK.mk e1.name x2)]) rfl xq rfl rfl rfl (by first | rfl | simp only [List.map,aK.aD]) ?_)); refine B1 hf fun x3 h5 hf=>AS Z (AO.eZ (i:=3) (l:=bn.attrs) (m:=[(aK.mk e1.name x2)]) h5 Z Z Z Z Z Z Z xq o9 Z Z Z (aK.bG) (aK.cells_one) (by decide) (fun v3 s1 hs1=>?_)); cases hs1; refine Rn 4 [4] Z Z (AR.drop1 (AR.drop1 ?_)); exact N 0 Z ⟨(cZ (x1 + 1)),(au.mk bn.kind bn.name x3 bn.blocks),v3,v2,Z,Z,Z,hf⟩
 refine W 2 Z (AS Z (AO.aO (l:=b1.blocks) Z Z Z Z jG Z (au.aB _) ?_)); refine J 1 Z (LK4 (fun x4 kY v4 v5=>[(1,.list (List.map aA.cells dL)),(4,pP b4),(6,pP b6),(50,.list (au.aM b1.blocks)),(51,iP (b1.blocks.length:Int)),(52,iP x4)]) (fun x4 kY v4 v5=>[.row v5 (au.aM kY.blocks).length 4 38,.row v4 (List.map aK.cells kY.attrs).length 11 48,.box b6 [.str kY.kind,.str kY.name,.own v4 (List.map aK.cells kY.attrs),.own v5 (au.aM kY.blocks)],.box b4 [.str ([]:Str),.str ([]:Str),.own (.slice none 0 0) [],.own (.slice none 0 0) []]]) (fun Jj x4 kY v4 v5=>l7 dU b1 dL Jj x4 kY=some (r0,r1)) BIG 0 bn v1 v2 Z Z hf (fun _ _ _ _ hz=>bT hz) ?_); intro Jj x4 kY v4 v5 hf; rw [l7] at hf; refine V 1 Z (C hf Z (fun h6 hf=>?_) fun h6 hf=>?_)
 ·
  refine B1 hf fun e3 h7 hf=>W 0 Z (AS Z (AO.aP h7 Z Z (au.aB _) Z jG (au.aD _) Z (U 1 Z (AS Z (AO.aC Z nP (fun b12=>?_)))))); obtain ⟨name1,e4,h8,hf⟩:=bP hf; refine Rr 4 [0,0] Z Z (CL Z (PX _ _ h8 (J 7 Z (C hf Z (fun h9 hf=>?_) fun h9 hf=>?_))))
  · cases hf; exact Wx 4 [4] Z Z (ZC [4] Z Z h)
  obtain ⟨x5,e5,h10,hf⟩:=bP hf; refine Wr 5 [0,0] Z Z (CL Z (Fg _ _ h10 (U 3 Z (AS Z (AO.aC Z nP (fun b15=>(Rw 4 [0] Z Z (C hf Z (fun h11 hf=>?_) fun h11 hf=>?_))))))))
  · cases hf; exact Wx 4 [5] Z Z (ZC [5] Z Z h)
  refine Wr 3 [4,0] rfl rfl (AS rfl (AO.bq (au.aM [x5]) rfl tJ rfl rfl rfl (by first | rfl | simp only [List.map,au.aD,au.aM]) ?_)); refine B1 hf fun x6 h12 hf=>AS Z (AO.eZ (i:=2) (l:=kY.blocks) (m:=[x5]) h12 Z Z Z Z Z Z Z tJ jG (au.aB _) (au.aB _) (au.aB _).symm (au.bG) (au.cells_one) (by decide) (fun v6 s2 hs2=>?_)); cases hs2; refine Rn 4 [4] Z Z (AR.drop1 (AR.drop1 ?_))
  exact N 0 Z ⟨(cZ (x4 + 1)),(au.mk kY.kind kY.name kY.attrs x6),v4,v6,Z,Z,Z,hf⟩
 cases hf; exact Wx 3 [2,3] Z Z (ZC [3] Z Z h)
theorem Gv :∀ k:Nat,(Ai (iY k)):=by
 intro k
 induction k with
 | zero=>exact fun _ _ _ _ hz=>by first | cases hz | (unfold iY at hz; cases hz)
 | succ k ih=>exact fun oz jS aZ rW hz τ Q hq=>F7 (iY k) ih oz jS hz hq
theorem GY (oz:au) (jS:List aA) {aZ:au} {rW:Int} (hf:qN oz jS=some (aZ,rW)) (h:Q (.ret (.tuple [.agg (dY aZ),iP rW])) τ):PC 90 [.agg (dY oz),.list (List.map aA.cells jS)] τ Q:=
 ((Gv BIG)) oz jS hf h
end
end Go.Proofs.YtcohpegjnpcgcaaGreatDoor
