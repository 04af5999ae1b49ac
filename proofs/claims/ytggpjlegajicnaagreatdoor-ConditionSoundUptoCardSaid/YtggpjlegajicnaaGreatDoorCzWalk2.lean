/- Proved here: each function does what its functional text says (part 2). -/
import Derived.Test.YtggpjlegajicnaaGreatDoorCzWalk1
set_option linter.unusedVariables false
set_option linter.unusedSimpArgs false
set_option linter.unusedSectionVars false
namespace Go.Proofs.YtggpjlegajicnaaGreatDoor
open Go Go.Abs Go.Ft
set_option maxRecDepth 20000
attribute [local irreducible] AO AR AW AC
variable [iw]
variable {τ : List bg} {Q : eD → List bg → Prop}
@[reducible] def Mc :fJ aD ah→eD
 | .ok r=>.ret (.agg (aL r))
 | .bad e=>.panic (.iface 111 (.agg [iP e.code]))
theorem EK (op1:Str) (a1:ah) (b1:ah) {rX:fJ aD ah} (hf:pO op1 a1 b1=some rX) (h:Q (Mc rX) τ):PC 186 [.str op1,.agg (aL a1),.agg (aL b1)] τ Q:=by
 unfold pO at hf; refine BN 46 [.cell 6 31] [0,1,2] Tryz.func186 Z Z Z Z Z (W 2 Z (AS Z (AO.aF Z gV (fun b6=>?_)))); refine B1 hf fun x1 h1 hf=>U 2 Z (CL Z (rF _ _ _ h1 ?_)); rcases bD hf with ⟨e1,h2,hf⟩ | ⟨_,h2,hf⟩
 · refine CL Z (bB _ _ h2 ?_); cases hf; exact ⟨Z,[],List.nil_sublist _,h⟩
 refine CL Z (bB _ _ h2 (J 3 Z (C hf Z (fun h3 hf=>?_) fun h3 hf=>?_)))
 ·
  rcases bD hf with ⟨e2,h4,hf⟩ | ⟨x2,h4,hf⟩
  · refine W 5 Z (CL Z (ow _ h4 ?_)); cases hf; exact ⟨Z,[],List.nil_sublist _,h⟩
  refine W 5 Z (CL Z (ow _ h4 ?_)); cases hf; exact Rx 1 [0] Z Z (ZC [0] Z Z h)
 refine V 2 Z (C hf Z (fun h5 hf=>?_) fun h5 hf=>?_)
 ·
  refine B1 hf fun x3 h6 hf=>W 4 Z (CL Z (adC _ _ h6 ?_)); rcases bD hf with ⟨e3,h7,hf⟩ | ⟨x4,h7,hf⟩
  · refine CL Z (ow _ h7 ?_); cases hf; exact ⟨Z,[],List.nil_sublist _,h⟩
  refine CL Z (ow _ h7 ?_); cases hf; exact Rx 1 [0] Z Z (ZC [0] Z Z h)
 rcases bD hf with ⟨e4,h8,hf⟩ | ⟨_,h8,hf⟩
 · refine W 3 Z (CL Z (bB _ _ h8 ?_)); cases hf; exact ⟨Z,[],List.nil_sublist _,h⟩
 refine W 3 Z (CL Z (bB _ _ h8 (J 2 Z (C hf Z (fun h9 hf=>?_) fun h9 hf=>?_))))
 ·
  refine B1 hf fun _ h10 hf=>W 4 Z (AS Z (AO.amD h10 Z Z Z ?_)); rcases bD hf with ⟨e5,h11,hf⟩ | ⟨x5,h11,hf⟩
  · refine CL Z (ow _ h11 ?_); cases hf; exact ⟨Z,[],List.nil_sublist _,h⟩
  refine CL Z (ow _ h11 ?_); cases hf; exact Rx 1 [0] Z Z (ZC [0] Z Z h)
 refine B1 hf fun _ h12 hf=>W 4 Z (AS Z (AO.amC h12 Z Z Z ?_)); refine B1 hf fun x6 kQ hf=>CL Z (uK _ kQ ?_); cases hf; exact Rx 1 [0] Z Z (ZC [0] Z Z h)
theorem R6 (v1:ah) {r0:Int} (hf:yj v1=some r0) (h:Q (.ret (iP r0)) τ):PC 277 [.agg (aL v1)] τ Q:=by
 unfold yj at hf; refine AC.none (AC.KE 30 [.tmp 2] [0] Tryz.func277 Z Z Z Z Z ?_); obtain ⟨b1,s1,h1,hf⟩:=bK hf; cases hf; refine AW.sr (AR.step Z Z Z (AO.Kj Z Z Z (cs 1 Z (AR.nil [1] Z ?_)))); refine AW.sr (AR.step Z Z Z (AO.aF Z akV (fun b3=>(AR.bQ Z Z (AO.cO (i:=0) Z Z Z ES Z Z Z Z Z (AR.nil [1,3] Z ?_)))))); refine AW.seq (AW.sr (cs 1 Z (AR.step Z Z Z (AO.call Z _ Z Z aeT (KM _ _ ?_))))); refine AR.nil [3,7] Z (AW.block (AW.rangeFunc (β:=Int) (X:=Int × ah) Z aeP (fun x=>[iP x.1,.agg (aL x.2)]) (fun _=>Z) (by decide) (fun s x=>gL s x.1 x.2) (fun s=>[.box b3 [iP s]]) (fun _=>none) (s0:=0) (s1:=r0) Z Z ?_ ?_ ?_))
 · intro l T' hy; refine Hz l T' gL (fun s1 bE v1 b s2 hh=>hy s1 (bE,v1) b s2 hh) 0 v1 1 h1 ⟨⟨_,Z⟩,Z⟩
 ·
  rintro l s ⟨bE,x1⟩ b s2 hh; unfold gL at hh; refine ⟨Z,?_⟩; cases hh; refine zC.seq (zC.region Z (cs 1 Z (AR.nil [3,4,9] Z ?_))); refine zC.region Z (AR.step Z Z Z (AO.aF Z gV (fun b5=>(AR.bQ Z Z (AO.cO (i:=0) Z Z Z o8 Z Z Z Z Z (AR.nil [3,4,5] Z ?_)))))); refine ⟨Z,(zC.block (zC.seq (zC.seq ?_)))⟩; refine zC.region Z (cs 1 Z (AR.step Z Z Z (AO.aP (i:=0) Z Z Z ES Z Z (cs 2 Z ?_)))); refine AR.or 4 13 17 [3,4,5] (x:=(x1.kind == 5)) Z Z (fun h2=>?_) (fun h2=>?_) ?_
  · refine AR.is 13 h2 Z (cs 1 Z (AR.go Z Z Z Z Z Z (AO.aP (i:=0) Z Z Z ES Z Z (cs 2 Z ?_)))); refine AR.nil [17,3,4,5] Z ?_; exact ⟨Z,Z,Z,Z⟩
  · refine AR.is 13 h2 Z (cs 4 Z (AR.nil [17,3,4,5] Z ?_)); exact ⟨Z,Z,Z,Z⟩
  refine cs 1 Z (AR.and 5 18 23 [3,4,5] (x:=((x1.aI.length:Int) == 0)) Z Z (fun h2=>?_) (fun h2=>?_) ?_)
  · refine AR.is 18 h2 Z (cs 1 Z (AR.go Z Z Z Z Z Z (AO.aP (i:=0) Z Z Z KA Z Z (AR.go Z Z Z Z Z Z (AO.aM (l:=x1.aI) Z Z Z Z fB Z (ah.aA _) ?_))))); refine cs 2 Z (AR.nil [23,3,4,5] Z ?_); exact ⟨Z,Z,Z,Z⟩
  · refine AR.is 18 h2 Z (cs 5 Z (AR.nil [23,3,4,5] Z ?_)); exact ⟨Z,Z,Z,Z⟩
  refine AR.nil [3,4,23] Z (zC.cond Z (fun h3=>?_) (fun h3=>?_))
  · rw [show rV bE x1=bW (bE + 1) from if_pos h3]; refine zC.region Z (cs 3 Z (AR.nil [3,4] Z (zC.region Z ?_))); refine AR.step Z Z Z (AO.aP (i:=1) Z Z Z ES Z Z (cs 1 Z (AR.step Z Z Z (AO.max2 Z Z Z Z Z (AR.bQ Z Z (AO.cO (i:=1) Z Z Z ES Z Z Z Z Z ?_)))))); refine AR.nil [] Z ?_; exact ⟨Z,.cons _ (List.Sublist.refl _),Z,Z⟩
  rw [show rV bE x1=bE from if_neg (by rw [h3]; simp)]; refine zC.skip (zC.region Z (AR.step Z Z Z (AO.aP (i:=1) Z Z Z ES Z Z (cs 1 Z ?_)))); refine AR.step Z Z Z (AO.max2 Z Z Z Z Z (AR.bQ Z Z (AO.cO (i:=1) Z Z Z ES Z Z Z Z Z (AR.nil [] Z ?_)))); exact ⟨Z,.cons _ (List.Sublist.refl _),Z,Z⟩
 intro D; show AW _ _ _ _ _ _ _; refine AW.sr (AR.step Z Z Z (AO.aP (i:=0) Z Z Z ES Z Z (cs 1 Z (AR.nil [2] Z ?_)))); refine AW.ret ?_; exact ⟨D,[_],Z,Z,_,⟨_,_,Z,Z,Z⟩,[],List.nil_sublist _,h⟩
theorem PI (y1:aB) (c1:aB) {r0:Bool} (hf:mE y1 c1=some r0) (h:Q (.ret (.bool r0)) τ):PC 279 [.agg (Et y1),.ref (Et c1)] τ Q:=by
 unfold mE at hf; refine BN 9 [.tmp 3] [0,1] Tryz.func279 Z Z Z Z Z ?_; cases hf; exact M 8 Z (Y Z h)
theorem vW (s1:List aB) (f1:aB→Option Bool) (Wm:FuncId) (f1C:List PV) (f1P:aV Tryz.prog Wm=true) (f1H:∀ a0 b0,f1 a0=some b0→∀ {τ:List bg} {Q:eD→List bg→Prop},Q (.ret (.bool b0)) τ→PC Wm ([.agg (Et a0)] ++ f1C) τ Q) {r0:Int} (hf:iG s1 f1=some r0) (h:Q (.ret (iP r0)) τ):PC 307 [.list (List.map aB.cells s1),.fn Wm f1C] τ Q:=by
 unfold iG at hf; refine BN 19 [.tmp 4] [0,1] Tryz.func307 Z Z Z Z Z (W 2 Z (AS Z (AO.aM (l:=s1) Z Z Z Z nA Z Z (J 1 Z (E_ (fun i1=>[(0,.list (List.map aB.cells s1)),(1,.fn Wm f1C),(7,iP (s1.length:Int)),(8,iP i1)]) (fun i1=>[]) (fun bP i1=>fH s1 f1 bP i1=some r0) BIG 0 Z Z hf (fun _ hz=>bG hz) ?_))))); intro bP i1 hf; rw [fH] at hf; refine V 1 Z (C hf Z (fun h1 hf=>?_) fun h1 hf=>?_)
 ·
  refine B1 hf fun e1 h2 hf=>W 5 Z (AS Z (AO.aJ h2 Z Z Z Z nA (aB.aC _) Z ?_)); refine B1 hf fun x1 h3 hf=>U 1 Z (AS Z (AO.call Z _ Z Z f1P (f1H _ _ h3 (J 0 Z (C hf Z (fun h4 hf=>?_) fun h4 hf=>?_)))))
  · cases hf; exact M 2 Z (Y Z h)
  exact M 2 Z ⟨(bW (i1 + 1)),Z,Z,Z,hf⟩
 cases hf; exact M 1 Z (Y Z h)
theorem tJ (s1:List aB) (f1:aB→Option Bool) (Wm:FuncId) (f1C:List PV) (f1P:aV Tryz.prog Wm=true) (f1H:∀ a0 b0,f1 a0=some b0→∀ {τ:List bg} {Q:eD→List bg→Prop},Q (.ret (.bool b0)) τ→PC Wm ([.agg (Et a0)] ++ f1C) τ Q) {r0:Bool} (hf:fI s1 f1=some r0) (h:Q (.ret (.bool r0)) τ):PC 278 [.list (List.map aB.cells s1),.fn Wm f1C] τ Q:=by
 unfold fI at hf; refine BN 9 [.tmp 4] [0,1] Tryz.func278 Z Z Z Z Z ?_; refine B1 hf fun x1 h1 hf=>W 3 Z (CL Z (vW _ f1 Wm f1C f1P @f1H h1 ?_)); cases hf; exact N 2 Z (Y Z h)
theorem TI (bU:List aB) (i1:Int) {r0:Int} (hf:AJ bU i1=some r0) (h:Q (.ret (iP r0)) τ):PC 244 [.list (List.map aB.cells bU),iP i1] τ Q:=by
 unfold AJ at hf; refine BN 36 [.tmp 4] [0,1] Tryz.func244 Z Z Z Z Z ?_; refine B1 hf fun e1 h1 hf=>W 3 Z (AS Z (AO.aJ h1 Z Z Z Z nA (aB.aC _) Z (U 1 Z (AS Z (AO.aF Z L9 (fun b5=>(Rr 3 [0,0] Z Z (AS Z (AO.cB Z Z Z Z d9 Z (U 2 Z (AR.or 5 15 20 [0,1,5] (x:=(decide (64 < (e1.name.length:Int)))) Z Z (fun h2=>?_) (fun h2=>?_) ?_)))))))))))
 · refine Is 15 h2 Z (U 1 Z (GO Z (AO.aP (i:=0) Z Z Z Xw Z Z (GO Z (AO.cB Z Z Z Z d9 Z ?_))))); exact dY 2 Z (En [20,0,1,5] Z)
 · refine Is 15 h2 Z ?_; exact dY 5 Z (En [20,0,1,5] Z)
 refine J 0 Z (C hf Z (fun h3 hf=>?_) fun h3 hf=>?_)
 · cases hf; exact M 1 Z (Y Z h)
 refine B1 hf fun e2 h4 hf=>Wr 2 [0] Z Z (CL Z (qD _ h4 (J 3 Z (C hf Z (fun h5 hf=>?_) fun h5 hf=>?_))))
 · cases hf; exact M 2 Z (Y Z h)
 refine B1 hf fun x1 h6 hf=>Wr 2 [0] Z Z (CL Z (R6 _ h6 (J 1 Z (C hf Z (fun h7 hf=>?_) fun h7 hf=>?_))))
 · cases hf; exact M 1 Z (Y Z h)
 refine B1 hf fun x2 h8 hf=>W 2 Z (AS Z (AO.ag9 h8 Z nA Z Z Z (aB.dL) Z ⟨_,Z⟩ (AR.abh 5 0 Z Z Z Z ?_))); refine B1 hf fun x3 h9 hf=>U 1 Z (CL Z (tJ _ (fun z0=>mE z0 e1) 279 [.ref (Et e1)] aji (fun _ _ hz=>PI _ _ hz) h9 (J 0 Z (C hf Z (fun h10 hf=>?_) fun h10 hf=>?_))))
 · cases hf; exact M 1 Z (Y Z h)
 cases hf; exact M 1 Z (Y Z h)
theorem Nq (s1:List aB) {r0:List aB} (hf:eZ s1=some r0) (h:Q (.ret (.list (List.map aB.cells r0))) τ):PC 245 [.list (List.map aB.cells s1)] τ Q:=by
 unfold eZ at hf; refine BN 8 [.tmp 2] [0] Tryz.func245 Z Z Z Z Z (W 0 Z (AS Z (AO.kI Z Z (U 1 Z (AS Z (AO.Co Z Z ah_ (fun b hb=>(J 0 Z (AW.cond Z (fun h1=>?_) (fun h1=>?_))))))))))
 · obtain rfl:s1=[]:=List.map_eq_nil_iff.1 (hb h1); obtain ⟨_,rfl⟩:=Gi hf; refine W 0 Z (AS Z (AO.kI Z Z ?_)); exact N 0 rfl ⟨rfl,_,⟨_,_,rfl,rfl,rfl⟩,_,List.Sublist.refl _,h⟩
 refine W 0 Z (AS Z (AO.nK [] Z yx Z Z Z Z Z (fun v1=>(U 1 Z (AS Z (AO.iC (i:=0) (l:=[]) (m:=s1) hf Z Z Z Z Z Z Z yx nA Z Z Z (aB.dL) (aB.cells_one) (by decide) (fun v2 s2 hs2=>?_))))))); cases hs2; exact N 1 Z (Y Z h)
theorem vX (s1:List aB) {r0:List aB} (hf:eZ s1=some r0) {Q:eD→List bg→Prop} (h:∀ v,Q (.ret (.val v)) [.buf v r0.length 7 51 (r0.flatMap aB.cells)]):PC 245 [.list (List.map aB.cells s1)] [] Q:=by
 unfold eZ at hf; obtain ⟨hl,e0⟩:=Gi hf; rw [List.nil_append] at e0; subst e0; simp only [List.length_nil,Nat.zero_add] at hl; have hlen:∀ x:aB,(aB.cells x).length=7:=fun _=>Z; have hone:∀ x:aB,(aB.cells x).all PV.one=true:=fun _=>Z; refine AC.vB 8 [.tmp 2] [0] Tryz.func245 Z Z Z Z Z (AW.sr (AR.step Z Z Z (AO.kI Z Z (AR.nil [0] Z ?_)))); refine AW.seq (AW.sr (cs 1 Z (AR.step Z Z Z (AO.Co Z Z ah_ (fun b hb=>?_))))); refine AR.nil [0,4] Z (AW.cond Z (fun h1=>?_) (fun h1=>?_))
 · obtain rfl:r0=[]:=List.map_eq_nil_iff.1 (hb h1); refine AW.sr (AR.step Z Z Z (AO.abx Z Z (AR.nil [2] Z (AW.ame 7 51 ?_)))); refine AW.ret ?_; exact ⟨rfl,_,⟨_,_,rfl,rfl,rfl⟩,_,List.Sublist.refl _,h _⟩
 refine AW.skip (AW.sr (AR.step Z Z Z (AO.nK [] Z yx Z Z Z Z Z (fun v1=>(cs 1 Z ?_))))); refine AR.step Z Z Z (AO.SB (i:=0) (l2:=List.map aB.cells r0) Z Z Z Z Z Z Z yx nA (fun y hy=>?_) (fun y hy=>?_) ?_ ?_ (fun v2 s1 hs1=>?_))
 · obtain ⟨s,_,rfl⟩:=List.mem_map.1 hy; exact hlen s
 · obtain ⟨s,_,rfl⟩:=List.mem_map.1 hy; exact hone s
 · rw [List.length_map]; unfold xX at hl; unfold maxLen; omega
 · rw [List.length_map]; unfold xX at hl; omega
 cases hs1; refine cs 1 Z (AR.nil [2] Z (AW.ret ?_)); have hv:=h v2; rw [List.flatMap_def,show r0.length=(List.map aB.cells r0).length from (List.length_map _).symm] at hv; exact ⟨rfl,_,⟨_,_,rfl,rfl,rfl⟩,_,List.Sublist.refl _,hv⟩
theorem TJ (a1:aB) (b1:aB) {r0:Int} (hf:OM a1 b1=some r0) {τ:List bg} {Q:eD→List bg→Prop} (h:Q (.ret (iP r0)) τ):PC 247 [.agg (Et a1),.agg (Et b1)] τ Q:=by
 unfold OM at hf; refine BN 10 [.tmp 4] [0,1] Tryz.func247 Z Z Z Z Z ?_; refine BR hf fun x1 h1 hf=>?_; refine W 7 Z (CL Z (BP _ _ h1 ?_)); cases hf; exact N 1 Z (Y Z h)
def II :Go.Shelf.Ren:=⟨fun | 6=>246 | 15=>281 | 14=>280 | 28=>316 | 29=>317 | 20=>308 | 21=>309 | 22=>310 | 23=>311 | 24=>312 | 25=>313 | 26=>314 | 27=>315 | 46=>342 | 47=>343 | 48=>344 | 49=>345 | 50=>346 | 57=>364 | n=>n,fun | 22=>23 | 24=>51 | 25=>223 | 3=>3 | 39=>247 | 0=>0 | 53=>268 | 55=>237 | 4=>4 | 46=>262 | 45=>261 | 50=>198 | 5=>5 | 9=>9 | 66=>286 | 70=>290 | 76=>310 | 77=>311 | n=>n,fun | n=>n⟩
theorem NP :Go.Proofs.SlLaysF0.n6 Tryz.prog II:={
 mixed:=by kernel_rfl
 f6:=⟨Tryz.f246.name,by decide,Tryz.func246.trans (congrArg some (by kernel_rfl))⟩
 f14:=⟨Tryz.f280.name,by decide,Tryz.func280.trans (congrArg some (by kernel_rfl))⟩
 f15:=Tryz.func281.trans (congrArg some (by kernel_rfl))
 f20:=⟨Tryz.f308.name,by decide,Tryz.func308.trans (congrArg some (by kernel_rfl))⟩
 f21:=⟨Tryz.f309.name,by decide,Tryz.func309.trans (congrArg some (by kernel_rfl))⟩
 f22:=⟨Tryz.f310.name,by decide,Tryz.func310.trans (congrArg some (by kernel_rfl))⟩
 f23:=⟨Tryz.f311.name,by decide,Tryz.func311.trans (congrArg some (by kernel_rfl))⟩
 f24:=⟨Tryz.f312.name,by decide,Tryz.func312.trans (congrArg some (by kernel_rfl))⟩
 f25:=⟨Tryz.f313.name,by decide,Tryz.func313.trans (congrArg some (by kernel_rfl))⟩
 f26:=⟨Tryz.f314.name,by decide,Tryz.func314.trans (congrArg some (by kernel_rfl))⟩
 f27:=⟨Tryz.f315.name,by decide,Tryz.func315.trans (congrArg some (by kernel_rfl))⟩
 f28:=Tryz.func316.trans (congrArg some (by kernel_rfl))
 f29:=Tryz.func317.trans (congrArg some (by kernel_rfl))
 f46:=⟨Tryz.f342.name,by decide,Tryz.func342.trans (congrArg some (by kernel_rfl))⟩
 f47:=Tryz.func343.trans (congrArg some (by kernel_rfl))
 f48:=Tryz.func344.trans (congrArg some (by kernel_rfl))
 f49:=⟨Tryz.f345.name,by decide,Tryz.func345.trans (congrArg some (by kernel_rfl))⟩
 f50:=⟨Tryz.f346.name,by decide,Tryz.func346.trans (congrArg some (by kernel_rfl))⟩
 f57:=⟨Tryz.f364.name,by decide,Tryz.func364.trans (congrArg some (by kernel_rfl))⟩
 t0:=Tryz.underlying0
 a0:=Tryz.isAgg0
 z0:=Tryz.sizeOf0
 v0:=Tryz.zeroValue0
 t3:=Tryz.underlying3
 a3:=Tryz.isAgg3
 z3:=Tryz.sizeOf3
 v3:=Tryz.zeroValue3
 t4:=Tryz.underlying4
 a4:=Tryz.isAgg4
 z4:=Tryz.sizeOf4
 v4:=Tryz.zeroValue4
 t5:=Tryz.underlying5
 a5:=Tryz.isAgg5
 z5:=Tryz.sizeOf5
 v5:=Tryz.zeroValue5
 t9:=Tryz.underlying9
 a9:=Tryz.isAgg9
 z9:=Tryz.sizeOf9
 v9:=Tryz.zeroValue9
 t22:=Tryz.underlying23
 a22:=Tryz.isAgg23
 z22:=Tryz.sizeOf23
 v22:=Tryz.zeroValue23
 t25:=Tryz.underlying223
 a25:=Tryz.isAgg223
 z25:=Tryz.sizeOf223
 v25:=Tryz.zeroValue223
 t39:=Tryz.underlying247
 a39:=Tryz.isAgg247
 z39:=Tryz.sizeOf247
 v39:=Tryz.zeroValue247
 t45:=Tryz.underlying261
 a45:=Tryz.isAgg261
 z45:=Tryz.sizeOf261
 v45:=Tryz.zeroValue261
 t46:=Tryz.underlying262
 a46:=Tryz.isAgg262
 z46:=Tryz.sizeOf262
 v46:=Tryz.zeroValue262
 t50:=Tryz.underlying198
 a50:=Tryz.isAgg198
 z50:=Tryz.sizeOf198
 v50:=Tryz.zeroValue198
 t53:=Tryz.underlying268
 a53:=Tryz.isAgg268
 z53:=Tryz.sizeOf268
 v53:=Tryz.zeroValue268
 t55:=Tryz.underlying237
 a55:=Tryz.isAgg237
 z55:=Tryz.sizeOf237
 v55:=Tryz.zeroValue237
 t66:=Tryz.underlying286
 a66:=Tryz.isAgg286
 z66:=Tryz.sizeOf286
 v66:=Tryz.zeroValue286
 t70:=Tryz.underlying290
 a70:=Tryz.isAgg290
 z70:=Tryz.sizeOf290
 v70:=Tryz.zeroValue290
 t76:=Tryz.underlying310
 a76:=Tryz.isAgg310
 z76:=Tryz.sizeOf310
 v76:=Tryz.zeroValue310
 t77:=Tryz.underlying311
 a77:=Tryz.isAgg311
 z77:=Tryz.sizeOf311
 v77:=Tryz.zeroValue311}
theorem LK (s1:List aB) {r0:List aB} (hf:Uu (fun x=>x.name) s1=some r0) {v:Value} {e:TypeId} {Q:eD→List bg→Prop} (h:Q (.ret (.tuple [])) [.buf v (List.map aB.cells r0).length 7 e (r0.flatMap aB.cells)]):
  PC 246 [.val v,.fn 247 []] [.buf v s1.length 7 e (s1.flatMap aB.cells)] Q:=by
 unfold Uu at hf; split at hf
 case isFalse=>cases hf
 rename_i hg; obtain ⟨h1,h2,h3⟩:=hg; cases hf; rw [List.length_map] at h
 exact AC.acB NP aB.cells (k:=7) (by decide) (fun _=>Z) (fun _=>Z) amj akW ajo (cf:=fun a b=>gu a.name b.name)
  (fun a b ha hb=>@TJ Yv a b _ (N7 (h2 a ha) (h2 b hb)) _ _ Z) (fun x hx=>by rw [Yb] at hx; omega) (fun x y z a b=>MQ a b) (fun x y z a b=>KF a b)
  (by
   rw [List.Nodup,List.pairwise_map] at h3; refine h3.imp fun {x y} hne=>?_; rcases Int.lt_trichotomy (gu x.name y.name) 0 with h | h | h
   ·
    exact .inl h
   ·
    exact absurd (Es h) hne
   ·
    right; rw [zX]; omega)
  (by unfold xX at h1; omega) h
theorem YS (bU:List aB) {r0:ah} {r1:Int} (hf:CB bU=some (r0,r1)) (h:Q (.ret (.tuple [.agg (aL r0),iP r1])) τ):PC 187 [.list (List.map aB.cells bU)] τ Q:=by
 unfold CB at hf; refine BN 55 [.cell 2 31,.tmp 3] [0] Tryz.func187 Z Z Z Z Z (W 0 Z (AS Z (AO.aF Z gV (fun b2=>(U 2 Z (AS Z (AO.aM (l:=bU) Z Z Z Z nA Z Z (J 1 Z (C hf Z (fun h1 hf=>?_) fun h1 hf=>?_)))))))))
 · cases hf; exact Wx 3 [0] Z Z (ZC [0] Z Z h)
 refine W 1 Z (AS Z (AO.aM (l:=bU) Z Z Z Z nA Z Z (J 1 Z (E_ (fun i1=>[(0,.list (List.map aB.cells bU)),(2,pP b2),(15,iP (bU.length:Int)),(16,iP i1)]) (fun i1=>[.box b2 [iP 0,.bool false,iP 0,.str ([]:Str),.own (.slice none 0 0) [],.own (.slice none 0 0) []]]) (fun bP i1=>uY bU bP i1=some (r0,r1)) BIG 0 Z Z hf (fun _ hz=>bG hz) ?_)))); intro bP i1 hf; rw [uY] at hf; refine V 1 Z (C hf Z (fun h2 hf=>?_) fun h2 hf=>?_)
 ·
  refine B1 hf fun e1 h3 hf=>W 4 Z (CL Z (TI _ _ h3 (J 3 Z (C hf Z (fun h4 hf=>?_) fun h4 hf=>?_))))
  · cases hf; exact Wx 4 [0] Z Z (ZC [0] Z Z h)
  exact M 2 Z ⟨(bW (i1 + 1)),Z,Z,Z,hf⟩
 refine B1 hf fun PZ h5 hf=>W 1 Z (CL Z (AC.none (vX _ h5 (fun v1=>?_)))); refine B1 hf fun sU h6 hf=>U 2 rfl (CL rfl (AC.one 0 rfl (LK _ h6 ⟨_,rfl,(AR.freeze 6 0 (List.map aB.cells sU) rfl rfl rfl (fun x hx=>by obtain ⟨s,_,rfl⟩:=List.mem_map.1 hx; rfl) Z ?_)⟩))); refine U 1 Z (AS Z (AO.aF Z gV (fun b7=>(Rr 2 [0] Z Z (AS Z (AO.aM (l:=sU) Z Z Z Z nA Z Z ?_)))))); refine J 1 Z (AW.row 6 31 (AW.row 1 9 (LK4 (fun x1 bM v2 v3=>[(2,pP b2),(7,pP b7),(32,.own v1 (List.map aB.cells sU)),(33,iP (sU.length:Int)),(34,iP x1)]) (fun x1 bM v2 v3=>[.row v3 (List.map wR bM.keys).length 1 9,.row v2 (ah.aT bM.aI).length 6 31,.box b7 [iP bM.kind,.bool bM.dM,iP bM.dO,.str bM.bO,.own v2 (ah.aT bM.aI),.own v3 (List.map wR bM.keys)],.row v1 (List.map aB.cells sU).length 7 51,.box b2 [iP 0,.bool false,iP 0,.str ([]:Str),.own (.slice none 0 0) [],.own (.slice none 0 0) []]]) (fun Ke x1 bM v2 v3=>uX sU Ke x1 bM=some (r0,r1)) BIG 0 (ah.mk 5 false 0 ([]:Str) [] []) (.slice none 0 0) (.slice none 0 0) Z Z hf (fun _ _ _ _ hz=>bG hz) ?_))); intro Ke x1 bM v2 v3 hf; rw [uX] at hf; refine V 1 Z (C hf Z (fun h7 hf=>?_) fun h7 hf=>?_)
 ·
  refine B1 hf fun e2 h8 hf=>W 0 Z (AS Z (AO.aJ h8 Z Z Z Z nA (aB.aC _) Z (U 1 Z (AS Z (AO.aF Z L9 (fun b9=>(Rr 5 [0,3,0] Z Z (AS Z (AO.aX (List.map wR ([e2.name]:List Str)) Z Eb Z Z Z Z ?_))))))))); refine B1 hf fun x2 h9 hf=>AS Z (AO.iC (i:=1) (l:=bM.keys) (m:=([e2.name]:List Str)) h9 Z Z Z Z Z Z Z Eb fE Z Z Z (fun _=>Z) (fun _=>Z) (by decide) (fun v4 s1 hs1=>?_)); cases hs1; refine Rw 2 [3] Z Z (AW.draw 6 mixed (by kernel_rfl) Z ?_); refine Ev.cs aH 1 Z (Ev.cons Z Z Z (AO.aP (i:=3) Z Z Z KA Z Z zg) (Ev.cs aH 1 Z (Ev.cons Z Z Z (AO.aP (i:=0) Z Z Z o8 Z Z zg) ?_))); refine B1 hf fun x3 h10 hf=>Ev.cons rfl rfl rfl (AO.call rfl _ rfl rfl aeO (KN _ h10 ⟨rfl,rfl⟩)) (Ev.cons rfl rfl rfl (AO.aX (ah.aT [x3]) rfl Ec rfl rfl rfl (by first | rfl | simp only [List.map,ah.aC,ah.aT]) ⟨rfl,rfl⟩) ?_); refine Ev.nil ?_; show AR _ _ _ _ _ _ _ _
  refine B1 hf fun x4 h11 hf=>AS Z (AO.iC (i:=2) (l:=bM.aI) (m:=[x3]) h11 Z Z Z Z Z Z Z Ec fB (ah.aA _) (ah.aA _) (ah.aA _).symm (ah.dL) (ah.cells_one) (by decide) (fun v5 s2 hs2=>?_)); cases hs2; refine Rn 4 [3] Z Z (AR.drop1 ?_); exact N 0 Z ⟨(bW (x1 + 1)),(ah.mk bM.kind bM.dM bM.dO bM.bO x4 x2),v5,v4,Z,Z,Z,hf⟩
 cases hf; exact Wx 3 [2,4] Z Z (ZC [4] Z Z h)
section
variable [Hf]
@[reducible] def xY :fJ aD ah→eD
 | .ok r=>.ret (.agg (aL r))
 | .bad e=>.panic (.iface 111 (.agg [iP e.code]))
@[reducible] def xZ :fJ aD ah→eD
 | .ok r=>.ret (.agg (aL r))
 | .bad e=>.panic (.iface 111 (.agg [iP e.code]))
@[reducible] def zH :fJ aD (List ah)→eD
 | .ok r=>.ret (.list (ah.aT r))
 | .bad e=>.panic (.iface 111 (.agg [iP e.code]))
@[reducible] def vS :fJ aD ah→eD
 | .ok r=>.ret (.agg (aL r))
 | .bad e=>.panic (.iface 111 (.agg [iP e.code]))
@[reducible] def tL :fJ aD ah→eD
 | .ok r=>.ret (.agg (aL r))
 | .bad e=>.panic (.iface 111 (.agg [iP e.code]))
abbrev nG (aY:List aB→ak→Option (fJ aD ah)):Prop:=∀ (wK:List aB) (iO:ak) {fG:fJ aD ah},aY wK iO=some fG→∀ {τ:List bg} {Q:eD→List bg→Prop} (h:Q (xY fG) τ),PC 76 [.list (List.map aB.cells wK),.agg (bf iO)] τ Q
abbrev nH (bV:List aB→ak→Option (fJ aD ah)):Prop:=∀ (wK:List aB) (iO:ak) {fG:fJ aD ah},bV wK iO=some fG→∀ {τ:List bg} {Q:eD→List bg→Prop} (h:Q (xZ fG) τ),PC 119 [.list (List.map aB.cells wK),.agg (bf iO)] τ Q
abbrev oI (bT:List aB→List ak→Option (fJ aD (List ah))):Prop:=∀ (wK:List aB) (Pn:List ak) {fG:fJ aD (List ah)},bT wK Pn=some fG→∀ {τ:List bg} {Q:eD→List bg→Prop} (h:Q (zH fG) τ),PC 124 [.list (List.map aB.cells wK),.list (ak.aT Pn)] τ Q
abbrev lH (bN:List aB→ak→Option (fJ aD ah)):Prop:=∀ (wK:List aB) (iO:ak) {fG:fJ aD ah},bN wK iO=some fG→∀ {τ:List bg} {Q:eD→List bg→Prop} (h:Q (vS fG) τ),PC 121 [.list (List.map aB.cells wK),.agg (bf iO)] τ Q
abbrev kL (bJ:List aB→ak→Option (fJ aD ah)):Prop:=∀ (wK:List aB) (iO:ak) {fG:fJ aD ah},bJ wK iO=some fG→∀ {τ:List bg} {Q:eD→List bg→Prop} (h:Q (tL fG) τ),PC 126 [.list (List.map aB.cells wK),.agg (bf iO)] τ Q
theorem Me (aY) (bH:nG aY) (bV) (lD:nH bV) (bT) (gT:oI bT) (bN) (jZ:lH bN) (bJ) (jT:kL bJ) (s1:List aB) (e1:ak) {rX:fJ aD ah} (hf:tu aY bV bT bN bJ s1 e1=some rX) (h:Q (xY rX) τ):PC 76 [.list (List.map aB.cells s1),.agg (bf e1)] τ Q:=by
 unfold tu at hf; refine BN 104 [.cell 4 31] [0,1] Tryz.func76 Z Z Z Z Z (W 1 Z (AS Z (AO.aF Z gV (fun b4=>(J 4 Z (C hf Z (fun h1 hf=>?_) fun h1 hf=>?_))))))
 · cases hf; exact Wx 3 [0] Z Z (ZC [0] Z Z h)
 refine V 2 Z (C hf Z (fun h2 hf=>?_) fun h2 hf=>?_)
 ·
  rcases bD hf with ⟨e2,h3,hf⟩ | ⟨x1,h3,hf⟩
  · refine W 3 Z (CL Z (EH _ _ h3 ?_)); cases hf; exact ⟨Z,[],List.nil_sublist _,h⟩
  refine W 3 Z (CL Z (EH _ _ h3 ?_)); cases hf; exact Rx 1 [0] Z Z (ZC [0] Z Z h)
 refine V 2 Z (C hf Z (fun h4 hf=>?_) fun h4 hf=>?_)
 ·
  refine B1 hf fun e3 h5 hf=>?_; rcases bD hf with ⟨e4,h6,hf⟩ | ⟨x2,h6,hf⟩
  ·
   refine V 0 Z (AW.abX 5 8 mixed (by kernel_rfl) Z Z ?_); refine Ev.cs aH 3 Z (Ev.cons Z Z Z (AO.aJ h5 Z Z (ak.aA _) Z g_ (ak.aC _) Z zg) (Ev.cs aH 1 Z (Ev.nil ?_))); refine ⟨_,_,Z,Z,Z,Z,AO.call Z _ Z Z OW (bH _ _ h6 ?_),?_⟩
   · cases hf; exact ⟨Z,[],List.nil_sublist _,h⟩
   refine Ev.cs aH 2 Z (Ev.nil ?_); trivial
  refine V 0 Z (AW.draw 9 mixed (by kernel_rfl) Z ?_); refine Ev.cs aH 3 Z (Ev.cons Z Z Z (AO.aJ h5 Z Z (ak.aA _) Z g_ (ak.aC _) Z zg) (Ev.cs aH 1 Z (Ev.cons Z Z Z (AO.call Z _ Z Z OW (bH _ _ h6 zg)) ?_))); refine Ev.cs aH 2 Z ?_; refine B1 hf fun x3 h7 hf=>Ev.cons Z Z Z (AO.call Z _ Z Z aeZ (uJ _ h7 zg)) (Ev.nil ?_); show AR _ _ _ _ _ _ _ _; rcases bD hf with ⟨e5,h8,hf⟩ | ⟨x4,h8,hf⟩
  · refine CL Z (Cw _ _ h8 ?_); cases hf; exact ⟨Z,[],List.nil_sublist _,h⟩
  refine CL Z (Cw _ _ h8 ?_); cases hf; exact Rx 1 [0] Z Z (ZC [0] Z Z h)
 refine V 2 Z (C hf Z (fun h9 hf=>?_) fun h9 hf=>?_)
 ·
  refine B1 hf fun e6 h10 hf=>W 3 Z (AS Z (AO.aJ h10 Z Z (ak.aA _) Z g_ (ak.aC _) Z ?_)); rcases bD hf with ⟨e7,h11,hf⟩ | ⟨x5,h11,hf⟩
  · refine U 1 Z (CL Z (bH _ _ h11 ?_)); cases hf; exact ⟨Z,[],List.nil_sublist _,h⟩
  refine U 1 Z (CL Z (bH _ _ h11 (AS Z (AO.aF Z gV (fun b5=>?_))))); refine B1 hf fun e8 h12 hf=>?_; rcases bD hf with ⟨e9,kQ,hf⟩ | ⟨x6,kQ,hf⟩
  ·
   refine Rw 1 [0] Z Z (AW.abX 6 7 mixed (by kernel_rfl) Z Z ?_); refine Ev.cons Z Z Z (AO.aP (i:=0) Z Z Z o8 Z Z zg) (Ev.cs aH 3 Z (Ev.cons Z Z Z (AO.aJ h12 Z Z (ak.aA _) Z g_ (ak.aC _) Z zg) (Ev.cs aH 1 Z ?_))); refine Ev.nil (⟨_,_,Z,Z,Z,Z,AO.call Z _ Z Z OW (bH _ _ kQ ?_),?_⟩)
   · cases hf; exact ⟨Z,[],List.nil_sublist _,h⟩
   refine Ev.nil ?_; trivial
  refine Rw 1 [0] Z Z (AW.draw 7 mixed (by kernel_rfl) Z ?_); refine Ev.cons Z Z Z (AO.aP (i:=0) Z Z Z o8 Z Z zg) (Ev.cs aH 3 Z (Ev.cons Z Z Z (AO.aJ h12 Z Z (ak.aA _) Z g_ (ak.aC _) Z zg) (Ev.cs aH 1 Z ?_))); refine Ev.cons Z Z Z (AO.call Z _ Z Z OW (bH _ _ kQ zg)) (Ev.nil ?_); show AR _ _ _ _ _ _ _ _; rcases bD hf with ⟨e10,lQ,hf⟩ | ⟨x7,lQ,hf⟩
  · refine CL Z (JQ _ _ lQ ?_); cases hf; exact ⟨Z,[],List.nil_sublist _,h⟩
  refine CL Z (JQ _ _ lQ ?_); cases hf; exact Rx 1 [1] Z Z (ZC [1] Z Z h)
 refine V 2 Z (C hf Z (fun ng hf=>?_) fun ng hf=>?_)
 ·
  rcases bD hf with ⟨e11,h16,hf⟩ | ⟨x8,h16,hf⟩
  · refine W 2 Z (CL Z (lD _ _ h16 ?_)); cases hf; exact ⟨Z,[],List.nil_sublist _,h⟩
  refine W 2 Z (CL Z (lD _ _ h16 ?_)); cases hf; exact Rx 1 [0] Z Z (ZC [0] Z Z h)
 refine V 2 Z (C hf Z (fun vG hf=>?_) fun vG hf=>?_)
 ·
  refine B1 hf fun e12 h18 hf=>?_; rcases bD hf with ⟨e13,h19,hf⟩ | ⟨x9,h19,hf⟩
  ·
   refine V 0 Z (AW.abX 7 8 mixed (by kernel_rfl) Z Z ?_); refine Ev.cs aH 5 Z (Ev.cons Z Z Z (AO.aJ h18 Z Z (ak.aA _) Z g_ (ak.aC _) Z zg) (Ev.cs aH 1 Z (Ev.nil ?_))); refine ⟨_,_,Z,Z,Z,Z,AO.call Z _ Z Z OW (bH _ _ h19 ?_),?_⟩
   · cases hf; exact ⟨Z,[],List.nil_sublist _,h⟩
   refine Ev.nil ?_; trivial
  refine V 0 Z (AW.draw 8 mixed (by kernel_rfl) Z ?_); refine Ev.cs aH 5 Z (Ev.cons Z Z Z (AO.aJ h18 Z Z (ak.aA _) Z g_ (ak.aC _) Z zg) (Ev.cs aH 1 Z (Ev.cons Z Z Z (AO.call Z _ Z Z OW (bH _ _ h19 zg)) ?_))); refine Ev.nil ?_; show AR _ _ _ _ _ _ _ _; rcases bD hf with ⟨e14,h20,hf⟩ | ⟨BH,h20,hf⟩
  · refine CL Z (Ns _ _ h20 ?_); cases hf; exact ⟨Z,[],List.nil_sublist _,h⟩
  refine CL Z (Ns _ _ h20 ?_); cases hf; exact Rx 1 [0] Z Z (ZC [0] Z Z h)
 refine V 2 Z (C hf Z (fun h21 hf=>?_) fun h21 hf=>?_)
 ·
  rcases bD hf with ⟨e15,h22,hf⟩ | ⟨Hl,h22,hf⟩
  · refine W 2 Z (CL Z (jZ _ _ h22 ?_)); cases hf; exact ⟨Z,[],List.nil_sublist _,h⟩
  refine W 2 Z (CL Z (jZ _ _ h22 ?_)); cases hf; exact Rx 1 [0] Z Z (ZC [0] Z Z h)
 refine V 2 Z (C hf Z (fun h23 hf=>?_) fun h23 hf=>?_)
 ·
  refine B1 hf fun e16 Fb hf=>W 3 Z (AS Z (AO.aJ Fb Z Z (ak.aA _) Z g_ (ak.aC _) Z ?_)); rcases bD hf with ⟨e17,DV,hf⟩ | ⟨Kn,DV,hf⟩
  · refine U 1 Z (CL Z (bH _ _ DV ?_)); cases hf; exact ⟨Z,[],List.nil_sublist _,h⟩
  refine U 1 Z (CL Z (bH _ _ DV ?_)); rcases bD hf with ⟨e18,Ij,hf⟩ | ⟨KZ,Ij,hf⟩
  · refine CL Z (qo _ Ij ?_); cases hf; exact ⟨Z,[],List.nil_sublist _,h⟩
  refine CL Z (qo _ Ij (J 0 Z (C hf Z (fun h27 hf=>?_) fun h27 hf=>?_)))
  ·
   refine B1 hf fun e19 Qb hf=>W 3 Z (AS Z (AO.aJ Qb Z Z (ak.aA _) Z g_ (ak.aC _) Z ?_)); rcases bD hf with ⟨e20,Ll,hf⟩ | ⟨SQ,Ll,hf⟩
   · refine U 1 Z (CL Z (bH _ _ Ll ?_)); cases hf; exact ⟨Z,[],List.nil_sublist _,h⟩
   refine U 1 Z (CL Z (bH _ _ Ll ?_)); cases hf; exact Rx 1 [0] Z Z (ZC [0] Z Z h)
  refine B1 hf fun e21 Lj hf=>W 3 Z (AS Z (AO.aJ Lj Z Z (ak.aA _) Z g_ (ak.aC _) Z ?_)); rcases bD hf with ⟨e22,h31,hf⟩ | ⟨OI,h31,hf⟩
  · refine U 1 Z (CL Z (bH _ _ h31 ?_)); cases hf; exact ⟨Z,[],List.nil_sublist _,h⟩
  refine U 1 Z (CL Z (bH _ _ h31 ?_)); cases hf; exact Rx 1 [0] Z Z (ZC [0] Z Z h)
 refine V 2 Z (C hf Z (fun h32 hf=>?_) fun h32 hf=>?_)
 ·
  rcases bD hf with ⟨e23,Io,hf⟩ | ⟨Iu,Io,hf⟩
  · refine W 3 Z (CL Z (gT _ _ Io ?_)); cases hf; exact ⟨Z,[],List.nil_sublist _,h⟩
  refine W 3 Z (CL Z (gT _ _ Io ?_)); refine B1 hf fun SN Xa hf=>CL Z (Nt _ Xa (AS Z (AO.aF Z gV (fun b6=>?_)))); refine B1 hf fun Zp Ru hf=>Rr 2 [0,0] Z Z (CL Z (qD _ Ru ?_)); rcases bD hf with ⟨e24,Rt,hf⟩ | ⟨_,Rt,hf⟩
  · refine U 1 Z (CL Z (bB _ _ Rt ?_)); cases hf; exact ⟨Z,[],List.nil_sublist _,h⟩
  refine U 1 Z (CL Z (bB _ _ Rt ?_)); cases hf; exact Rx 2 [0,1] Z Z (ZC [1] Z Z h)
 rcases bD hf with ⟨e25,h37,hf⟩ | ⟨Zx,h37,hf⟩
 · refine W 2 Z (CL Z (jT _ _ h37 ?_)); cases hf; exact ⟨Z,[],List.nil_sublist _,h⟩
 refine W 2 Z (CL Z (jT _ _ h37 ?_)); cases hf; exact Rx 1 [0] Z Z (ZC [0] Z Z h)
theorem Mf (aY) (bH:nG aY) (bV) (lD:nH bV) (bT) (gT:oI bT) (bN) (jZ:lH bN) (bJ) (jT:kL bJ) (s1:List aB) (e1:ak) {rX:fJ aD ah} (hf:qd aY bV bT bN bJ s1 e1=some rX) (h:Q (xZ rX) τ):PC 119 [.list (List.map aB.cells s1),.agg (bf e1)] τ Q:=by
 unfold qd at hf; refine BN 40 [.cell 4 31] [0,1] Tryz.func119 Z Z Z Z Z (W 1 Z (AS Z (AO.aF Z gV (fun b4=>?_)))); refine B1 hf fun n1 h1 hf=>U 2 Z (CL Z (WR _ h1 ?_)); rcases bD hf with ⟨e2,h2,hf⟩ | ⟨_,h2,hf⟩
 · refine U 3 Z (CL Z (bB _ _ h2 ?_)); cases hf; exact ⟨Z,[],List.nil_sublist _,h⟩
 refine U 3 Z (CL Z (bB _ _ h2 (U 2 Z (AS Z (AO.aM (l:=e1.args) Z Z Z Z g_ Z (ak.aA _) ?_))))); rcases bD hf with ⟨e3,h3,hf⟩ | ⟨_,h3,hf⟩
 · refine U 2 Z (CL Z (bB _ _ h3 ?_)); cases hf; exact ⟨Z,[],List.nil_sublist _,h⟩
 refine U 2 Z (CL Z (bB _ _ h3 ?_)); rcases bD hf with ⟨e4,h4,hf⟩ | ⟨args1,h4,hf⟩
 · refine U 3 Z (CL Z (gT _ _ h4 ?_)); cases hf; exact ⟨Z,[],List.nil_sublist _,h⟩
 refine U 3 Z (CL Z (gT _ _ h4 (J 3 Z (C hf Z (fun h5 hf=>?_) fun h5 hf=>?_))))
 ·
  refine V 0 Z (AW.draw 5 mixed (by kernel_rfl) Z ?_); refine Ev.cs aH 3 Z ?_; refine B1 hf fun e5 h6 hf=>Ev.cons Z Z Z (AO.aJ h6 Z Z (ah.aA _) Z fB (ah.aC _) Z zg) (Ev.cs aH 1 Z (Ev.nil ?_)); show AR _ _ _ _ _ _ _ _; rcases bD hf with ⟨e6,h7,hf⟩ | ⟨x1,h7,hf⟩
  · refine CL Z (Sv _ _ h7 ?_); cases hf; exact ⟨Z,[],List.nil_sublist _,h⟩
  refine CL Z (Sv _ _ h7 ?_); cases hf; exact Rx 1 [0] Z Z (ZC [0] Z Z h)
 refine V 0 Z (AW.draw 8 mixed (by kernel_rfl) Z ?_); refine Ev.cs aH 3 Z ?_; refine B1 hf fun e7 h8 hf=>Ev.cons Z Z Z (AO.aJ h8 Z Z (ah.aA _) Z fB (ah.aC _) Z zg) (Ev.cs aH 2 Z ?_); refine B1 hf fun e8 h9 hf=>Ev.cons Z Z Z (AO.aJ h9 Z Z (ah.aA _) Z fB (ah.aC _) Z zg) (Ev.cs aH 1 Z (Ev.nil ?_)); show AR _ _ _ _ _ _ _ _; rcases bD hf with ⟨e9,h10,hf⟩ | ⟨x2,h10,hf⟩
 · refine CL Z (Sq _ _ _ h10 ?_); cases hf; exact ⟨Z,[],List.nil_sublist _,h⟩
 refine CL Z (Sq _ _ _ h10 ?_); cases hf; exact Rx 1 [0] Z Z (ZC [0] Z Z h)
theorem NI (aY) (bH:nG aY) (bV) (lD:nH bV) (bT) (gT:oI bT) (bN) (jZ:lH bN) (bJ) (jT:kL bJ) (s1:List aB) (l1:List ak) {rX:fJ aD (List ah)} (hf:Aa aY bV bT bN bJ s1 l1=some rX) (h:Q (zH rX) τ):PC 124 [.list (List.map aB.cells s1),.list (ak.aT l1)] τ Q:=by
 unfold Aa at hf; refine BN 22 [.tmp 4] [0,1] Tryz.func124 Z Z Z Z Z (W 0 Z (AS Z (AO.kI Z Z (U 2 Z (AS Z (AO.aM (l:=l1) Z Z Z Z g_ Z (ak.aA _) (J 1 Z (AW.row 6 31 (LK3 (fun bM v1 x1=>[(0,.list (List.map aB.cells s1)),(5,.own v1 (ah.aT bM)),(8,.list (ak.aT l1)),(9,iP (l1.length:Int)),(10,iP x1)]) (fun bM v1 x1=>[.row v1 (ah.aT bM).length 6 31]) (fun bP bM v1 x1=>ny aY s1 l1 bP bM x1=some rX) BIG [] (.slice none 0 0) 0 Z Z hf (fun _ _ _ hz=>bG hz) ?_))))))))); intro bP bM v1 x1 hf; rw [ny] at hf; refine V 1 Z (C hf Z (fun h1 hf=>?_) fun h1 hf=>?_)
 ·
  refine B1 hf fun e1 h2 hf=>W 0 Z (AS Z (AO.aJ h2 Z Z (ak.aA _) Z g_ (ak.aC _) Z (U 1 Z (AS Z (AO.aF Z qG (fun b7=>?_)))))); rcases bD hf with ⟨e2,h3,hf⟩ | ⟨x2,h3,hf⟩
  · refine Rr 4 [0,0] Z Z (CL Z (bH _ _ h3 ?_)); cases hf; exact ⟨Z,[],List.nil_sublist _,h⟩
  refine Rr 4 [0,0] rfl rfl (CL rfl (bH _ _ h3 (AS rfl (AO.aX (ah.aT [x2]) rfl Ec rfl rfl rfl (by first | rfl | simp only [List.map,ah.aC,ah.aT]) ?_)))); refine B1 hf fun zW h4 hf=>AS Z (AO.iC (i:=1) (l:=bM) (m:=[x2]) h4 Z Z Z Z Z Z Z Ec fB (ah.aA _) (ah.aA _) (ah.aA _).symm (ah.dL) (ah.cells_one) (by decide) (fun v2 s2 hs2=>?_)); cases hs2; refine dY 3 Z (AR.drop1 ?_); exact N 0 Z ⟨zW,v2,(bW (x1 + 1)),Z,Z,Z,hf⟩
 cases hf; exact M 2 Z (Y Z h)
theorem Ko (aY) (bH:nG aY) (bV) (lD:nH bV) (bT) (gT:oI bT) (bN) (jZ:lH bN) (bJ) (jT:kL bJ) (s1:List aB) (e1:ak) {rX:fJ aD ah} (hf:nR aY bV bT bN bJ s1 e1=some rX) (h:Q (vS rX) τ):PC 121 [.list (List.map aB.cells s1),.agg (bf e1)] τ Q:=by
 unfold nR at hf; refine BN 95 [.cell 4 31] [0,1] Tryz.func121 Z Z Z Z Z (W 1 Z (AS Z (AO.aF Z gV (fun b4=>?_)))); refine B1 hf fun e2 h1 hf=>U 3 Z (AS Z (AO.aJ h1 Z Z (ak.aA _) Z g_ (ak.aC _) Z ?_)); rcases bD hf with ⟨e3,h2,hf⟩ | ⟨x1,h2,hf⟩
 · refine U 1 Z (CL Z (bH _ _ h2 ?_)); cases hf; exact ⟨Z,[],List.nil_sublist _,h⟩
 refine U 1 Z (CL Z (bH _ _ h2 (AS Z (AO.aF Z gV (fun b5=>(Rr 5 [0] Z Z (On 4 16 20 [0,3,4,5] (e1.name == ([124,124]:Str)) Z Z Z Z (J 0 Z (C hf Z (fun h4 hf=>?_) fun h4 hf=>?_)))))))))
 ·
  rcases bD hf with ⟨e4,h5,hf⟩ | ⟨x2,h5,hf⟩
  ·
   refine V 0 Z (AW.abX 1 5 mixed (by kernel_rfl) Z Z ?_); refine Ev.cons Z Z Z (AO.aP (i:=0) Z Z Z o8 Z Z zg) (Ev.nil (⟨_,_,Z,Z,Z,Z,AO.call Z _ Z Z aeY (qo _ h5 ?_),?_⟩))
   · cases hf; exact ⟨Z,[],List.nil_sublist _,h⟩
   refine Ev.cs aH 3 Z (Ev.nil ?_); trivial
  refine V 0 Z (AW.draw 6 mixed (by kernel_rfl) Z ?_); refine Ev.cons Z Z Z (AO.aP (i:=0) Z Z Z o8 Z Z zg) (Ev.cons Z Z Z (AO.call Z _ Z Z aeY (qo _ h5 zg)) (Ev.cs aH 3 Z (Ev.cons Z Z Z (AO.af3 Z agF Z Z zg) ?_))); refine Ev.nil ?_; show AR _ _ _ _ _ _ _ _; refine J 0 Z (C hf Z (fun h6 hf=>?_) fun h6 hf=>?_)
  · cases hf; exact Wx 2 [0,1] Z Z (ZC [1] Z Z h)
  refine B1 hf fun e5 h7 hf=>W 3 Z (AS Z (AO.aJ h7 Z Z (ak.aA _) Z g_ (ak.aC _) Z ?_)); rcases bD hf with ⟨e6,h8,hf⟩ | ⟨x3,h8,hf⟩
  · refine U 1 Z (CL Z (bH _ _ h8 ?_)); cases hf; exact ⟨Z,[],List.nil_sublist _,h⟩
  refine U 1 Z (CL Z (bH _ _ h8 ?_)); rcases bD hf with ⟨e7,h9,hf⟩ | ⟨x4,h9,hf⟩
  · refine CL Z (qo _ h9 ?_); cases hf; exact ⟨Z,[],List.nil_sublist _,h⟩
  refine CL Z (qo _ h9 ?_); refine B1 hf fun x5 h10 hf=>CL Z (jE _ h10 ?_); cases hf; exact Rx 1 [1] Z Z (ZC [1] Z Z h)
 refine B1 hf fun e8 h11 hf=>W 3 Z (AS Z (AO.aJ h11 Z Z (ak.aA _) Z g_ (ak.aC _) Z ?_)); rcases bD hf with ⟨e9,h12,hf⟩ | ⟨x6,h12,hf⟩
 · refine U 1 Z (CL Z (bH _ _ h12 ?_)); cases hf; exact ⟨Z,[],List.nil_sublist _,h⟩
 refine U 1 Z (CL Z (bH _ _ h12 (AS Z (AO.aF Z gV (fun b6=>(Rw 5 [0] Z Z (C hf Z (fun kQ hf=>?_) fun kQ hf=>?_)))))))
 · refine B1 hf fun x7 lQ hf=>Wr 2 [1,0] Z Z (CL Z (EZ _ _ lQ ?_)); refine B1 hf fun x8 ng hf=>CL Z (jE _ ng ?_); cases hf; exact Rx 1 [2] Z Z (ZC [2] Z Z h)
 refine V 2 Z (C hf Z (fun h16 hf=>?_) fun h16 hf=>?_)
 · refine B1 hf fun x9 vG hf=>Wr 2 [1,0] Z Z (CL Z (EZ _ _ vG ?_)); refine B1 hf fun BH h18 hf=>U 1 Z (CL Z (jE _ h18 ?_)); cases hf; exact Rx 1 [2] Z Z (ZC [2] Z Z h)
 refine V 2 Z (C hf Z (fun h19 hf=>?_) fun h19 hf=>?_)
 ·
  rcases bD hf with ⟨e10,h20,hf⟩ | ⟨Hl,h20,hf⟩
  · refine Wr 2 [1,0] Z Z (CL Z (qp _ _ h20 ?_)); cases hf; exact ⟨Z,[],List.nil_sublist _,h⟩
  refine Wr 2 [1,0] Z Z (CL Z (qp _ _ h20 ?_)); refine B1 hf fun Kn h21 hf=>U 1 Z (CL Z (jE _ h21 ?_)); cases hf; exact Rx 1 [2] Z Z (ZC [2] Z Z h)
 refine V 2 Z (C hf Z (fun h22 hf=>?_) fun h22 hf=>?_)
 ·
  rcases bD hf with ⟨e11,h23,hf⟩ | ⟨KZ,h23,hf⟩
  · refine Wr 2 [1,0] Z Z (CL Z (qp _ _ h23 ?_)); cases hf; exact ⟨Z,[],List.nil_sublist _,h⟩
  refine Wr 2 [1,0] Z Z (CL Z (qp _ _ h23 ?_)); refine B1 hf fun SQ Fb hf=>U 1 Z (CL Z (jE _ Fb ?_)); cases hf; exact Rx 1 [2] Z Z (ZC [2] Z Z h)
 refine V 2 Z (C hf Z (fun DV hf=>?_) fun DV hf=>?_)
 ·
  rcases bD hf with ⟨e12,Ij,hf⟩ | ⟨OI,Ij,hf⟩
  · refine Wr 2 [1,0] Z Z (CL Z (qp _ _ Ij ?_)); cases hf; exact ⟨Z,[],List.nil_sublist _,h⟩
  refine Wr 2 [1,0] Z Z (CL Z (qp _ _ Ij ?_)); refine B1 hf fun Iu h27 hf=>U 1 Z (CL Z (jE _ h27 ?_)); cases hf; exact Rx 1 [2] Z Z (ZC [2] Z Z h)
 refine V 2 Z (C hf Z (fun Qb hf=>?_) fun Qb hf=>?_)
 ·
  rcases bD hf with ⟨e13,Ll,hf⟩ | ⟨SN,Ll,hf⟩
  · refine Wr 2 [1,0] Z Z (CL Z (qp _ _ Ll ?_)); cases hf; exact ⟨Z,[],List.nil_sublist _,h⟩
  refine Wr 2 [1,0] Z Z (CL Z (qp _ _ Ll ?_)); refine B1 hf fun Zp Lj hf=>U 1 Z (CL Z (jE _ Lj ?_)); cases hf; exact Rx 1 [2] Z Z (ZC [2] Z Z h)
 refine V 2 Z (C hf Z (fun h31 hf=>?_) fun h31 hf=>?_)
 ·
  rcases bD hf with ⟨e14,h32,hf⟩ | ⟨Zx,h32,hf⟩
  · refine Wr 2 [1,0] Z Z (CL Z (Sr _ _ h32 ?_)); cases hf; exact ⟨Z,[],List.nil_sublist _,h⟩
  refine Wr 2 [1,0] Z Z (CL Z (Sr _ _ h32 ?_)); cases hf; exact Rx 1 [2] Z Z (ZC [2] Z Z h)
 rcases bD hf with ⟨e15,Io,hf⟩ | ⟨x20,Io,hf⟩
 · refine Wr 4 [1,0] Z Z (CL Z (EK _ _ _ Io ?_)); cases hf; exact ⟨Z,[],List.nil_sublist _,h⟩
 refine Wr 4 [1,0] Z Z (CL Z (EK _ _ _ Io ?_)); cases hf; exact Rx 1 [2] Z Z (ZC [2] Z Z h)
theorem Iz (aY) (bH:nG aY) (bV) (lD:nH bV) (bT) (gT:oI bT) (bN) (jZ:lH bN) (bJ) (jT:kL bJ) (s1:List aB) (e1:ak) {rX:fJ aD ah} (hf:m_ aY bV bT bN bJ s1 e1=some rX) (h:Q (tL rX) τ):PC 126 [.list (List.map aB.cells s1),.agg (bf e1)] τ Q:=by
 unfold m_ at hf; refine BN 41 [.cell 4 31] [0,1] Tryz.func126 Z Z Z Z Z (W 1 Z (AS Z (AO.aF Z gV (fun b4=>?_)))); rcases bD hf with ⟨e2,h1,hf⟩ | ⟨x1,h1,hf⟩
 · refine U 4 Z (CL Z (gT _ _ h1 ?_)); cases hf; exact ⟨Z,[],List.nil_sublist _,h⟩
 refine U 4 Z (CL Z (gT _ _ h1 (AS Z (AO.aM (l:=x1) Z Z Z Z fB Z (ah.aA _) ?_)))); refine J 1 Z (AW.row 7 51 (LK3 (fun bU v1 i1=>[(3,.ref (bf e1)),(4,pP b4),(5,.own v1 (List.map aB.cells bU)),(13,.list (ah.aT x1)),(14,iP (x1.length:Int)),(15,iP i1)]) (fun bU v1 i1=>[.row v1 (List.map aB.cells bU).length 7 51,.box b4 [iP 0,.bool false,iP 0,.str ([]:Str),.own (.slice none 0 0) [],.own (.slice none 0 0) []]]) (fun bP bU v1 i1=>lY e1 x1 bP bU i1=some rX) BIG [] (.slice none 0 0) 0 Z Z hf (fun _ _ _ hz=>bG hz) ?_)); intro bP bU v1 i1 hf; rw [lY] at hf; refine V 1 Z (C hf Z (fun h2 hf=>?_) fun h2 hf=>?_)
 ·
  refine B1 hf fun e3 h3 hf=>W 1 Z (AS Z (AO.aJ h3 Z Z (ah.aA _) Z fB (ah.aC _) Z (U 1 Z (AS Z (AO.aF Z gV (fun b7=>(Rw 2 [0] Z Z (AW.draw 9 mixed (by kernel_rfl) Z ?_)))))))); refine Ev.cs aH 4 Z ?_; refine B1 hf fun e4 h4 hf=>Ev.cons Z Z Z (AO.aJ h4 Z Z Z Z fE Z Z zg) (Ev.cs aH 1 Z (Ev.cons Z Z Z (AO.aP (i:=0) Z Z Z o8 Z Z zg) (Ev.cons Z Z Z (AO.build Z L9 aem Z zg) ?_))); refine Ev.cons rfl rfl rfl (AO.aX (List.map aB.cells [(aB.mk e4 e3)]) rfl yx rfl rfl rfl (by first | rfl | simp only [List.map,aB.aC]) ⟨rfl,rfl⟩) ?_; refine Ev.nil ?_; show AR _ _ _ _ _ _ _ _
  refine B1 hf fun Qt h5 hf=>AS Z (AO.iC (i:=1) (l:=bU) (m:=[(aB.mk e4 e3)]) h5 Z Z Z Z Z Z Z yx nA Z Z Z (aB.dL) (aB.cells_one) (by decide) (fun v2 s2 hs2=>?_)); cases hs2; refine dY 3 Z (AR.drop1 ?_); exact N 0 Z ⟨Qt,v2,(bW (i1 + 1)),Z,Z,Z,hf⟩
 obtain ⟨x2,EC,h6,hf⟩:=bK hf; refine W 1 Z (CL Z (YS _ h6 (U 3 Z (AS Z (AO.aF Z gV (fun b8=>?_)))))); rcases bD hf with ⟨e5,h7,hf⟩ | ⟨_,h7,hf⟩
 · refine Rr 5 [0] Z Z (CL Z (bB _ _ h7 ?_)); cases hf; exact ⟨Z,[],List.nil_sublist _,h⟩
 refine Rr 5 [0] Z Z (CL Z (bB _ _ h7 ?_)); cases hf; exact Rx 2 [0,2] Z Z (ZC [2] Z Z h)
theorem p8 :∀ k:Nat,(nG (bX k))∧(nH (dS k))∧(oI (eH k))∧(lH (dI k))∧(kL (dx k)):=by
 intro k
 induction k with
 | zero=>exact ⟨fun _ _ _ hz=>by first | cases hz | (unfold bX at hz; cases hz),fun _ _ _ hz=>by first | cases hz | (unfold dS at hz; cases hz),fun _ _ _ hz=>by first | cases hz | (unfold eH at hz; cases hz),fun _ _ _ hz=>by first | cases hz | (unfold dI at hz; cases hz),fun _ _ _ hz=>by first | cases hz | (unfold dx at hz; cases hz)⟩
 | succ k ih=>exact ⟨fun wK iO fG hz τ Q hq=>Me (bX k) ih.1 (dS k) ih.2.1 (eH k) ih.2.2.1 (dI k) ih.2.2.2.1 (dx k) ih.2.2.2.2 wK iO hz hq,fun wK iO fG hz τ Q hq=>Mf (bX k) ih.1 (dS k) ih.2.1 (eH k) ih.2.2.1 (dI k) ih.2.2.2.1 (dx k) ih.2.2.2.2 wK iO hz hq,fun wK Pn fG hz τ Q hq=>NI (bX k) ih.1 (dS k) ih.2.1 (eH k) ih.2.2.1 (dI k) ih.2.2.2.1 (dx k) ih.2.2.2.2 wK Pn hz hq,fun wK iO fG hz τ Q hq=>Ko (bX k) ih.1 (dS k) ih.2.1 (eH k) ih.2.2.1 (dI k) ih.2.2.2.1 (dx k) ih.2.2.2.2 wK iO hz hq,fun wK iO fG hz τ Q hq=>Iz (bX k) ih.1 (dS k) ih.2.1 (eH k) ih.2.2.1 (dI k) ih.2.2.2.1 (dx k) ih.2.2.2.2 wK iO hz hq⟩
theorem EI (wK:List aB) (iO:ak) {fG:fJ aD ah} (hf:BL wK iO=some fG) (h:Q (xY fG) τ):PC 76 [.list (List.map aB.cells wK),.agg (bf iO)] τ Q:=
 ((p8 BIG).1) wK iO hf h
theorem ab4 (wK:List aB) (iO:ak) {fG:fJ aD ah} (hf:PE wK iO=some fG) (h:Q (xZ fG) τ):PC 119 [.list (List.map aB.cells wK),.agg (bf iO)] τ Q:=
 ((p8 BIG).2.1) wK iO hf h
theorem adD (wK:List aB) (Pn:List ak) {fG:fJ aD (List ah)} (hf:RI wK Pn=some fG) (h:Q (zH fG) τ):PC 124 [.list (List.map aB.cells wK),.list (ak.aT Pn)] τ Q:=
 ((p8 BIG).2.2.1) wK Pn hf h
theorem Zr (wK:List aB) (iO:ak) {fG:fJ aD ah} (hf:Nf wK iO=some fG) (h:Q (vS fG) τ):PC 121 [.list (List.map aB.cells wK),.agg (bf iO)] τ Q:=
 ((p8 BIG).2.2.2.1) wK iO hf h
theorem Zc (wK:List aB) (iO:ak) {fG:fJ aD ah} (hf:Lv wK iO=some fG) (h:Q (tL fG) τ):PC 126 [.list (List.map aB.cells wK),.agg (bf iO)] τ Q:=
 ((p8 BIG).2.2.2.2) wK iO hf h
end
section
variable [Hf]
theorem Oy (s1:List aB) (e1:ak) {r0:ah} {r1:Int} (hf:zk s1 e1=some (r0,r1)) (h:Q (.ret (.tuple [.agg (aL r0),iP r1])) τ):PC 51 [.list (List.map aB.cells s1),.agg (bf e1)] τ Q:=by
 unfold zk at hf; refine AC.none (AC.OX 10 [.cell 4 31,.cell 5 36] [0,1] [0,1] Tryz.func51 Z Z Z Z Z Tryz.func75 Z Z Z Z Z Z Z ald (AW.sr (AR.step Z Z Z (AO.Kj Z Z Z ?_)))); refine AR.step Z Z Z (AO.aF Z gV (fun b4=>(AR.step Z Z Z (AO.aF Z adR (fun b5=>(AR.nil [0,3,4,5] Z (AW.sr ?_))))))); refine cs 1 Z (AR.defer (vs:=[.pointer (some ⟨b4,0,none⟩),.pointer (some ⟨b5,0,none⟩)]) Z Z Z Z Z Z (AR.nil [0,3,4,5] Z (AW.sr ?_))); refine cs 2 Z ?_; rcases bD hf with ⟨f1,h1,hf⟩ | ⟨v1,h1,hf⟩
 ·
  refine AR.step Z Z Z (AO.call Z _ Z Z OW (EI _ _ h1 ?_)); cases hf; refine ⟨[.pointer (some ⟨b4,0,none⟩),.pointer (some ⟨b5,0,none⟩)],_,Z,Z,Z,(AR.step Z Z Z (AO.abk Z Z agP (cs 3 Z (AR.step Z Z Z (AO.aF Z adW (fun b6=>?_))))))⟩; refine AR.bQ Z Z (AO.cO (i:=0) Z Z Z aef Z Z Z Z Z (cs 1 Z (AR.nil [0,1,2,3] Z (AW.sr ?_)))); refine cs 1 Z (AR.nil [0,1,2,9] Z (AW.cond Z (fun _=>?_) (fun hh=>by cases hh))); refine AW.abY 1 3 4 [_] [_,_] mixed (by kernel_rfl) (by kernel_rfl) (by kernel_rfl) Z Z Z (List.Perm.refl _) ?_; refine Ev.cons Z Z Z (AO.build Z gV ZO Z zg) (Ev.nil ?_); show Ev _ _ _ _ _ _ _; refine Ev.cs aH 1 Z (Ev.cons Z Z Z (AO.aP (i:=0) Z Z Z Ea Z Z zg) (Ev.nil (TF.bQ Z Z (AO.cO (i:=1) Z Z Z o8 Z Z Z Z Z ?_)))); refine TF.nil ?_; show AR _ _ _ _ _ _ _ _; refine AR.bQ Z Z (AO.cO (i:=1) Z Z Z Ea Z Z Z Z Z (AR.nil [] Z ?_)); exact ⟨rfl,_,⟨_,_,rfl,⟨_,_,2,_,_,rfl,rfl,o8,rfl⟩,⟨_,_,rfl,⟨_,_,1,_,_,rfl,rfl,Ea,rfl⟩,rfl⟩⟩,[],List.nil_sublist _,h⟩
 refine AR.step Z Z Z (AO.call Z _ Z Z OW (EI _ _ h1 ?_)); cases hf; refine AR.bQ Z Z (AO.cO (i:=1) Z Z Z o8 Z Z Z Z Z (AR.bQ Z Z (AO.cO (i:=0) Z Z Z Ea Z Z Z Z Z (AR.nil [4,5] Z (AW.ret ?_))))); refine ⟨[.pointer (some ⟨b4,0,none⟩),.pointer (some ⟨b5,0,none⟩)],_,Z,Z,Z,(AR.step Z Z Z (AO.Xx (p:=.agg [iP 0]) Z Z agR (fun _ _=>by simp only [dG]; exact ⟨[.int .i64 0],Z,aZ.cons (by simp [dG]) aZ.nil⟩) ?_))⟩; refine cs 3 Z (AR.step Z Z Z (AO.aF Z adW (fun b6=>(AR.bQ Z Z (AO.cO (i:=0) Z Z Z aef Z Z Z Z Z (cs 1 Z ?_)))))); refine AR.nil [3] Z (AW.sr (cs 1 Z (AR.nil [9] Z ?_))); refine AW.cond Z (fun hh=>by cases hh) (fun _=>?_); refine AW.skip ?_; exact ⟨rfl,_,⟨_,_,rfl,⟨_,_,2,_,_,rfl,rfl,o8,rfl⟩,⟨_,_,rfl,⟨_,_,1,_,_,rfl,rfl,Ea,rfl⟩,rfl⟩⟩,[],List.nil_sublist _,h⟩
end
abbrev NA (kS:ah→Option ah):Prop:=∀ (qH:ah) {aO:ah},kS qH=some aO→∀ {τ:List bg} {Q:eD→List bg→Prop} (h:Q (.ret (.agg (aL aO))) τ),PC 52 [.agg (aL qH)] τ Q
theorem Vt (kS) (Ry:NA kS) (v1:ah) {r0:ah} (hf:Cn kS v1=some r0) (h:Q (.ret (.agg (aL r0))) τ):PC 52 [.agg (aL v1)] τ Q:=by
 unfold Cn at hf; refine BN 31 [.cell 2 31] [0] Tryz.func52 Z Z Z Z Z (W 1 Z (AS Z (AO.aF Z gV (fun b2=>(U 1 Z (AS Z (AO.aF Z gV (fun b3=>(Rr 7 [0,0,0] Z Z (AS Z (AO.aM (l:=v1.aI) Z Z Z Z fB Z (ah.aA _) ?_))))))))))); refine J 1 Z (AW.row 6 31 (AW.row 1 9 (LK4 (fun x1 bM v2 v3=>[(1,.ref (aL v1)),(2,pP b2),(3,pP b3),(10,.list (ah.aT v1.aI)),(11,iP (v1.aI.length:Int)),(12,iP x1)]) (fun x1 bM v2 v3=>[.row v3 (List.map wR bM.keys).length 1 9,.row v2 (ah.aT bM.aI).length 6 31,.box b3 [iP bM.kind,.bool bM.dM,iP bM.dO,.str bM.bO,.own v2 (ah.aT bM.aI),.own v3 (List.map wR bM.keys)],.box b2 [iP 0,.bool false,iP 0,.str ([]:Str),.own (.slice none 0 0) [],.own (.slice none 0 0) []]]) (fun bP x1 bM v2 v3=>wF kS v1 bP x1 bM=some r0) BIG 0 (ah.mk v1.kind v1.dM v1.dO v1.bO [] []) (.slice none 0 0) (.slice none 0 0) Z Z hf (fun _ _ _ _ hz=>bG hz) ?_))); intro bP x1 bM v2 v3 hf; rw [wF] at hf; refine V 1 Z (C hf Z (fun h1 hf=>?_) fun h1 hf=>?_)
 ·
  refine B1 hf fun e1 h2 hf=>W 0 Z (AS Z (AO.aJ h2 Z Z (ah.aA _) Z fB (ah.aC _) Z (U 1 Z (AS Z (AO.aF Z gV (fun b5=>(Rw 1 [0] Z Z (AW.draw 5 mixed (by kernel_rfl) Z ?_)))))))); refine Ev.cs aH 1 Z (Ev.cons Z Z Z (AO.aP (i:=3) Z Z Z KA Z Z zg) (Ev.cons Z Z Z (AO.aP (i:=0) Z Z Z o8 Z Z zg) ?_)); refine B1 hf fun x2 h3 hf=>Ev.cons rfl rfl rfl (AO.call rfl _ rfl rfl alh (Ry _ h3 ⟨rfl,rfl⟩)) (Ev.cons rfl rfl rfl (AO.aX (ah.aT [x2]) rfl Ec rfl rfl rfl (by first | rfl | simp only [List.map,ah.aC,ah.aT]) ⟨rfl,rfl⟩) ?_)
  refine Ev.nil ?_; show AR _ _ _ _ _ _ _ _; refine B1 hf fun x3 h4 hf=>AS Z (AO.iC (i:=2) (l:=bM.aI) (m:=[x2]) h4 Z Z Z Z Z Z Z Ec fB (ah.aA _) (ah.aA _) (ah.aA _).symm (ah.dL) (ah.cells_one) (by decide) (fun v4 s1 hs1=>?_)); cases hs1; refine Rn 4 [3] Z Z (AR.drop1 ?_); exact N 0 Z ⟨(bW (x1 + 1)),(ah.mk bM.kind bM.dM bM.dO bM.bO x3 bM.keys),v4,v3,Z,Z,Z,hf⟩
 refine B1 hf fun x4 h5 hf=>Wr 4 [2] Z Z (AS Z (AO.iC (i:=0) (l:=bM.keys) (m:=v1.keys) h5 Z Z Z Z Z Z Z Eb fE Z Z Z (fun _=>Z) (fun _=>Z) (by decide) (fun v5 s2 hs2=>?_))); cases hs2; cases hf; exact Rx 4 [2,2,3] Z Z (ZC [3] Z Z h)
theorem VX :∀ k:Nat,(NA (mO k)):=by
 intro k
 induction k with
 | zero=>exact fun _ _ hz=>by first | cases hz | (unfold mO at hz; cases hz)
 | succ k ih=>exact fun qH aO hz τ Q hq=>Vt (mO k) ih qH hz hq
theorem WS (qH:ah) {aO:ah} (hf:xk qH=some aO) (h:Q (.ret (.agg (aL aO))) τ):PC 52 [.agg (aL qH)] τ Q:=
 ((VX BIG)) qH hf h
section
variable [Hf]
theorem Zd (e1:ak) (b_:List aB) {r0:ah} {r1:Int} (hf:F5 e1 b_=some (r0,r1)) (h:Q (.ret (.tuple [.agg (aL r0),iP r1])) τ):PC 34 [.agg (bf e1),.list (List.map aB.cells b_)] τ Q:=by
 unfold F5 at hf; refine BN 28 [.cell 4 31,.tmp 5] [0,1] Tryz.func34 Z Z Z Z Z (W 1 Z (AS Z (AO.aF Z gV (fun b4=>?_)))); obtain ⟨s1,f1,h1,hf⟩:=bK hf; refine U 3 Z (CL Z (T9 _ _ h1 (J 7 Z (C hf Z (fun h2 hf=>?_) fun h2 hf=>?_))))
 · cases hf; exact Wx 4 [0] Z Z (ZC [0] Z Z h)
 obtain ⟨x1,f2,h3,hf⟩:=bK hf; refine W 2 Z (CL Z (Oy _ _ h3 (U 3 Z (AS Z (AO.aF Z gV (fun b8=>?_)))))); refine B1 hf fun x2 h4 hf=>Rr 3 [0,0] Z Z (CL Z (WS _ h4 ?_)); cases hf; exact Rx 3 [1] Z Z (ZC [1] Z Z h)
end
section
variable [Hf]
theorem Gd (iK:ak) (bR:List Int) (bU:List aB) {r0:Bool} {r1:Int} (hf:oU iK bR bU=some (r0,r1)) (h:Q (.ret (.tuple [.bool r0,iP r1])) τ):PC 14 [.agg (bf iK),.list (List.map FQ bR),.list (List.map aB.cells bU)] τ Q:=by
 unfold oU at hf; refine BN 28 [.tmp 6,.tmp 7] [0,1,2] Tryz.func14 Z Z Z Z Z (V 3 Z (AW.abY 0 8 10 [] [] mixed (by kernel_rfl) (by kernel_rfl) (by kernel_rfl) Z Z Z (List.Perm.refl _) ?_)); refine Ev.nil ?_; show Ev _ _ _ _ _ _ _; refine Ev.cs aH 3 Z ?_; refine B1 hf fun x1 h1 hf=>Ev.cons Z Z Z (AO.call Z _ Z Z aiq (H6 _ _ h1 zg)) ?_; obtain ⟨x2,e1,h2,hf⟩:=bK hf; refine Ev.cons Z Z Z (AO.call Z _ Z Z alp (Zd _ _ h2 zg)) (Ev.cs aH 3 Z (Ev.nil (TF.step Z Z Z (AO.aF Z gV (fun b8=>?_))))); refine TF.bQ Z Z (AO.cO (i:=0) Z Z Z o8 Z Z Z Z Z (TF.nil ?_)); show AR _ _ _ _ _ _ _ _; refine J 4 Z (C hf Z (fun h3 hf=>?_) fun h3 hf=>?_)
 · cases hf; exact M 3 Z (Y Z h)
 refine Ww 4 [0] Z Z (C hf Z (fun h4 hf=>?_) fun h4 hf=>?_)
 · cases hf; exact M 2 Z (Y Z h)
 cases hf; exact Wx 4 [0] Z Z (Y Z h)
end
section
variable [Hf]
theorem Cv (iM:Str) (bR:List Int) {r0:Bool} {r1:Int} (hf:oN iM bR=some (r0,r1)) (h:Q (.ret (.tuple [.bool r0,iP r1])) τ):PC 19 [.str iM,.list (List.map FQ bR)] τ Q:=by
 unfold oN at hf; refine BN 23 [.tmp 4,.tmp 5] [0,1] Tryz.func19 Z Z Z Z Z ?_; obtain ⟨x1,x2,f1,h1,hf⟩:=vM hf; refine W 3 Z (CL Z (JL _ h1 (U 4 Z (AS Z (AO.aF Z qG (fun b6=>(Rw 5 [0] Z Z (C hf Z (fun h2 hf=>?_) fun h2 hf=>?_))))))))
 · cases hf; exact M 3 Z (Y Z h)
 replace hf:=(lG _).trans hf; obtain ⟨x3,x4,h3,hf⟩:=bK hf; refine Wr 2 [0] Z Z (CL Z (Gd _ _ _ h3 ?_)); cases hf; exact N 4 Z (Y Z h)
end
theorem vY {r0:ak} (hf:nC=some r0) (h:Q (.ret (.agg (bf r0))) τ):PC 18 [] τ Q:=by
 unfold nC at hf; refine BN 2 [.cell 0 34] [] Tryz.func18 Z Z Z Z Z (W 0 Z (AS Z (AO.aF Z qG (fun b0=>?_)))); cases hf; exact Rx 2 [0] Z Z (ZC [0] Z Z h)
theorem TK (dJ:Int) {r0:Str} (hf:xB dJ=some r0) (h:Q (.ret (.str r0)) τ):PC 137 [iP dJ] τ Q:=by
 unfold xB at hf; refine BN 14 [.tmp 2] [0] Tryz.func137 Z Z Z Z Z (W 1 Z (AS Z (AO.OB Z adT aga Z (AS Z (AO.aF Z adT (fun b3=>(Rr 4 [0] Z Z (On 3 7 10 [0,3] (decide (8≤dJ)) Z Z Z Z ?_)))))))); refine J 0 Z (C hf Z (fun h2 hf=>?_) fun h2 hf=>?_)
 · cases hf; exact M 1 Z (Y Z h)
 refine BR hf fun e1 h3 hf=>?_; refine W 1 Z (AS Z (AO.Rq h3 Z aga Z Z Z (AS Z (AO.ac0 (i:=0) (fun z:Str=>.str z) h3 Z Z Z Xw Z ?_)))); cases hf; exact N 1 Z (Y Z h)
theorem sj (dJ:Int) {r0:Bool} (hf:iy dJ=some r0) (h:Q (.ret (.bool r0)) τ):PC 138 [iP dJ] τ Q:=by
 unfold iy at hf; refine BN 9 [.tmp 2] [0] Tryz.func138 Z Z Z Z Z (W 4 Z (On 3 5 8 [] (dJ == 6) Z Z Z Z ?_)); cases hf; exact N 1 Z (Y Z h)
theorem zu (t1:aj) {r0:Int} (hf:jO t1=some r0) (h:Q (.ret (iP r0)) τ):PC 81 [.agg (aN t1)] τ Q:=by
 unfold jO at hf; refine BN 43 [.tmp 2] [0] Tryz.func81 Z Z Z Z Z (W 0 Z (AS Z (AO.WW Z Z (fun b1=>(J 2 Z (Zn (fun bE t2=>[(1,pP b1),(3,iP bE)]) (fun bE t2=>[.box b1 (aN t2)]) (fun bP bE t2=>ku bP bE t2=some r0) BIG 1 t1 Z Z hf (fun _ _ hz=>bG hz) ?_)))))); intro bP bE t2 hf; rw [ku] at hf; refine V 2 Z (C hf Z (fun h1 hf=>?_) fun h1 hf=>?_)
 · cases hf; exact M 1 Z (Y Z h)
 refine B1 hf fun x1 h2 hf=>Wr 2 [0] Z Z (CL Z (TK _ h2 ?_)); refine B1 hf fun b1 h4 hf=>U 2 Z (AR.cZ 10 12 22 false [1,3] b1 Z Z (fun h3=>?_) (fun h3=>?_) ?_)
 ·
  replace h4:=jA h3 h4; refine Is 12 h3 Z (U 1 Z (GO Z (AO.aP (i:=0) Z Z Z ES Z Z ?_))); refine B1 h4 fun x2 h5 h4=>GO Z (AO.call Z _ Z Z aeX (sj _ h5 (U 1 Z (AR.and 5 16 21 [1,3,12] (x:=((t2.elem.length:Int) != 1)) Z Z (fun h6=>?_) (fun h6=>?_) ?_))))
  · refine Is 16 h6 Z (U 1 Z (GO Z (AO.aP (i:=0) Z Z Z aib Z Z (GO Z (AO.aM (l:=t2.elem) Z Z Z Z dX Z (aj.aA _) ?_))))); exact dY 2 Z (En [21,1,3,12] Z)
  · refine Is 16 h6 Z ?_; exact dY 5 Z (En [21,1,3,12] Z)
  cases h4; exact dY 1 Z (En [22,1,3] Z)
 · refine IT 12 h3 h4 Z fun h4=>?_; cases h4; exact dY 10 Z (En [22,1,3] Z)
 refine B1 hf fun b2 h8 hf=>U 1 Z (AR.cZ 11 23 34 false [1,3] b2 Z Z (fun h7=>?_) (fun h7=>?_) ?_)
 ·
  replace h8:=jA h7 h8; refine Is 23 h7 Z (U 1 Z (GO Z (AO.aP (i:=0) Z Z Z ES Z Z ?_))); refine B1 h8 fun x3 h9 h8=>GO Z (AO.call Z _ Z Z aeX (sj _ h9 (U 2 Z (AR.and 5 28 33 [1,3,23] (x:=((t2.elem.length:Int) != 0)) Z Z (fun h10=>?_) (fun h10=>?_) ?_))))
  · refine Is 28 h10 Z (U 1 Z (GO Z (AO.aP (i:=0) Z Z Z aib Z Z (GO Z (AO.aM (l:=t2.elem) Z Z Z Z dX Z (aj.aA _) ?_))))); exact dY 2 Z (En [33,1,3,23] Z)
  · refine Is 28 h10 Z ?_; exact dY 5 Z (En [33,1,3,23] Z)
  cases h8; exact dY 1 Z (En [34,1,3] Z)
 · refine IT 23 h7 h8 Z fun h8=>?_; cases h8; exact dY 11 Z (En [34,1,3] Z)
 refine J 0 Z (C hf Z (fun h11 hf=>?_) fun h11 hf=>?_)
 · cases hf; exact M 1 Z (Y Z h)
 refine B1 hf fun x4 h12 hf=>Wr 2 [0] Z Z (CL Z (sj _ h12 (J 1 Z (C hf Z (fun kQ hf=>?_) fun kQ hf=>?_))))
 · cases hf; exact M 1 Z (Y Z h)
 refine B1 hf fun e1 lQ hf=>Wr 2 [0] Z Z (AS Z (AO.aJ lQ Z Z (aj.aA _) Z dX (aj.aC _) Z ?_)); exact Rx 5 [0] Z Z ⟨(bW (bE + 1)),e1,Z,Z,Z,hf⟩
theorem Zf (b_:List aG) {r0:Int} (hf:Gc b_=some r0) (h:Q (.ret (iP r0)) τ):PC 55 [.list (List.map aG.cells b_)] τ Q:=by
 unfold Gc at hf; refine BN 39 [.tmp 2] [0] Tryz.func55 Z Z Z Z Z (W 2 Z (AS Z (AO.aM (l:=b_) Z Z Z Z zl Z Z (J 1 Z (C hf Z (fun h1 hf=>?_) fun h1 hf=>?_)))))
 · cases hf; exact M 1 Z (Y Z h)
 refine W 0 Z (AS Z (AO.Rb Z (fun m10=>(U 2 Z (AS Z (AO.aM (l:=b_) Z Z Z Z zl Z Z (J 1 Z (Zn (fun x1 y1=>[(3,.val (.map (some m10))),(11,.list (List.map aG.cells b_)),(12,iP (b_.length:Int)),(13,iP x1)]) (fun x1 y1=>[.obj m10 (vV y1)]) (fun bP x1 y1=>zq b_ bP x1 y1=some r0) BIG 0 [] Z Z hf (fun _ _ hz=>bG hz) ?_)))))))); intro bP x1 y1 hf; rw [zq] at hf; refine V 1 Z (C hf Z (fun h2 hf=>?_) fun h2 hf=>?_)
 ·
  refine B1 hf fun e1 h3 hf=>W 0 Z (AS Z (AO.aJ h3 Z Z Z Z zl (aG.aC _) Z (U 1 Z (AS Z (AO.aF Z aa4 (fun b5=>?_)))))); refine B1 hf fun x2 h4 hf=>Rr 4 [0,0] Z Z (CL Z (uI _ h4 (J 1 Z (C hf Z (fun h5 hf=>?_) fun h5 hf=>?_))))
  · cases hf; exact M 1 Z (Y Z h)
  refine B1 hf fun e2 h6 hf=>Wr 2 [0] Z Z (CL Z (zu _ h6 (J 3 Z (C hf Z (fun h7 hf=>?_) fun h7 hf=>?_))))
  · cases hf; exact M 2 Z (Y Z h)
  refine Wr 3 [0] Z Z (AS Z (AO.Ka (i:=1) (l:=y1) Z Z Z Z GJ d9 acj (U 1 Z (AR.bQ Z Z (AO.Ld (i:=1) (l:=y1) Z Z Z Z Z GJ d9 (Rr 3 [0] Z Z (AS Z (AO.Ka (i:=1) (l:=(rz y1 e1.name (bW ((nN y1 e1.name) + 1)))) Z Z Z Z GJ d9 acj (J 1 Z (C hf Z (fun h8 hf=>?_) fun h8 hf=>?_))))))))))
  · cases hf; exact M 1 Z (Y Z h)
  refine Wn0 2 Z (AR.drop1 ?_); exact N 0 Z ⟨(bW (x1 + 1)),(rz y1 e1.name (bW ((nN y1 e1.name) + 1))),Z,Z,Z,hf⟩
 cases hf; exact M 1 Z (Y Z h)
theorem eO (dJ:Int) {r0:aj} (hf:eB dJ=some r0) (h:Q (.ret (.agg (aN r0))) τ):PC 59 [iP dJ] τ Q:=by
 unfold eB at hf; refine BN 5 [.cell 2 54] [0] Tryz.func59 Z Z Z Z Z (W 0 Z (AS Z (AO.aF Z gG (fun b2=>?_)))); cases hf; exact Rx 3 [0] Z Z (ZC [0] Z Z h)
theorem uL (dJ:Int) (iL:aj) {r0:aj} (hf:kZ dJ iL=some r0) (h:Q (.ret (.agg (aN r0))) τ):PC 147 [iP dJ,.agg (aN iL)] τ Q:=by
 unfold kZ at hf; refine BN 9 [.cell 4 54] [0,1] Tryz.func147 rfl rfl rfl rfl rfl (W 1 rfl (AS rfl (AO.aF rfl gG (fun b4=>(U 2 rfl (AS rfl (AO.aX (aj.aT [iL]) rfl rC rfl rfl rfl (by first | rfl | simp only [List.map,aj.aC,aj.aT]) ?_))))))); cases hf; exact Rx 2 [0] Z Z (ZC [0] Z Z h)
theorem LW (name1:Str) {r0:List (List aj)} {r1:aj} (hf:iX name1=some (r0,r1)) (h:Q (.ret (.tuple [.list (List.map aj.qJ r0),.agg (aN r1)])) τ):PC 140 [.str name1] τ Q:=by
 unfold iX at hf; refine BN 106 [.tmp 2,.cell 3 54] [0] Tryz.func140 Z Z Z Z Z (W 0 Z (AS Z (AO.kI Z Z (AS Z (AO.aF Z gG (fun b3=>?_)))))); refine B1 hf fun x1 h1 hf=>U 0 Z (CL Z (eO _ h1 ?_)); refine B1 hf fun x2 h2 hf=>CL Z (eO _ h2 ?_); refine B1 hf fun x3 h3 hf=>CL Z (eO _ h3 ?_); refine B1 hf fun x4 h4 hf=>CL Z (eO _ h4 (AS Z (AO.aF Z gG (fun b4=>(AS Z (AO.aF Z gG (fun b5=>(AS Z (AO.aF Z gG (fun b6=>?_)))))))))); refine AS Z (AO.aF Z gG (fun b7=>(Rw 4 [3,2,1,0] Z Z (AW.amb 6 54 [8,9,10] mixed (by kernel_rfl) Z gG Z (by kernel_rfl) (by decide) ?_)))); refine Ev.cons Z Z Z (AO.aP (i:=3) Z Z Z fD Z Z zg) ?_; refine B1 hf fun x5 h5 hf=>Ev.cons Z Z Z (AO.call Z _ Z Z VP (uL _ _ h5 zg)) (Ev.cons Z Z Z (AO.aP (i:=3) Z Z Z fD Z Z zg) ?_); refine B1 hf fun x6 h6 hf=>Ev.cons Z Z Z (AO.call Z _ Z Z VP (uL _ _ h6 zg)) (Ev.cons Z Z Z (AO.aP (i:=1) Z Z Z fD Z Z zg) ?_); refine B1 hf fun x7 h7 hf=>Ev.cons Z Z Z (AO.call Z _ Z Z VP (uL _ _ h7 zg)) (Ev.nil ?_); intro b8 b9 b10; show AR _ _ _ _ _ _ _ _; refine Rw 6 [2,1,0] Z Z (C hf Z (fun h8 hf=>?_) fun h8 hf=>?_)
 ·
  refine V 0 Z (AW.draw 9 mixed (by kernel_rfl) Z ?_); refine Ev.cons rfl rfl rfl (AO.aP (i:=4) rfl rfl rfl fD rfl rfl ⟨rfl,rfl⟩) (Ev.cons rfl rfl rfl (AO.aX (aj.aT [x3]) rfl rC rfl rfl rfl (by first | rfl | simp only [List.map,aj.aC,aj.aT]) ⟨rfl,rfl⟩) ?_); refine Ev.cons rfl rfl rfl (AO.aP (i:=2) rfl rfl rfl fD rfl rfl ⟨rfl,rfl⟩) (Ev.cons rfl rfl rfl (AO.aX (aj.aT [x5]) rfl rC rfl rfl rfl (by first | rfl | simp only [List.map,aj.aC,aj.aT]) ⟨rfl,rfl⟩) ?_)
  refine Ev.cons rfl rfl rfl (AO.aP (i:=1) rfl rfl rfl fD rfl rfl ⟨rfl,rfl⟩) (Ev.cons rfl rfl rfl (AO.aX (aj.aT [x6]) rfl rC rfl rfl rfl (by first | rfl | simp only [List.map,aj.aC,aj.aT]) ⟨rfl,rfl⟩) ?_); refine Ev.cons Z Z Z (AO.aX (List.map aj.qJ [[x3],[x5],[x6]]) Z BI Z Z Z Z zg) (Ev.cons Z Z Z (AO.aP (i:=5) Z Z Z fD Z Z zg) (Ev.cs aH 1 Z (Ev.nil ?_))); show AR _ _ _ _ _ _ _ _
  cases hf; exact Rx 1 [7] Z Z (ZC [7] Z Z h)
 refine V 2 Z (C hf Z (fun h9 hf=>?_) fun h9 hf=>?_)
 ·
  refine V 0 Z (AW.draw 12 mixed (by kernel_rfl) Z ?_); refine Ev.cons rfl rfl rfl (AO.aP (i:=2) rfl rfl rfl fD rfl rfl ⟨rfl,rfl⟩) (Ev.cons rfl rfl rfl (AO.aP (i:=6) rfl rfl rfl fD rfl rfl ⟨rfl,rfl⟩) (Ev.cons rfl rfl rfl (AO.aX (aj.aT [x5,x1]) rfl rC rfl rfl rfl (by first | rfl | simp only [List.map,aj.aC,aj.aT]) ⟨rfl,rfl⟩) ?_))
  refine Ev.cons rfl rfl rfl (AO.aP (i:=4) rfl rfl rfl fD rfl rfl ⟨rfl,rfl⟩) (Ev.cons rfl rfl rfl (AO.aP (i:=4) rfl rfl rfl fD rfl rfl ⟨rfl,rfl⟩) (Ev.cons rfl rfl rfl (AO.aX (aj.aT [x3,x3]) rfl rC rfl rfl rfl (by first | rfl | simp only [List.map,aj.aC,aj.aT]) ⟨rfl,rfl⟩) ?_))
  refine Ev.cons rfl rfl rfl (AO.aP (i:=1) rfl rfl rfl fD rfl rfl ⟨rfl,rfl⟩) (Ev.cons rfl rfl rfl (AO.aP (i:=4) rfl rfl rfl fD rfl rfl ⟨rfl,rfl⟩) (Ev.cons rfl rfl rfl (AO.aX (aj.aT [x6,x3]) rfl rC rfl rfl rfl (by first | rfl | simp only [List.map,aj.aC,aj.aT]) ⟨rfl,rfl⟩) ?_)); refine Ev.cons Z Z Z (AO.aX (List.map aj.qJ [[x5,x1],[x3,x3],[x6,x3]]) Z BI Z Z Z Z zg) (Ev.cons Z Z Z (AO.aP (i:=3) Z Z Z fD Z Z zg) (Ev.cs aH 1 Z (Ev.nil ?_)))
  show AR _ _ _ _ _ _ _ _; cases hf; exact Rx 1 [7] Z Z (ZC [7] Z Z h)
 refine V 2 Z (C hf Z (fun h10 hf=>?_) fun h10 hf=>?_)
 ·
  refine V 0 Z (AW.draw 6 mixed (by kernel_rfl) Z ?_); refine Ev.cons rfl rfl rfl (AO.aP (i:=0) rfl rfl rfl fD rfl rfl ⟨rfl,rfl⟩) (Ev.cons rfl rfl rfl (AO.aP (i:=4) rfl rfl rfl fD rfl rfl ⟨rfl,rfl⟩) (Ev.cons rfl rfl rfl (AO.aX (aj.aT [x7,x3]) rfl rC rfl rfl rfl (by first | rfl | simp only [List.map,aj.aC,aj.aT]) ⟨rfl,rfl⟩) ?_))
  refine Ev.cons Z Z Z (AO.aX (List.map aj.qJ [[x7,x3]]) Z BI Z Z Z Z zg) (Ev.cons Z Z Z (AO.aP (i:=4) Z Z Z fD Z Z zg) (Ev.cs aH 1 Z (Ev.nil ?_))); show AR _ _ _ _ _ _ _ _; cases hf; exact Rx 1 [7] Z Z (ZC [7] Z Z h)
 refine V 2 Z (C hf Z (fun h11 hf=>?_) fun h11 hf=>?_)
 ·
  refine V 0 Z (AW.draw 11 mixed (by kernel_rfl) Z ?_); refine B1 hf fun x8 h12 hf=>Ev.cons rfl rfl rfl (AO.call rfl _ rfl rfl QT (eO _ h12 ⟨rfl,rfl⟩)) (Ev.cons rfl rfl rfl (AO.aX (aj.aT [x8]) rfl rC rfl rfl rfl (by first | rfl | simp only [List.map,aj.aC,aj.aT]) ⟨rfl,rfl⟩) ?_); refine Ev.cons rfl rfl rfl (AO.aP (i:=3) rfl rfl rfl fD rfl rfl ⟨rfl,rfl⟩) (Ev.cons rfl rfl rfl (AO.aX (aj.aT [x4]) rfl rC rfl rfl rfl (by first | rfl | simp only [List.map,aj.aC,aj.aT]) ⟨rfl,rfl⟩) ?_)
  refine Ev.cons rfl rfl rfl (AO.aP (i:=5) rfl rfl rfl fD rfl rfl ⟨rfl,rfl⟩) (Ev.cons rfl rfl rfl (AO.aX (aj.aT [x2]) rfl rC rfl rfl rfl (by first | rfl | simp only [List.map,aj.aC,aj.aT]) ⟨rfl,rfl⟩) ?_); refine Ev.cons rfl rfl rfl (AO.aP (i:=4) rfl rfl rfl fD rfl rfl ⟨rfl,rfl⟩) (Ev.cons rfl rfl rfl (AO.aX (aj.aT [x3]) rfl rC rfl rfl rfl (by first | rfl | simp only [List.map,aj.aC,aj.aT]) ⟨rfl,rfl⟩) ?_)
  refine Ev.cons Z Z Z (AO.aX (List.map aj.qJ [[x8],[x4],[x2],[x3]]) Z BI Z Z Z Z zg) (Ev.cons Z Z Z (AO.aP (i:=4) Z Z Z fD Z Z zg) (Ev.cs aH 1 Z (Ev.nil ?_))); show AR _ _ _ _ _ _ _ _; cases hf; exact Rx 1 [7] Z Z (ZC [7] Z Z h)
 refine V 2 Z (C hf Z (fun kQ hf=>?_) fun kQ hf=>?_)
 ·
  refine V 0 Z (AW.cond Z (fun lQ=>?_) (fun lQ=>?_))
  ·
   refine V 0 Z (AW.draw 5 mixed (by kernel_rfl) Z ?_); refine Ev.cons rfl rfl rfl (AO.aP (i:=4) rfl rfl rfl fD rfl rfl ⟨rfl,rfl⟩) (Ev.cons rfl rfl rfl (AO.aX (aj.aT [x3]) rfl rC rfl rfl rfl (by first | rfl | simp only [List.map,aj.aC,aj.aT]) ⟨rfl,rfl⟩) ?_); refine Ev.cons Z Z Z (AO.aX (List.map aj.qJ [[x3]]) Z BI Z Z Z Z zg) (Ev.cons Z Z Z (AO.aP (i:=4) Z Z Z fD Z Z zg) (Ev.cs aH 1 Z (Ev.nil ?_))); show AR _ _ _ _ _ _ _ _
   cases hf; exact Rx 1 [7] Z Z (ZC [7] Z Z h)
  cases kQ.symm.trans lQ
 refine V 2 Z (C hf Z (fun ng hf=>?_) fun ng hf=>?_)
 ·
  refine V 0 Z (AW.draw 5 mixed (by kernel_rfl) Z ?_); refine Ev.cons rfl rfl rfl (AO.aP (i:=4) rfl rfl rfl fD rfl rfl ⟨rfl,rfl⟩) (Ev.cons rfl rfl rfl (AO.aX (aj.aT [x3]) rfl rC rfl rfl rfl (by first | rfl | simp only [List.map,aj.aC,aj.aT]) ⟨rfl,rfl⟩) ?_); refine Ev.cons Z Z Z (AO.aX (List.map aj.qJ [[x3]]) Z BI Z Z Z Z zg) (Ev.cons Z Z Z (AO.aP (i:=4) Z Z Z fD Z Z zg) (Ev.cs aH 1 Z (Ev.nil ?_))); show AR _ _ _ _ _ _ _ _
  cases hf; exact Rx 1 [7] Z Z (ZC [7] Z Z h)
 refine V 2 Z (C hf Z (fun h16 hf=>?_) fun h16 hf=>?_)
 ·
  refine V 0 Z (AW.draw 6 mixed (by kernel_rfl) Z ?_); refine Ev.cons rfl rfl rfl (AO.aP (i:=4) rfl rfl rfl fD rfl rfl ⟨rfl,rfl⟩) (Ev.cons rfl rfl rfl (AO.aP (i:=4) rfl rfl rfl fD rfl rfl ⟨rfl,rfl⟩) (Ev.cons rfl rfl rfl (AO.aX (aj.aT [x3,x3]) rfl rC rfl rfl rfl (by first | rfl | simp only [List.map,aj.aC,aj.aT]) ⟨rfl,rfl⟩) ?_))
  refine Ev.cons Z Z Z (AO.aX (List.map aj.qJ [[x3,x3]]) Z BI Z Z Z Z zg) (Ev.cons Z Z Z (AO.aP (i:=0) Z Z Z fD Z Z zg) (Ev.cs aH 1 Z (Ev.nil ?_))); show AR _ _ _ _ _ _ _ _; cases hf; exact Rx 1 [7] Z Z (ZC [7] Z Z h)
 refine V 2 Z (C hf Z (fun vG hf=>?_) fun vG hf=>?_)
 ·
  refine V 0 Z (AW.cond Z (fun h18=>?_) (fun h18=>?_))
  ·
   refine V 0 Z (AW.draw 6 mixed (by kernel_rfl) Z ?_); refine Ev.cons rfl rfl rfl (AO.aP (i:=4) rfl rfl rfl fD rfl rfl ⟨rfl,rfl⟩) (Ev.cons rfl rfl rfl (AO.aP (i:=4) rfl rfl rfl fD rfl rfl ⟨rfl,rfl⟩) (Ev.cons rfl rfl rfl (AO.aX (aj.aT [x3,x3]) rfl rC rfl rfl rfl (by first | rfl | simp only [List.map,aj.aC,aj.aT]) ⟨rfl,rfl⟩) ?_))
   refine Ev.cons Z Z Z (AO.aX (List.map aj.qJ [[x3,x3]]) Z BI Z Z Z Z zg) (Ev.cons Z Z Z (AO.aP (i:=3) Z Z Z fD Z Z zg) (Ev.cs aH 1 Z (Ev.nil ?_))); show AR _ _ _ _ _ _ _ _; cases hf; exact Rx 1 [7] Z Z (ZC [7] Z Z h)
  cases vG.symm.trans h18
 refine V 2 Z (C hf Z (fun h19 hf=>?_) fun h19 hf=>?_)
 ·
  refine V 0 Z (AW.draw 6 mixed (by kernel_rfl) Z ?_); refine Ev.cons rfl rfl rfl (AO.aP (i:=4) rfl rfl rfl fD rfl rfl ⟨rfl,rfl⟩) (Ev.cons rfl rfl rfl (AO.aP (i:=4) rfl rfl rfl fD rfl rfl ⟨rfl,rfl⟩) (Ev.cons rfl rfl rfl (AO.aX (aj.aT [x3,x3]) rfl rC rfl rfl rfl (by first | rfl | simp only [List.map,aj.aC,aj.aT]) ⟨rfl,rfl⟩) ?_))
  refine Ev.cons Z Z Z (AO.aX (List.map aj.qJ [[x3,x3]]) Z BI Z Z Z Z zg) (Ev.cons Z Z Z (AO.aP (i:=3) Z Z Z fD Z Z zg) (Ev.cs aH 1 Z (Ev.nil ?_))); show AR _ _ _ _ _ _ _ _; cases hf; exact Rx 1 [7] Z Z (ZC [7] Z Z h)
 refine V 2 Z (C hf Z (fun h20 hf=>?_) fun h20 hf=>?_)
 ·
  refine V 0 Z (AW.draw 5 mixed (by kernel_rfl) Z ?_); refine Ev.cons rfl rfl rfl (AO.aP (i:=4) rfl rfl rfl fD rfl rfl ⟨rfl,rfl⟩) (Ev.cons rfl rfl rfl (AO.aX (aj.aT [x3]) rfl rC rfl rfl rfl (by first | rfl | simp only [List.map,aj.aC,aj.aT]) ⟨rfl,rfl⟩) ?_); refine Ev.cons Z Z Z (AO.aX (List.map aj.qJ [[x3]]) Z BI Z Z Z Z zg) (Ev.cons Z Z Z (AO.aP (i:=5) Z Z Z fD Z Z zg) (Ev.cs aH 1 Z (Ev.nil ?_))); show AR _ _ _ _ _ _ _ _
  cases hf; exact Rx 1 [7] Z Z (ZC [7] Z Z h)
 refine V 2 Z (C hf Z (fun h21 hf=>?_) fun h21 hf=>?_)
 ·
  refine V 0 Z (AW.draw 6 mixed (by kernel_rfl) Z ?_); refine Ev.cons rfl rfl rfl (AO.aP (i:=6) rfl rfl rfl fD rfl rfl ⟨rfl,rfl⟩) (Ev.cons rfl rfl rfl (AO.aP (i:=6) rfl rfl rfl fD rfl rfl ⟨rfl,rfl⟩) (Ev.cons rfl rfl rfl (AO.aX (aj.aT [x1,x1]) rfl rC rfl rfl rfl (by first | rfl | simp only [List.map,aj.aC,aj.aT]) ⟨rfl,rfl⟩) ?_))
  refine Ev.cons Z Z Z (AO.aX (List.map aj.qJ [[x1,x1]]) Z BI Z Z Z Z zg) (Ev.cons Z Z Z (AO.aP (i:=6) Z Z Z fD Z Z zg) (Ev.cs aH 1 Z (Ev.nil ?_))); show AR _ _ _ _ _ _ _ _; cases hf; exact Rx 1 [7] Z Z (ZC [7] Z Z h)
 refine V 2 Z (C hf Z (fun h22 hf=>?_) fun h22 hf=>?_)
 ·
  refine V 0 Z (AW.draw 5 mixed (by kernel_rfl) Z ?_); refine Ev.cons rfl rfl rfl (AO.aP (i:=1) rfl rfl rfl fD rfl rfl ⟨rfl,rfl⟩) (Ev.cons rfl rfl rfl (AO.aX (aj.aT [x6]) rfl rC rfl rfl rfl (by first | rfl | simp only [List.map,aj.aC,aj.aT]) ⟨rfl,rfl⟩) ?_); refine Ev.cons Z Z Z (AO.aX (List.map aj.qJ [[x6]]) Z BI Z Z Z Z zg) (Ev.cons Z Z Z (AO.aP (i:=0) Z Z Z fD Z Z zg) (Ev.cs aH 1 Z (Ev.nil ?_))); show AR _ _ _ _ _ _ _ _
  cases hf; exact Rx 1 [7] Z Z (ZC [7] Z Z h)
 refine V 0 Z (AW.draw 2 mixed (by kernel_rfl) Z ?_); refine Ev.cons Z Z Z (AO.aP (i:=6) Z Z Z fD Z Z zg) (Ev.cons Z Z Z (AO.kI Z Z zg) (Ev.nil ?_)); show AR _ _ _ _ _ _ _ _; cases hf; exact Rx 1 [7] Z Z (ZC [7] Z Z h)
theorem gF (t1:aj) {r0:Bool} (hf:eP t1=some r0) (h:Q (.ret (.bool r0)) τ):PC 143 [.agg (aN t1)] τ Q:=by
 unfold eP at hf; refine BN 11 [.tmp 2] [0] Tryz.func143 Z Z Z Z Z (W 6 Z (On 4 6 10 [] (t1.kind == 7) Z Z Z Z ?_)); cases hf; exact N 1 Z (Y Z h)
abbrev DU (lF:aj→aj→Option Bool):Prop:=∀ (wJ:aj) (Pm:aj) {aO:Bool},lF wJ Pm=some aO→∀ {τ:List bg} {Q:eD→List bg→Prop} (h:Q (.ret (.bool aO)) τ),PC 92 [.agg (aN wJ),.agg (aN Pm)] τ Q
theorem K4 (lF) (Jk:DU lF) (t1:aj) (u1:aj) {r0:Bool} (hf:kG lF t1 u1=some r0) (h:Q (.ret (.bool r0)) τ):PC 92 [.agg (aN t1),.agg (aN u1)] τ Q:=by
 unfold kG at hf; refine BN 39 [.tmp 4] [0,1] Tryz.func92 Z Z Z Z Z ?_; refine B1 hf fun x1 h1 hf=>W 4 Z (CL Z (gF _ h1 (U 1 Z (On 4 8 12 [2,3] (u1.kind == 0) Z Z Z Z (J 1 Z (C hf Z (fun h3 hf=>?_) fun h3 hf=>?_))))))
 · cases hf; exact M 1 Z (Y Z h)
 refine V 6 Z (C hf Z (fun h4 hf=>?_) fun h4 hf=>?_)
 · cases hf; exact M 1 Z (Y Z h)
 refine W 2 Z (AS Z (AO.aM (l:=t1.elem) Z Z Z Z dX Z (aj.aA _) (U 2 Z (AR.and 5 24 29 [2,3] (x:=((u1.elem.length:Int) == 1)) Z Z (fun h5=>?_) (fun h5=>?_) ?_))))
 · refine Is 24 h5 Z (U 2 Z (GO Z (AO.aM (l:=u1.elem) Z Z Z Z dX Z (aj.aA _) ?_))); exact dY 2 Z (En [29,2,3] Z)
 · refine Is 24 h5 Z ?_; exact dY 5 Z (En [29,2,3] Z)
 refine J 1 Z (C hf Z (fun h6 hf=>?_) fun h6 hf=>?_)
 ·
  refine V 0 Z (AW.draw 10 mixed (by kernel_rfl) Z ?_); refine Ev.cs aH 2 Z ?_; refine B1 hf fun e1 h7 hf=>Ev.cons Z Z Z (AO.aJ h7 Z Z (aj.aA _) Z dX (aj.aC _) Z zg) (Ev.cs aH 3 Z ?_); refine B1 hf fun e2 h8 hf=>Ev.cons Z Z Z (AO.aJ h8 Z Z (aj.aA _) Z dX (aj.aC _) Z zg) (Ev.cs aH 1 Z ?_); refine BR hf fun x2 h9 hf=>?_; refine Ev.cons Z Z Z (AO.call Z _ Z Z QS (Jk _ _ h9 zg)) (Ev.cs aH 1 Z (Ev.nil ?_)); show AR _ _ _ _ _ _ _ _; cases hf; exact N 0 Z (Y Z h)
 cases hf; exact M 1 Z (Y Z h)
theorem Lc :∀ k:Nat,(DU (gU k)):=by
 intro k
 induction k with
 | zero=>exact fun _ _ _ hz=>by first | cases hz | (unfold gU at hz; cases hz)
 | succ k ih=>exact fun wJ Pm aO hz τ Q hq=>K4 (gU k) ih wJ Pm hz hq
theorem jF (wJ:aj) (Pm:aj) {aO:Bool} (hf:ig wJ Pm=some aO) (h:Q (.ret (.bool aO)) τ):PC 92 [.agg (aN wJ),.agg (aN Pm)] τ Q:=
 ((Lc BIG)) wJ Pm hf h
theorem Ub (xC:List aj) (Az:List aj) {r0:Bool} (hf:qh xC Az=some r0) (h:Q (.ret (.bool r0)) τ):PC 141 [.list (aj.aT xC),.list (aj.aT Az)] τ Q:=by
 unfold qh at hf; refine BN 22 [.tmp 4] [0,1] Tryz.func141 Z Z Z Z Z (W 2 Z (AS Z (AO.aM (l:=Az) Z Z Z Z dX Z (aj.aA _) (J 1 Z (E_ (fun i1=>[(0,.list (aj.aT xC)),(1,.list (aj.aT Az)),(7,iP (Az.length:Int)),(8,iP i1)]) (fun i1=>[]) (fun bP i1=>qY xC Az bP i1=some r0) BIG 0 Z Z hf (fun _ hz=>bG hz) ?_))))); intro bP i1 hf; rw [qY] at hf; refine V 1 Z (C hf Z (fun h1 hf=>?_) fun h1 hf=>?_)
 ·
  refine V 2 Z (AW.draw 10 mixed (by kernel_rfl) Z ?_); refine Ev.cs aH 2 Z ?_; refine B1 hf fun e1 h2 hf=>Ev.cons Z Z Z (AO.aJ h2 Z Z (aj.aA _) Z dX (aj.aC _) Z zg) (Ev.cs aH 3 Z ?_); refine B1 hf fun e2 h3 hf=>Ev.cons Z Z Z (AO.aJ h3 Z Z (aj.aA _) Z dX (aj.aC _) Z zg) (Ev.cs aH 1 Z ?_); refine B1 hf fun x1 h4 hf=>Ev.cons Z Z Z (AO.call Z _ Z Z QS (jF _ _ h4 zg)) (Ev.cs aH 1 Z (Ev.nil ?_)); show AR _ _ _ _ _ _ _ _; refine J 0 Z (C hf Z (fun h5 hf=>?_) fun h5 hf=>?_)
  · cases hf; exact M 1 Z (Y Z h)
  exact M 2 Z ⟨(bW (i1 + 1)),Z,Z,Z,hf⟩
 cases hf; exact M 1 Z (Y Z h)
theorem jL (dJ:Int) {r0:aj} (hf:fA dJ=some r0) (h:Q (.ret (.agg (aN r0))) τ):PC 95 [iP dJ] τ Q:=by
 unfold fA at hf; refine BN 5 [.cell 2 54] [0] Tryz.func95 Z Z Z Z Z (W 0 Z (AS Z (AO.aF Z gG (fun b2=>?_)))); cases hf; exact Rx 3 [0] Z Z (ZC [0] Z Z h)
theorem ED (dJ:Int) (iL:aj) {r0:aj} (hf:oz dJ iL=some r0) (h:Q (.ret (.agg (aN r0))) τ):PC 149 [iP dJ,.agg (aN iL)] τ Q:=by
 unfold oz at hf; refine BN 9 [.cell 4 54] [0,1] Tryz.func149 rfl rfl rfl rfl rfl (W 1 rfl (AS rfl (AO.aF rfl gG (fun b4=>(U 2 rfl (AS rfl (AO.aX (aj.aT [iL]) rfl rC rfl rfl rfl (by first | rfl | simp only [List.map,aj.aC,aj.aT]) ?_))))))); cases hf; exact Rx 2 [0] Z Z (ZC [0] Z Z h)
abbrev JW (pJ:aj→Option aj):Prop:=∀ (wJ:aj) {aO:aj},pJ wJ=some aO→∀ {τ:List bg} {Q:eD→List bg→Prop} (h:Q (.ret (.agg (aN aO))) τ),PC 148 [.agg (aN wJ)] τ Q
theorem Qp (pJ) (Oc:JW pJ) (t1:aj) {r0:aj} (hf:tV pJ t1=some r0) (h:Q (.ret (.agg (aN r0))) τ):PC 148 [.agg (aN t1)] τ Q:=by
 unfold tV at hf; refine BN 18 [.cell 2 54] [0] Tryz.func148 Z Z Z Z Z (W 1 Z (AS Z (AO.aF Z gG (fun b2=>?_)))); refine B1 hf fun x1 h1 hf=>U 2 Z (CL Z (sj _ h1 (J 1 Z (C hf Z (fun h2 hf=>?_) fun h2 hf=>?_))))
 · refine BR hf fun x2 h3 hf=>?_; refine W 2 Z (CL Z (jL _ h3 ?_)); cases hf; exact Rx 1 [0] Z Z (ZC [0] Z Z h)
 refine V 0 Z (AW.draw 8 mixed (by kernel_rfl) Z ?_); refine Ev.cs aH 4 Z ?_; refine B1 hf fun e1 h4 hf=>Ev.cons Z Z Z (AO.aJ h4 Z Z (aj.aA _) Z dX (aj.aC _) Z zg) (Ev.cs aH 1 Z ?_); refine B1 hf fun x3 h5 hf=>Ev.cons Z Z Z (AO.call Z _ Z Z ajG (Oc _ h5 zg)) ?_; refine BR hf fun x4 h6 hf=>?_; refine Ev.cons Z Z Z (AO.call Z _ Z Z aeW (ED _ _ h6 zg)) (Ev.nil ?_); show AR _ _ _ _ _ _ _ _; cases hf; exact Rx 1 [0] Z Z (ZC [0] Z Z h)
theorem Q7 :∀ k:Nat,(JW (mV k)):=by
 intro k
 induction k with
 | zero=>exact fun _ _ hz=>by first | cases hz | (unfold mV at hz; cases hz)
 | succ k ih=>exact fun wJ aO hz τ Q hq=>Qp (mV k) ih wJ hz hq
theorem JF (wJ:aj) {aO:aj} (hf:BX wJ=some aO) (h:Q (.ret (.agg (aN aO))) τ):PC 148 [.agg (aN wJ)] τ Q:=
 ((Q7 BIG)) wJ hf h
abbrev KW (qU:aj→aj→Option aj):Prop:=∀ (pI:aj) (pG:aj) {aO:aj},qU pI pG=some aO→∀ {τ:List bg} {Q:eD→List bg→Prop} (h:Q (.ret (.agg (aN aO))) τ),PC 96 [.agg (aN pI),.agg (aN pG)] τ Q
theorem S9 (qU) (Pz:KW qU) (a1:aj) (b1:aj) {r0:aj} (hf:qA qU a1 b1=some r0) (h:Q (.ret (.agg (aN r0))) τ):PC 96 [.agg (aN a1),.agg (aN b1)] τ Q:=by
 unfold qA at hf; refine BN 43 [.cell 4 54] [0,1] Tryz.func96 Z Z Z Z Z (W 2 Z (AS Z (AO.aF Z gG (fun b4=>(J 4 Z (C hf Z (fun h1 hf=>?_) fun h1 hf=>?_))))))
 · refine BR hf fun x1 h2 hf=>?_; refine W 1 Z (CL Z (JF _ h2 ?_)); cases hf; exact Rx 1 [0] Z Z (ZC [0] Z Z h)
 refine V 4 Z (C hf Z (fun h3 hf=>?_) fun h3 hf=>?_)
 · refine BR hf fun x2 h4 hf=>?_; refine W 1 Z (CL Z (JF _ h4 ?_)); cases hf; exact Rx 1 [0] Z Z (ZC [0] Z Z h)
 refine V 6 Z (C hf Z (fun h5 hf=>?_) fun h5 hf=>?_)
 · refine BR hf fun x3 h6 hf=>?_; refine W 0 Z (CL Z (jL _ h6 ?_)); cases hf; exact Rx 1 [0] Z Z (ZC [0] Z Z h)
 refine B1 hf fun x4 h7 hf=>W 2 Z (CL Z (sj _ h7 (J 1 Z (C hf Z (fun h8 hf=>?_) fun h8 hf=>?_))))
 ·
  refine V 0 Z (AW.draw 12 mixed (by kernel_rfl) Z ?_); refine Ev.cs aH 4 Z ?_; refine B1 hf fun e1 h9 hf=>Ev.cons Z Z Z (AO.aJ h9 Z Z (aj.aA _) Z dX (aj.aC _) Z zg) (Ev.cs aH 3 Z ?_); refine B1 hf fun e2 h10 hf=>Ev.cons Z Z Z (AO.aJ h10 Z Z (aj.aA _) Z dX (aj.aC _) Z zg) (Ev.cs aH 1 Z ?_); refine B1 hf fun x5 h11 hf=>Ev.cons Z Z Z (AO.call Z _ Z Z aie (Pz _ _ h11 zg)) ?_; refine BR hf fun x6 h12 hf=>?_; refine Ev.cons Z Z Z (AO.call Z _ Z Z aeW (ED _ _ h12 zg)) (Ev.nil ?_); show AR _ _ _ _ _ _ _ _; cases hf; exact Rx 1 [0] Z Z (ZC [0] Z Z h)
 refine BR hf fun x7 kQ hf=>?_; refine W 2 Z (CL Z (jL _ kQ ?_)); cases hf; exact Rx 1 [0] Z Z (ZC [0] Z Z h)
theorem Ti :∀ k:Nat,(KW (kP k)):=by
 intro k
 induction k with
 | zero=>exact fun _ _ _ hz=>by first | cases hz | (unfold kP at hz; cases hz)
 | succ k ih=>exact fun pI pG aO hz τ Q hq=>S9 (kP k) ih pI pG hz hq
theorem KO (pI:aj) (pG:aj) {aO:aj} (hf:AP pI pG=some aO) (h:Q (.ret (.agg (aN aO))) τ):PC 96 [.agg (aN pI),.agg (aN pG)] τ Q:=
 ((Ti BIG)) pI pG hf h
abbrev KX (kg:ah→Option aj):Prop:=∀ (qH:ah) {aO:aj},kg qH=some aO→∀ {τ:List bg} {Q:eD→List bg→Prop} (h:Q (.ret (.agg (aN aO))) τ),PC 142 [.agg (aL qH)] τ Q
theorem S_ (kg) (PD:KX kg) (v1:ah) {r0:aj} (hf:Ah kg v1=some r0) (h:Q (.ret (.agg (aN r0))) τ):PC 142 [.agg (aL v1)] τ Q:=by
 unfold Ah at hf; refine BN 40 [.cell 2 54] [0] Tryz.func142 Z Z Z Z Z (W 1 Z (AS Z (AO.aF Z gG (fun b2=>(J 4 Z (C hf Z (fun h1 hf=>?_) fun h1 hf=>?_))))))
 · refine BR hf fun x1 h2 hf=>?_; refine W 0 Z (CL Z (jL _ h2 ?_)); cases hf; exact Rx 1 [0] Z Z (ZC [0] Z Z h)
 refine V 2 Z (C hf Z (fun h3 hf=>?_) fun h3 hf=>?_)
 · refine BR hf fun x2 h4 hf=>?_; refine W 0 Z (CL Z (jL _ h4 ?_)); cases hf; exact Rx 1 [0] Z Z (ZC [0] Z Z h)
 refine V 2 Z (C hf Z (fun h5 hf=>?_) fun h5 hf=>?_)
 · refine BR hf fun x3 h6 hf=>?_; refine W 0 Z (CL Z (jL _ h6 ?_)); cases hf; exact Rx 1 [0] Z Z (ZC [0] Z Z h)
 refine V 2 Z (C hf Z (fun h7 hf=>?_) fun h7 hf=>?_)
 · refine BR hf fun x4 h8 hf=>?_; refine W 0 Z (CL Z (jL _ h8 ?_)); cases hf; exact Rx 1 [0] Z Z (ZC [0] Z Z h)
 refine B1 hf fun x5 h9 hf=>W 0 Z (CL Z (jL _ h9 (AS Z (AO.aF Z gG (fun b3=>(Rr 3 [0] Z Z (AS Z (AO.aM (l:=v1.aI) Z Z Z Z fB Z (ah.aA _) ?_)))))))); refine J 1 Z (Zn (fun x6 iL=>[(1,.ref (aL v1)),(2,pP b2),(3,pP b3),(22,.list (ah.aT v1.aI)),(23,iP (v1.aI.length:Int)),(24,iP x6)]) (fun x6 iL=>[.box b3 (aN iL),.box b2 [iP 0,.own (.slice none 0 0) []]]) (fun bP x6 iL=>tQ kg v1 bP x6 iL=some r0) BIG 0 x5 Z Z hf (fun _ _ hz=>bG hz) ?_); intro bP x6 iL hf; rw [tQ] at hf; refine V 1 Z (C hf Z (fun h10 hf=>?_) fun h10 hf=>?_)
 ·
  refine B1 hf fun e1 h11 hf=>W 0 Z (AS Z (AO.aJ h11 Z Z (ah.aA _) Z fB (ah.aC _) Z (U 1 Z (AS Z (AO.aF Z gV (fun b5=>(Rw 1 [0] Z Z (AW.draw 4 mixed (by kernel_rfl) Z ?_)))))))); refine Ev.cons Z Z Z (AO.aP (i:=1) Z Z Z fD Z Z zg) (Ev.cons Z Z Z (AO.aP (i:=0) Z Z Z o8 Z Z zg) ?_); refine B1 hf fun x7 h12 hf=>Ev.cons Z Z Z (AO.call Z _ Z Z ajH (PD _ h12 zg)) ?_; refine B1 hf fun x8 kQ hf=>Ev.cons Z Z Z (AO.call Z _ Z Z aie (KO _ _ kQ zg)) (Ev.nil ?_); show AR _ _ _ _ _ _ _ _; refine Rn 3 [1] Z Z (AR.drop1 ?_); exact N 0 Z ⟨(bW (x6 + 1)),x8,Z,Z,Z,hf⟩
 refine V 3 Z (C hf Z (fun lQ hf=>?_) fun lQ hf=>?_)
 · refine BR hf fun x9 ng hf=>?_; refine Wr 1 [0] Z Z (CL Z (ED _ _ ng ?_)); cases hf; exact Rx 1 [1] Z Z (ZC [1] Z Z h)
 refine BR hf fun BH h16 hf=>?_; refine Wr 1 [0] Z Z (CL Z (ED _ _ h16 ?_)); cases hf; exact Rx 1 [1] Z Z (ZC [1] Z Z h)
theorem Tj :∀ k:Nat,(KX (mG k)):=by
 intro k
 induction k with
 | zero=>exact fun _ _ hz=>by first | cases hz | (unfold mG at hz; cases hz)
 | succ k ih=>exact fun qH aO hz τ Q hq=>S_ (mG k) ih qH hz hq
theorem TL (qH:ah) {aO:aj} (hf:IB qH=some aO) (h:Q (.ret (.agg (aN aO))) τ):PC 142 [.agg (aL qH)] τ Q:=
 ((Tj BIG)) qH hf h
theorem YT (v1:ah) {r0:aj} (hf:Fh v1=some r0) (h:Q (.ret (.agg (aN r0))) τ):PC 86 [.agg (aL v1)] τ Q:=by
 unfold Fh at hf; refine BN 9 [.cell 2 54] [0] Tryz.func86 Z Z Z Z Z (W 1 Z (AS Z (AO.aF Z gG (fun b2=>?_)))); refine B1 hf fun x1 h1 hf=>U 1 Z (CL Z (qD _ h1 (J 1 Z (C hf Z (fun h2 hf=>?_) fun h2 hf=>?_))))
 · refine BR hf fun x2 h3 hf=>?_; refine W 0 Z (CL Z (jL _ h3 ?_)); cases hf; exact Rx 1 [0] Z Z (ZC [0] Z Z h)
 refine BR hf fun x3 h4 hf=>?_; refine W 1 Z (CL Z (TL _ h4 ?_)); cases hf; exact Rx 1 [0] Z Z (ZC [0] Z Z h)
theorem OA (b_:List aG) (name1:Str) {r0:aj} {r1:Int} (hf:uF b_ name1=some (r0,r1)) (h:Q (.ret (.tuple [.agg (aN r0),iP r1])) τ):PC 87 [.list (List.map aG.cells b_),.str name1] τ Q:=by
 unfold uF at hf; refine BN 22 [.cell 4 54,.tmp 5] [0,1] Tryz.func87 Z Z Z Z Z (W 0 Z (AS Z (AO.aF Z gG (fun b4=>(U 2 Z (AS Z (AO.aM (l:=b_) Z Z Z Z zl Z Z (J 1 Z (E_ (fun x1=>[(1,.str name1),(4,pP b4),(8,.list (List.map aG.cells b_)),(9,iP (b_.length:Int)),(10,iP x1)]) (fun x1=>[.box b4 [iP 0,.own (.slice none 0 0) []]]) (fun bP x1=>ql b_ name1 bP x1=some (r0,r1)) BIG 0 Z Z hf (fun _ hz=>bG hz) ?_))))))))); intro bP x1 hf; rw [ql] at hf; refine V 1 Z (C hf Z (fun h1 hf=>?_) fun h1 hf=>?_)
 ·
  refine B1 hf fun e1 h2 hf=>W 0 Z (AS Z (AO.aJ h2 Z Z Z Z zl (aG.aC _) Z (U 1 Z (AS Z (AO.aF Z aa4 (fun b7=>(Rw 5 [0,0] Z Z (C hf Z (fun h3 hf=>?_) fun h3 hf=>?_))))))))
  · cases hf; exact Wx 4 [0,1] Z Z (ZC [1] Z Z h)
  refine Wn0 2 Z (AR.drop1 ?_); exact N 0 Z ⟨(bW (x1 + 1)),Z,Z,Z,hf⟩
 cases hf; exact Wx 3 [0] Z Z (ZC [0] Z Z h)
theorem Sw (t1:aj) {r0:aj} {r1:Int} (hf:zn t1=some (r0,r1)) (h:Q (.ret (.tuple [.agg (aN r0),iP r1])) τ):PC 88 [.agg (aN t1)] τ Q:=by
 unfold zn at hf; refine BN 17 [.cell 2 54,.tmp 3] [0] Tryz.func88 Z Z Z Z Z (W 1 Z (AS Z (AO.aF Z gG (fun b2=>?_)))); refine B1 hf fun x1 h1 hf=>U 2 Z (CL Z (gF _ h1 (J 1 Z (C hf Z (fun h2 hf=>?_) fun h2 hf=>?_))))
 · cases hf; exact Wx 3 [0] Z Z (ZC [0] Z Z h)
 refine V 4 Z (C hf Z (fun h3 hf=>?_) fun h3 hf=>?_)
 · refine B1 hf fun e1 h4 hf=>W 2 Z (AS Z (AO.aJ h4 Z Z (aj.aA _) Z dX (aj.aC _) Z ?_)); cases hf; exact Rx 3 [0] Z Z (ZC [0] Z Z h)
 cases hf; exact Wx 3 [0] Z Z (ZC [0] Z Z h)
theorem Uc (t1:aj) (i1:aj) {r0:aj} {r1:Int} (hf:Bp t1 i1=some (r0,r1)) (h:Q (.ret (.tuple [.agg (aN r0),iP r1])) τ):PC 89 [.agg (aN t1),.agg (aN i1)] τ Q:=by
 unfold Bp at hf; refine BN 42 [.cell 4 54,.tmp 5] [0,1] Tryz.func89 Z Z Z Z Z (W 2 Z (AS Z (AO.aF Z gG (fun b4=>(J 1 Z (AW.draw 8 mixed (by kernel_rfl) Z ?_)))))); refine Ev.cs aH 1 Z ?_; refine B1 hf fun x1 h1 hf=>Ev.cons Z Z Z (AO.call Z _ Z Z QT (eO _ h1 zg)) ?_; refine B1 hf fun MO h2 hf=>Ev.cons Z Z Z (AO.call Z _ Z Z QS (jF _ _ h2 zg)) (Ev.cs aH 1 Z ?_); refine B1 hf fun x2 h3 hf=>Ev.cons Z Z Z (AO.call Z _ Z Z QT (eO _ h3 zg)) ?_; refine B1 hf fun text1 h4 hf=>Ev.cons Z Z Z (AO.call Z _ Z Z QS (jF _ _ h4 zg)) (Ev.cs aH 2 Z (Ev.nil ?_)); show AR _ _ _ _ _ _ _ _; refine U 4 Z (An 2 18 20 [2,4,6,7] MO Z Z Z Z (J 1 Z (C hf Z (fun h6 hf=>?_) fun h6 hf=>?_)))
 ·
  refine V 0 Z (AW.cond Z (fun h7=>?_) (fun h7=>?_))
  · refine B1 hf fun e1 h8 hf=>W 2 Z (AS Z (AO.aJ h8 Z Z (aj.aA _) Z dX (aj.aC _) Z ?_)); cases hf; exact Rx 3 [0] Z Z (ZC [0] Z Z h)
  cases h6.symm.trans h7
 refine W 4 Z (An 2 24 26 [2,4,6,7,14] text1 Z Z Z Z (J 1 Z (C hf Z (fun h10 hf=>?_) fun h10 hf=>?_)))
 · refine B1 hf fun e2 h11 hf=>W 2 Z (AS Z (AO.aJ h11 Z Z (aj.aA _) Z dX (aj.aC _) Z ?_)); cases hf; exact Rx 3 [0] Z Z (ZC [0] Z Z h)
 refine B1 hf fun x3 h12 hf=>W 1 Z (CL Z (gF _ h12 (U 1 Z (AR.and 5 34 39 [2,4] (x:=(MO || text1)) Z Z (fun kQ=>?_) (fun kQ=>?_) ?_))))
 · refine Is 34 kQ Z (U 2 Z (On 2 36 38 [2,4,34] text1 Z Z Z Z ?_)); exact dY 1 Z (En [39,2,4] Z)
 · refine Is 34 kQ Z ?_; exact dY 5 Z (En [39,2,4] Z)
 refine J 1 Z (C hf Z (fun ng hf=>?_) fun ng hf=>?_)
 · cases hf; exact Wx 3 [0] Z Z (ZC [0] Z Z h)
 cases hf; exact Wx 3 [0] Z Z (ZC [0] Z Z h)
theorem Ua (op1:Str) (t1:aj) {r0:aj} {r1:Int} (hf:Bo op1 t1=some (r0,r1)) (h:Q (.ret (.tuple [.agg (aN r0),iP r1])) τ):PC 90 [.str op1,.agg (aN t1)] τ Q:=by
 unfold Bo at hf; refine BN 17 [.cell 4 54,.tmp 5] [0,1] Tryz.func90 Z Z Z Z Z (W 1 Z (AS Z (AO.aF Z gG (fun b4=>?_)))); refine B1 hf fun x1 h1 hf=>U 1 Z (CL Z (eO _ h1 (AS Z (AO.aF Z gG (fun b6=>(Rw 3 [0] Z Z (C hf Z (fun h2 hf=>?_) fun h2 hf=>?_)))))))
 ·
  refine B1 hf fun x2 h3 hf=>W 0 Z (CL Z (eO _ h3 ?_)); refine B1 hf fun x3 h4 hf=>Rr 3 [0,0] Z Z (CL Z (jF _ _ h4 (J 1 Z (C hf Z (fun h5 hf=>?_) fun h5 hf=>?_))))
  · cases hf; exact Wx 3 [1] Z Z (ZC [1] Z Z h)
  cases hf; exact Wx 3 [0,1] Z Z (ZC [1] Z Z h)
 refine B1 hf fun x4 h6 hf=>Wr 2 [0] Z Z (CL Z (jF _ _ h6 (J 1 Z (C hf Z (fun h7 hf=>?_) fun h7 hf=>?_))))
 · cases hf; exact Wx 3 [1] Z Z (ZC [1] Z Z h)
 cases hf; exact Wx 3 [0,1] Z Z (ZC [1] Z Z h)
theorem oG (dJ:Int) (c1:aj) (c2:aj) {r0:Bool} (hf:iT dJ c1 c2=some r0) (h:Q (.ret (.bool r0)) τ):PC 144 [iP dJ,.ref (aN c1),.ref (aN c2)] τ Q:=by
 unfold iT at hf; refine BN 15 [.tmp 4] [0,1,2] Tryz.func144 Z Z Z Z Z (V 1 Z (AW.draw 11 mixed (by kernel_rfl) Z ?_)); refine Ev.cs aH 2 Z ?_; refine B1 hf fun x1 h1 hf=>Ev.cons Z Z Z (AO.call Z _ Z Z QT (eO _ h1 zg)) ?_; refine B1 hf fun x2 h2 hf=>Ev.cons Z Z Z (AO.call Z _ Z Z QS (jF _ _ h2 zg)) (Ev.cs aH 1 Z ?_); refine BR hf fun b1 h4 hf=>?_; refine Ev.cZ hKA 5 9 14 true [] (.bool b1) Z Z (fun h3=>?_) (fun h3=>?_) ?_
 · replace h4:=jN h3 h4; refine Ev.is r9 9 h3 Z (Ev.cs aH 2 Z ?_); refine B1 h4 fun x3 h5 h4=>Ev.run Z Z Z Z Z Z Z (AO.call Z _ Z Z QT (eO _ h5 zg)) ?_; refine BR h4 fun x4 h6 h4=>?_; refine Ev.run Z Z Z Z Z Z Z (AO.call Z _ Z Z QS (jF _ _ h6 zg)) ?_; cases h4; refine Ev.cs aH 1 Z ?_; exact Ev.nil (Less.settle (ps:=[14]) Z)
 · replace h4:=jA h3 h4; refine Ev.is r9 9 h3 Z ?_; cases h4; refine Ev.cs aH 5 Z ?_; exact Ev.nil (Less.settle (ps:=[14]) Z)
 refine Ev.cs aH 1 Z (Ev.nil ?_); show AR _ _ _ _ _ _ _ _; cases hf; exact N 0 Z (Y Z h)
theorem jG (a1:aj) (b1:aj) (dJ:Int) {r0:Bool} (hf:gP a1 b1 dJ=some r0) (h:Q (.ret (.bool r0)) τ):PC 145 [.agg (aN a1),.agg (aN b1),iP dJ] τ Q:=by
 unfold gP at hf; refine BN 37 [.tmp 6] [0,1,2] Tryz.func145 Z Z Z Z Z ?_; refine B1 hf fun x1 h1 hf=>W 4 Z (CL Z (gF _ h1 (U 1 Z (On 5 9 14 [2,3,4] (a1.kind == dJ) Z Z Z Z ?_)))); refine B1 hf fun b2 h4 hf=>U 1 Z (AR.cZ 9 15 24 true [2,3,4] b2 Z Z (fun h3=>?_) (fun h3=>?_) ?_)
 · refine IT 15 h3 h4 Z fun h4=>?_; refine B1 h4 fun x2 h5 h4=>U 1 Z (GO Z (AO.call Z _ Z Z NV (gF _ h5 (U 1 Z (On 5 18 23 [2,3,4,15] (b1.kind == dJ) Z Z Z Z ?_))))); cases h4; exact dY 1 Z (En [24,2,3,4] Z)
 · refine IF 15 h3 h4 Z fun h4=>?_; cases h4; exact dY 9 Z (En [24,2,3,4] Z)
 refine U 1 Z (AR.and 11 25 36 [] (x:=((a1.kind == dJ) || (b1.kind == dJ))) Z Z (fun h7=>?_) (fun h7=>?_) ?_)
 · refine Is 25 h7 Z (U 5 Z (On 5 30 35 [25] (b1.kind == dJ) Z Z Z Z ?_)); exact dY 1 Z (En [36] Z)
 · refine Is 25 h7 Z ?_; exact dY 11 Z (En [36] Z)
 cases hf; exact N 1 Z (Y Z h)
theorem H8 (t1:aj) {r0:aj} (hf:sI t1=some r0) (h:Q (.ret (.agg (aN r0))) τ):PC 207 [.agg (aN t1)] τ Q:=by
 unfold sI at hf; refine BN 10 [.cell 2 54] [0] Tryz.func207 Z Z Z Z Z (W 1 Z (AS Z (AO.aF Z gG (fun b2=>?_)))); refine B1 hf fun x1 h1 hf=>U 1 Z (CL Z (gF _ h1 (J 0 Z (C hf Z (fun h2 hf=>?_) fun h2 hf=>?_))))
 · cases hf; exact Wx 2 [0] Z Z (ZC [0] Z Z h)
 refine BR hf fun e1 h3 hf=>?_; refine W 2 Z (AS Z (AO.aJ h3 Z Z (aj.aA _) Z dX (aj.aC _) Z ?_)); cases hf; exact Rx 2 [0] Z Z (ZC [0] Z Z h)
theorem TM (a1:aj) (b1:aj) {r0:Bool} (hf:D_ a1 b1=some r0) (h:Q (.ret (.bool r0)) τ):PC 94 [.agg (aN a1),.agg (aN b1)] τ Q:=by
 unfold D_ at hf; refine BN 13 [.tmp 4] [0,1] Tryz.func94 Z Z Z Z Z ?_; refine B1 hf fun x1 h1 hf=>W 4 Z (CL Z (zu _ h1 ?_)); refine BR hf fun b2 h3 hf=>?_; refine U 2 Z (AR.cZ 4 8 12 true [] b2 Z Z (fun h2=>?_) (fun h2=>?_) ?_)
 · refine IT 8 h2 h3 Z fun h3=>?_; refine B1 h3 fun x2 h4 h3=>U 1 Z (GO Z (AO.call Z _ Z Z alc (zu _ h4 ?_))); cases h3; exact dY 2 Z (En [12] Z)
 · refine IF 8 h2 h3 Z fun h3=>?_; cases h3; exact dY 4 Z (En [12] Z)
 cases hf; exact N 1 Z (Y Z h)
theorem Av (a1:aj) (b1:aj) {r0:aj} (hf:lI a1 b1=some r0) (h:Q (.ret (.agg (aN r0))) τ):PC 58 [.agg (aN a1),.agg (aN b1)] τ Q:=by
 unfold lI at hf; refine BN 13 [.cell 4 54] [0,1] Tryz.func58 Z Z Z Z Z (W 2 Z (AS Z (AO.aF Z gG (fun b4=>?_)))); refine B1 hf fun x1 h1 hf=>U 2 Z (CL Z (TM _ _ h1 (J 1 Z (C hf Z (fun h2 hf=>?_) fun h2 hf=>?_))))
 · refine BR hf fun x2 h3 hf=>?_; refine W 0 Z (CL Z (jL _ h3 ?_)); cases hf; exact Rx 1 [0] Z Z (ZC [0] Z Z h)
 refine BR hf fun x3 h4 hf=>?_; refine W 2 Z (CL Z (KO _ _ h4 ?_)); cases hf; exact Rx 1 [0] Z Z (ZC [0] Z Z h)
theorem Ze (a1:aj) (b1:aj) {r0:aj} {r1:Int} (hf:Gb a1 b1=some (r0,r1)) (h:Q (.ret (.tuple [.agg (aN r0),iP r1])) τ):PC 146 [.agg (aN a1),.agg (aN b1)] τ Q:=by
 unfold Gb at hf; refine BN 44 [.cell 4 54,.tmp 5] [0,1] Tryz.func146 Z Z Z Z Z (W 2 Z (AS Z (AO.aF Z gG (fun b4=>?_)))); refine B1 hf fun x1 h1 hf=>U 2 Z (CL Z (gF _ h1 ?_)); refine B1 hf fun b2 h3 hf=>U 1 Z (AR.cZ 3 9 12 true [2,3,4] b2 Z Z (fun h2=>?_) (fun h2=>?_) ?_)
 · refine IT 9 h2 h3 Z fun h3=>?_; refine BR h3 fun x2 h4 h3=>?_; refine U 1 Z (GO Z (AO.call Z _ Z Z NV (gF _ h4 ?_))); cases h3; exact dY 1 Z (En [12,2,3,4] Z)
 · refine IF 9 h2 h3 Z fun h3=>?_; cases h3; exact dY 3 Z (En [12,2,3,4] Z)
 refine J 1 Z (C hf Z (fun h5 hf=>?_) fun h5 hf=>?_)
 ·
  refine W 4 Z (On 4 16 20 [4] (b1.kind == 0) Z Z Z Z (J 0 Z (C hf Z (fun h7 hf=>?_) fun h7 hf=>?_)))
  · refine B1 hf fun x3 h8 hf=>W 0 Z (CL Z (eO _ h8 ?_)); cases hf; exact Rx 2 [0] Z Z (ZC [0] Z Z h)
  refine B1 hf fun x4 h9 hf=>W 0 Z (CL Z (eO _ h9 ?_)); cases hf; exact Rx 2 [0] Z Z (ZC [0] Z Z h)
 refine B1 hf fun x5 h10 hf=>W 2 Z (CL Z (jG _ _ _ h10 (J 1 Z (C hf Z (fun h11 hf=>?_) fun h11 hf=>?_))))
 · refine B1 hf fun x6 h12 hf=>W 0 Z (CL Z (eO _ h12 ?_)); cases hf; exact Rx 2 [0] Z Z (ZC [0] Z Z h)
 refine B1 hf fun x7 kQ hf=>W 2 Z (CL Z (jG _ _ _ kQ (J 1 Z (C hf Z (fun lQ hf=>?_) fun lQ hf=>?_))))
 · refine B1 hf fun x8 ng hf=>W 0 Z (CL Z (eO _ ng ?_)); cases hf; exact Rx 2 [0] Z Z (ZC [0] Z Z h)
 refine B1 hf fun x9 h16 hf=>W 2 Z (CL Z (jG _ _ _ h16 (J 1 Z (C hf Z (fun vG hf=>?_) fun vG hf=>?_))))
 ·
  refine V 0 Z (AW.draw 6 mixed (by kernel_rfl) Z ?_); refine Ev.cs aH 1 Z ?_; refine B1 hf fun BH h18 hf=>Ev.cons Z Z Z (AO.call Z _ Z Z aeS (H8 _ h18 zg)) (Ev.cs aH 1 Z ?_); refine B1 hf fun Hl h19 hf=>Ev.cons Z Z Z (AO.call Z _ Z Z aeS (H8 _ h19 zg)) ?_; refine B1 hf fun Kn h20 hf=>Ev.cons Z Z Z (AO.call Z _ Z Z aeG (Av _ _ h20 zg)) ?_; refine B1 hf fun KZ h21 hf=>Ev.cons Z Z Z (AO.call Z _ Z Z VP (uL _ _ h21 zg)) (Ev.nil ?_); show AR _ _ _ _ _ _ _ _; cases hf; exact Rx 2 [0] Z Z (ZC [0] Z Z h)
 cases hf; exact Wx 3 [0] Z Z (ZC [0] Z Z h)
theorem Sy (op1:Str) (a1:aj) (b1:aj) {r0:aj} {r1:Int} (hf:Cu op1 a1 b1=some (r0,r1)) (h:Q (.ret (.tuple [.agg (aN r0),iP r1])) τ):PC 91 [.str op1,.agg (aN a1),.agg (aN b1)] τ Q:=by
 unfold Cu at hf; refine BN 59 [.cell 6 54,.tmp 7] [0,1,2] Tryz.func91 Z Z Z Z Z (W 2 Z (AS Z (AO.aF Z gG (fun b6=>(J 6 Z (C hf Z (fun h1 hf=>?_) fun h1 hf=>?_))))))
 ·
  refine V 0 Z (AW.cond Z (fun h2=>?_) (fun h2=>?_))
  ·
   refine B1 hf fun x1 h3 hf=>W 1 Z (CL Z (oG _ _ _ h3 (J 0 Z (C hf Z (fun h4 hf=>?_) fun h4 hf=>?_))))
   · refine B1 hf fun x2 h5 hf=>W 0 Z (CL Z (eO _ h5 ?_)); cases hf; exact Rx 2 [0] Z Z (ZC [0] Z Z h)
   cases hf; exact Wx 3 [0] Z Z (ZC [0] Z Z h)
  cases h1.symm.trans h2
 refine V 2 Z (C hf Z (fun h6 hf=>?_) fun h6 hf=>?_)
 ·
  refine B1 hf fun x3 h7 hf=>W 1 Z (CL Z (oG _ _ _ h7 (J 0 Z (C hf Z (fun h8 hf=>?_) fun h8 hf=>?_))))
  · refine B1 hf fun x4 h9 hf=>W 0 Z (CL Z (eO _ h9 ?_)); cases hf; exact Rx 2 [0] Z Z (ZC [0] Z Z h)
  cases hf; exact Wx 3 [0] Z Z (ZC [0] Z Z h)
 refine V 2 Z (C hf Z (fun h10 hf=>?_) fun h10 hf=>?_)
 ·
  refine V 0 Z (AW.cond Z (fun h11=>?_) (fun h11=>?_))
  · refine B1 hf fun x5 h12 hf=>W 0 Z (CL Z (eO _ h12 ?_)); cases hf; exact Rx 2 [0] Z Z (ZC [0] Z Z h)
  cases h10.symm.trans h11
 refine V 2 Z (C hf Z (fun kQ hf=>?_) fun kQ hf=>?_)
 · refine B1 hf fun x6 lQ hf=>W 0 Z (CL Z (eO _ lQ ?_)); cases hf; exact Rx 2 [0] Z Z (ZC [0] Z Z h)
 refine V 2 Z (C hf Z (fun ng hf=>?_) fun ng hf=>?_)
 ·
  refine V 0 Z (AW.cond Z (fun h16=>?_) (fun h16=>?_))
  ·
   refine B1 hf fun x7 vG hf=>W 1 Z (CL Z (gF _ vG ?_)); refine B1 hf fun b2 h19 hf=>U 1 Z (AR.cZ 3 28 31 true [4,5,6] b2 Z Z (fun h18=>?_) (fun h18=>?_) ?_)
   · refine IT 28 h18 h19 Z fun h19=>?_; refine BR h19 fun x8 h20 h19=>?_; refine U 1 Z (GO Z (AO.call Z _ Z Z NV (gF _ h20 ?_))); cases h19; exact dY 1 Z (En [31,4,5,6] Z)
   · refine IF 28 h18 h19 Z fun h19=>?_; cases h19; exact dY 3 Z (En [31,4,5,6] Z)
   refine B1 hf fun b3 h22 hf=>U 1 Z (AR.cZ 4 32 36 false [4,5,6] b3 Z Z (fun h21=>?_) (fun h21=>?_) ?_)
   · refine IF 32 h21 h22 Z fun h22=>?_; refine BR h22 fun x9 h23 h22=>?_; refine U 2 Z (GO Z (AO.call Z _ Z Z I8 (jG _ _ _ h23 ?_))); cases h22; exact dY 1 Z (En [36,4,5,6] Z)
   · refine IT 32 h21 h22 Z fun h22=>?_; cases h22; exact dY 4 Z (En [36,4,5,6] Z)
   refine B1 hf fun b4 DV hf=>U 1 Z (AR.cZ 4 37 41 false [6] b4 Z Z (fun Fb=>?_) (fun Fb=>?_) ?_)
   · refine IF 37 Fb DV Z fun DV=>?_; refine BR DV fun BH Ij DV=>?_; refine U 2 Z (GO Z (AO.call Z _ Z Z I8 (jG _ _ _ Ij ?_))); cases DV; exact dY 1 Z (En [41,6] Z)
   · refine IT 37 Fb DV Z fun DV=>?_; cases DV; exact dY 4 Z (En [41,6] Z)
   refine J 0 Z (C hf Z (fun h27 hf=>?_) fun h27 hf=>?_)
   · refine B1 hf fun Hl Qb hf=>W 0 Z (CL Z (eO _ Qb ?_)); cases hf; exact Rx 2 [0] Z Z (ZC [0] Z Z h)
   cases hf; exact Wx 3 [0] Z Z (ZC [0] Z Z h)
  cases ng.symm.trans h16
 refine V 2 Z (C hf Z (fun Ll hf=>?_) fun Ll hf=>?_)
 ·
  refine V 0 Z (AW.cond Z (fun Lj=>?_) (fun Lj=>?_))
  ·
   refine B1 hf fun Kn h31 hf=>W 1 Z (CL Z (gF _ h31 ?_)); refine B1 hf fun b5 Io hf=>U 1 Z (AR.cZ 3 28 31 true [4,5,6] b5 Z Z (fun h32=>?_) (fun h32=>?_) ?_)
   · refine IT 28 h32 Io Z fun Io=>?_; refine BR Io fun KZ Xa Io=>?_; refine U 1 Z (GO Z (AO.call Z _ Z Z NV (gF _ Xa ?_))); cases Io; exact dY 1 Z (En [31,4,5,6] Z)
   · refine IF 28 h32 Io Z fun Io=>?_; cases Io; exact dY 3 Z (En [31,4,5,6] Z)
   refine B1 hf fun b6 Rt hf=>U 1 Z (AR.cZ 4 32 36 false [4,5,6] b6 Z Z (fun Ru=>?_) (fun Ru=>?_) ?_)
   · refine IF 32 Ru Rt Z fun Rt=>?_; refine BR Rt fun SQ h37 Rt=>?_; refine U 2 Z (GO Z (AO.call Z _ Z Z I8 (jG _ _ _ h37 ?_))); cases Rt; exact dY 1 Z (En [36,4,5,6] Z)
   · refine IT 32 Ru Rt Z fun Rt=>?_; cases Rt; exact dY 4 Z (En [36,4,5,6] Z)
   refine B1 hf fun b7 M0 hf=>U 1 Z (AR.cZ 4 37 41 false [6] b7 Z Z (fun UZ=>?_) (fun UZ=>?_) ?_)
   · refine IF 37 UZ M0 Z fun M0=>?_; refine BR M0 fun OI h40 M0=>?_; refine U 2 Z (GO Z (AO.call Z _ Z Z I8 (jG _ _ _ h40 ?_))); cases M0; exact dY 1 Z (En [41,6] Z)
   · refine IT 37 UZ M0 Z fun M0=>?_; cases M0; exact dY 4 Z (En [41,6] Z)
   refine J 0 Z (C hf Z (fun h41 hf=>?_) fun h41 hf=>?_)
   · refine B1 hf fun Iu h42 hf=>W 0 Z (CL Z (eO _ h42 ?_)); cases hf; exact Rx 2 [0] Z Z (ZC [0] Z Z h)
   cases hf; exact Wx 3 [0] Z Z (ZC [0] Z Z h)
  cases Ll.symm.trans Lj
 refine V 2 Z (C hf Z (fun h43 hf=>?_) fun h43 hf=>?_)
 ·
  refine V 0 Z (AW.cond Z (fun h44=>?_) (fun h44=>?_))
  ·
   refine B1 hf fun SN h45 hf=>W 1 Z (CL Z (gF _ h45 ?_)); refine B1 hf fun b8 h47 hf=>U 1 Z (AR.cZ 3 28 31 true [4,5,6] b8 Z Z (fun h46=>?_) (fun h46=>?_) ?_)
   · refine IT 28 h46 h47 Z fun h47=>?_; refine BR h47 fun Zp h48 h47=>?_; refine U 1 Z (GO Z (AO.call Z _ Z Z NV (gF _ h48 ?_))); cases h47; exact dY 1 Z (En [31,4,5,6] Z)
   · refine IF 28 h46 h47 Z fun h47=>?_; cases h47; exact dY 3 Z (En [31,4,5,6] Z)
   refine B1 hf fun b9 h50 hf=>U 1 Z (AR.cZ 4 32 36 false [4,5,6] b9 Z Z (fun h49=>?_) (fun h49=>?_) ?_)
   · refine IF 32 h49 h50 Z fun h50=>?_; refine BR h50 fun Zx h51 h50=>?_; refine U 2 Z (GO Z (AO.call Z _ Z Z I8 (jG _ _ _ h51 ?_))); cases h50; exact dY 1 Z (En [36,4,5,6] Z)
   · refine IT 32 h49 h50 Z fun h50=>?_; cases h50; exact dY 4 Z (En [36,4,5,6] Z)
   refine B1 hf fun b10 Px hf=>U 1 Z (AR.cZ 4 37 41 false [6] b10 Z Z (fun h52=>?_) (fun h52=>?_) ?_)
   · refine IF 37 h52 Px Z fun Px=>?_; refine BR Px fun x20 h54 Px=>?_; refine U 2 Z (GO Z (AO.call Z _ Z Z I8 (jG _ _ _ h54 ?_))); cases Px; exact dY 1 Z (En [41,6] Z)
   · refine IT 37 h52 Px Z fun Px=>?_; cases Px; exact dY 4 Z (En [41,6] Z)
   refine J 0 Z (C hf Z (fun h55 hf=>?_) fun h55 hf=>?_)
   · refine B1 hf fun x21 h56 hf=>W 0 Z (CL Z (eO _ h56 ?_)); cases hf; exact Rx 2 [0] Z Z (ZC [0] Z Z h)
   cases hf; exact Wx 3 [0] Z Z (ZC [0] Z Z h)
  cases h43.symm.trans h44
 refine V 2 Z (C hf Z (fun h57 hf=>?_) fun h57 hf=>?_)
 ·
  refine B1 hf fun x22 h58 hf=>W 1 Z (CL Z (gF _ h58 ?_)); refine B1 hf fun b11 h60 hf=>U 1 Z (AR.cZ 3 28 31 true [4,5,6] b11 Z Z (fun h59=>?_) (fun h59=>?_) ?_)
  · refine IT 28 h59 h60 Z fun h60=>?_; refine BR h60 fun x23 h61 h60=>?_; refine U 1 Z (GO Z (AO.call Z _ Z Z NV (gF _ h61 ?_))); cases h60; exact dY 1 Z (En [31,4,5,6] Z)
  · refine IF 28 h59 h60 Z fun h60=>?_; cases h60; exact dY 3 Z (En [31,4,5,6] Z)
  refine B1 hf fun b12 h63 hf=>U 1 Z (AR.cZ 4 32 36 false [4,5,6] b12 Z Z (fun h62=>?_) (fun h62=>?_) ?_)
  · refine IF 32 h62 h63 Z fun h63=>?_; refine BR h63 fun x24 h64 h63=>?_; refine U 2 Z (GO Z (AO.call Z _ Z Z I8 (jG _ _ _ h64 ?_))); cases h63; exact dY 1 Z (En [36,4,5,6] Z)
  · refine IT 32 h62 h63 Z fun h63=>?_; cases h63; exact dY 4 Z (En [36,4,5,6] Z)
  refine B1 hf fun b13 h66 hf=>U 1 Z (AR.cZ 4 37 41 false [6] b13 Z Z (fun h65=>?_) (fun h65=>?_) ?_)
  · refine IF 37 h65 h66 Z fun h66=>?_; refine BR h66 fun x25 h67 h66=>?_; refine U 2 Z (GO Z (AO.call Z _ Z Z I8 (jG _ _ _ h67 ?_))); cases h66; exact dY 1 Z (En [41,6] Z)
  · refine IT 37 h65 h66 Z fun h66=>?_; cases h66; exact dY 4 Z (En [41,6] Z)
  refine J 0 Z (C hf Z (fun h68 hf=>?_) fun h68 hf=>?_)
  · refine B1 hf fun x26 h69 hf=>W 0 Z (CL Z (eO _ h69 ?_)); cases hf; exact Rx 2 [0] Z Z (ZC [0] Z Z h)
  cases hf; exact Wx 3 [0] Z Z (ZC [0] Z Z h)
 refine V 2 Z (C hf Z (fun h70 hf=>?_) fun h70 hf=>?_)
 ·
  refine V 0 Z (AW.cond Z (fun h71=>?_) (fun h71=>?_))
  ·
   refine B1 hf fun x27 h72 hf=>W 1 Z (CL Z (oG _ _ _ h72 (J 0 Z (C hf Z (fun h73 hf=>?_) fun h73 hf=>?_))))
   · refine B1 hf fun x28 h74 hf=>W 0 Z (CL Z (eO _ h74 ?_)); cases hf; exact Rx 2 [0] Z Z (ZC [0] Z Z h)
   cases hf; exact Wx 3 [0] Z Z (ZC [0] Z Z h)
  cases h70.symm.trans h71
 refine V 2 Z (C hf Z (fun h75 hf=>?_) fun h75 hf=>?_)
 ·
  refine V 0 Z (AW.cond Z (fun h76=>?_) (fun h76=>?_))
  ·
   refine B1 hf fun x29 h77 hf=>W 1 Z (CL Z (oG _ _ _ h77 (J 0 Z (C hf Z (fun h78 hf=>?_) fun h78 hf=>?_))))
   · refine B1 hf fun x30 h79 hf=>W 0 Z (CL Z (eO _ h79 ?_)); cases hf; exact Rx 2 [0] Z Z (ZC [0] Z Z h)
   cases hf; exact Wx 3 [0] Z Z (ZC [0] Z Z h)
  cases h75.symm.trans h76
 refine V 2 Z (C hf Z (fun h80 hf=>?_) fun h80 hf=>?_)
 ·
  refine V 0 Z (AW.cond Z (fun h81=>?_) (fun h81=>?_))
  ·
   refine B1 hf fun x31 h82 hf=>W 1 Z (CL Z (oG _ _ _ h82 (J 0 Z (C hf Z (fun h83 hf=>?_) fun h83 hf=>?_))))
   · refine B1 hf fun x32 h84 hf=>W 0 Z (CL Z (eO _ h84 ?_)); cases hf; exact Rx 2 [0] Z Z (ZC [0] Z Z h)
   cases hf; exact Wx 3 [0] Z Z (ZC [0] Z Z h)
  cases h80.symm.trans h81
 refine V 2 Z (C hf Z (fun h85 hf=>?_) fun h85 hf=>?_)
 ·
  refine B1 hf fun x33 h86 hf=>W 1 Z (CL Z (oG _ _ _ h86 (J 0 Z (C hf Z (fun h87 hf=>?_) fun h87 hf=>?_))))
  · refine B1 hf fun x34 h88 hf=>W 0 Z (CL Z (eO _ h88 ?_)); cases hf; exact Rx 2 [0] Z Z (ZC [0] Z Z h)
  cases hf; exact Wx 3 [0] Z Z (ZC [0] Z Z h)
 refine V 2 Z (C hf Z (fun h89 hf=>?_) fun h89 hf=>?_)
 · replace hf:=(lG _).trans hf; obtain ⟨x35,x36,h90,hf⟩:=bK hf; refine W 2 Z (CL Z (Ze _ _ h90 ?_)); cases hf; exact Rx 4 [0] Z Z (ZC [0] Z Z h)
 cases hf; exact Wx 3 [0] Z Z (ZC [0] Z Z h)
theorem Gg (dJ:Int) (xC:List aj) {r0:aj} {r1:Int} (hf:qZ dJ xC=some (r0,r1)) (h:Q (.ret (.tuple [.agg (aN r0),iP r1])) τ):PC 93 [iP dJ,.list (aj.aT xC)] τ Q:=by
 unfold qZ at hf; refine BN 29 [.cell 4 54,.tmp 5] [0,1] Tryz.func93 Z Z Z Z Z (W 0 Z (AS Z (AO.aF Z gG (fun b4=>?_)))); refine B1 hf fun x1 h1 hf=>U 1 Z (CL Z (eO _ h1 (AS Z (AO.aF Z gG (fun b6=>(Rr 2 [0] Z Z (AS Z (AO.aM (l:=xC) Z Z Z Z dX Z (aj.aA _) ?_)))))))); refine J 1 Z (Zn (fun x2 iL=>[(0,iP dJ),(4,pP b4),(6,pP b6),(11,.list (aj.aT xC)),(12,iP (xC.length:Int)),(13,iP x2)]) (fun x2 iL=>[.box b6 (aN iL),.box b4 [iP 0,.own (.slice none 0 0) []]]) (fun bP x2 iL=>qj dJ xC bP x2 iL=some (r0,r1)) BIG 0 x1 Z Z hf (fun _ _ hz=>bG hz) ?_); intro bP x2 iL hf; rw [qj] at hf; refine V 1 Z (C hf Z (fun h2 hf=>?_) fun h2 hf=>?_)
 · refine B1 hf fun e1 h3 hf=>W 0 Z (AS Z (AO.aJ h3 Z Z (aj.aA _) Z dX (aj.aC _) Z (U 1 Z (AS Z (AO.aF Z gG (fun b8=>?_)))))); refine B1 hf fun x3 h4 hf=>Rr 3 [0,1,0] Z Z (CL Z (Av _ _ h4 (Rn 3 [1] Z Z (AR.drop1 ?_)))); exact N 0 Z ⟨(bW (x2 + 1)),x3,Z,Z,Z,hf⟩
 refine B1 hf fun x4 h5 hf=>Wr 2 [0] Z Z (CL Z (uL _ _ h5 (AS Z (AO.aF Z gG (fun b9=>?_))))); refine B1 hf fun x5 h6 hf=>Rr 2 [0,0] Z Z (CL Z (zu _ h6 (J 1 Z (C hf Z (fun h7 hf=>?_) fun h7 hf=>?_))))
 · cases hf; exact Wx 3 [2] Z Z (ZC [2] Z Z h)
 cases hf; exact Wx 3 [0,2] Z Z (ZC [2] Z Z h)
abbrev Cx (fK:ak→List aG→Option (aj × Int)):Prop:=∀ (iO:ak) (gB:List aG) {aO:aj} {l7:Int},fK iO gB=some (aO,l7)→∀ {τ:List bg} {Q:eD→List bg→Prop} (h:Q (.ret (.tuple [.agg (aN aO),iP l7])) τ),PC 57 [.agg (bf iO),.list (List.map aG.cells gB)] τ Q
abbrev Cy (iA:ak→List aG→Option (aj × Int)):Prop:=∀ (iO:ak) (gB:List aG) {aO:aj} {l7:Int},iA iO gB=some (aO,l7)→∀ {τ:List bg} {Q:eD→List bg→Prop} (h:Q (.ret (.tuple [.agg (aN aO),iP l7])) τ),PC 84 [.agg (bf iO),.list (List.map aG.cells gB)] τ Q
abbrev EO (iH:List ak→List aG→Option (List aj × Int)):Prop:=∀ (Pn:List ak) (gB:List aG) {aO:List aj} {l7:Int},iH Pn gB=some (aO,l7)→∀ {τ:List bg} {Q:eD→List bg→Prop} (h:Q (.ret (.tuple [.list (aj.aT aO),iP l7])) τ),PC 85 [.list (ak.aT Pn),.list (List.map aG.cells gB)] τ Q
theorem Vu (fK) (Dm:Cx fK) (iA) (Dn:Cy iA) (iH) (Ar:EO iH) (e1:ak) (b_:List aG) {r0:aj} {r1:Int} (hf:Ct fK iA iH e1 b_=some (r0,r1)) (h:Q (.ret (.tuple [.agg (aN r0),iP r1])) τ):PC 57 [.agg (bf e1),.list (List.map aG.cells b_)] τ Q:=by
 unfold Ct at hf; refine BN 110 [.cell 4 54,.tmp 5] [0,1] Tryz.func57 Z Z Z Z Z (W 1 Z (AS Z (AO.aF Z gG (fun b4=>(J 4 Z (C hf Z (fun h1 hf=>?_) fun h1 hf=>?_))))))
 · replace hf:=(lG _).trans hf; obtain ⟨x1,x2,h2,hf⟩:=bK hf; refine W 2 Z (CL Z (Dn _ _ h2 ?_)); cases hf; exact Rx 4 [0] Z Z (ZC [0] Z Z h)
 obtain ⟨xC,f1,h3,hf⟩:=bK hf; refine W 3 Z (CL Z (Ar _ _ h3 (J 7 Z (C hf Z (fun h4 hf=>?_) fun h4 hf=>?_))))
 · cases hf; exact Wx 4 [0] Z Z (ZC [0] Z Z h)
 refine V 4 Z (C hf Z (fun h5 hf=>?_) fun h5 hf=>?_)
 · refine B1 hf fun x3 h6 hf=>W 2 Z (CL Z (YT _ h6 ?_)); cases hf; exact Rx 2 [0] Z Z (ZC [0] Z Z h)
 refine V 2 Z (C hf Z (fun h7 hf=>?_) fun h7 hf=>?_)
 · replace hf:=(lG _).trans hf; obtain ⟨x4,x5,h8,hf⟩:=bK hf; refine W 3 Z (CL Z (OA _ _ h8 ?_)); cases hf; exact Rx 4 [0] Z Z (ZC [0] Z Z h)
 refine V 2 Z (C hf Z (fun h9 hf=>?_) fun h9 hf=>?_)
 · refine B1 hf fun e2 h10 hf=>W 1 Z (AS Z (AO.aJ h10 Z Z (aj.aA _) Z dX (aj.aC _) Z ?_)); replace hf:=(lG _).trans hf; obtain ⟨x6,x7,h11,hf⟩:=bK hf; refine U 1 Z (CL Z (Sw _ h11 ?_)); cases hf; exact Rx 4 [0] Z Z (ZC [0] Z Z h)
 refine V 2 Z (C hf Z (fun h12 hf=>?_) fun h12 hf=>?_)
 ·
  refine V 0 Z (AW.draw 9 mixed (by kernel_rfl) Z ?_); refine Ev.cs aH 1 Z ?_; refine B1 hf fun e3 kQ hf=>Ev.cons Z Z Z (AO.aJ kQ Z Z (aj.aA _) Z dX (aj.aC _) Z zg) (Ev.cs aH 2 Z ?_); refine B1 hf fun e4 lQ hf=>Ev.cons Z Z Z (AO.aJ lQ Z Z (aj.aA _) Z dX (aj.aC _) Z zg) (Ev.cs aH 1 Z ?_); replace hf:=(lG _).trans hf; obtain ⟨x8,x9,ng,hf⟩:=bK hf; refine Ev.cons Z Z Z (AO.call Z _ Z Z alb (Uc _ _ ng zg)) (Ev.cs aH 2 Z (Ev.nil ?_)); show AR _ _ _ _ _ _ _ _; cases hf; exact Rx 2 [0] Z Z (ZC [0] Z Z h)
 refine V 2 Z (C hf Z (fun h16 hf=>?_) fun h16 hf=>?_)
 ·
  refine V 0 Z (AW.draw 8 mixed (by kernel_rfl) Z ?_); refine Ev.cs aH 3 Z ?_; refine B1 hf fun e5 vG hf=>Ev.cons Z Z Z (AO.aJ vG Z Z (aj.aA _) Z dX (aj.aC _) Z zg) (Ev.cs aH 1 Z ?_); replace hf:=(lG _).trans hf; obtain ⟨BH,Hl,h18,hf⟩:=bK hf; refine Ev.cons Z Z Z (AO.call Z _ Z Z ala (Ua _ _ h18 zg)) (Ev.cs aH 2 Z (Ev.nil ?_)); show AR _ _ _ _ _ _ _ _; cases hf; exact Rx 2 [0] Z Z (ZC [0] Z Z h)
 refine V 2 Z (C hf Z (fun h19 hf=>?_) fun h19 hf=>?_)
 ·
  refine V 0 Z (AW.draw 11 mixed (by kernel_rfl) Z ?_); refine Ev.cs aH 3 Z ?_; refine B1 hf fun e6 h20 hf=>Ev.cons Z Z Z (AO.aJ h20 Z Z (aj.aA _) Z dX (aj.aC _) Z zg) (Ev.cs aH 2 Z ?_); refine B1 hf fun e7 h21 hf=>Ev.cons Z Z Z (AO.aJ h21 Z Z (aj.aA _) Z dX (aj.aC _) Z zg) (Ev.cs aH 1 Z ?_); replace hf:=(lG _).trans hf; obtain ⟨Kn,KZ,h22,hf⟩:=bK hf; refine Ev.cons Z Z Z (AO.call Z _ Z Z ak_ (Sy _ _ _ h22 zg)) (Ev.cs aH 2 Z (Ev.nil ?_)); show AR _ _ _ _ _ _ _ _; cases hf; exact Rx 2 [0] Z Z (ZC [0] Z Z h)
 refine V 2 Z (C hf Z (fun h23 hf=>?_) fun h23 hf=>?_)
 ·
  refine V 0 Z (AW.draw 6 mixed (by kernel_rfl) Z ?_); refine Ev.cs aH 1 Z ?_; refine B1 hf fun e8 Fb hf=>Ev.cons Z Z Z (AO.aJ Fb Z Z (aj.aA _) Z dX (aj.aC _) Z zg) (Ev.cs aH 1 Z ?_); refine B1 hf fun SQ DV hf=>Ev.cons Z Z Z (AO.call Z _ Z Z QT (eO _ DV zg)) ?_; refine B1 hf fun OI Ij hf=>Ev.cons Z Z Z (AO.call Z _ Z Z QS (jF _ _ Ij zg)) (Ev.cs aH 1 Z (Ev.nil ?_)); show AR _ _ _ _ _ _ _ _; refine J 0 Z (C hf Z (fun h27 hf=>?_) fun h27 hf=>?_)
  · cases hf; exact Wx 3 [0] Z Z (ZC [0] Z Z h)
  refine V 0 Z (AW.draw 7 mixed (by kernel_rfl) Z ?_); refine Ev.cs aH 1 Z ?_; refine B1 hf fun e9 Qb hf=>Ev.cons Z Z Z (AO.aJ Qb Z Z (aj.aA _) Z dX (aj.aC _) Z zg) (Ev.cs aH 2 Z ?_); refine B1 hf fun e10 Ll hf=>Ev.cons Z Z Z (AO.aJ Ll Z Z (aj.aA _) Z dX (aj.aC _) Z zg) (Ev.cs aH 1 Z ?_); refine B1 hf fun Iu Lj hf=>Ev.cons Z Z Z (AO.call Z _ Z Z aeG (Av _ _ Lj zg)) (Ev.nil ?_); show AR _ _ _ _ _ _ _ _; cases hf; exact Rx 2 [0] Z Z (ZC [0] Z Z h)
 refine V 2 Z (C hf Z (fun h31 hf=>?_) fun h31 hf=>?_)
 · replace hf:=(lG _).trans hf; obtain ⟨SN,Zp,h32,hf⟩:=bK hf; refine W 1 Z (CL Z (Gg _ _ h32 ?_)); cases hf; exact Rx 4 [0] Z Z (ZC [0] Z Z h)
 replace hf:=(lG _).trans hf; obtain ⟨Zx,x20,Io,hf⟩:=bK hf; refine W 1 Z (CL Z (Gg _ _ Io ?_)); cases hf; exact Rx 4 [0] Z Z (ZC [0] Z Z h)
theorem Vv (fK) (Dm:Cx fK) (iA) (Dn:Cy iA) (iH) (Ar:EO iH) (e1:ak) (b_:List aG) {r0:aj} {r1:Int} (hf:zo fK iA iH e1 b_=some (r0,r1)) (h:Q (.ret (.tuple [.agg (aN r0),iP r1])) τ):PC 84 [.agg (bf e1),.list (List.map aG.cells b_)] τ Q:=by
 unfold zo at hf; refine BN 69 [.cell 4 54,.tmp 5] [0,1] Tryz.func84 Z Z Z Z Z (W 1 Z (AS Z (AO.aF Z gG (fun b4=>?_)))); obtain ⟨iY,x1,h1,hf⟩:=bK hf; refine U 3 Z (CL Z (LW _ h1 (U 3 Z (AS Z (AO.aF Z gG (fun b7=>(Rr 3 [0] Z Z (AS Z (AO.aM (l:=iY) Z Z Z Z Wp Z Z (J 1 Z (C hf Z (fun h2 hf=>?_) fun h2 hf=>?_)))))))))))
 · cases hf; exact Wx 3 [1] Z Z (ZC [1] Z Z h)
 refine V 0 Z (AW.draw 8 mixed (by kernel_rfl) Z ?_); refine Ev.cs aH 2 Z (Ev.cons Z Z Z (AO.aM (l:=e1.args) Z Z Z Z g_ Z (ak.aA _) zg) (Ev.cs aH 1 Z ?_)); refine B1 hf fun e2 h3 hf=>Ev.cons Z Z Z (AO.aJ h3 Z Z Z Z Wp Z Z zg) (Ev.cs aH 1 Z (Ev.cons Z Z Z (AO.aM (l:=e2) Z Z Z Z dX Z (aj.aA _) zg) (Ev.cs aH 1 Z ?_))); refine Ev.nil ?_; show AR _ _ _ _ _ _ _ _; refine J 0 Z (C hf Z (fun h4 hf=>?_) fun h4 hf=>?_)
 · cases hf; exact Wx 3 [1] Z Z (ZC [1] Z Z h)
 obtain ⟨xC,f1,h5,hf⟩:=bK hf; refine W 3 Z (CL Z (Ar _ _ h5 (J 7 Z (C hf Z (fun h6 hf=>?_) fun h6 hf=>?_))))
 · cases hf; exact Wx 4 [1] Z Z (ZC [1] Z Z h)
 refine W 1 Z (AS Z (AO.aM (l:=iY) Z Z Z Z Wp Z Z ?_)); refine J 1 Z (E_ (fun x2=>[(2,.ref (bf e1)),(4,pP b4),(7,pP b7),(8,.list (aj.aT xC)),(42,.list (List.map aj.qJ iY)),(43,iP (iY.length:Int)),(44,iP x2)]) (fun x2=>[.box b7 (aN x1),.box b4 [iP 0,.own (.slice none 0 0) []]]) (fun bP x2=>mP e1 iY x1 xC bP x2=some (r0,r1)) BIG 0 Z Z hf (fun _ hz=>bG hz) ?_); intro bP x2 hf; rw [mP] at hf; refine V 1 Z (C hf Z (fun h7 hf=>?_) fun h7 hf=>?_)
 ·
  refine B1 hf fun Az h8 hf=>W 0 Z (AS Z (AO.aJ h8 Z Z Z Z Wp Z Z ?_)); refine B1 hf fun x3 h9 hf=>U 4 Z (CL Z (Ub _ _ h9 (J 1 Z (C hf Z (fun h10 hf=>?_) fun h10 hf=>?_))))
  · exact M 2 Z ⟨(bW (x2 + 1)),Z,Z,Z,hf⟩
  refine V 3 Z (C hf Z (fun h11 hf=>?_) fun h11 hf=>?_)
  · cases hf; exact Wx 3 [0,1] Z Z (ZC [1] Z Z h)
  refine B1 hf fun e3 h12 hf=>W 1 Z (AS Z (AO.aJ h12 Z Z (aj.aA _) Z dX (aj.aC _) Z (J 3 Z (C hf Z (fun kQ hf=>?_) fun kQ hf=>?_))))
  · refine B1 hf fun e4 lQ hf=>W 1 Z (AS Z (AO.aJ lQ Z Z (aj.aA _) Z dX (aj.aC _) Z ?_)); cases hf; exact Rx 3 [1] Z Z (ZC [1] Z Z h)
  refine B1 hf fun e5 ng hf=>W 1 Z (AS Z (AO.aJ ng Z Z (aj.aA _) Z dX (aj.aC _) Z ?_)); cases hf; exact Rx 3 [1] Z Z (ZC [1] Z Z h)
 cases hf; exact Wx 3 [1] Z Z (ZC [1] Z Z h)
theorem Xm (fK) (Dm:Cx fK) (iA) (Dn:Cy iA) (iH) (Ar:EO iH) (l1:List ak) (b_:List aG) {r0:List aj} {r1:Int} (hf:JE fK iA iH l1 b_=some (r0,r1)) (h:Q (.ret (.tuple [.list (aj.aT r0),iP r1])) τ):PC 85 [.list (ak.aT l1),.list (List.map aG.cells b_)] τ Q:=by
 unfold JE at hf; refine BN 32 [.tmp 4,.tmp 5] [0,1] Tryz.func85 Z Z Z Z Z (W 0 Z (AS Z (AO.kI Z Z (U 3 Z (AS Z (AO.aM (l:=l1) Z Z Z Z g_ Z (ak.aA _) (J 1 Z (AW.row 2 54 (LK3 (fun bM v1 x1=>[(1,.list (List.map aG.cells b_)),(6,.own v1 (aj.aT bM)),(11,.list (ak.aT l1)),(12,iP (l1.length:Int)),(13,iP x1)]) (fun bM v1 x1=>[.row v1 (aj.aT bM).length 2 54]) (fun bP bM v1 x1=>nZ fK l1 b_ bP bM x1=some (r0,r1)) BIG [] (.slice none 0 0) 0 Z Z hf (fun _ _ _ hz=>bG hz) ?_))))))))); intro bP bM v1 x1 hf; rw [nZ] at hf; refine V 1 Z (C hf Z (fun h1 hf=>?_) fun h1 hf=>?_)
 ·
  refine B1 hf fun e1 h2 hf=>W 0 Z (AS Z (AO.aJ h2 Z Z (ak.aA _) Z g_ (ak.aC _) Z (U 1 Z (AS Z (AO.aF Z qG (fun b8=>?_)))))); obtain ⟨x2,f1,h3,hf⟩:=bK hf; refine Rr 3 [0,0] Z Z (CL Z (Dm _ _ h3 (U 3 Z (AS Z (AO.aF Z gG (fun b9=>(Rw 4 [0] Z Z (C hf Z (fun h4 hf=>?_) fun h4 hf=>?_))))))))
  · refine W 1 Z (AS Z (AO.kI Z Z ?_)); cases hf; exact N 1 Z (Y Z h)
  refine Wr 2 [0] rfl rfl (AS rfl (AO.aX (aj.aT [x2]) rfl rC rfl rfl rfl (by first | rfl | simp only [List.map,aj.aC,aj.aT]) ?_)); refine B1 hf fun zW h5 hf=>AS Z (AO.iC (i:=2) (l:=bM) (m:=[x2]) h5 Z Z Z Z Z Z Z rC dX (aj.aA _) (aj.aA _) (aj.aA _).symm (aj.dL) (aj.cells_one) (by decide) (fun v2 s1 hs1=>?_)); cases hs1; refine dY 3 Z (AR.drop1 (AR.drop1 ?_)); exact N 0 Z ⟨zW,v2,(bW (x1 + 1)),Z,Z,Z,hf⟩
 cases hf; exact M 3 Z (Y Z h)
theorem GI :∀ k:Nat,(Cx (fU k))∧(Cy (lq k))∧(EO (jX k)):=by
 intro k
 induction k with
 | zero=>exact ⟨fun _ _ _ _ hz=>by first | cases hz | (unfold fU at hz; cases hz),fun _ _ _ _ hz=>by first | cases hz | (unfold lq at hz; cases hz),fun _ _ _ _ hz=>by first | cases hz | (unfold jX at hz; cases hz)⟩
 | succ k ih=>exact ⟨fun iO gB aO l7 hz τ Q hq=>Vu (fU k) ih.1 (lq k) ih.2.1 (jX k) ih.2.2 iO gB hz hq,fun iO gB aO l7 hz τ Q hq=>Vv (fU k) ih.1 (lq k) ih.2.1 (jX k) ih.2.2 iO gB hz hq,fun Pn gB aO l7 hz τ Q hq=>Xm (fU k) ih.1 (lq k) ih.2.1 (jX k) ih.2.2 Pn gB hz hq⟩
theorem WU (iO:ak) (gB:List aG) {aO:aj} {l7:Int} (hf:LD iO gB=some (aO,l7)) (h:Q (.ret (.tuple [.agg (aN aO),iP l7])) τ):PC 57 [.agg (bf iO),.list (List.map aG.cells gB)] τ Q:=
 ((GI BIG).1) iO gB hf h
theorem ahQ (iO:ak) (gB:List aG) {aO:aj} {l7:Int} (hf:aaH iO gB=some (aO,l7)) (h:Q (.ret (.tuple [.agg (aN aO),iP l7])) τ):PC 84 [.agg (bf iO),.list (List.map aG.cells gB)] τ Q:=
 ((GI BIG).2.1) iO gB hf h
theorem aiO (Pn:List ak) (gB:List aG) {aO:List aj} {l7:Int} (hf:adp Pn gB=some (aO,l7)) (h:Q (.ret (.tuple [.list (aj.aT aO),iP l7])) τ):PC 85 [.list (ak.aT Pn),.list (List.map aG.cells gB)] τ Q:=
 ((GI BIG).2.2) Pn gB hf h
theorem WV (e1:ak) (b_:List aG) {r0:aj} {r1:Int} (hf:uG e1 b_=some (r0,r1)) (h:Q (.ret (.tuple [.agg (aN r0),iP r1])) τ):PC 36 [.agg (bf e1),.list (List.map aG.cells b_)] τ Q:=by
 unfold uG at hf; refine BN 35 [.cell 4 54,.tmp 5] [0,1] Tryz.func36 Z Z Z Z Z (W 1 Z (AS Z (AO.aF Z gG (fun b4=>?_)))); refine B1 hf fun f1 h1 hf=>U 2 Z (CL Z (Zf _ h1 (J 3 Z (C hf Z (fun h2 hf=>?_) fun h2 hf=>?_))))
 · cases hf; exact Wx 4 [0] Z Z (ZC [0] Z Z h)
 refine B1 hf fun f2 h3 hf=>W 1 Z (CL Z (uI _ h3 (J 3 Z (C hf Z (fun h4 hf=>?_) fun h4 hf=>?_))))
 · cases hf; exact Wx 4 [0] Z Z (ZC [0] Z Z h)
 obtain ⟨x1,f3,h5,hf⟩:=bK hf; refine W 2 Z (CL Z (WU _ _ h5 (U 3 Z (AS Z (AO.aF Z gG (fun b8=>(Rw 4 [0] Z Z (C hf Z (fun h6 hf=>?_) fun h6 hf=>?_))))))))
 · cases hf; exact Wx 4 [1] Z Z (ZC [1] Z Z h)
 refine V 0 Z (AW.draw 3 mixed (by kernel_rfl) Z ?_); refine Ev.cons Z Z Z (AO.aP (i:=0) Z Z Z fD Z Z zg) ?_; refine B1 hf fun x2 h7 hf=>Ev.cons Z Z Z (AO.call Z _ Z Z QT (eO _ h7 zg)) ?_; refine B1 hf fun x3 h8 hf=>Ev.cons Z Z Z (AO.call Z _ Z Z aeG (Av _ _ h8 zg)) (Ev.nil ?_); show AR _ _ _ _ _ _ _ _; cases hf; exact Rx 2 [1] Z Z (ZC [1] Z Z h)
theorem tC (iK:ak) (bU:List aG) {r0:Int} (hf:gK iK bU=some r0) (h:Q (.ret (iP r0)) τ):PC 16 [.agg (bf iK),.list (List.map aG.cells bU)] τ Q:=by
 unfold gK at hf; refine AC.none (AC.vB 41 [.tmp 4] [0,1] Tryz.func16 Z Z Z Z Z (AW.sr (AR.step Z Z Z (AO.Kj Z Z Z ?_)))); refine cs 1 Z (AR.nil [1,2] Z (AW.sr (cs 1 Z ?_))); refine AR.nil [1,2,5] Z (AW.seq (AW.sr ?_)); refine B1 hf fun x1 h1 hf=>?_; refine AR.step Z Z Z (AO.call Z _ Z Z aiq (H6 _ _ h1 (AR.step Z Z Z (AO.aM (l:=x1) Z Z Z Z nA Z Z (cs 1 Z (AR.nil [1,2,5,10,11,12] Z ?_)))))); refine AW.block (AW.row 3 57 (AW.settle [1,2,5,10,11,12] Z ?_)); refine AW.ajZ (fun decls1 v1 x2=>[(1,.list (List.map aG.cells bU)),(2,.ref (bf iK)),(5,.own v1 (List.map aG.cells decls1)),(10,.list (List.map aB.cells x1)),(11,iP (x1.length:Int)),(12,iP x2)]) (fun decls1 v1 x2=>[.row v1 (List.map aG.cells decls1).length 3 57]) (fun bP decls1 v1 x2=>oV iK bU x1 bP decls1 x2=some r0) BIG [] (.slice none 0 0) 0 Z Z hf (fun _ _ _ hz=>bG hz) ?_; intro bP decls1 v1 x2 hf; rw [oV] at hf; refine AW.sr (cs 1 Z (AR.nil [1,2,5,10,11,12,13] Z (AW.seq ?_))); refine AW.cond Z (fun h2=>?_) (fun h2=>?_)
 ·
  replace hf:=jN h2 hf; refine AW.skip (AW.seq (AW.block (AW.sr ?_))); refine B1 hf fun e1 h3 hf=>?_; refine AR.step Z Z Z (AO.aJ h3 Z Z Z Z nA (aB.aC _) Z (cs 1 Z (AR.step Z Z Z (AO.aF Z L9 (fun b7=>(AR.bQ Z Z (AO.cO (i:=0) Z Z Z ak5 Z Z Z Z Z ?_))))))); refine AR.nil [1,2,5,7,10,11,12] Z (AW.region (cs 2 Z (AR.step Z Z Z (AO.aP (i:=0) Z Z Z Xw Z Z ?_)))); refine AR.step rfl rfl rfl (AO.build rfl gG ai9 rfl (AR.step rfl rfl rfl (AO.build rfl aa4 ael rfl (AR.step rfl rfl rfl (AO.aX (List.map aG.cells [(aG.mk e1.name (aj.mk 2 []))]) rfl Mr rfl rfl rfl (by first | rfl | simp only [List.map,aG.aC]) ?_)))))
  refine B1 hf fun decls2 h4 hf=>?_; refine AR.step Z Z Z (AO.iC (i:=1) (l:=decls1) (m:=[(aG.mk e1.name (aj.mk 2 []))]) h4 Z Z Z Z Z Z Z Mr zl Z Z Z (aG.dL) (aG.cells_one) (by decide) (fun v2 s1 hs1=>?_)); cases hs1; refine cs 1 Z (AR.nil [1,2,5,10,11,12] Z (AW.region (cs 2 Z ?_))); refine AR.drop1 (AR.nil [1,2,5,10,11,12] Z ?_); exact ⟨decls2,v2,(bW (x2 + 1)),Z,Z,Z,hf⟩
 ·
  replace hf:=jA h2 hf; refine AW.exit (AW.seq ?_); refine B1 hf fun x3 h5 hf=>?_; obtain ⟨x4,e2,h6,hf⟩:=bK hf; refine AW.afI 3 10 [] [.row v1 (List.map aG.cells decls1).length 3 57] (fun S e s=>∃ (v':Value) (b:Nat),e.get 25=.agg (bf iK)∧e.get 26=.own v1 (List.map aG.cells decls1)∧e.get 27=.list (List.map aG.cells bU)∧(S 3=true→e.get 28=.own v' (List.map aG.cells x3))∧(S 4=true→e.get 29=.tuple [.agg (aN x4),iP e2])∧(S 5=true→e.get 24=.tuple [.agg (aN x4),iP e2])∧(S 6=true→e.get 30=.agg (aN x4))∧(S 7=true→e.get 31=iP e2)∧(S 8=true→e.get 8=pP b)∧(S 9=true→S 8=true)∧s=(bif S 8 then [.box b (bif S 9 then (aN x4) else [iP 0,.own (.slice none 0 0) []])] else []) ++ [bif S 3 then .row v' (List.map aG.cells x3).length 3 57 else .row v1 (List.map aG.cells decls1).length 3 57]) mixed (by kernel_rfl) Z Z (List.Perm.refl _) ?_ ?_ ?_ ?_
  ·
   refine Ev.cs aH 3 Z (Ev.nil ?_); exact ⟨v1,0,Z,Z,Z,(fun h=>by cases h),(fun h=>by cases h),(fun h=>by cases h),(fun h=>by cases h),(fun h=>by cases h),(fun h=>by cases h),(fun h=>by cases h),Z⟩
  ·
   rintro S S' e s hS ⟨v',b,q1,q2,q3,q4,q5,q6,q7,q8,q9,qa,qb⟩; have z:=fun i h1 h2=>(hS i h1 h2).symm; refine ⟨v',b,q1,q2,q3,?_,?_,?_,?_,?_,?_,?_,?_⟩
   ·
    rw [z 3 (by decide) (by decide)]; exact q4
   ·
    rw [z 4 (by decide) (by decide)]; exact q5
   ·
    rw [z 5 (by decide) (by decide)]; exact q6
   ·
    rw [z 6 (by decide) (by decide)]; exact q7
   ·
    rw [z 7 (by decide) (by decide)]; exact q8
   ·
    rw [z 8 (by decide) (by decide)]; exact q9
   ·
    rw [z 9 (by decide) (by decide),z 8 (by decide) (by decide)]; exact qa
   ·
    rw [z 3 (by decide) (by decide),z 8 (by decide) (by decide),z 9 (by decide) (by decide)]; exact qb
  ·
   rintro S e s i o ⟨v',b,q1,q2,q3,q4,q5,q6,q7,q8,q9,qa,rfl⟩ hi1 hi2 hSi hp ho; have hi:i=3∨i=4∨i=5∨i=6∨i=7∨i=8∨i=9:=by omega
   rcases hi with rfl | rfl | rfl | rfl | rfl | rfl | rfl
   ·
    cases ho; refine ⟨Z,(fun t ht=>by cases ht; decide),AO.less (Less.add q2 (Less.add q3 Less.nil)) ?_⟩; cases h8:S 8 with
    | false=>
     rw [hSi]; refine AO.iC (i:=0) (l:=decls1) (m:=bU) h5 Z Z Z Z Z Z Z Mr zl Z Z Z (aG.dL) (aG.cells_one) (by decide) (fun v3 s2 hs2=>?_); cases hs2; exact ⟨v3,b,q1,q2,q3,(fun _=>Z),q5,q6,q7,q8,(fun h=>by rw [show S 8=true from h] at h8; cases h8),qa,by simp [h8]⟩
    | true=>
     rw [hSi]; refine AO.iC (i:=1) (l:=decls1) (m:=bU) h5 Z Z Z Z Z Z Z Mr zl Z Z Z (aG.dL) (aG.cells_one) (by decide) (fun v3 s2 hs2=>?_); cases hs2; exact ⟨v3,b,q1,q2,q3,(fun _=>Z),q5,q6,q7,q8,q9,qa,by simp [h8]⟩
   ·
    cases ho; have s3:=hp 3 (any_beq.1 Z) (by decide); refine ⟨Z,(fun t ht=>by cases ht; decide),AO.less (Less.add q1 (Less.add (q4 s3) Less.nil)) ?_⟩; refine AO.call Z _ Z Z alo (WV _ _ h6 ?_); exact ⟨v',b,q1,q2,q3,q4,(fun _=>Z),q6,q7,q8,q9,qa,Z⟩
   ·
    cases ho; have s4:=hp 4 (any_beq.1 Z) (by decide); refine ⟨Z,(fun t ht=>by cases ht; decide),AO.less (Less.add (q5 s4) Less.nil) (AO.calc' Z ?_)⟩; exact ⟨v',b,q1,q2,q3,q4,q5,(fun _=>Z),q7,q8,q9,qa,Z⟩
   ·
    cases ho; have s5:=hp 5 (any_beq.1 Z) (by decide); refine ⟨Z,(fun t ht=>by cases ht; decide),AO.less (Less.add (q6 s5) Less.nil) (AO.calc' Z ?_)⟩; exact ⟨v',b,q1,q2,q3,q4,q5,q6,(fun _=>Z),q8,q9,qa,Z⟩
   ·
    cases ho; have s5:=hp 5 (any_beq.1 Z) (by decide); refine ⟨Z,(fun t ht=>by cases ht; decide),AO.less (Less.add (q6 s5) Less.nil) (AO.calc' Z ?_)⟩; exact ⟨v',b,q1,q2,q3,q4,q5,q6,q7,(fun _=>Z),q9,qa,Z⟩
   ·
    cases ho; have h9:S 9=false:=Bool.eq_false_iff.2 fun h9=>by rw [qa h9] at hSi; cases hSi
    rw [hSi,h9]; refine ⟨Z,(fun t ht=>by cases ht; decide),AO.aF Z gG (fun b8=>?_)⟩; exact ⟨v',b8,q1,q2,q3,q4,q5,q6,q7,q8,(fun _=>Z),(fun _=>Z),by simp [h9]⟩
   ·
    cases ho; have s8:=hp 8 (any_beq.1 Z) (by decide); have s6:=hp 6 (any_beq.1 Z) (by decide); rw [s8,hSi]; refine ⟨Z,(fun t ht=>by cases ht),AO.less (Less.add (q9 s8) (Less.add (q7 s6) Less.nil)) ?_⟩; refine AO.cO (i:=0) Z Z Z fD Z Z Z Z Z ?_; exact ⟨v',b,q1,q2,q3,q4,q5,q6,q7,q8,q9,(fun _=>s8),by simp [s8]⟩
  rintro S e s hS ⟨v',b8,q1,q2,q3,q4,q5,q6,q7,q8,q9,qa,rfl⟩; rw [hS 3 (by decide) (by decide),hS 8 (by decide) (by decide),hS 9 (by decide) (by decide)]; refine AR.less (Less.add (q9 (hS 8 (by decide) (by decide))) (Less.add (q8 (hS 7 (by decide) (by decide))) Less.nil)) ?_; refine cs 1 Z (AR.nil [8,9] Z (AW.seq (AW.sr ?_))); refine cs 2 Z (AR.nil [8,9,33] Z (AW.cond Z (fun h7=>?_) (fun h7=>?_)))
  ·
   replace hf:=jN h7 hf; refine AW.sr (cs 2 Z (AR.nil [4] Z (AW.ret ?_))); cases hf; exact ⟨rfl,_,⟨_,_,rfl,rfl,rfl⟩,[],List.nil_sublist _,h⟩
  ·
   replace hf:=jA h7 hf; refine AW.skip (AW.seq (AW.sr (cs 1 Z ?_))); refine AR.step Z Z Z (AO.aP (i:=0) Z Z Z ES Z Z (AR.nil [36] Z (AW.block (AW.seq ?_)))); refine AW.sr (cs 2 Z (AR.nil [36,37] Z (AW.cond Z (fun h8=>?_) (fun h8=>?_))))
   ·
    replace hf:=jN h8 hf; refine AW.skip (AW.cond Z (fun h9=>?_) (fun h9=>?_))
    ·
     refine AW.sr (cs 1 Z (AR.nil [4] Z (AW.ret ?_))); cases hf; exact ⟨rfl,_,⟨_,_,rfl,rfl,rfl⟩,[],List.nil_sublist _,h⟩
    ·
     cases h8.symm.trans h9
   ·
    replace hf:=jA h8 hf; refine AW.sr (cs 2 Z (AR.nil [36,37] Z (AW.cond Z (fun h10=>?_) (fun h10=>?_))))
    ·
     replace hf:=jN h10 hf; refine AW.skip (AW.cond Z (fun h11=>?_) (fun h11=>?_))
     ·
      refine AW.sr (cs 1 Z (AR.nil [4] Z (AW.ret ?_))); cases hf; exact ⟨rfl,_,⟨_,_,rfl,rfl,rfl⟩,[],List.nil_sublist _,h⟩
     ·
      cases h10.symm.trans h11
    ·
     replace hf:=jA h10 hf; refine AW.region (cs 2 Z (AR.nil [37] Z (AW.cond Z (fun h12=>?_) (fun h12=>?_))))
     ·
      replace hf:=jN h12 hf; refine AW.sr (cs 1 Z (AR.nil [4] Z (AW.ret ?_))); cases hf; exact ⟨rfl,_,⟨_,_,rfl,rfl,rfl⟩,[],List.nil_sublist _,h⟩
     ·
      replace hf:=jA h12 hf; refine AW.skip (AW.sr (cs 1 Z (AR.nil [4] Z ?_))); refine AW.ret ?_; cases hf; exact ⟨rfl,_,⟨_,_,rfl,rfl,rfl⟩,[],List.nil_sublist _,h⟩
theorem TN {r0:ak} (hf:IU=some r0) (h:Q (.ret (.agg (bf r0))) τ):PC 47 [] τ Q:=by
 unfold IU at hf; refine BN 2 [.cell 0 34] [] Tryz.func47 Z Z Z Z Z (W 0 Z (AS Z (AO.aF Z qG (fun b0=>?_)))); cases hf; exact Rx 2 [0] Z Z (ZC [0] Z Z h)
theorem xu (Qe:Bool) {r0:Int} (hf:mX Qe=some r0) (h:Q (.ret (iP r0)) τ):PC 170 [.bool Qe] τ Q:=by
 unfold mX at hf; refine BN 4 [.tmp 2] [0] Tryz.func170 Z Z Z Z Z (V 2 Z (C hf Z (fun h1 hf=>?_) fun h1 hf=>?_))
 · cases hf; exact M 1 Z (Y Z h)
 cases hf; exact M 1 Z (Y Z h)
theorem Y8 (a1:List Str) (b1:List Str) {r0:Int} (hf:FH a1 b1=some r0) (h:Q (.ret (iP r0)) τ):PC 172 [sP a1,sP b1] τ Q:=by
 unfold FH at hf; refine BN 44 [.tmp 4] [0,1] Tryz.func172 Z Z Z Z Z (V 2 Z (E_ (fun i1=>[(0,sP a1),(1,sP b1),(5,iP i1)]) (fun i1=>[]) (fun bP i1=>u_ a1 b1 bP i1=some r0) BIG 0 Z Z hf (fun _ hz=>bG hz) ?_)); intro bP i1 hf; rw [u_] at hf; refine W 2 Z (AS Z (AO.aM (l:=a1) Z Z Z Z fE Z Z (U 2 Z (AR.and 5 11 16 [0,1,5] (x:=(decide (i1 < (b1.length:Int)))) Z Z (fun h1=>?_) (fun h1=>?_) ?_))))
 · refine Is 11 h1 Z (U 2 Z (GO Z (AO.aM (l:=b1) Z Z Z Z fE Z Z ?_))); exact dY 2 Z (En [16,0,1,5] Z)
 · refine Is 11 h1 Z ?_; exact dY 5 Z (En [16,0,1,5] Z)
 refine J 0 Z (C hf Z (fun h2 hf=>?_) fun h2 hf=>?_)
 ·
  refine V 0 Z (AW.draw 10 mixed (by kernel_rfl) Z ?_); refine Ev.cs aH 2 Z ?_; refine B1 hf fun e1 h3 hf=>Ev.cons Z Z Z (AO.aJ h3 Z Z Z Z fE Z Z zg) (Ev.cs aH 3 Z ?_); refine B1 hf fun e2 h4 hf=>Ev.cons Z Z Z (AO.aJ h4 Z Z Z Z fE Z Z zg) (Ev.cs aH 1 Z ?_); refine B1 hf fun c1 h5 hf=>Ev.cons Z Z Z (AO.call Z _ Z Z aeV (KQ _ _ h5 zg)) (Ev.cs aH 1 Z (Ev.nil ?_)); show AR _ _ _ _ _ _ _ _; refine J 2 Z (C hf Z (fun h6 hf=>?_) fun h6 hf=>?_)
  · refine BR hf fun x1 h7 hf=>?_; refine W 2 Z (CL Z (xu _ h7 ?_)); cases hf; exact N 1 Z (Y Z h)
  exact M 3 Z ⟨(bW (i1 + 1)),Z,Z,Z,hf⟩
 refine W 1 Z (AS Z (AO.aM (l:=a1) Z Z Z Z fE Z Z (U 1 Z (AS Z (AO.aM (l:=b1) Z Z Z Z fE Z Z (J 1 Z (C hf Z (fun h8 hf=>?_) fun h8 hf=>?_)))))))
 · cases hf; exact M 1 Z (Y Z h)
 refine W 1 Z (AS Z (AO.aM (l:=a1) Z Z Z Z fE Z Z (U 1 Z (AS Z (AO.aM (l:=b1) Z Z Z Z fE Z Z ?_))))); refine BR hf fun x2 h9 hf=>?_; refine U 1 Z (CL Z (xu _ h9 ?_)); cases hf; exact N 1 Z (Y Z h)
abbrev Fa (gN:ah→ah→Option Int):Prop:=∀ (pI:ah) (pG:ah) {aO:Int},gN pI pG=some aO→∀ {τ:List bg} {Q:eD→List bg→Prop} (h:Q (.ret (iP aO)) τ),PC 113 [.agg (aL pI),.agg (aL pG)] τ Q
abbrev JX (kX:List ah→List ah→Option Int):Prop:=∀ (pI:List ah) (pG:List ah) {aO:Int},kX pI pG=some aO→∀ {τ:List bg} {Q:eD→List bg→Prop} (h:Q (.ret (iP aO)) τ),PC 171 [.list (ah.aT pI),.list (ah.aT pG)] τ Q
theorem Ta (gN) (Hu:Fa gN) (kX) (EX:JX kX) (a1:ah) (b1:ah) {r0:Int} (hf:Ao gN kX a1 b1=some r0) (h:Q (.ret (iP r0)) τ):PC 113 [.agg (aL a1),.agg (aL b1)] τ Q:=by
 unfold Ao at hf; refine BN 77 [.tmp 4] [0,1] Tryz.func113 Z Z Z Z Z (V 8 Z (C hf Z (fun h1 hf=>?_) fun h1 hf=>?_))
 · refine BR hf fun x1 h2 hf=>?_; refine W 5 Z (CL Z (xu _ h2 ?_)); cases hf; exact N 1 Z (Y Z h)
 refine V 4 Z (C hf Z (fun h3 hf=>?_) fun h3 hf=>?_)
 ·
  refine W 4 Z (AS Z (AO.SA Z agF Z Z (J 0 Z (C hf Z (fun h4 hf=>?_) fun h4 hf=>?_))))
  · refine BR hf fun x2 h5 hf=>?_; refine W 2 Z (CL Z (xu _ h5 ?_)); cases hf; exact N 1 Z (Y Z h)
  cases hf; exact M 1 Z (Y Z h)
 refine V 2 Z (C hf Z (fun h6 hf=>?_) fun h6 hf=>?_)
 ·
  refine V 5 Z (C hf Z (fun h7 hf=>?_) fun h7 hf=>?_)
  · refine BR hf fun x3 h8 hf=>?_; refine W 5 Z (CL Z (xu _ h8 ?_)); cases hf; exact N 1 Z (Y Z h)
  cases hf; exact M 1 Z (Y Z h)
 refine V 2 Z (C hf Z (fun h9 hf=>?_) fun h9 hf=>?_)
 ·
  refine V 5 Z (C hf Z (fun h10 hf=>?_) fun h10 hf=>?_)
  · refine BR hf fun x4 h11 hf=>?_; refine W 5 Z (CL Z (xu _ h11 ?_)); cases hf; exact N 1 Z (Y Z h)
  cases hf; exact M 1 Z (Y Z h)
 refine V 2 Z (C hf Z (fun h12 hf=>?_) fun h12 hf=>?_)
 · refine BR hf fun x5 kQ hf=>?_; refine W 4 Z (CL Z (EX _ _ kQ ?_)); cases hf; exact N 1 Z (Y Z h)
 refine V 2 Z (C hf Z (fun lQ hf=>?_) fun lQ hf=>?_)
 ·
  refine B1 hf fun c1 ng hf=>W 4 Z (CL Z (Y8 _ _ ng (J 3 Z (C hf Z (fun h16 hf=>?_) fun h16 hf=>?_))))
  · cases hf; exact M 2 Z (Y Z h)
  refine BR hf fun x6 vG hf=>?_; refine W 4 Z (CL Z (EX _ _ vG ?_)); cases hf; exact N 1 Z (Y Z h)
 cases hf; exact M 1 Z (Y Z h)
theorem Xk (gN) (Hu:Fa gN) (kX) (EX:JX kX) (a1:List ah) (b1:List ah) {r0:Int} (hf:El gN kX a1 b1=some r0) (h:Q (.ret (iP r0)) τ):PC 171 [.list (ah.aT a1),.list (ah.aT b1)] τ Q:=by
 unfold El at hf; refine BN 42 [.tmp 4] [0,1] Tryz.func171 Z Z Z Z Z (V 2 Z (E_ (fun i1=>[(0,.list (ah.aT a1)),(1,.list (ah.aT b1)),(5,iP i1)]) (fun i1=>[]) (fun bP i1=>vg gN a1 b1 bP i1=some r0) BIG 0 Z Z hf (fun _ hz=>bG hz) ?_)); intro bP i1 hf; rw [vg] at hf; refine W 2 Z (AS Z (AO.aM (l:=a1) Z Z Z Z fB Z (ah.aA _) (U 2 Z (AR.and 5 11 16 [0,1,5] (x:=(decide (i1 < (b1.length:Int)))) Z Z (fun h1=>?_) (fun h1=>?_) ?_))))
 · refine Is 11 h1 Z (U 2 Z (GO Z (AO.aM (l:=b1) Z Z Z Z fB Z (ah.aA _) ?_))); exact dY 2 Z (En [16,0,1,5] Z)
 · refine Is 11 h1 Z ?_; exact dY 5 Z (En [16,0,1,5] Z)
 refine J 0 Z (C hf Z (fun h2 hf=>?_) fun h2 hf=>?_)
 ·
  refine V 0 Z (AW.draw 10 mixed (by kernel_rfl) Z ?_); refine Ev.cs aH 2 Z ?_; refine B1 hf fun e1 h3 hf=>Ev.cons Z Z Z (AO.aJ h3 Z Z (ah.aA _) Z fB (ah.aC _) Z zg) (Ev.cs aH 3 Z ?_); refine B1 hf fun e2 h4 hf=>Ev.cons Z Z Z (AO.aJ h4 Z Z (ah.aA _) Z fB (ah.aC _) Z zg) (Ev.cs aH 1 Z ?_); refine B1 hf fun c1 h5 hf=>Ev.cons Z Z Z (AO.call Z _ Z Z ajK (Hu _ _ h5 zg)) (Ev.cs aH 1 Z (Ev.nil ?_)); show AR _ _ _ _ _ _ _ _; refine J 2 Z (C hf Z (fun h6 hf=>?_) fun h6 hf=>?_)
  · cases hf; exact M 2 Z (Y Z h)
  exact M 3 Z ⟨(bW (i1 + 1)),Z,Z,Z,hf⟩
 refine W 1 Z (AS Z (AO.aM (l:=a1) Z Z Z Z fB Z (ah.aA _) (U 1 Z (AS Z (AO.aM (l:=b1) Z Z Z Z fB Z (ah.aA _) (J 1 Z (C hf Z (fun h7 hf=>?_) fun h7 hf=>?_)))))))
 · cases hf; exact M 1 Z (Y Z h)
 refine W 1 Z (AS Z (AO.aM (l:=a1) Z Z Z Z fB Z (ah.aA _) (U 1 Z (AS Z (AO.aM (l:=b1) Z Z Z Z fB Z (ah.aA _) ?_))))); refine BR hf fun x1 h8 hf=>?_; refine U 1 Z (CL Z (xu _ h8 ?_)); cases hf; exact N 1 Z (Y Z h)
theorem KG :∀ k:Nat,(Fa (jH k))∧(JX (rD k)):=by
 intro k
 induction k with
 | zero=>exact ⟨fun _ _ _ hz=>by first | cases hz | (unfold jH at hz; cases hz),fun _ _ _ hz=>by first | cases hz | (unfold rD at hz; cases hz)⟩
 | succ k ih=>exact ⟨fun pI pG aO hz τ Q hq=>Ta (jH k) ih.1 (rD k) ih.2 pI pG hz hq,fun pI pG aO hz τ Q hq=>Xk (jH k) ih.1 (rD k) ih.2 pI pG hz hq⟩
theorem TP (pI:ah) (pG:ah) {aO:Int} (hf:Eo pI pG=some aO) (h:Q (.ret (iP aO)) τ):PC 113 [.agg (aL pI),.agg (aL pG)] τ Q:=
 ((KG BIG).1) pI pG hf h
theorem aiN (pI:List ah) (pG:List ah) {aO:Int} (hf:acQ pI pG=some aO) (h:Q (.ret (iP aO)) τ):PC 171 [.list (ah.aT pI),.list (ah.aT pG)] τ Q:=
 ((KG BIG).2) pI pG hf h
theorem Y_ (a1:ah) (b1:ah) {r0:Bool} (hf:xI a1 b1=some r0) (h:Q (.ret (.bool r0)) τ):PC 73 [.agg (aL a1),.agg (aL b1)] τ Q:=by
 unfold xI at hf; refine BN 9 [.tmp 4] [0,1] Tryz.func73 Z Z Z Z Z ?_; refine B1 hf fun x1 h1 hf=>W 5 Z (CL Z (TP _ _ h1 ?_)); cases hf; exact N 2 Z (Y Z h)
abbrev Pd (jk:ak→ak→Option Bool):Prop:=∀ (pI:ak) (pG:ak) {aO:Bool},jk pI pG=some aO→∀ {τ:List bg} {Q:eD→List bg→Prop} (h:Q (.ret (.bool aO)) τ),PC 46 [.agg (bf pI),.agg (bf pG)] τ Q
theorem Xh (jk) (Tv:Pd jk) (a1:ak) (b1:ak) {r0:Bool} (hf:IW jk a1 b1=some r0) (h:Q (.ret (.bool r0)) τ):PC 46 [.agg (bf a1),.agg (bf b1)] τ Q:=by
 unfold IW at hf; refine BN 82 [.tmp 4] [0,1] Tryz.func46 Z Z Z Z Z (W 9 Z (On 6 12 18 [2,3] (!(a1.name == b1.name)) Z Z Z Z (U 1 Z (AR.or 8 19 27 [2,3] (x:=((a1.keys.length:Int) != (b1.keys.length:Int))) Z Z (fun h2=>?_) (fun h2=>?_) ?_))))
 · refine Is 19 h2 Z (U 2 Z (GO Z (AO.aM (l:=a1.keys) Z Z Z Z fE Z Z (U 2 Z (GO Z (AO.aM (l:=b1.keys) Z Z Z Z fE Z Z ?_)))))); exact dY 2 Z (En [27,2,3] Z)
 · refine Is 19 h2 Z ?_; exact dY 8 Z (En [27,2,3] Z)
 refine U 1 Z (AR.or 8 28 36 [2,3] (x:=((a1.args.length:Int) != (b1.args.length:Int))) Z Z (fun h3=>?_) (fun h3=>?_) ?_)
 · refine Is 28 h3 Z (U 2 Z (GO Z (AO.aM (l:=a1.args) Z Z Z Z g_ Z (ak.aA _) (U 2 Z (GO Z (AO.aM (l:=b1.args) Z Z Z Z g_ Z (ak.aA _) ?_)))))); exact dY 2 Z (En [36,2,3] Z)
 · refine Is 28 h3 Z ?_; exact dY 8 Z (En [36,2,3] Z)
 refine B1 hf fun b2 h5 hf=>U 1 Z (AR.cZ 7 37 44 false [2,3] b2 Z Z (fun h4=>?_) (fun h4=>?_) ?_)
 · refine IF 37 h4 h5 Z fun h5=>?_; refine B1 h5 fun x1 h6 h5=>U 4 Z (GO Z (AO.call Z _ Z Z ale (Y_ _ _ h6 ?_))); cases h5; exact dY 2 Z (En [44,2,3] Z)
 · refine IT 37 h4 h5 Z fun h5=>?_; cases h5; exact dY 7 Z (En [44,2,3] Z)
 refine J 0 Z (C hf Z (fun h7 hf=>?_) fun h7 hf=>?_)
 · cases hf; exact M 1 Z (Y Z h)
 refine V 1 Z (E_ (fun i1=>[(2,.ref (bf a1)),(3,.ref (bf b1)),(5,iP i1)]) (fun i1=>[]) (fun bP i1=>Ce jk a1 b1 bP i1=some r0) BIG 0 Z Z hf (fun _ hz=>bG hz) ?_); intro bP i1 hf; rw [Ce] at hf; refine W 3 Z (AS Z (AO.aM (l:=a1.keys) Z Z Z Z fE Z Z (J 1 Z (C hf Z (fun h8 hf=>?_) fun h8 hf=>?_))))
 ·
  refine V 0 Z (AW.draw 11 mixed (by kernel_rfl) Z ?_); refine Ev.cs aH 3 Z ?_; refine B1 hf fun e1 h9 hf=>Ev.cons Z Z Z (AO.aJ h9 Z Z Z Z fE Z Z zg) (Ev.cs aH 4 Z ?_); refine B1 hf fun e2 h10 hf=>Ev.cons Z Z Z (AO.aJ h10 Z Z Z Z fE Z Z zg) (Ev.cs aH 2 Z (Ev.nil ?_)); show AR _ _ _ _ _ _ _ _; refine J 0 Z (C hf Z (fun h11 hf=>?_) fun h11 hf=>?_)
  · cases hf; exact M 1 Z (Y Z h)
  exact M 3 Z ⟨(bW (i1 + 1)),Z,Z,Z,hf⟩
 refine V 1 Z (E_ (fun i2=>[(2,.ref (bf a1)),(3,.ref (bf b1)),(6,iP i2)]) (fun i2=>[]) (fun Ke i2=>Cc jk a1 b1 Ke i2=some r0) BIG 0 Z Z hf (fun _ hz=>bG hz) ?_); intro Ke i2 hf; rw [Cc] at hf; refine W 3 Z (AS Z (AO.aM (l:=a1.args) Z Z Z Z g_ Z (ak.aA _) (J 1 Z (C hf Z (fun h12 hf=>?_) fun h12 hf=>?_))))
 ·
  refine V 0 Z (AW.draw 12 mixed (by kernel_rfl) Z ?_); refine Ev.cs aH 3 Z ?_; refine B1 hf fun e3 kQ hf=>Ev.cons Z Z Z (AO.aJ kQ Z Z (ak.aA _) Z g_ (ak.aC _) Z zg) (Ev.cs aH 4 Z ?_); refine B1 hf fun e4 lQ hf=>Ev.cons Z Z Z (AO.aJ lQ Z Z (ak.aA _) Z g_ (ak.aC _) Z zg) (Ev.cs aH 1 Z ?_); refine B1 hf fun x2 ng hf=>Ev.cons Z Z Z (AO.call Z _ Z Z aik (Tv _ _ ng zg)) (Ev.cs aH 1 Z (Ev.nil ?_)); show AR _ _ _ _ _ _ _ _; refine J 0 Z (C hf Z (fun h16 hf=>?_) fun h16 hf=>?_)
  · cases hf; exact M 1 Z (Y Z h)
  exact M 3 Z ⟨(bW (i2 + 1)),Z,Z,Z,hf⟩
 cases hf; exact M 1 Z (Y Z h)
theorem Ye :∀ k:Nat,(Pd (AZ k)):=by
 intro k
 induction k with
 | zero=>exact fun _ _ _ hz=>by first | cases hz | (unfold AZ at hz; cases hz)
 | succ k ih=>exact fun pI pG aO hz τ Q hq=>Xh (AZ k) ih pI pG hz hq
theorem Y3 (pI:ak) (pG:ak) {aO:Bool} (hf:UJ pI pG=some aO) (h:Q (.ret (.bool aO)) τ):PC 46 [.agg (bf pI),.agg (bf pG)] τ Q:=
 ((Ye BIG)) pI pG hf h
theorem YU (e1:ak) {r0:Bool} (hf:Fu e1=some r0) (h:Q (.ret (.bool r0)) τ):PC 25 [.agg (bf e1)] τ Q:=by
 unfold Fu at hf; refine BN 6 [.tmp 2] [0] Tryz.func25 Z Z Z Z Z (V 2 Z (AW.draw 4 mixed (by kernel_rfl) Z ?_)); refine Ev.cs aH 1 Z ?_; refine B1 hf fun x1 h1 hf=>Ev.cons Z Z Z (AO.call Z _ Z Z alk (TN  h1 zg)) ?_; refine BR hf fun x2 h2 hf=>?_; refine Ev.cons Z Z Z (AO.call Z _ Z Z aik (Y3 _ _ h2 zg)) (Ev.cs aH 1 Z (Ev.nil ?_)); show AR _ _ _ _ _ _ _ _; cases hf; exact N 0 Z (Y Z h)
section
variable [Hf]
theorem JN {r0:Bool} (hf:vD=some r0) (h:Q (.ret (.bool r0)) τ):PC 9 [] τ Q:=by
 unfold vD at hf; refine BN 86 [.tmp 0] [] Tryz.func9 Z Z Z Z Z (W 1 Z (AS Z (AO.aX (List.map FQ ([1,2]:List Int)) Z aeA Z Z Z Z ?_))); obtain ⟨a1,e1,h1,hf⟩:=bK hf; refine U 2 Z (CL Z (Cv _ _ h1 ?_)); obtain ⟨b1,f1,h2,hf⟩:=bK hf; refine U 6 Z (CL Z (Cv _ _ h2 ?_)); obtain ⟨c1,g1,h3,hf⟩:=bK hf; refine U 6 Z (CL Z (Cv _ _ h3 ?_)); obtain ⟨x1,hx1,h4,hf⟩:=bK hf; refine U 5 Z (CL Z (Cv _ _ h4 ?_)); obtain ⟨x2,x3,x4,h5,hf⟩:=vM hf; refine U 5 Z (CL Z (JL _ h5 (U 4 Z (AS Z (AO.aF Z qG (fun b10=>?_)))))); refine B1 hf fun x5 h6 hf=>Rr 3 [0] rfl rfl (CL rfl (vY  h6 (U 2 rfl (AS rfl (AO.aX (List.map aG.cells [(aG.mk ([97,108,119,97,121,115]:Str) (aj.mk 2 []))]) rfl Mr rfl rfl rfl (by first | rfl | simp only [List.map,aG.aC]) ?_))))); refine B1 hf fun oZ h7 hf=>CL Z (tC _ _ h7 (U 3 Z (An 3 45 48 [4,5,6,7,9,10,13] (e1 == 0) Z Z Z Z (U 1 Z (An 3 49 52 [5,6,7,9,10,13] (!b1) Z Z Z Z (U 1 Z (An 3 53 56 [6,7,9,10,13] (f1 == 0) Z Z Z Z ?_)))))))
 refine U 1 Z (An 2 57 59 [7,9,10,13] c1 Z Z Z Z (U 1 Z (An 3 60 63 [9,10,13] (g1 == 0) Z Z Z Z (U 1 Z (An 3 64 67 [10,13] (hx1 == 9) Z Z Z Z ?_))))); refine B1 hf fun b2 ng hf=>U 1 Z (AR.cZ 4 68 72 true [13] b2 Z Z (fun lQ=>?_) (fun lQ=>?_) ?_)
 · replace ng:=jN lQ ng; refine Is 68 lQ Z (GO Z (AO.aP (i:=0) Z Z Z vO Z Z ?_)); refine B1 ng fun x6 h16 ng=>GO Z (AO.call Z _ Z Z aip (tC _ _ h16 ?_)); cases ng; exact dY 2 Z (En [72,13] Z)
 · refine IF 68 lQ ng Z fun ng=>?_; cases ng; exact dY 4 Z (En [72,13] Z)
 refine U 1 Z (An 3 73 76 [] (oZ == 7) Z Z Z Z ?_); refine B1 hf fun b3 h19 hf=>U 1 Z (AR.cZ 3 77 80 true [] b3 Z Z (fun h18=>?_) (fun h18=>?_) ?_)
 · refine IT 77 h18 h19 Z fun h19=>?_; refine B1 h19 fun x7 h20 h19=>GO Z (AO.call Z _ Z Z aio (vY  h20 ?_)); refine BR h19 fun x8 h21 h19=>?_; refine GO Z (AO.call Z _ Z Z alq (YU _ h21 ?_)); cases h19; exact dY 1 Z (En [80] Z)
 · refine IF 77 h18 h19 Z fun h19=>?_; cases h19; exact dY 3 Z (En [80] Z)
 refine BR hf fun b4 h23 hf=>?_; refine U 1 Z (AR.cZ 4 81 85 true [] b4 Z Z (fun h22=>?_) (fun h22=>?_) ?_)
 · refine IT 81 h22 h23 Z fun h23=>?_; refine B1 h23 fun x9 Fb h23=>GO Z (AO.call Z _ Z Z aio (vY  Fb ?_)); refine B1 h23 fun BH DV h23=>GO Z (AO.call Z _ Z Z aip (tC _ _ DV ?_)); cases h23; exact dY 2 Z (En [85] Z)
 · refine IF 81 h22 h23 Z fun h23=>?_; cases h23; exact dY 4 Z (En [85] Z)
 cases hf; exact N 1 Z (Y Z h)
end
theorem ou (dJ:Int) {r0:aj} (hf:iV dJ=some r0) (h:Q (.ret (.agg (aN r0))) τ):PC 40 [iP dJ] τ Q:=by
 unfold iV at hf; refine BN 5 [.cell 2 54] [0] Tryz.func40 Z Z Z Z Z (W 0 Z (AS Z (AO.aF Z gG (fun b2=>?_)))); cases hf; exact Rx 3 [0] Z Z (ZC [0] Z Z h)
theorem O3 (dJ:Int) {r0:Bool} (hf:zT dJ=some r0) (h:Q (.ret (.bool r0)) τ):PC 104 [iP dJ] τ Q:=by
 unfold zT at hf; refine BN 9 [.tmp 2] [0] Tryz.func104 Z Z Z Z Z (W 4 Z (On 3 5 8 [] (dJ == 6) Z Z Z Z ?_)); cases hf; exact N 1 Z (Y Z h)
theorem qE (dJ:Int) (t1:aj) {r0:aj} (hf:jg dJ t1=some r0) (h:Q (.ret (.agg (aN r0))) τ):PC 65 [iP dJ,.agg (aN t1)] τ Q:=by
 unfold jg at hf; refine BN 9 [.cell 4 54] [0,1] Tryz.func65 rfl rfl rfl rfl rfl (W 1 rfl (AS rfl (AO.aF rfl gG (fun b4=>(U 2 rfl (AS rfl (AO.aX (aj.aT [t1]) rfl rC rfl rfl rfl (by first | rfl | simp only [List.map,aj.aC,aj.aT]) ?_))))))); cases hf; exact Rx 2 [0] Z Z (ZC [0] Z Z h)
abbrev SI (xQ:aj→aj→Option aj):Prop:=∀ (pI:aj) (pG:aj) {aO:aj},xQ pI pG=some aO→∀ {τ:List bg} {Q:eD→List bg→Prop} (h:Q (.ret (.agg (aN aO))) τ),PC 64 [.agg (aN pI),.agg (aN pG)] τ Q
theorem ZB (xQ) (Wd:SI xQ) (a1:aj) (b1:aj) {r0:aj} (hf:wV xQ a1 b1=some r0) (h:Q (.ret (.agg (aN r0))) τ):PC 64 [.agg (aN a1),.agg (aN b1)] τ Q:=by
 unfold wV at hf; refine BN 35 [.cell 4 54] [0,1] Tryz.func64 Z Z Z Z Z (W 2 Z (AS Z (AO.aF Z gG (fun b4=>(J 3 Z (C hf Z (fun h1 hf=>?_) fun h1 hf=>?_))))))
 · cases hf; exact Wx 2 [0] Z Z (ZC [0] Z Z h)
 refine V 3 Z (C hf Z (fun h2 hf=>?_) fun h2 hf=>?_)
 · cases hf; exact Wx 2 [0] Z Z (ZC [0] Z Z h)
 refine V 5 Z (C hf Z (fun h3 hf=>?_) fun h3 hf=>?_)
 · refine BR hf fun x1 h4 hf=>?_; refine W 0 Z (CL Z (ou _ h4 ?_)); cases hf; exact Rx 1 [0] Z Z (ZC [0] Z Z h)
 refine B1 hf fun x2 h5 hf=>W 2 Z (CL Z (O3 _ h5 (J 0 Z (C hf Z (fun h6 hf=>?_) fun h6 hf=>?_))))
 ·
  refine V 0 Z (AW.draw 12 mixed (by kernel_rfl) Z ?_); refine Ev.cs aH 4 Z ?_; refine B1 hf fun e1 h7 hf=>Ev.cons Z Z Z (AO.aJ h7 Z Z (aj.aA _) Z dX (aj.aC _) Z zg) (Ev.cs aH 3 Z ?_); refine B1 hf fun e2 h8 hf=>Ev.cons Z Z Z (AO.aJ h8 Z Z (aj.aA _) Z dX (aj.aC _) Z zg) (Ev.cs aH 1 Z ?_); refine B1 hf fun x3 h9 hf=>Ev.cons Z Z Z (AO.call Z _ Z Z aij (Wd _ _ h9 zg)) ?_; refine BR hf fun x4 h10 hf=>?_; refine Ev.cons Z Z Z (AO.call Z _ Z Z X3 (qE _ _ h10 zg)) (Ev.nil ?_); show AR _ _ _ _ _ _ _ _; cases hf; exact Rx 1 [0] Z Z (ZC [0] Z Z h)
 cases hf; exact Wx 2 [0] Z Z (ZC [0] Z Z h)
theorem aai :∀ k:Nat,(SI (qB k)):=by
 intro k
 induction k with
 | zero=>exact fun _ _ _ hz=>by first | cases hz | (unfold qB at hz; cases hz)
 | succ k ih=>exact fun pI pG aO hz τ Q hq=>ZB (qB k) ih pI pG hz hq
theorem R_ (pI:aj) (pG:aj) {aO:aj} (hf:IY pI pG=some aO) (h:Q (.ret (.agg (aN aO))) τ):PC 64 [.agg (aN pI),.agg (aN pG)] τ Q:=
 ((aai BIG)) pI pG hf h
abbrev Zo (sG:ah→Option aj):Prop:=∀ (qH:ah) {aO:aj},sG qH=some aO→∀ {τ:List bg} {Q:eD→List bg→Prop} (h:Q (.ret (.agg (aN aO))) τ),PC 41 [.agg (aL qH)] τ Q
theorem ad1 (sG) (aau:Zo sG) (v1:ah) {r0:aj} (hf:MF sG v1=some r0) (h:Q (.ret (.agg (aN r0))) τ):PC 41 [.agg (aL v1)] τ Q:=by
 unfold MF at hf; refine BN 42 [.cell 2 54] [0] Tryz.func41 Z Z Z Z Z (W 1 Z (AS Z (AO.aF Z gG (fun b2=>(J 4 Z (C hf Z (fun h1 hf=>?_) fun h1 hf=>?_))))))
 · refine BR hf fun x1 h2 hf=>?_; refine W 0 Z (CL Z (ou _ h2 ?_)); cases hf; exact Rx 1 [0] Z Z (ZC [0] Z Z h)
 refine V 2 Z (C hf Z (fun h3 hf=>?_) fun h3 hf=>?_)
 · refine BR hf fun x2 h4 hf=>?_; refine W 0 Z (CL Z (ou _ h4 ?_)); cases hf; exact Rx 1 [0] Z Z (ZC [0] Z Z h)
 refine V 2 Z (C hf Z (fun h5 hf=>?_) fun h5 hf=>?_)
 · refine BR hf fun x3 h6 hf=>?_; refine W 0 Z (CL Z (ou _ h6 ?_)); cases hf; exact Rx 1 [0] Z Z (ZC [0] Z Z h)
 refine V 2 Z (C hf Z (fun h7 hf=>?_) fun h7 hf=>?_)
 · refine BR hf fun x4 h8 hf=>?_; refine W 0 Z (CL Z (ou _ h8 ?_)); cases hf; exact Rx 1 [0] Z Z (ZC [0] Z Z h)
 refine B1 hf fun x5 h9 hf=>W 0 Z (CL Z (ou _ h9 (AS Z (AO.aF Z gG (fun b3=>(Rw 2 [0] Z Z (Zn (fun i1 t1=>[(1,.ref (aL v1)),(2,pP b2),(3,pP b3),(4,iP i1)]) (fun i1 t1=>[.box b3 (aN t1),.box b2 [iP 0,.own (.slice none 0 0) []]]) (fun bP i1 t1=>FD sG v1 bP i1 t1=some r0) BIG 0 x5 Z Z hf (fun _ _ hz=>bG hz) ?_))))))); intro bP i1 t1 hf; rw [FD] at hf; refine W 3 Z (AS Z (AO.aM (l:=v1.aI) Z Z Z Z fB Z (ah.aA _) (J 1 Z (C hf Z (fun h10 hf=>?_) fun h10 hf=>?_))))
 ·
  refine V 0 Z (AW.draw 8 mixed (by kernel_rfl) Z ?_); refine Ev.cons Z Z Z (AO.aP (i:=0) Z Z Z fD Z Z zg) (Ev.cs aH 3 Z ?_); refine B1 hf fun e1 h11 hf=>Ev.cons Z Z Z (AO.aJ h11 Z Z (ah.aA _) Z fB (ah.aC _) Z zg) (Ev.cs aH 1 Z ?_); refine B1 hf fun x6 h12 hf=>Ev.cons Z Z Z (AO.call Z _ Z Z aln (aau _ h12 zg)) ?_; refine B1 hf fun x7 kQ hf=>Ev.cons Z Z Z (AO.call Z _ Z Z aij (R_ _ _ kQ zg)) (Ev.nil ?_); show AR _ _ _ _ _ _ _ _; exact Rx 4 [0] Z Z ⟨(bW (i1 + 1)),x7,Z,Z,Z,hf⟩
 refine V 3 Z (C hf Z (fun lQ hf=>?_) fun lQ hf=>?_)
 · refine BR hf fun x8 ng hf=>?_; refine Wr 1 [0] Z Z (CL Z (qE _ _ ng ?_)); cases hf; exact Rx 1 [1] Z Z (ZC [1] Z Z h)
 refine BR hf fun x9 h16 hf=>?_; refine Wr 1 [0] Z Z (CL Z (qE _ _ h16 ?_)); cases hf; exact Rx 1 [1] Z Z (ZC [1] Z Z h)
theorem afe :∀ k:Nat,(Zo (yG k)):=by
 intro k
 induction k with
 | zero=>exact fun _ _ hz=>by first | cases hz | (unfold yG at hz; cases hz)
 | succ k ih=>exact fun qH aO hz τ Q hq=>ad1 (yG k) ih qH hz hq
theorem afX (qH:ah) {aO:aj} (hf:Z4 qH=some aO) (h:Q (.ret (.agg (aN aO))) τ):PC 41 [.agg (aL qH)] τ Q:=
 ((afe BIG)) qH hf h
theorem Y6 (v1:ah) {r0:aj} (hf:IZ v1=some r0) (h:Q (.ret (.agg (aN r0))) τ):PC 21 [.agg (aL v1)] τ Q:=by
 unfold IZ at hf; refine BN 9 [.cell 2 54] [0] Tryz.func21 Z Z Z Z Z (W 1 Z (AS Z (AO.aF Z gG (fun b2=>?_)))); refine B1 hf fun x1 h1 hf=>U 1 Z (CL Z (JI _ h1 (J 1 Z (C hf Z (fun h2 hf=>?_) fun h2 hf=>?_))))
 · refine BR hf fun x2 h3 hf=>?_; refine W 0 Z (CL Z (ou _ h3 ?_)); cases hf; exact Rx 1 [0] Z Z (ZC [0] Z Z h)
 refine BR hf fun x3 h4 hf=>?_; refine W 1 Z (CL Z (afX _ h4 ?_)); cases hf; exact Rx 1 [0] Z Z (ZC [0] Z Z h)
theorem YV (bU:List aG) {r0:List aG} (hf:CK bU=some r0) (h:Q (.ret (.list (List.map aG.cells r0))) τ):PC 23 [.list (List.map aG.cells bU)] τ Q:=by
 unfold CK at hf; refine BN 20 [.tmp 2] [0] Tryz.func23 Z Z Z Z Z (W 0 Z (AS Z (AO.kI Z Z ?_))); refine B1 hf fun x1 h1 hf=>U 0 rfl (CL rfl (ou _ h1 (AS rfl (AO.aF rfl gG (fun b3=>(Rr 11 [0,0,0,0,0,0] rfl rfl (AS rfl (AO.nK (List.map aG.cells [(aG.mk ([97,108,119,97,121,115]:Str) x1),(aG.mk ([99,97,110,99,101,108,108,101,100]:Str) x1),(aG.mk ([102,97,105,108,117,114,101]:Str) x1),(aG.mk ([115,107,105,112,112,101,100]:Str) x1),(aG.mk ([115,117,99,99,101,115,115]:Str) x1)]) rfl Mr rfl rfl rfl rfl (by first | rfl | simp only [List.map,aG.aC]) (fun v1=>?_)))))))))
 refine BR hf fun x2 h2 hf=>?_; refine U 3 Z (AS Z (AO.iC (i:=0) (l:=[(aG.mk ([97,108,119,97,121,115]:Str) x1),(aG.mk ([99,97,110,99,101,108,108,101,100]:Str) x1),(aG.mk ([102,97,105,108,117,114,101]:Str) x1),(aG.mk ([115,107,105,112,112,101,100]:Str) x1),(aG.mk ([115,117,99,99,101,115,115]:Str) x1)]) (m:=bU) h2 Z Z Z Z Z Z Z Mr zl Z Z Z (aG.dL) (aG.cells_one) (by decide) (fun v2 s1 hs1=>?_))); cases hs1; cases hf; exact N 1 Z (Y Z h)
abbrev Pf (vH:aj→Int→Option Int):Prop:=∀ (wJ:aj) (dZ:Int) {aO:Int},vH wJ dZ=some aO→∀ {τ:List bg} {Q:eD→List bg→Prop} (h:Q (.ret (iP aO)) τ),PC 150 [.agg (aN wJ),iP dZ] τ Q
theorem Xj (vH) (Tx:Pf vH) (t1:aj) (bE:Int) {r0:Int} (hf:Ej vH t1 bE=some r0) (h:Q (.ret (iP r0)) τ):PC 150 [.agg (aN t1),iP bE] τ Q:=by
 unfold Ej at hf; refine BN 34 [.tmp 4] [0,1] Tryz.func150 Z Z Z Z Z (V 4 Z (C hf Z (fun h1 hf=>?_) fun h1 hf=>?_))
 · cases hf; exact M 1 Z (Y Z h)
 refine W 4 Z (On 4 10 14 [1,2] (decide (7 < t1.kind)) Z Z Z Z (J 0 Z (C hf Z (fun h3 hf=>?_) fun h3 hf=>?_)))
 · cases hf; exact M 1 Z (Y Z h)
 refine B1 hf fun x1 h4 hf=>W 2 Z (CL Z (O3 _ h4 (J 1 Z (C hf Z (fun h5 hf=>?_) fun h5 hf=>?_))))
 ·
  refine W 2 Z (AS Z (AO.aM (l:=t1.elem) Z Z Z Z dX Z (aj.aA _) (J 1 Z (C hf Z (fun h6 hf=>?_) fun h6 hf=>?_))))
  · cases hf; exact M 1 Z (Y Z h)
  cases hf; exact M 1 Z (Y Z h)
 refine W 2 Z (AS Z (AO.aM (l:=t1.elem) Z Z Z Z dX Z (aj.aA _) (J 1 Z (C hf Z (fun h7 hf=>?_) fun h7 hf=>?_))))
 · cases hf; exact M 1 Z (Y Z h)
 refine B1 hf fun e1 h8 hf=>W 2 Z (AS Z (AO.aJ h8 Z Z (aj.aA _) Z dX (aj.aC _) Z ?_)); refine BR hf fun x2 h9 hf=>?_; refine U 3 Z (CL Z (Tx _ _ h9 ?_)); cases hf; exact N 1 Z (Y Z h)
theorem Yg :∀ k:Nat,(Pf (uf k)):=by
 intro k
 induction k with
 | zero=>exact fun _ _ _ hz=>by first | cases hz | (unfold uf at hz; cases hz)
 | succ k ih=>exact fun wJ dZ aO hz τ Q hq=>Xj (uf k) ih wJ dZ hz hq
theorem Y5 (wJ:aj) (dZ:Int) {aO:Int} (hf:UK wJ dZ=some aO) (h:Q (.ret (iP aO)) τ):PC 150 [.agg (aN wJ),iP dZ] τ Q:=
 ((Yg BIG)) wJ dZ hf h
theorem EF (t1:aj) {r0:Int} (hf:u7 t1=some r0) (h:Q (.ret (iP r0)) τ):PC 97 [.agg (aN t1)] τ Q:=by
 unfold u7 at hf; refine BN 5 [.tmp 2] [0] Tryz.func97 Z Z Z Z Z ?_; refine BR hf fun x1 h1 hf=>?_; refine W 3 Z (CL Z (Y5 _ _ h1 ?_)); cases hf; exact N 1 Z (Y Z h)
theorem adz (b_:List aG) {r0:Int} (hf:ME b_=some r0) (h:Q (.ret (iP r0)) τ):PC 60 [.list (List.map aG.cells b_)] τ Q:=by
 unfold ME at hf; refine BN 47 [.tmp 2] [0] Tryz.func60 Z Z Z Z Z (W 2 Z (AS Z (AO.aM (l:=b_) Z Z Z Z zl Z Z (J 1 Z (C hf Z (fun h1 hf=>?_) fun h1 hf=>?_)))))
 · cases hf; exact M 1 Z (Y Z h)
 refine V 1 Z (E_ (fun i1=>[(0,.list (List.map aG.cells b_)),(3,iP i1)]) (fun i1=>[]) (fun bP i1=>t_ b_ bP i1=some r0) BIG 0 Z Z hf (fun _ hz=>bG hz) ?_); intro bP i1 hf; rw [t_] at hf; refine W 2 Z (AS Z (AO.aM (l:=b_) Z Z Z Z zl Z Z (J 1 Z (C hf Z (fun h2 hf=>?_) fun h2 hf=>?_))))
 ·
  refine B1 hf fun e1 h3 hf=>W 2 Z (AS Z (AO.aJ h3 Z Z Z Z zl (aG.aC _) Z ?_)); refine B1 hf fun x1 h4 hf=>U 2 Z (CL Z (Br _ h4 (J 1 Z (C hf Z (fun h5 hf=>?_) fun h5 hf=>?_))))
  · cases hf; exact M 1 Z (Y Z h)
  refine B1 hf fun e2 h6 hf=>W 2 Z (AS Z (AO.aJ h6 Z Z Z Z zl (aG.aC _) Z ?_)); refine B1 hf fun e3 h7 hf=>U 2 Z (CL Z (EF _ h7 (J 3 Z (C hf Z (fun h8 hf=>?_) fun h8 hf=>?_))))
  · cases hf; exact M 2 Z (Y Z h)
  refine V 1 Z (E_ (fun oZ=>[(0,.list (List.map aG.cells b_)),(3,iP i1),(5,iP oZ)]) (fun oZ=>[]) (fun Ke oZ=>zR b_ i1 (t_ b_ bP) Ke oZ=some r0) BIG 0 Z Z hf (fun _ hz=>bG hz) ?_); intro Ke oZ hf; rw [zR] at hf; refine V 3 Z (C hf Z (fun h9 hf=>?_) fun h9 hf=>?_)
  ·
   refine V 0 Z (AW.draw 11 mixed (by kernel_rfl) Z ?_); refine Ev.cs aH 2 Z ?_; refine B1 hf fun e4 h10 hf=>Ev.cons Z Z Z (AO.aJ h10 Z Z Z Z zl (aG.aC _) Z zg) (Ev.cs aH 4 Z ?_); refine B1 hf fun e5 h11 hf=>Ev.cons Z Z Z (AO.aJ h11 Z Z Z Z zl (aG.aC _) Z zg) (Ev.cs aH 3 Z (Ev.nil ?_)); show AR _ _ _ _ _ _ _ _; refine J 0 Z (C hf Z (fun h12 hf=>?_) fun h12 hf=>?_)
   · cases hf; exact M 1 Z (Y Z h)
   exact M 3 Z ⟨(bW (oZ + 1)),Z,Z,Z,hf⟩
  exact M 3 Z ⟨(bW (i1 + 1)),Z,Z,Z,hf⟩
 cases hf; exact M 1 Z (Y Z h)
theorem Y1 (e1:ak) {r0:Bool} (hf:Fy e1=some r0) (h:Q (.ret (.bool r0)) τ):PC 188 [.agg (bf e1)] τ Q:=by
 unfold Fy at hf; refine BN 45 [.tmp 2] [0] Tryz.func188 Z Z Z Z Z (V 6 Z (C hf Z (fun h1 hf=>?_) fun h1 hf=>?_))
 ·
  refine V 0 Z (AW.cond Z (fun h2=>?_) (fun h2=>?_))
  · refine W 2 Z (AS Z (AO.aM (l:=e1.args) Z Z Z Z g_ Z (ak.aA _) ?_)); cases hf; exact N 2 Z (Y Z h)
  cases h1.symm.trans h2
 refine V 2 Z (C hf Z (fun h3 hf=>?_) fun h3 hf=>?_)
 · refine W 2 Z (AS Z (AO.aM (l:=e1.args) Z Z Z Z g_ Z (ak.aA _) ?_)); cases hf; exact N 2 Z (Y Z h)
 refine V 2 Z (C hf Z (fun h4 hf=>?_) fun h4 hf=>?_)
 ·
  refine V 0 Z (AW.cond Z (fun h5=>?_) (fun h5=>?_))
  · refine W 2 Z (AS Z (AO.aM (l:=e1.args) Z Z Z Z g_ Z (ak.aA _) ?_)); cases hf; exact N 2 Z (Y Z h)
  cases h4.symm.trans h5
 refine V 2 Z (C hf Z (fun h6 hf=>?_) fun h6 hf=>?_)
 · refine W 2 Z (AS Z (AO.aM (l:=e1.args) Z Z Z Z g_ Z (ak.aA _) ?_)); cases hf; exact N 2 Z (Y Z h)
 refine V 2 Z (C hf Z (fun h7 hf=>?_) fun h7 hf=>?_)
 ·
  refine V 0 Z (AW.cond Z (fun h8=>?_) (fun h8=>?_))
  · refine W 2 Z (AS Z (AO.aM (l:=e1.args) Z Z Z Z g_ Z (ak.aA _) ?_)); cases hf; exact N 2 Z (Y Z h)
  cases h7.symm.trans h8
 refine V 2 Z (C hf Z (fun h9 hf=>?_) fun h9 hf=>?_)
 · refine W 2 Z (AS Z (AO.aM (l:=e1.args) Z Z Z Z g_ Z (ak.aA _) ?_)); cases hf; exact N 2 Z (Y Z h)
 refine V 2 Z (C hf Z (fun h10 hf=>?_) fun h10 hf=>?_)
 · refine W 2 Z (AS Z (AO.aM (l:=e1.args) Z Z Z Z g_ Z (ak.aA _) ?_)); cases hf; exact N 2 Z (Y Z h)
 refine W 4 Z (On 4 35 39 [1] (e1.kind == 9) Z Z Z Z (U 1 Z (On 4 40 44 [] (e1.kind == 10) Z Z Z Z ?_))); cases hf; exact N 1 Z (Y Z h)
theorem R9 (op1:Str) {r0:Int} (hf:Cb op1=some r0) (h:Q (.ret (iP r0)) τ):PC 197 [.str op1] τ Q:=by
 unfold Cb at hf; refine BN 22 [.tmp 2] [0] Tryz.func197 Z Z Z Z Z (V 4 Z (C hf Z (fun h1 hf=>?_) fun h1 hf=>?_))
 · cases hf; exact M 1 Z (Y Z h)
 refine V 2 Z (C hf Z (fun h2 hf=>?_) fun h2 hf=>?_)
 · cases hf; exact M 1 Z (Y Z h)
 refine V 2 Z (C hf Z (fun h3 hf=>?_) fun h3 hf=>?_)
 ·
  refine V 0 Z (AW.cond Z (fun h4=>?_) (fun h4=>?_))
  · cases hf; exact M 1 Z (Y Z h)
  cases h3.symm.trans h4
 refine V 2 Z (C hf Z (fun h5 hf=>?_) fun h5 hf=>?_)
 ·
  refine V 0 Z (AW.cond Z (fun h6=>?_) (fun h6=>?_))
  · cases hf; exact M 1 Z (Y Z h)
  cases h5.symm.trans h6
 refine V 2 Z (C hf Z (fun h7 hf=>?_) fun h7 hf=>?_)
 ·
  refine V 0 Z (AW.cond Z (fun h8=>?_) (fun h8=>?_))
  · cases hf; exact M 1 Z (Y Z h)
  cases h7.symm.trans h8
 refine V 2 Z (C hf Z (fun h9 hf=>?_) fun h9 hf=>?_)
 ·
  refine V 0 Z (AW.cond Z (fun h10=>?_) (fun h10=>?_))
  · cases hf; exact M 1 Z (Y Z h)
  cases h9.symm.trans h10
 refine V 2 Z (C hf Z (fun h11 hf=>?_) fun h11 hf=>?_)
 ·
  refine V 0 Z (AW.cond Z (fun h12=>?_) (fun h12=>?_))
  · cases hf; exact M 1 Z (Y Z h)
  cases h11.symm.trans h12
 refine V 2 Z (C hf Z (fun kQ hf=>?_) fun kQ hf=>?_)
 · cases hf; exact M 1 Z (Y Z h)
 refine V 2 Z (C hf Z (fun lQ hf=>?_) fun lQ hf=>?_)
 ·
  refine V 0 Z (AW.cond Z (fun ng=>?_) (fun ng=>?_))
  · cases hf; exact M 1 Z (Y Z h)
  cases lQ.symm.trans ng
 refine V 2 Z (C hf Z (fun h16 hf=>?_) fun h16 hf=>?_)
 · cases hf; exact M 1 Z (Y Z h)
 refine V 2 Z (C hf Z (fun vG hf=>?_) fun vG hf=>?_)
 ·
  refine V 0 Z (AW.cond Z (fun h18=>?_) (fun h18=>?_))
  · cases hf; exact M 1 Z (Y Z h)
  cases vG.symm.trans h18
 refine V 2 Z (C hf Z (fun h19 hf=>?_) fun h19 hf=>?_)
 ·
  refine V 0 Z (AW.cond Z (fun h20=>?_) (fun h20=>?_))
  · cases hf; exact M 1 Z (Y Z h)
  cases h19.symm.trans h20
 refine V 2 Z (C hf Z (fun h21 hf=>?_) fun h21 hf=>?_)
 · cases hf; exact M 1 Z (Y Z h)
 cases hf; exact M 1 Z (Y Z h)
theorem YZ (e1:ak) {r0:Bool} (hf:Fx e1=some r0) (h:Q (.ret (.bool r0)) τ):PC 189 [.agg (bf e1)] τ Q:=by
 unfold Fx at hf; refine BN 31 [.tmp 2] [0] Tryz.func189 Z Z Z Z Z (V 6 Z (C hf Z (fun h1 hf=>?_) fun h1 hf=>?_))
 ·
  refine V 0 Z (AW.cond Z (fun h2=>?_) (fun h2=>?_))
  · refine BR hf fun x1 h3 hf=>?_; refine W 2 Z (CL Z (Br _ h3 ?_)); cases hf; exact N 1 Z (Y Z h)
  cases h1.symm.trans h2
 refine V 2 Z (C hf Z (fun h4 hf=>?_) fun h4 hf=>?_)
 ·
  refine V 0 Z (AW.cond Z (fun h5=>?_) (fun h5=>?_))
  · refine BR hf fun x2 h6 hf=>?_; refine W 2 Z (CL Z (Br _ h6 ?_)); cases hf; exact N 1 Z (Y Z h)
  cases h4.symm.trans h5
 refine V 2 Z (C hf Z (fun h7 hf=>?_) fun h7 hf=>?_)
 · refine BR hf fun x3 h8 hf=>?_; refine W 2 Z (CL Z (Br _ h8 ?_)); cases hf; exact N 1 Z (Y Z h)
 refine V 2 Z (C hf Z (fun h9 hf=>?_) fun h9 hf=>?_)
 · refine W 4 Z (On 4 17 21 [] (e1.name == ([45]:Str)) Z Z Z Z ?_); cases hf; exact N 1 Z (Y Z h)
 refine V 2 Z (C hf Z (fun h11 hf=>?_) fun h11 hf=>?_)
 · refine B1 hf fun x4 h12 hf=>W 2 Z (CL Z (R9 _ h12 ?_)); cases hf; exact N 2 Z (Y Z h)
 cases hf; exact M 4 Z (Y Z h)
abbrev SK (jW:ah→ah→Option Bool):Prop:=∀ (pI:ah) (pG:ah) {aO:Bool},jW pI pG=some aO→∀ {τ:List bg} {Q:eD→List bg→Prop} (h:Q (.ret (.bool aO)) τ),PC 26 [.agg (aL pI),.agg (aL pG)] τ Q
theorem ZE (jW) (Wh:SK jW) (a1:ah) (b1:ah) {r0:Bool} (hf:Gy jW a1 b1=some r0) (h:Q (.ret (.bool r0)) τ):PC 26 [.agg (aL a1),.agg (aL b1)] τ Q:=by
 unfold Gy at hf; refine BN 88 [.tmp 4] [0,1] Tryz.func26 Z Z Z Z Z (W 9 Z (AR.or 6 12 18 [2,3] (x:=(!(a1.dM == b1.dM))) Z Z (fun h1=>?_) (fun h1=>?_) ?_))
 · refine Is 12 h1 Z (U 4 Z (GO Z (AO.SA Z agF Z Z ?_))); exact dY 1 Z (En [18,2,3] Z)
 · refine Is 12 h1 Z ?_; exact dY 6 Z (En [18,2,3] Z)
 refine U 1 Z (On 6 19 25 [2,3] (a1.dO != b1.dO) Z Z Z Z (U 1 Z (On 6 26 32 [2,3] (!(a1.bO == b1.bO)) Z Z Z Z (U 1 Z (AR.or 8 33 41 [2,3] (x:=((a1.aI.length:Int) != (b1.aI.length:Int))) Z Z (fun h4=>?_) (fun h4=>?_) ?_)))))
 · refine Is 33 h4 Z (U 2 Z (GO Z (AO.aM (l:=a1.aI) Z Z Z Z fB Z (ah.aA _) (U 2 Z (GO Z (AO.aM (l:=b1.aI) Z Z Z Z fB Z (ah.aA _) ?_)))))); exact dY 2 Z (En [41,2,3] Z)
 · refine Is 33 h4 Z ?_; exact dY 8 Z (En [41,2,3] Z)
 refine U 1 Z (AR.or 8 42 50 [2,3] (x:=((a1.keys.length:Int) != (b1.keys.length:Int))) Z Z (fun h5=>?_) (fun h5=>?_) ?_)
 · refine Is 42 h5 Z (U 2 Z (GO Z (AO.aM (l:=a1.keys) Z Z Z Z fE Z Z (U 2 Z (GO Z (AO.aM (l:=b1.keys) Z Z Z Z fE Z Z ?_)))))); exact dY 2 Z (En [50,2,3] Z)
 · refine Is 42 h5 Z ?_; exact dY 8 Z (En [50,2,3] Z)
 refine J 0 Z (C hf Z (fun h6 hf=>?_) fun h6 hf=>?_)
 · cases hf; exact M 1 Z (Y Z h)
 refine V 1 Z (E_ (fun i1=>[(2,.ref (aL a1)),(3,.ref (aL b1)),(5,iP i1)]) (fun i1=>[]) (fun bP i1=>A_ jW a1 b1 bP i1=some r0) BIG 0 Z Z hf (fun _ hz=>bG hz) ?_); intro bP i1 hf; rw [A_] at hf; refine W 3 Z (AS Z (AO.aM (l:=a1.keys) Z Z Z Z fE Z Z (J 1 Z (C hf Z (fun h7 hf=>?_) fun h7 hf=>?_))))
 ·
  refine V 0 Z (AW.draw 11 mixed (by kernel_rfl) Z ?_); refine Ev.cs aH 3 Z ?_; refine B1 hf fun e1 h8 hf=>Ev.cons Z Z Z (AO.aJ h8 Z Z Z Z fE Z Z zg) (Ev.cs aH 4 Z ?_); refine B1 hf fun e2 h9 hf=>Ev.cons Z Z Z (AO.aJ h9 Z Z Z Z fE Z Z zg) (Ev.cs aH 2 Z (Ev.nil ?_)); show AR _ _ _ _ _ _ _ _; refine J 0 Z (C hf Z (fun h10 hf=>?_) fun h10 hf=>?_)
  · cases hf; exact M 1 Z (Y Z h)
  exact M 3 Z ⟨(bW (i1 + 1)),Z,Z,Z,hf⟩
 refine V 1 Z (E_ (fun i2=>[(2,.ref (aL a1)),(3,.ref (aL b1)),(6,iP i2)]) (fun i2=>[]) (fun Ke i2=>A9 jW a1 b1 Ke i2=some r0) BIG 0 Z Z hf (fun _ hz=>bG hz) ?_); intro Ke i2 hf; rw [A9] at hf; refine W 3 Z (AS Z (AO.aM (l:=a1.aI) Z Z Z Z fB Z (ah.aA _) (J 1 Z (C hf Z (fun h11 hf=>?_) fun h11 hf=>?_))))
 ·
  refine V 0 Z (AW.draw 12 mixed (by kernel_rfl) Z ?_); refine Ev.cs aH 3 Z ?_; refine B1 hf fun e3 h12 hf=>Ev.cons Z Z Z (AO.aJ h12 Z Z (ah.aA _) Z fB (ah.aC _) Z zg) (Ev.cs aH 4 Z ?_); refine B1 hf fun e4 kQ hf=>Ev.cons Z Z Z (AO.aJ kQ Z Z (ah.aA _) Z fB (ah.aC _) Z zg) (Ev.cs aH 1 Z ?_); refine B1 hf fun x1 lQ hf=>Ev.cons Z Z Z (AO.call Z _ Z Z ain (Wh _ _ lQ zg)) (Ev.cs aH 1 Z (Ev.nil ?_)); show AR _ _ _ _ _ _ _ _; refine J 0 Z (C hf Z (fun ng hf=>?_) fun ng hf=>?_)
  · cases hf; exact M 1 Z (Y Z h)
  exact M 3 Z ⟨(bW (i2 + 1)),Z,Z,Z,hf⟩
 cases hf; exact M 1 Z (Y Z h)
theorem aaj :∀ k:Nat,(SK (zU k)):=by
 intro k
 induction k with
 | zero=>exact fun _ _ _ hz=>by first | cases hz | (unfold zU at hz; cases hz)
 | succ k ih=>exact fun pI pG aO hz τ Q hq=>ZE (zU k) ih pI pG hz hq
theorem aaS (pI:ah) (pG:ah) {aO:Bool} (hf:MI pI pG=some aO) (h:Q (.ret (.bool aO)) τ):PC 26 [.agg (aL pI),.agg (aL pG)] τ Q:=
 ((aaj BIG)) pI pG hf h
theorem WM (e1:ak) {r0:Bool} (hf:Da e1=some r0) (h:Q (.ret (.bool r0)) τ):PC 127 [.agg (bf e1)] τ Q:=by
 unfold Da at hf; refine BN 61 [.tmp 2] [0] Tryz.func127 Z Z Z Z Z ?_; refine B1 hf fun x1 h1 hf=>W 3 Z (CL Z (Y1 _ h1 ?_)); refine B1 hf fun b1 h3 hf=>U 2 Z (AR.cZ 4 7 11 false [1] b1 Z Z (fun h2=>?_) (fun h2=>?_) ?_)
 · refine IF 7 h2 h3 Z fun h3=>?_; refine B1 h3 fun x2 h4 h3=>U 1 Z (GO Z (AO.call Z _ Z Z ajA (YZ _ h4 ?_))); cases h3; exact dY 2 Z (En [11,1] Z)
 · refine IT 7 h2 h3 Z fun h3=>?_; cases h3; exact dY 4 Z (En [11,1] Z)
 refine B1 hf fun b2 h6 hf=>U 1 Z (AR.cZ 11 12 23 false [1] b2 Z Z (fun h5=>?_) (fun h5=>?_) ?_)
 ·
  refine IF 12 h5 h6 Z fun h6=>?_; refine BR h6 fun b3 h8 h6=>?_; refine U 4 Z (AR.cZ 6 16 22 true [1,12] b3 Z Z (fun h7=>?_) (fun h7=>?_) ?_)
  · replace h8:=jN h7 h8; refine Is 16 h7 Z (U 2 Z (GO Z (AO.build Z gV ZO Z ?_))); refine B1 h8 fun x3 h9 h8=>GO Z (AO.call Z _ Z Z ain (aaS _ _ h9 ?_)); cases h8; exact dY 2 Z (En [22,1,12] Z)
  · refine IF 16 h7 h8 Z fun h8=>?_; cases h8; exact dY 6 Z (En [22,1,12] Z)
  cases h6; exact dY 1 Z (En [23,1] Z)
 · refine IT 12 h5 h6 Z fun h6=>?_; cases h6; exact dY 11 Z (En [23,1] Z)
 refine J 0 Z (C hf Z (fun h10 hf=>?_) fun h10 hf=>?_)
 · cases hf; exact M 1 Z (Y Z h)
 refine V 3 Z (C hf Z (fun h11 hf=>?_) fun h11 hf=>?_)
 · refine W 2 Z (AS Z (AO.aM (l:=e1.keys) Z Z Z Z fE Z Z ?_)); cases hf; exact N 2 Z (Y Z h)
 refine V 1 Z (E_ (fun i1=>[(1,.ref (bf e1)),(3,iP i1)]) (fun i1=>[]) (fun bP i1=>sF e1 bP i1=some r0) BIG 0 Z Z hf (fun _ hz=>bG hz) ?_); intro bP i1 hf; rw [sF] at hf; refine W 3 Z (AS Z (AO.aM (l:=e1.keys) Z Z Z Z fE Z Z (J 1 Z (C hf Z (fun h12 hf=>?_) fun h12 hf=>?_))))
 ·
  refine B1 hf fun e2 kQ hf=>W 3 Z (AS Z (AO.aJ kQ Z Z Z Z fE Z Z (U 1 Z (AS Z (AO.cB Z Z Z Z d9 Z ?_))))); refine B1 hf fun b4 ng hf=>U 2 Z (AR.cZ 8 45 53 false [1,3] b4 Z Z (fun lQ=>?_) (fun lQ=>?_) ?_)
  · refine IF 45 lQ ng Z fun ng=>?_; refine B1 ng fun e3 h16 ng=>U 3 Z (GO Z (AO.aJ h16 Z Z Z Z fE Z Z (U 1 Z (GO Z (AO.cB Z Z Z Z d9 Z ?_))))); cases ng; exact dY 2 Z (En [53,1,3] Z)
  · refine IT 45 lQ ng Z fun ng=>?_; cases ng; exact dY 8 Z (En [53,1,3] Z)
  refine J 0 Z (C hf Z (fun vG hf=>?_) fun vG hf=>?_)
  · cases hf; exact M 1 Z (Y Z h)
  exact M 3 Z ⟨(bW (i1 + 1)),Z,Z,Z,hf⟩
 refine W 2 Z (AS Z (AO.aM (l:=e1.keys) Z Z Z Z fE Z Z (U 2 Z (AS Z (AO.aM (l:=e1.args) Z Z Z Z g_ Z (ak.aA _) ?_))))); cases hf; exact N 2 Z (Y Z h)
theorem YX (zD:List Str) {r0:Bool} (hf:Fw zD=some r0) (h:Q (.ret (.bool r0)) τ):PC 128 [sP zD] τ Q:=by
 unfold Fw at hf; refine BN 25 [.tmp 2] [0] Tryz.func128 Z Z Z Z Z (V 2 Z (E_ (fun i1=>[(0,sP zD),(3,iP i1)]) (fun i1=>[]) (fun bP i1=>pR zD bP i1=some r0) BIG 0 Z Z hf (fun _ hz=>bG hz) ?_)); intro bP i1 hf; rw [pR] at hf; refine W 2 Z (AS Z (AO.aM (l:=zD) Z Z Z Z fE Z Z (J 1 Z (C hf Z (fun h1 hf=>?_) fun h1 hf=>?_))))
 ·
  refine V 1 Z (E_ (fun oZ=>[(0,sP zD),(3,iP i1),(4,iP oZ)]) (fun oZ=>[]) (fun Ke oZ=>uZ zD i1 (pR zD bP) Ke oZ=some r0) BIG 0 Z Z hf (fun _ hz=>bG hz) ?_); intro Ke oZ hf; rw [uZ] at hf; refine V 3 Z (C hf Z (fun h2 hf=>?_) fun h2 hf=>?_)
  ·
   refine V 0 Z (AW.draw 9 mixed (by kernel_rfl) Z ?_); refine Ev.cs aH 2 Z ?_; refine B1 hf fun e1 h3 hf=>Ev.cons Z Z Z (AO.aJ h3 Z Z Z Z fE Z Z zg) (Ev.cs aH 3 Z ?_); refine B1 hf fun e2 h4 hf=>Ev.cons Z Z Z (AO.aJ h4 Z Z Z Z fE Z Z zg) (Ev.cs aH 2 Z (Ev.nil ?_)); show AR _ _ _ _ _ _ _ _; refine J 0 Z (C hf Z (fun h5 hf=>?_) fun h5 hf=>?_)
   · cases hf; exact M 1 Z (Y Z h)
   exact M 3 Z ⟨(bW (oZ + 1)),Z,Z,Z,hf⟩
  exact M 3 Z ⟨(bW (i1 + 1)),Z,Z,Z,hf⟩
 cases hf; exact M 1 Z (Y Z h)
abbrev Pb (mJ:ak→Int→Option Int):Prop:=∀ (iO:ak) (dZ:Int) {aO:Int},mJ iO dZ=some aO→∀ {τ:List bg} {Q:eD→List bg→Prop} (h:Q (.ret (iP aO)) τ),PC 77 [.agg (bf iO),iP dZ] τ Q
theorem Xg (mJ) (Tt:Pb mJ) (e1:ak) (bE:Int) {r0:Int} (hf:Eh mJ e1 bE=some r0) (h:Q (.ret (iP r0)) τ):PC 77 [.agg (bf e1),iP bE] τ Q:=by
 unfold Eh at hf; refine BN 49 [.tmp 4] [0,1] Tryz.func77 Z Z Z Z Z (V 4 Z (C hf Z (fun h1 hf=>?_) fun h1 hf=>?_))
 · cases hf; exact M 1 Z (Y Z h)
 refine B1 hf fun x1 h2 hf=>W 1 Z (CL Z (WM _ h2 (J 1 Z (C hf Z (fun h3 hf=>?_) fun h3 hf=>?_))))
 · cases hf; exact M 1 Z (Y Z h)
 refine B1 hf fun f1 h4 hf=>W 2 Z (CL Z (JI _ h4 (U 5 Z (An 3 19 22 [1,2,5] (f1 != 0) Z Z Z Z (J 0 Z (C hf Z (fun h6 hf=>?_) fun h6 hf=>?_))))))
 · cases hf; exact M 2 Z (Y Z h)
 refine W 2 Z (AS Z (AO.aM (l:=e1.args) Z Z Z Z g_ Z (ak.aA _) (J 1 Z (C hf Z (fun h7 hf=>?_) fun h7 hf=>?_))))
 · cases hf; exact M 1 Z (Y Z h)
 refine B1 hf fun x2 h8 hf=>W 2 Z (CL Z (YX _ h8 (J 0 Z (C hf Z (fun h9 hf=>?_) fun h9 hf=>?_))))
 · cases hf; exact M 1 Z (Y Z h)
 refine V 1 Z (E_ (fun i1=>[(1,iP bE),(2,.ref (bf e1)),(6,iP i1)]) (fun i1=>[]) (fun bP i1=>yE mJ e1 bE bP i1=some r0) BIG 0 Z Z hf (fun _ hz=>bG hz) ?_); intro bP i1 hf; rw [yE] at hf; refine W 3 Z (AS Z (AO.aM (l:=e1.args) Z Z Z Z g_ Z (ak.aA _) (J 1 Z (C hf Z (fun h10 hf=>?_) fun h10 hf=>?_))))
 ·
  refine B1 hf fun e2 h11 hf=>W 3 Z (AS Z (AO.aJ h11 Z Z (ak.aA _) Z g_ (ak.aC _) Z ?_)); refine B1 hf fun f2 h12 hf=>U 3 Z (CL Z (Tt _ _ h12 (J 3 Z (C hf Z (fun kQ hf=>?_) fun kQ hf=>?_))))
  · cases hf; exact M 2 Z (Y Z h)
  exact M 3 Z ⟨(bW (i1 + 1)),Z,Z,Z,hf⟩
 cases hf; exact M 1 Z (Y Z h)
theorem Yd :∀ k:Nat,(Pb (pU k)):=by
 intro k
 induction k with
 | zero=>exact fun _ _ _ hz=>by first | cases hz | (unfold pU at hz; cases hz)
 | succ k ih=>exact fun iO dZ aO hz τ Q hq=>Xg (pU k) ih iO dZ hz hq
theorem Y0 (iO:ak) (dZ:Int) {aO:Int} (hf:NQ iO dZ=some aO) (h:Q (.ret (iP aO)) τ):PC 77 [.agg (bf iO),iP dZ] τ Q:=
 ((Yd BIG)) iO dZ hf h
theorem Y2 (e1:ak) {r0:Int} (hf:Fz e1=some r0) (h:Q (.ret (iP r0)) τ):PC 53 [.agg (bf e1)] τ Q:=by
 unfold Fz at hf; refine BN 8 [.tmp 2] [0] Tryz.func53 Z Z Z Z Z ?_; refine B1 hf fun x1 h1 hf=>W 3 Z (CL Z (O1 _ h1 (J 1 Z (C hf Z (fun h2 hf=>?_) fun h2 hf=>?_))))
 · cases hf; exact M 1 Z (Y Z h)
 refine BR hf fun x2 h3 hf=>?_; refine W 1 Z (CL Z (Y0 _ _ h3 ?_)); cases hf; exact N 1 Z (Y Z h)
theorem aaM (e1:ak) (b_:List aG) {r0:aj} {r1:Int} (hf:yD e1 b_=some (r0,r1)) (h:Q (.ret (.tuple [.agg (aN r0),iP r1])) τ):PC 98 [.agg (bf e1),.list (List.map aG.cells b_)] τ Q:=by
 unfold yD at hf; refine BN 33 [.cell 4 54,.tmp 5] [0,1] Tryz.func98 Z Z Z Z Z (W 1 Z (AS Z (AO.aF Z gG (fun b4=>(J 4 Z (C hf Z (fun h1 hf=>?_) fun h1 hf=>?_))))))
 · refine B1 hf fun x1 h2 hf=>W 2 Z (CL Z (Y6 _ h2 ?_)); cases hf; exact Rx 2 [0] Z Z (ZC [0] Z Z h)
 refine V 1 Z (E_ (fun i1=>[(1,.list (List.map aG.cells b_)),(2,.ref (bf e1)),(4,pP b4),(6,iP i1)]) (fun i1=>[.box b4 [iP 0,.own (.slice none 0 0) []]]) (fun bP i1=>xF e1 b_ bP i1=some (r0,r1)) BIG 0 Z Z hf (fun _ hz=>bG hz) ?_); intro bP i1 hf; rw [xF] at hf; refine W 2 Z (AS Z (AO.aM (l:=b_) Z Z Z Z zl Z Z (J 1 Z (C hf Z (fun h3 hf=>?_) fun h3 hf=>?_))))
 ·
  refine V 0 Z (AW.draw 8 mixed (by kernel_rfl) Z ?_); refine Ev.cs aH 2 Z ?_; refine B1 hf fun e2 h4 hf=>Ev.cons Z Z Z (AO.aJ h4 Z Z Z Z zl (aG.aC _) Z zg) (Ev.cs aH 5 Z (Ev.nil ?_)); show AR _ _ _ _ _ _ _ _; refine J 0 Z (C hf Z (fun h5 hf=>?_) fun h5 hf=>?_)
  · refine B1 hf fun e3 h6 hf=>W 2 Z (AS Z (AO.aJ h6 Z Z Z Z zl (aG.aC _) Z ?_)); cases hf; exact Rx 4 [0] Z Z (ZC [0] Z Z h)
  exact M 3 Z ⟨(bW (i1 + 1)),Z,Z,Z,hf⟩
 cases hf; exact Wx 3 [0] Z Z (ZC [0] Z Z h)
theorem R8 (name1:Str) {r0:Int} (hf:qN name1=some r0) (h:Q (.ret (iP r0)) τ):PC 79 [.str name1] τ Q:=by
 unfold qN at hf; refine BN 18 [.tmp 2] [0] Tryz.func79 Z Z Z Z Z (V 4 Z (C hf Z (fun h1 hf=>?_) fun h1 hf=>?_))
 ·
  refine V 0 Z (AW.cond Z (fun h2=>?_) (fun h2=>?_))
  · cases hf; exact M 1 Z (Y Z h)
  cases h1.symm.trans h2
 refine V 2 Z (C hf Z (fun h3 hf=>?_) fun h3 hf=>?_)
 ·
  refine V 0 Z (AW.cond Z (fun h4=>?_) (fun h4=>?_))
  · cases hf; exact M 1 Z (Y Z h)
  cases h3.symm.trans h4
 refine V 2 Z (C hf Z (fun h5 hf=>?_) fun h5 hf=>?_)
 ·
  refine V 0 Z (AW.cond Z (fun h6=>?_) (fun h6=>?_))
  · cases hf; exact M 1 Z (Y Z h)
  cases h5.symm.trans h6
 refine V 2 Z (C hf Z (fun h7 hf=>?_) fun h7 hf=>?_)
 ·
  refine V 0 Z (AW.cond Z (fun h8=>?_) (fun h8=>?_))
  · cases hf; exact M 1 Z (Y Z h)
  cases h7.symm.trans h8
 refine V 2 Z (C hf Z (fun h9 hf=>?_) fun h9 hf=>?_)
 ·
  refine V 0 Z (AW.cond Z (fun h10=>?_) (fun h10=>?_))
  · cases hf; exact M 1 Z (Y Z h)
  cases h9.symm.trans h10
 refine V 2 Z (C hf Z (fun h11 hf=>?_) fun h11 hf=>?_)
 · cases hf; exact M 1 Z (Y Z h)
 refine V 2 Z (C hf Z (fun h12 hf=>?_) fun h12 hf=>?_)
 ·
  refine V 0 Z (AW.cond Z (fun kQ=>?_) (fun kQ=>?_))
  · cases hf; exact M 1 Z (Y Z h)
  cases h12.symm.trans kQ
 refine V 2 Z (C hf Z (fun lQ hf=>?_) fun lQ hf=>?_)
 ·
  refine V 0 Z (AW.cond Z (fun ng=>?_) (fun ng=>?_))
  · cases hf; exact M 1 Z (Y Z h)
  cases lQ.symm.trans ng
 refine V 2 Z (C hf Z (fun h16 hf=>?_) fun h16 hf=>?_)
 ·
  refine V 0 Z (AW.cond Z (fun vG=>?_) (fun vG=>?_))
  · cases hf; exact M 1 Z (Y Z h)
  cases h16.symm.trans vG
 refine V 2 Z (C hf Z (fun h18 hf=>?_) fun h18 hf=>?_)
 ·
  refine V 0 Z (AW.cond Z (fun h19=>?_) (fun h19=>?_))
  · cases hf; exact M 1 Z (Y Z h)
  cases h18.symm.trans h19
 refine V 2 Z (C hf Z (fun h20 hf=>?_) fun h20 hf=>?_)
 ·
  refine V 0 Z (AW.cond Z (fun h21=>?_) (fun h21=>?_))
  · cases hf; exact M 1 Z (Y Z h)
  cases h20.symm.trans h21
 refine V 2 Z (C hf Z (fun h22 hf=>?_) fun h22 hf=>?_)
 · cases hf; exact M 1 Z (Y Z h)
 cases hf; exact M 1 Z (Y Z h)
theorem je (t1:aj) {r0:Bool} (hf:fO t1=some r0) (h:Q (.ret (.bool r0)) τ):PC 151 [.agg (aN t1)] τ Q:=by
 unfold fO at hf; refine BN 11 [.tmp 2] [0] Tryz.func151 Z Z Z Z Z (W 6 Z (On 4 6 10 [] (t1.kind == 7) Z Z Z Z ?_)); cases hf; exact N 1 Z (Y Z h)
theorem gq (dJ:Int) {r0:aj} (hf:eU dJ=some r0) (h:Q (.ret (.agg (aN r0))) τ):PC 154 [iP dJ] τ Q:=by
 unfold eU at hf; refine BN 5 [.cell 2 54] [0] Tryz.func154 Z Z Z Z Z (W 0 Z (AS Z (AO.aF Z gG (fun b2=>?_)))); refine BR hf fun x1 h1 hf=>?_; refine U 1 Z (CL Z (ou _ h1 ?_)); cases hf; exact Rx 1 [0] Z Z (ZC [0] Z Z h)
abbrev Gm (nu:aj→aj→Option Bool):Prop:=∀ (wJ:aj) (Pm:aj) {aO:Bool},nu wJ Pm=some aO→∀ {τ:List bg} {Q:eD→List bg→Prop} (h:Q (.ret (.bool aO)) τ),PC 208 [.agg (aN wJ),.agg (aN Pm)] τ Q
theorem NH (nu) (Lm:Gm nu) (t1:aj) (u1:aj) {r0:Bool} (hf:l8 nu t1 u1=some r0) (h:Q (.ret (.bool r0)) τ):PC 208 [.agg (aN t1),.agg (aN u1)] τ Q:=by
 unfold l8 at hf; refine BN 32 [.tmp 4] [0,1] Tryz.func208 Z Z Z Z Z ?_; refine B1 hf fun x1 h1 hf=>W 4 Z (CL Z (je _ h1 (U 1 Z (On 4 7 11 [2,3] (u1.kind == 0) Z Z Z Z (J 0 Z (C hf Z (fun h3 hf=>?_) fun h3 hf=>?_))))))
 · cases hf; exact M 1 Z (Y Z h)
 refine V 5 Z (C hf Z (fun h4 hf=>?_) fun h4 hf=>?_)
 · cases hf; exact M 1 Z (Y Z h)
 refine V 0 Z (AW.draw 16 mixed (by kernel_rfl) Z ?_); refine Ev.cs aH 2 Z (Ev.cons Z Z Z (AO.aM (l:=t1.elem) Z Z Z Z dX Z (aj.aA _) zg) (Ev.cs aH 2 Z ?_)); refine BR hf fun b1 h6 hf=>?_; refine Ev.cZ hKA 10 21 31 false [] (.bool b1) Z Z (fun h5=>?_) (fun h5=>?_) ?_
 ·
  replace h6:=jA h5 h6; refine Ev.is r9 21 h5 Z (Ev.cs aH 2 Z ?_); refine B1 h6 fun e1 h7 h6=>Ev.run Z Z Z Z Z Z Z (AO.aJ h7 Z Z (aj.aA _) Z dX (aj.aC _) Z zg) (Ev.cs aH 3 Z ?_); refine B1 h6 fun e2 h8 h6=>Ev.run Z Z Z Z Z Z Z (AO.aJ h8 Z Z (aj.aA _) Z dX (aj.aC _) Z zg) (Ev.cs aH 1 Z ?_); refine BR h6 fun x2 h9 h6=>?_; refine Ev.run Z Z Z Z Z Z Z (AO.call Z _ Z Z I7 (Lm _ _ h9 zg)) ?_; cases h6; refine Ev.cs aH 1 Z ?_; exact Ev.nil (Less.settle (ps:=[31]) Z)
 · replace h6:=jN h5 h6; refine Ev.is r9 21 h5 Z ?_; cases h6; refine Ev.cs aH 10 Z ?_; exact Ev.nil (Less.settle (ps:=[31]) Z)
 refine Ev.cs aH 1 Z (Ev.nil ?_); show AR _ _ _ _ _ _ _ _; cases hf; exact N 0 Z (Y Z h)
theorem N8 :∀ k:Nat,(Gm (iU k)):=by
 intro k
 induction k with
 | zero=>exact fun _ _ _ hz=>by first | cases hz | (unfold iU at hz; cases hz)
 | succ k ih=>exact fun wJ Pm aO hz τ Q hq=>NH (iU k) ih wJ Pm hz hq
theorem mD (wJ:aj) (Pm:aj) {aO:Bool} (hf:dW wJ Pm=some aO) (h:Q (.ret (.bool aO)) τ):PC 208 [.agg (aN wJ),.agg (aN Pm)] τ Q:=
 ((N8 BIG)) wJ Pm hf h
theorem iD (t1:aj) (dJ:Int) {r0:Bool} (hf:fF t1 dJ=some r0) (h:Q (.ret (.bool r0)) τ):PC 155 [.agg (aN t1),iP dJ] τ Q:=by
 unfold fF at hf; refine BN 9 [.tmp 4] [0,1] Tryz.func155 Z Z Z Z Z (V 2 Z (AW.draw 5 mixed (by kernel_rfl) Z ?_)); refine Ev.cs aH 2 Z ?_; refine B1 hf fun x1 h1 hf=>Ev.cons Z Z Z (AO.call Z _ Z Z wW (gq _ h1 zg)) ?_; refine BR hf fun x2 h2 hf=>?_; refine Ev.cons Z Z Z (AO.call Z _ Z Z I7 (mD _ _ h2 zg)) (Ev.cs aH 1 Z (Ev.nil ?_)); show AR _ _ _ _ _ _ _ _; cases hf; exact N 0 Z (Y Z h)
theorem YW (a1:aj) (b1:aj) {r0:aj} {r1:Bool} (hf:Fv a1 b1=some (r0,r1)) (h:Q (.ret (.tuple [.agg (aN r0),.bool r1])) τ):PC 152 [.agg (aN a1),.agg (aN b1)] τ Q:=by
 unfold Fv at hf; refine BN 37 [.cell 4 54,.tmp 5] [0,1] Tryz.func152 Z Z Z Z Z (W 2 Z (AS Z (AO.aF Z gG (fun b4=>(J 5 Z (C hf Z (fun h1 hf=>?_) fun h1 hf=>?_))))))
 ·
  refine V 0 Z (AW.draw 6 mixed (by kernel_rfl) Z ?_); refine Ev.cs aH 2 Z ?_; refine B1 hf fun e1 h2 hf=>Ev.cons Z Z Z (AO.aJ h2 Z Z (aj.aA _) Z dX (aj.aC _) Z zg) (Ev.cs aH 2 Z ?_); refine B1 hf fun x1 h3 hf=>Ev.cons Z Z Z (AO.call Z _ Z Z mZ (iD _ _ h3 zg)) (Ev.nil ?_); show AR _ _ _ _ _ _ _ _; cases hf; exact Rx 2 [0] Z Z (ZC [0] Z Z h)
 refine V 4 Z (C hf Z (fun h4 hf=>?_) fun h4 hf=>?_)
 ·
  refine V 0 Z (AW.draw 6 mixed (by kernel_rfl) Z ?_); refine Ev.cs aH 2 Z ?_; refine B1 hf fun e2 h5 hf=>Ev.cons Z Z Z (AO.aJ h5 Z Z (aj.aA _) Z dX (aj.aC _) Z zg) (Ev.cs aH 2 Z ?_); refine B1 hf fun x2 h6 hf=>Ev.cons Z Z Z (AO.call Z _ Z Z mZ (iD _ _ h6 zg)) (Ev.nil ?_); show AR _ _ _ _ _ _ _ _; cases hf; exact Rx 2 [0] Z Z (ZC [0] Z Z h)
 refine V 0 Z (AW.zF 4 11 12 0 mixed (by kernel_rfl) (by kernel_rfl) (by kernel_rfl) Z Z Z Z ?_); refine Ev.cs aH 2 Z ?_; refine B1 hf fun x3 h7 hf=>Ev.cons Z Z Z (AO.call Z _ Z Z Dc (je _ h7 zg)) (Ev.cs aH 1 Z (Ev.nil ?_)); show Ev _ _ _ _ _ _ _; refine B1 hf fun b2 h9 hf=>Ev.cZ Qa 7 29 36 true [4,26] (.bool b2) Z Z (fun h8=>?_) (fun h8=>?_) ?_
 ·
  replace h9:=jN h8 h9; refine Ev.is r9 29 h8 Z (Ev.cs aH 1 Z ?_); refine B1 h9 fun x4 h10 h9=>Ev.run Z Z Z Z Z Z Z (AO.call Z _ Z Z mZ (iD _ _ h10 zg)) (Ev.cs aH 1 Z ?_); refine BR h9 fun b3 h12 h9=>?_; refine Ev.cZ r9 3 32 35 false [4,26,29] (.bool b3) Z Z (fun h11=>?_) (fun h11=>?_) ?_
  · replace h12:=jA h11 h12; refine Ev.is r9 32 h11 Z (Ev.cs aH 1 Z ?_); refine BR h12 fun x5 kQ h12=>?_; refine Ev.run Z Z Z Z Z Z Z (AO.call Z _ Z Z mZ (iD _ _ kQ zg)) ?_; cases h12; refine Ev.cs aH 1 Z ?_; exact Ev.nil (Less.settle (ps:=[35,4,26,29]) Z)
  · replace h12:=jN h11 h12; refine Ev.is r9 32 h11 Z ?_; cases h12; refine Ev.cs aH 3 Z ?_; exact Ev.nil (Less.settle (ps:=[35,4,26,29]) Z)
  cases h9; refine Ev.cs aH 1 Z ?_; exact Ev.nil (Less.settle (ps:=[36,4,26]) Z)
 · replace h9:=jA h8 h9; refine Ev.is r9 29 h8 Z ?_; cases h9; refine Ev.cs aH 7 Z ?_; exact Ev.nil (Less.settle (ps:=[36,4,26]) Z)
 refine Ev.nil (TF.bQ Z Z (AO.cO (i:=0) Z Z Z fD Z Z Z Z Z (TF.nil ?_))); show AR _ _ _ _ _ _ _ _; cases hf; exact N 1 Z (ZC [0] Z Z h)
theorem Bq (dJ:Int) {r0:aj} (hf:zP dJ=some r0) (h:Q (.ret (.agg (aN r0))) τ):PC 209 [iP dJ] τ Q:=by
 unfold zP at hf; refine BN 6 [.cell 2 54] [0] Tryz.func209 Z Z Z Z Z (W 0 Z (AS Z (AO.aF Z gG (fun b2=>?_)))); refine B1 hf fun x1 h1 hf=>U 1 Z (CL Z (gq _ h1 ?_)); refine BR hf fun x2 h2 hf=>?_; refine CL Z (qE _ _ h2 ?_); cases hf; exact Rx 1 [0] Z Z (ZC [0] Z Z h)
theorem aaO (name1:Str) (l1:List aj) {r0:aj} {r1:Bool} (hf:fq name1 l1=some (r0,r1)) (h:Q (.ret (.tuple [.agg (aN r0),.bool r1])) τ):PC 153 [.str name1,.list (aj.aT l1)] τ Q:=by
 unfold fq at hf; refine BN 150 [.cell 4 54,.tmp 5] [0,1] Tryz.func153 Z Z Z Z Z (W 0 Z (AS Z (AO.aF Z gG (fun b4=>?_)))); refine B1 hf fun x1 h1 hf=>U 1 Z (CL Z (gq _ h1 (AS Z (AO.aF Z gG (fun b6=>(Rw 4 [0] Z Z (C hf Z (fun h2 hf=>?_) fun h2 hf=>?_)))))))
 ·
  refine V 0 Z (AW.zF 13 19 20 1 mixed (by kernel_rfl) (by kernel_rfl) (by kernel_rfl) Z Z Z Z ?_); refine B1 hf fun x2 h3 hf=>Ev.cons Z Z Z (AO.call Z _ Z Z wW (gq _ h3 zg)) (Ev.cs aH 1 Z ?_); refine B1 hf fun e1 h4 hf=>Ev.cons Z Z Z (AO.aJ h4 Z Z (aj.aA _) Z dX (aj.aC _) Z zg) (Ev.cs aH 1 Z ?_); refine B1 hf fun x3 h5 hf=>Ev.cons Z Z Z (AO.call Z _ Z Z mZ (iD _ _ h5 zg)) (Ev.cs aH 1 Z ?_); refine B1 hf fun b1 h7 hf=>Ev.cZ (hKE Qa) 6 16 22 false [1,4,11] (.bool b1) Z Z (fun h6=>?_) (fun h6=>?_) ?_
  ·
   replace h7:=jA h6 h7; refine Ev.is r9 16 h6 Z (Ev.cs aH 1 Z ?_); refine B1 h7 fun e2 h8 h7=>Ev.run Z Z Z Z Z Z Z (AO.aJ h8 Z Z (aj.aA _) Z dX (aj.aC _) Z zg) (Ev.cs aH 1 Z ?_); refine B1 h7 fun x4 h9 h7=>Ev.run Z Z Z Z Z Z Z (AO.call Z _ Z Z QU (Bq _ h9 zg)) ?_; refine BR h7 fun x5 h10 h7=>?_; refine Ev.run Z Z Z Z Z Z Z (AO.call Z _ Z Z I7 (mD _ _ h10 zg)) ?_; cases h7; refine Ev.cs aH 1 Z ?_; exact Ev.nil (Less.settle (ps:=[22,1,4,11]) Z)
  · replace h7:=jN h6 h7; refine Ev.is r9 16 h6 Z ?_; cases h7; refine Ev.cs aH 6 Z ?_; exact Ev.nil (Less.settle (ps:=[22,1,4,11]) Z)
  refine Ev.cs aH 1 Z (Ev.nil ?_); show Ev _ _ _ _ _ _ _; refine B1 hf fun b2 h12 hf=>Ev.cZ Qa 6 23 29 false [4,11] (.bool b2) Z Z (fun h11=>?_) (fun h11=>?_) ?_
  ·
   replace h12:=jA h11 h12; refine Ev.is r9 23 h11 Z (Ev.cs aH 1 Z ?_); refine B1 h12 fun e3 kQ h12=>Ev.run Z Z Z Z Z Z Z (AO.aJ kQ Z Z (aj.aA _) Z dX (aj.aC _) Z zg) (Ev.cs aH 1 Z ?_); refine B1 h12 fun x6 lQ h12=>Ev.run Z Z Z Z Z Z Z (AO.call Z _ Z Z QU (Bq _ lQ zg)) ?_; refine BR h12 fun x7 ng h12=>?_; refine Ev.run Z Z Z Z Z Z Z (AO.call Z _ Z Z I7 (mD _ _ ng zg)) ?_; cases h12; refine Ev.cs aH 1 Z ?_; exact Ev.nil (Less.settle (ps:=[29,4,11]) Z)
  · replace h12:=jN h11 h12; refine Ev.is r9 23 h11 Z ?_; cases h12; refine Ev.cs aH 6 Z ?_; exact Ev.nil (Less.settle (ps:=[29,4,11]) Z)
  refine Ev.nil (TF.bQ Z Z (AO.cO (i:=0) Z Z Z fD Z Z Z Z Z (TF.nil ?_))); show AR _ _ _ _ _ _ _ _; cases hf; exact N 1 Z (ZC [1] Z Z h)
 refine V 2 Z (C hf Z (fun h16 hf=>?_) fun h16 hf=>?_)
 ·
  refine V 0 Z (AW.zF 7 25 26 1 mixed (by kernel_rfl) (by kernel_rfl) (by kernel_rfl) Z Z Z Z ?_); refine B1 hf fun x8 vG hf=>Ev.cons Z Z Z (AO.call Z _ Z Z wW (gq _ vG zg)) (Ev.cs aH 1 Z ?_); refine B1 hf fun e4 h18 hf=>Ev.cons Z Z Z (AO.aJ h18 Z Z (aj.aA _) Z dX (aj.aC _) Z zg) (Ev.cs aH 1 Z ?_); refine B1 hf fun x9 h19 hf=>Ev.cons Z Z Z (AO.call Z _ Z Z QU (Bq _ h19 zg)) ?_; refine B1 hf fun BH h20 hf=>Ev.cons Z Z Z (AO.call Z _ Z Z I7 (mD _ _ h20 zg)) (Ev.cs aH 1 Z (Ev.nil ?_)); show Ev _ _ _ _ _ _ _; refine B1 hf fun b3 h22 hf=>Ev.cZ Qa 18 38 56 false [4,32] (.bool b3) Z Z (fun h21=>?_) (fun h21=>?_) ?_
  ·
   replace h22:=jA h21 h22; refine Ev.is r9 38 h21 Z (Ev.cs aH 1 Z ?_); refine B1 h22 fun e5 h23 h22=>Ev.run Z Z Z Z Z Z Z (AO.aJ h23 Z Z (aj.aA _) Z dX (aj.aC _) Z zg) (Ev.cs aH 1 Z ?_); refine B1 h22 fun Hl Fb h22=>Ev.run Z Z Z Z Z Z Z (AO.call Z _ Z Z mZ (iD _ _ Fb zg)) (Ev.cs aH 1 Z ?_); refine BR h22 fun b4 Ij h22=>?_; refine Ev.cZ r9 12 43 55 true [4,32,38] (.bool b4) Z Z (fun DV=>?_) (fun DV=>?_) ?_
   ·
    replace Ij:=jN DV Ij; refine Ev.is r9 43 DV Z (Ev.cs aH 1 Z ?_); refine B1 Ij fun e6 h27 Ij=>Ev.run Z Z Z Z Z Z Z (AO.aJ h27 Z Z (aj.aA _) Z dX (aj.aC _) Z zg) (Ev.cs aH 1 Z ?_); refine B1 Ij fun Kn Qb Ij=>Ev.run Z Z Z Z Z Z Z (AO.call Z _ Z Z mZ (iD _ _ Qb zg)) (Ev.cs aH 1 Z ?_); refine BR Ij fun b5 Lj Ij=>?_; refine Ev.cZ r9 6 48 54 false [4,32,38,43] (.bool b5) Z Z (fun Ll=>?_) (fun Ll=>?_) ?_
    ·
     replace Lj:=jA Ll Lj; refine Ev.is r9 48 Ll Z (Ev.cs aH 1 Z ?_); refine B1 Lj fun e7 h31 Lj=>Ev.run Z Z Z Z Z Z Z (AO.aJ h31 Z Z (aj.aA _) Z dX (aj.aC _) Z zg) (Ev.cs aH 1 Z ?_); refine B1 Lj fun KZ h32 Lj=>Ev.run Z Z Z Z Z Z Z (AO.call Z _ Z Z QU (Bq _ h32 zg)) ?_; refine BR Lj fun SQ Io Lj=>?_; refine Ev.run Z Z Z Z Z Z Z (AO.call Z _ Z Z I7 (mD _ _ Io zg)) ?_; cases Lj; refine Ev.cs aH 1 Z ?_; exact Ev.nil (Less.settle (ps:=[54,4,32,38,43]) Z)
    · replace Lj:=jN Ll Lj; refine Ev.is r9 48 Ll Z ?_; cases Lj; refine Ev.cs aH 6 Z ?_; exact Ev.nil (Less.settle (ps:=[54,4,32,38,43]) Z)
    cases Ij; refine Ev.cs aH 1 Z ?_; exact Ev.nil (Less.settle (ps:=[55,4,32,38]) Z)
   · replace Ij:=jA DV Ij; refine Ev.is r9 43 DV Z ?_; cases Ij; refine Ev.cs aH 12 Z ?_; exact Ev.nil (Less.settle (ps:=[55,4,32,38]) Z)
   cases h22; refine Ev.cs aH 1 Z ?_; exact Ev.nil (Less.settle (ps:=[56,4,32]) Z)
  · replace h22:=jN h21 h22; refine Ev.is r9 38 h21 Z ?_; cases h22; refine Ev.cs aH 18 Z ?_; exact Ev.nil (Less.settle (ps:=[56,4,32]) Z)
  refine Ev.nil (TF.bQ Z Z (AO.cO (i:=0) Z Z Z fD Z Z Z Z Z (TF.nil ?_))); show AR _ _ _ _ _ _ _ _; cases hf; exact N 1 Z (ZC [1] Z Z h)
 refine V 2 Z (C hf Z (fun Xa hf=>?_) fun Xa hf=>?_)
 ·
  refine V 0 Z (AW.zF 8 13 14 1 mixed (by kernel_rfl) (by kernel_rfl) (by kernel_rfl) Z Z Z Z ?_); refine Ev.cons Z Z Z (AO.aP (i:=0) Z Z Z fD Z Z zg) (Ev.cs aH 1 Z ?_); refine B1 hf fun e8 Ru hf=>Ev.cons Z Z Z (AO.aJ Ru Z Z (aj.aA _) Z dX (aj.aC _) Z zg) (Ev.cs aH 1 Z (Ev.cons Z Z Z (AO.aP (i:=0) Z Z Z fD Z Z zg) ?_)); refine B1 hf fun OI Rt hf=>Ev.cons Z Z Z (AO.call Z _ Z Z X3 (qE _ _ Rt zg)) ?_; refine B1 hf fun Iu h37 hf=>Ev.cons Z Z Z (AO.call Z _ Z Z I7 (mD _ _ h37 zg)) (Ev.cs aH 1 Z (Ev.nil ?_)); show Ev _ _ _ _ _ _ _; refine B1 hf fun b6 M0 hf=>Ev.cZ Qa 5 66 71 true [4,59] (.bool b6) Z Z (fun UZ=>?_) (fun UZ=>?_) ?_
  · replace M0:=jN UZ M0; refine Ev.is r9 66 UZ Z (Ev.cs aH 1 Z ?_); refine B1 M0 fun e9 h40 M0=>Ev.run Z Z Z Z Z Z Z (AO.aJ h40 Z Z (aj.aA _) Z dX (aj.aC _) Z zg) (Ev.cs aH 1 Z ?_); refine BR M0 fun SN h41 M0=>?_; refine Ev.run Z Z Z Z Z Z Z (AO.call Z _ Z Z mZ (iD _ _ h41 zg)) ?_; cases M0; refine Ev.cs aH 1 Z ?_; exact Ev.nil (Less.settle (ps:=[71,4,59]) Z)
  · replace M0:=jA UZ M0; refine Ev.is r9 66 UZ Z ?_; cases M0; refine Ev.cs aH 5 Z ?_; exact Ev.nil (Less.settle (ps:=[71,4,59]) Z)
  refine Ev.nil (TF.bQ Z Z (AO.cO (i:=0) Z Z Z fD Z Z Z Z Z (TF.nil ?_))); show AR _ _ _ _ _ _ _ _; cases hf; exact N 1 Z (ZC [1] Z Z h)
 refine V 2 Z (C hf Z (fun h42 hf=>?_) fun h42 hf=>?_)
 ·
  refine V 0 Z (AW.zF 7 12 13 1 mixed (by kernel_rfl) (by kernel_rfl) (by kernel_rfl) Z Z Z Z ?_); refine Ev.cons Z Z Z (AO.aP (i:=0) Z Z Z fD Z Z zg) ?_; refine B1 hf fun Zp h43 hf=>Ev.cons Z Z Z (AO.call Z _ Z Z X3 (qE _ _ h43 zg)) (Ev.cs aH 1 Z ?_); refine B1 hf fun e10 h44 hf=>Ev.cons Z Z Z (AO.aJ h44 Z Z (aj.aA _) Z dX (aj.aC _) Z zg) (Ev.cs aH 1 Z ?_); refine B1 hf fun Zx h45 hf=>Ev.cons Z Z Z (AO.call Z _ Z Z mZ (iD _ _ h45 zg)) (Ev.cs aH 1 Z (Ev.nil ?_)); show Ev _ _ _ _ _ _ _; refine B1 hf fun b7 h47 hf=>Ev.cZ Qa 5 80 85 true [4,75] (.bool b7) Z Z (fun h46=>?_) (fun h46=>?_) ?_
  · replace h47:=jN h46 h47; refine Ev.is r9 80 h46 Z (Ev.cs aH 1 Z ?_); refine B1 h47 fun e11 h48 h47=>Ev.run Z Z Z Z Z Z Z (AO.aJ h48 Z Z (aj.aA _) Z dX (aj.aC _) Z zg) (Ev.cs aH 1 Z ?_); refine BR h47 fun x20 h49 h47=>?_; refine Ev.run Z Z Z Z Z Z Z (AO.call Z _ Z Z mZ (iD _ _ h49 zg)) ?_; cases h47; refine Ev.cs aH 1 Z ?_; exact Ev.nil (Less.settle (ps:=[85,4,75]) Z)
  · replace h47:=jA h46 h47; refine Ev.is r9 80 h46 Z ?_; cases h47; refine Ev.cs aH 5 Z ?_; exact Ev.nil (Less.settle (ps:=[85,4,75]) Z)
  refine Ev.nil (TF.bQ Z Z (AO.cO (i:=0) Z Z Z fD Z Z Z Z Z (TF.nil ?_))); show AR _ _ _ _ _ _ _ _; cases hf; exact N 1 Z (ZC [1] Z Z h)
 refine V 2 Z (C hf Z (fun h50 hf=>?_) fun h50 hf=>?_)
 ·
  refine V 0 Z (AW.cond Z (fun h51=>?_) (fun h51=>?_))
  ·
   refine V 0 Z (AW.draw 5 mixed (by kernel_rfl) Z ?_); refine Ev.cons Z Z Z (AO.aP (i:=0) Z Z Z fD Z Z zg) (Ev.cs aH 1 Z ?_); refine B1 hf fun e12 h52 hf=>Ev.cons Z Z Z (AO.aJ h52 Z Z (aj.aA _) Z dX (aj.aC _) Z zg) (Ev.cs aH 1 Z ?_); refine B1 hf fun x21 Px hf=>Ev.cons Z Z Z (AO.call Z _ Z Z mZ (iD _ _ Px zg)) (Ev.nil ?_); show AR _ _ _ _ _ _ _ _; cases hf; exact Rx 2 [1] Z Z (ZC [1] Z Z h)
  cases h50.symm.trans h51
 refine V 2 Z (C hf Z (fun h54 hf=>?_) fun h54 hf=>?_)
 ·
  refine V 0 Z (AW.draw 5 mixed (by kernel_rfl) Z ?_); refine Ev.cons Z Z Z (AO.aP (i:=0) Z Z Z fD Z Z zg) (Ev.cs aH 1 Z ?_); refine B1 hf fun e13 h55 hf=>Ev.cons Z Z Z (AO.aJ h55 Z Z (aj.aA _) Z dX (aj.aC _) Z zg) (Ev.cs aH 1 Z ?_); refine B1 hf fun x22 h56 hf=>Ev.cons Z Z Z (AO.call Z _ Z Z mZ (iD _ _ h56 zg)) (Ev.nil ?_); show AR _ _ _ _ _ _ _ _; cases hf; exact Rx 2 [1] Z Z (ZC [1] Z Z h)
 refine V 2 Z (C hf Z (fun h57 hf=>?_) fun h57 hf=>?_)
 ·
  refine V 0 Z (AW.cond Z (fun h58=>?_) (fun h58=>?_))
  ·
   refine V 0 Z (AW.zF 6 11 12 1 mixed (by kernel_rfl) (by kernel_rfl) (by kernel_rfl) Z Z Z Z ?_); refine B1 hf fun x23 h59 hf=>Ev.cons Z Z Z (AO.call Z _ Z Z wW (gq _ h59 zg)) (Ev.cs aH 1 Z ?_); refine B1 hf fun e14 h60 hf=>Ev.cons Z Z Z (AO.aJ h60 Z Z (aj.aA _) Z dX (aj.aC _) Z zg) (Ev.cs aH 1 Z ?_); refine B1 hf fun x24 h61 hf=>Ev.cons Z Z Z (AO.call Z _ Z Z mZ (iD _ _ h61 zg)) (Ev.cs aH 1 Z (Ev.nil ?_)); show Ev _ _ _ _ _ _ _; refine B1 hf fun b8 h63 hf=>Ev.cZ Qa 5 102 107 true [4,97] (.bool b8) Z Z (fun h62=>?_) (fun h62=>?_) ?_
   · replace h63:=jN h62 h63; refine Ev.is r9 102 h62 Z (Ev.cs aH 1 Z ?_); refine B1 h63 fun e15 h64 h63=>Ev.run Z Z Z Z Z Z Z (AO.aJ h64 Z Z (aj.aA _) Z dX (aj.aC _) Z zg) (Ev.cs aH 1 Z ?_); refine BR h63 fun x25 h65 h63=>?_; refine Ev.run Z Z Z Z Z Z Z (AO.call Z _ Z Z mZ (iD _ _ h65 zg)) ?_; cases h63; refine Ev.cs aH 1 Z ?_; exact Ev.nil (Less.settle (ps:=[107,4,97]) Z)
   · replace h63:=jA h62 h63; refine Ev.is r9 102 h62 Z ?_; cases h63; refine Ev.cs aH 5 Z ?_; exact Ev.nil (Less.settle (ps:=[107,4,97]) Z)
   refine Ev.nil (TF.bQ Z Z (AO.cO (i:=0) Z Z Z fD Z Z Z Z Z (TF.nil ?_))); show AR _ _ _ _ _ _ _ _; cases hf; exact N 1 Z (ZC [1] Z Z h)
  cases h57.symm.trans h58
 refine V 2 Z (C hf Z (fun h66 hf=>?_) fun h66 hf=>?_)
 ·
  refine V 0 Z (AW.zF 6 11 12 1 mixed (by kernel_rfl) (by kernel_rfl) (by kernel_rfl) Z Z Z Z ?_); refine B1 hf fun x26 h67 hf=>Ev.cons Z Z Z (AO.call Z _ Z Z wW (gq _ h67 zg)) (Ev.cs aH 1 Z ?_); refine B1 hf fun e16 h68 hf=>Ev.cons Z Z Z (AO.aJ h68 Z Z (aj.aA _) Z dX (aj.aC _) Z zg) (Ev.cs aH 1 Z ?_); refine B1 hf fun x27 h69 hf=>Ev.cons Z Z Z (AO.call Z _ Z Z mZ (iD _ _ h69 zg)) (Ev.cs aH 1 Z (Ev.nil ?_)); show Ev _ _ _ _ _ _ _; refine B1 hf fun b9 h71 hf=>Ev.cZ Qa 5 102 107 true [4,97] (.bool b9) Z Z (fun h70=>?_) (fun h70=>?_) ?_
  · replace h71:=jN h70 h71; refine Ev.is r9 102 h70 Z (Ev.cs aH 1 Z ?_); refine B1 h71 fun e17 h72 h71=>Ev.run Z Z Z Z Z Z Z (AO.aJ h72 Z Z (aj.aA _) Z dX (aj.aC _) Z zg) (Ev.cs aH 1 Z ?_); refine BR h71 fun x28 h73 h71=>?_; refine Ev.run Z Z Z Z Z Z Z (AO.call Z _ Z Z mZ (iD _ _ h73 zg)) ?_; cases h71; refine Ev.cs aH 1 Z ?_; exact Ev.nil (Less.settle (ps:=[107,4,97]) Z)
  · replace h71:=jA h70 h71; refine Ev.is r9 102 h70 Z ?_; cases h71; refine Ev.cs aH 5 Z ?_; exact Ev.nil (Less.settle (ps:=[107,4,97]) Z)
  refine Ev.nil (TF.bQ Z Z (AO.cO (i:=0) Z Z Z fD Z Z Z Z Z (TF.nil ?_))); show AR _ _ _ _ _ _ _ _; cases hf; exact N 1 Z (ZC [1] Z Z h)
 refine V 2 Z (C hf Z (fun h74 hf=>?_) fun h74 hf=>?_)
 ·
  refine V 0 Z (AW.zF 7 13 14 1 mixed (by kernel_rfl) (by kernel_rfl) (by kernel_rfl) Z Z Z Z ?_); refine Ev.cons Z Z Z (AO.aP (i:=0) Z Z Z fD Z Z zg) (Ev.cs aH 1 Z ?_); refine B1 hf fun e18 h75 hf=>Ev.cons Z Z Z (AO.aJ h75 Z Z (aj.aA _) Z dX (aj.aC _) Z zg) (Ev.cs aH 4 Z (Ev.nil ?_)); show Ev _ _ _ _ _ _ _; refine B1 hf fun b10 h77 hf=>Ev.cZ Qa 6 116 122 true [4,110] (.bool b10) Z Z (fun h76=>?_) (fun h76=>?_) ?_
  · replace h77:=jN h76 h77; refine Ev.is r9 116 h76 Z (Ev.cs aH 1 Z ?_); refine B1 h77 fun e19 h78 h77=>Ev.run Z Z Z Z Z Z Z (AO.aJ h78 Z Z (aj.aA _) Z dX (aj.aC _) Z zg) (Ev.cs aH 3 Z ?_); cases h77; refine Ev.cs aH 1 Z ?_; exact Ev.nil (Less.settle (ps:=[122,4,110]) Z)
  · replace h77:=jA h76 h77; refine Ev.is r9 116 h76 Z ?_; cases h77; refine Ev.cs aH 6 Z ?_; exact Ev.nil (Less.settle (ps:=[122,4,110]) Z)
  refine Ev.nil (TF.bQ Z Z (AO.cO (i:=0) Z Z Z fD Z Z Z Z Z (TF.nil ?_))); show AR _ _ _ _ _ _ _ _; cases hf; exact N 1 Z (ZC [1] Z Z h)
 refine V 2 Z (C hf Z (fun h79 hf=>?_) fun h79 hf=>?_)
 ·
  refine V 0 Z (AW.draw 5 mixed (by kernel_rfl) Z ?_); refine B1 hf fun x29 h80 hf=>Ev.cons Z Z Z (AO.call Z _ Z Z wW (gq _ h80 zg)) (Ev.cs aH 1 Z ?_); refine B1 hf fun e20 h81 hf=>Ev.cons Z Z Z (AO.aJ h81 Z Z (aj.aA _) Z dX (aj.aC _) Z zg) (Ev.cs aH 1 Z ?_); refine B1 hf fun x30 h82 hf=>Ev.cons Z Z Z (AO.call Z _ Z Z mZ (iD _ _ h82 zg)) (Ev.nil ?_); show AR _ _ _ _ _ _ _ _; cases hf; exact Rx 2 [1] Z Z (ZC [1] Z Z h)
 refine V 2 Z (C hf Z (fun h83 hf=>?_) fun h83 hf=>?_)
 ·
  refine V 0 Z (AW.draw 7 mixed (by kernel_rfl) Z ?_); refine Ev.cons Z Z Z (AO.aP (i:=0) Z Z Z fD Z Z zg) ?_; refine B1 hf fun x31 h84 hf=>Ev.cons Z Z Z (AO.call Z _ Z Z X3 (qE _ _ h84 zg)) (Ev.cs aH 1 Z ?_); refine B1 hf fun e21 h85 hf=>Ev.cons Z Z Z (AO.aJ h85 Z Z (aj.aA _) Z dX (aj.aC _) Z zg) (Ev.cs aH 1 Z ?_); refine B1 hf fun x32 h86 hf=>Ev.cons Z Z Z (AO.call Z _ Z Z QU (Bq _ h86 zg)) ?_; refine B1 hf fun x33 h87 hf=>Ev.cons Z Z Z (AO.call Z _ Z Z I7 (mD _ _ h87 zg)) (Ev.nil ?_); show AR _ _ _ _ _ _ _ _; cases hf; exact Rx 2 [1] Z Z (ZC [1] Z Z h)
 refine B1 hf fun e22 h88 hf=>W 1 Z (AS Z (AO.aJ h88 Z Z (aj.aA _) Z dX (aj.aC _) Z (J 3 Z (C hf Z (fun h89 hf=>?_) fun h89 hf=>?_))))
 · refine B1 hf fun e23 h90 hf=>W 1 Z (AS Z (AO.aJ h90 Z Z (aj.aA _) Z dX (aj.aC _) Z ?_)); cases hf; exact Rx 3 [1] Z Z (ZC [1] Z Z h)
 refine B1 hf fun e24 h91 hf=>W 1 Z (AS Z (AO.aJ h91 Z Z (aj.aA _) Z dX (aj.aC _) Z ?_)); cases hf; exact Rx 3 [1] Z Z (ZC [1] Z Z h)
theorem zw (a1:aj) (b1:aj) {r0:Int} (hf:oJ a1 b1=some r0) (h:Q (.ret (iP r0)) τ):PC 210 [.agg (aN a1),.agg (aN b1)] τ Q:=by
 unfold oJ at hf; refine BN 20 [.tmp 4] [0,1] Tryz.func210 Z Z Z Z Z ?_; refine B1 hf fun x1 h1 hf=>W 4 Z (CL Z (je _ h1 (J 0 Z (C hf Z (fun h2 hf=>?_) fun h2 hf=>?_))))
 · cases hf; exact M 3 Z (Y Z h)
 refine B1 hf fun x2 h3 hf=>W 1 Z (CL Z (je _ h3 (U 1 Z (On 6 11 17 [2] (a1.kind == b1.kind) Z Z Z Z (J 0 Z (C hf Z (fun h5 hf=>?_) fun h5 hf=>?_))))))
 · cases hf; exact M 3 Z (Y Z h)
 cases hf; exact M 1 Z (Y Z h)
theorem KP (t1:aj) {r0:aj} (hf:xG t1=some r0) (h:Q (.ret (.agg (aN r0))) τ):PC 256 [.agg (aN t1)] τ Q:=by
 unfold xG at hf; refine BN 10 [.cell 2 54] [0] Tryz.func256 Z Z Z Z Z (W 1 Z (AS Z (AO.aF Z gG (fun b2=>?_)))); refine B1 hf fun x1 h1 hf=>U 1 Z (CL Z (je _ h1 (J 0 Z (C hf Z (fun h2 hf=>?_) fun h2 hf=>?_))))
 · cases hf; exact Wx 2 [0] Z Z (ZC [0] Z Z h)
 refine BR hf fun e1 h3 hf=>?_; refine W 2 Z (AS Z (AO.aJ h3 Z Z (aj.aA _) Z dX (aj.aC _) Z ?_)); cases hf; exact Rx 2 [0] Z Z (ZC [0] Z Z h)
theorem aaR (a1:aj) (b1:aj) {r0:Bool} (hf:MG a1 b1=some r0) (h:Q (.ret (.bool r0)) τ):PC 212 [.agg (aN a1),.agg (aN b1)] τ Q:=by
 unfold MG at hf; refine BN 13 [.tmp 4] [0,1] Tryz.func212 Z Z Z Z Z ?_; refine B1 hf fun x1 h1 hf=>W 4 Z (CL Z (EF _ h1 ?_)); refine BR hf fun b2 h3 hf=>?_; refine U 2 Z (AR.cZ 4 8 12 true [] b2 Z Z (fun h2=>?_) (fun h2=>?_) ?_)
 · refine IT 8 h2 h3 Z fun h3=>?_; refine B1 h3 fun x2 h4 h3=>U 1 Z (GO Z (AO.call Z _ Z Z ak9 (EF _ h4 ?_))); cases h3; exact dY 2 Z (En [12] Z)
 · refine IF 8 h2 h3 Z fun h3=>?_; cases h3; exact dY 4 Z (En [12] Z)
 cases hf; exact N 1 Z (Y Z h)
theorem LP (a1:aj) (b1:aj) {r0:aj} (hf:yH a1 b1=some r0) (h:Q (.ret (.agg (aN r0))) τ):PC 157 [.agg (aN a1),.agg (aN b1)] τ Q:=by
 unfold yH at hf; refine BN 13 [.cell 4 54] [0,1] Tryz.func157 Z Z Z Z Z (W 2 Z (AS Z (AO.aF Z gG (fun b4=>?_)))); refine B1 hf fun x1 h1 hf=>U 2 Z (CL Z (aaR _ _ h1 (J 1 Z (C hf Z (fun h2 hf=>?_) fun h2 hf=>?_))))
 · refine BR hf fun x2 h3 hf=>?_; refine W 0 Z (CL Z (ou _ h3 ?_)); cases hf; exact Rx 1 [0] Z Z (ZC [0] Z Z h)
 refine BR hf fun x3 h4 hf=>?_; refine W 2 Z (CL Z (R_ _ _ h4 ?_)); cases hf; exact Rx 1 [0] Z Z (ZC [0] Z Z h)
theorem ady (a1:aj) (b1:aj) {r0:aj} {r1:Bool} (hf:Ef a1 b1=some (r0,r1)) (h:Q (.ret (.tuple [.agg (aN r0),.bool r1])) τ):PC 211 [.agg (aN a1),.agg (aN b1)] τ Q:=by
 unfold Ef at hf; refine BN 38 [.cell 4 54,.tmp 5] [0,1] Tryz.func211 Z Z Z Z Z (W 2 Z (AS Z (AO.aF Z gG (fun b4=>?_)))); refine B1 hf fun x1 h1 hf=>U 2 Z (CL Z (je _ h1 ?_)); refine B1 hf fun b2 h3 hf=>U 1 Z (AR.cZ 3 9 12 true [2,3,4] b2 Z Z (fun h2=>?_) (fun h2=>?_) ?_)
 · refine IT 9 h2 h3 Z fun h3=>?_; refine BR h3 fun x2 h4 h3=>?_; refine U 1 Z (GO Z (AO.call Z _ Z Z Dc (je _ h4 ?_))); cases h3; exact dY 1 Z (En [12,2,3,4] Z)
 · refine IF 9 h2 h3 Z fun h3=>?_; cases h3; exact dY 3 Z (En [12,2,3,4] Z)
 refine J 0 Z (C hf Z (fun h5 hf=>?_) fun h5 hf=>?_)
 ·
  refine V 3 Z (C hf Z (fun h6 hf=>?_) fun h6 hf=>?_)
  · cases hf; exact Wx 3 [0] Z Z (ZC [0] Z Z h)
  cases hf; exact Wx 3 [0] Z Z (ZC [0] Z Z h)
 refine B1 hf fun oZ h7 hf=>W 2 Z (CL Z (zw _ _ h7 (J 3 Z (C hf Z (fun h8 hf=>?_) fun h8 hf=>?_))))
 ·
  refine V 0 Z (AW.draw 7 mixed (by kernel_rfl) Z ?_); refine Ev.cs aH 2 Z ?_; refine B1 hf fun x3 h9 hf=>Ev.cons Z Z Z (AO.call Z _ Z Z aeL (KP _ h9 zg)) (Ev.cs aH 1 Z ?_); refine B1 hf fun x4 h10 hf=>Ev.cons Z Z Z (AO.call Z _ Z Z aeL (KP _ h10 zg)) ?_; refine B1 hf fun x5 h11 hf=>Ev.cons Z Z Z (AO.call Z _ Z Z Z6 (LP _ _ h11 zg)) ?_; refine B1 hf fun x6 h12 hf=>Ev.cons Z Z Z (AO.call Z _ Z Z X3 (qE _ _ h12 zg)) (Ev.nil ?_); show AR _ _ _ _ _ _ _ _; cases hf; exact Rx 2 [0] Z Z (ZC [0] Z Z h)
 refine B1 hf fun x7 kQ hf=>W 1 Z (CL Z (gq _ kQ (U 3 Z (On 3 34 37 [4,31] (oZ == 4) Z Z Z Z ?_)))); cases hf; exact Rx 2 [0] Z Z (ZC [0] Z Z h)
theorem WK (op1:Str) (a1:aj) (b1:aj) {r0:aj} {r1:Bool} (hf:kT op1 a1 b1=some (r0,r1)) (h:Q (.ret (.tuple [.agg (aN r0),.bool r1])) τ):PC 156 [.str op1,.agg (aN a1),.agg (aN b1)] τ Q:=by
 unfold kT at hf; refine BN 61 [.cell 6 54,.tmp 7] [0,1,2] Tryz.func156 Z Z Z Z Z (W 2 Z (AS Z (AO.aF Z gG (fun b6=>(J 4 Z (C hf Z (fun h1 hf=>?_) fun h1 hf=>?_))))))
 ·
  refine V 0 Z (AW.cond Z (fun h2=>?_) (fun h2=>?_))
  ·
   refine V 0 Z (AW.zF 4 7 8 0 mixed (by kernel_rfl) (by kernel_rfl) (by kernel_rfl) Z Z Z Z ?_); refine B1 hf fun x1 h3 hf=>Ev.cons Z Z Z (AO.call Z _ Z Z wW (gq _ h3 zg)) (Ev.cs aH 1 Z ?_); refine B1 hf fun x2 h4 hf=>Ev.cons Z Z Z (AO.call Z _ Z Z mZ (iD _ _ h4 zg)) (Ev.cs aH 1 Z (Ev.nil ?_)); show Ev _ _ _ _ _ _ _; refine B1 hf fun b2 h6 hf=>Ev.cZ Qa 3 16 19 true [6,13] (.bool b2) Z Z (fun h5=>?_) (fun h5=>?_) ?_
   · replace h6:=jN h5 h6; refine Ev.is r9 16 h5 Z (Ev.cs aH 1 Z ?_); refine BR h6 fun x3 h7 h6=>?_; refine Ev.run Z Z Z Z Z Z Z (AO.call Z _ Z Z mZ (iD _ _ h7 zg)) ?_; cases h6; refine Ev.cs aH 1 Z ?_; exact Ev.nil (Less.settle (ps:=[19,6,13]) Z)
   · replace h6:=jA h5 h6; refine Ev.is r9 16 h5 Z ?_; cases h6; refine Ev.cs aH 3 Z ?_; exact Ev.nil (Less.settle (ps:=[19,6,13]) Z)
   refine Ev.nil (TF.bQ Z Z (AO.cO (i:=0) Z Z Z fD Z Z Z Z Z (TF.nil ?_))); show AR _ _ _ _ _ _ _ _; cases hf; exact N 1 Z (ZC [0] Z Z h)
  cases h1.symm.trans h2
 refine V 2 Z (C hf Z (fun h8 hf=>?_) fun h8 hf=>?_)
 ·
  refine V 0 Z (AW.zF 4 7 8 0 mixed (by kernel_rfl) (by kernel_rfl) (by kernel_rfl) Z Z Z Z ?_); refine B1 hf fun x4 h9 hf=>Ev.cons Z Z Z (AO.call Z _ Z Z wW (gq _ h9 zg)) (Ev.cs aH 1 Z ?_); refine B1 hf fun x5 h10 hf=>Ev.cons Z Z Z (AO.call Z _ Z Z mZ (iD _ _ h10 zg)) (Ev.cs aH 1 Z (Ev.nil ?_)); show Ev _ _ _ _ _ _ _; refine B1 hf fun b3 h12 hf=>Ev.cZ Qa 3 16 19 true [6,13] (.bool b3) Z Z (fun h11=>?_) (fun h11=>?_) ?_
  · replace h12:=jN h11 h12; refine Ev.is r9 16 h11 Z (Ev.cs aH 1 Z ?_); refine BR h12 fun x6 kQ h12=>?_; refine Ev.run Z Z Z Z Z Z Z (AO.call Z _ Z Z mZ (iD _ _ kQ zg)) ?_; cases h12; refine Ev.cs aH 1 Z ?_; exact Ev.nil (Less.settle (ps:=[19,6,13]) Z)
  · replace h12:=jA h11 h12; refine Ev.is r9 16 h11 Z ?_; cases h12; refine Ev.cs aH 3 Z ?_; exact Ev.nil (Less.settle (ps:=[19,6,13]) Z)
  refine Ev.nil (TF.bQ Z Z (AO.cO (i:=0) Z Z Z fD Z Z Z Z Z (TF.nil ?_))); show AR _ _ _ _ _ _ _ _; cases hf; exact N 1 Z (ZC [0] Z Z h)
 refine V 2 Z (C hf Z (fun lQ hf=>?_) fun lQ hf=>?_)
 ·
  refine V 0 Z (AW.cond Z (fun ng=>?_) (fun ng=>?_))
  · refine B1 hf fun x7 h16 hf=>W 0 Z (CL Z (gq _ h16 ?_)); cases hf; exact Rx 2 [0] Z Z (ZC [0] Z Z h)
  cases lQ.symm.trans ng
 refine V 2 Z (C hf Z (fun vG hf=>?_) fun vG hf=>?_)
 · refine B1 hf fun x8 h18 hf=>W 0 Z (CL Z (gq _ h18 ?_)); cases hf; exact Rx 2 [0] Z Z (ZC [0] Z Z h)
 refine V 2 Z (C hf Z (fun h19 hf=>?_) fun h19 hf=>?_)
 ·
  refine V 0 Z (AW.cond Z (fun h20=>?_) (fun h20=>?_))
  ·
   refine B1 hf fun oZ h21 hf=>W 2 Z (CL Z (zw _ _ h21 (J 1 Z (AW.zF 12 15 16 0 mixed (by kernel_rfl) (by kernel_rfl) (by kernel_rfl) Z Z Z Z ?_)))); refine B1 hf fun x9 h22 hf=>Ev.cons Z Z Z (AO.call Z _ Z Z wW (gq _ h22 zg)) (Ev.cs aH 1 Z ?_); refine B1 hf fun BH h23 hf=>Ev.cons Z Z Z (AO.call Z _ Z Z Dc (je _ h23 zg)) (Ev.cs aH 1 Z ?_); refine B1 hf fun b4 DV hf=>Ev.cZ (hKE Qa) 3 35 38 true [6,8,32] (.bool b4) Z Z (fun Fb=>?_) (fun Fb=>?_) ?_
   · replace DV:=jN Fb DV; refine Ev.is r9 35 Fb Z (Ev.cs aH 1 Z ?_); refine BR DV fun Hl Ij DV=>?_; refine Ev.run Z Z Z Z Z Z Z (AO.call Z _ Z Z Dc (je _ Ij zg)) ?_; cases DV; refine Ev.cs aH 1 Z ?_; exact Ev.nil (Less.settle (ps:=[38,6,8,32]) Z)
   · replace DV:=jA Fb DV; refine Ev.is r9 35 Fb Z ?_; cases DV; refine Ev.cs aH 3 Z ?_; exact Ev.nil (Less.settle (ps:=[38,6,8,32]) Z)
   refine Ev.cs aH 1 Z (Ev.or1 (hKE Qa) 3 39 42 [6,8,32] (oZ == 3) Z Z (fun h27=>?_) (fun h27=>?_) ?_)
   · refine Ev.is r9 39 h27 Z (Ev.cs aH 3 Z ?_); exact Ev.nil (Less.settle (ps:=[42,6,8,32]) Z)
   · refine Ev.is r9 39 h27 Z (Ev.cs aH 3 Z ?_); exact Ev.nil (Less.settle (ps:=[42,6,8,32]) Z)
   refine Ev.cs aH 1 Z (Ev.nil ?_); show Ev _ _ _ _ _ _ _; refine Ev.or1 Qa 3 43 46 [6,32] (oZ == 4) Z Z (fun Qb=>?_) (fun Qb=>?_) ?_
   · refine Ev.is r9 43 Qb Z (Ev.cs aH 3 Z ?_); exact Ev.nil (Less.settle (ps:=[46,6,32]) Z)
   · refine Ev.is r9 43 Qb Z (Ev.cs aH 3 Z ?_); exact Ev.nil (Less.settle (ps:=[46,6,32]) Z)
   refine Ev.nil (TF.bQ Z Z (AO.cO (i:=0) Z Z Z fD Z Z Z Z Z (TF.nil ?_))); show AR _ _ _ _ _ _ _ _; cases hf; exact N 1 Z (ZC [0] Z Z h)
  cases h19.symm.trans h20
 refine V 2 Z (C hf Z (fun Ll hf=>?_) fun Ll hf=>?_)
 ·
  refine V 0 Z (AW.cond Z (fun Lj=>?_) (fun Lj=>?_))
  ·
   refine B1 hf fun kx2 h31 hf=>W 2 Z (CL Z (zw _ _ h31 (J 1 Z (AW.zF 12 15 16 0 mixed (by kernel_rfl) (by kernel_rfl) (by kernel_rfl) Z Z Z Z ?_)))); refine B1 hf fun Kn h32 hf=>Ev.cons Z Z Z (AO.call Z _ Z Z wW (gq _ h32 zg)) (Ev.cs aH 1 Z ?_); refine B1 hf fun KZ Io hf=>Ev.cons Z Z Z (AO.call Z _ Z Z Dc (je _ Io zg)) (Ev.cs aH 1 Z ?_); refine B1 hf fun b5 Ru hf=>Ev.cZ (hKE Qa) 3 35 38 true [6,8,32] (.bool b5) Z Z (fun Xa=>?_) (fun Xa=>?_) ?_
   · replace Ru:=jN Xa Ru; refine Ev.is r9 35 Xa Z (Ev.cs aH 1 Z ?_); refine BR Ru fun SQ Rt Ru=>?_; refine Ev.run Z Z Z Z Z Z Z (AO.call Z _ Z Z Dc (je _ Rt zg)) ?_; cases Ru; refine Ev.cs aH 1 Z ?_; exact Ev.nil (Less.settle (ps:=[38,6,8,32]) Z)
   · replace Ru:=jA Xa Ru; refine Ev.is r9 35 Xa Z ?_; cases Ru; refine Ev.cs aH 3 Z ?_; exact Ev.nil (Less.settle (ps:=[38,6,8,32]) Z)
   refine Ev.cs aH 1 Z (Ev.or1 (hKE Qa) 3 39 42 [6,8,32] (kx2 == 3) Z Z (fun h37=>?_) (fun h37=>?_) ?_)
   · refine Ev.is r9 39 h37 Z (Ev.cs aH 3 Z ?_); exact Ev.nil (Less.settle (ps:=[42,6,8,32]) Z)
   · refine Ev.is r9 39 h37 Z (Ev.cs aH 3 Z ?_); exact Ev.nil (Less.settle (ps:=[42,6,8,32]) Z)
   refine Ev.cs aH 1 Z (Ev.nil ?_); show Ev _ _ _ _ _ _ _; refine Ev.or1 Qa 3 43 46 [6,32] (kx2 == 4) Z Z (fun UZ=>?_) (fun UZ=>?_) ?_
   · refine Ev.is r9 43 UZ Z (Ev.cs aH 3 Z ?_); exact Ev.nil (Less.settle (ps:=[46,6,32]) Z)
   · refine Ev.is r9 43 UZ Z (Ev.cs aH 3 Z ?_); exact Ev.nil (Less.settle (ps:=[46,6,32]) Z)
   refine Ev.nil (TF.bQ Z Z (AO.cO (i:=0) Z Z Z fD Z Z Z Z Z (TF.nil ?_))); show AR _ _ _ _ _ _ _ _; cases hf; exact N 1 Z (ZC [0] Z Z h)
  cases Ll.symm.trans Lj
 refine V 2 Z (C hf Z (fun M0 hf=>?_) fun M0 hf=>?_)
 ·
  refine V 0 Z (AW.cond Z (fun h40=>?_) (fun h40=>?_))
  ·
   refine B1 hf fun kx3 h41 hf=>W 2 Z (CL Z (zw _ _ h41 (J 1 Z (AW.zF 12 15 16 0 mixed (by kernel_rfl) (by kernel_rfl) (by kernel_rfl) Z Z Z Z ?_)))); refine B1 hf fun OI h42 hf=>Ev.cons Z Z Z (AO.call Z _ Z Z wW (gq _ h42 zg)) (Ev.cs aH 1 Z ?_); refine B1 hf fun Iu h43 hf=>Ev.cons Z Z Z (AO.call Z _ Z Z Dc (je _ h43 zg)) (Ev.cs aH 1 Z ?_); refine B1 hf fun b6 h45 hf=>Ev.cZ (hKE Qa) 3 35 38 true [6,8,32] (.bool b6) Z Z (fun h44=>?_) (fun h44=>?_) ?_
   · replace h45:=jN h44 h45; refine Ev.is r9 35 h44 Z (Ev.cs aH 1 Z ?_); refine BR h45 fun SN h46 h45=>?_; refine Ev.run Z Z Z Z Z Z Z (AO.call Z _ Z Z Dc (je _ h46 zg)) ?_; cases h45; refine Ev.cs aH 1 Z ?_; exact Ev.nil (Less.settle (ps:=[38,6,8,32]) Z)
   · replace h45:=jA h44 h45; refine Ev.is r9 35 h44 Z ?_; cases h45; refine Ev.cs aH 3 Z ?_; exact Ev.nil (Less.settle (ps:=[38,6,8,32]) Z)
   refine Ev.cs aH 1 Z (Ev.or1 (hKE Qa) 3 39 42 [6,8,32] (kx3 == 3) Z Z (fun h47=>?_) (fun h47=>?_) ?_)
   · refine Ev.is r9 39 h47 Z (Ev.cs aH 3 Z ?_); exact Ev.nil (Less.settle (ps:=[42,6,8,32]) Z)
   · refine Ev.is r9 39 h47 Z (Ev.cs aH 3 Z ?_); exact Ev.nil (Less.settle (ps:=[42,6,8,32]) Z)
   refine Ev.cs aH 1 Z (Ev.nil ?_); show Ev _ _ _ _ _ _ _; refine Ev.or1 Qa 3 43 46 [6,32] (kx3 == 4) Z Z (fun h48=>?_) (fun h48=>?_) ?_
   · refine Ev.is r9 43 h48 Z (Ev.cs aH 3 Z ?_); exact Ev.nil (Less.settle (ps:=[46,6,32]) Z)
   · refine Ev.is r9 43 h48 Z (Ev.cs aH 3 Z ?_); exact Ev.nil (Less.settle (ps:=[46,6,32]) Z)
   refine Ev.nil (TF.bQ Z Z (AO.cO (i:=0) Z Z Z fD Z Z Z Z Z (TF.nil ?_))); show AR _ _ _ _ _ _ _ _; cases hf; exact N 1 Z (ZC [0] Z Z h)
  cases M0.symm.trans h40
 refine V 2 Z (C hf Z (fun h49 hf=>?_) fun h49 hf=>?_)
 ·
  refine B1 hf fun kx4 h50 hf=>W 2 Z (CL Z (zw _ _ h50 (J 1 Z (AW.zF 12 15 16 0 mixed (by kernel_rfl) (by kernel_rfl) (by kernel_rfl) Z Z Z Z ?_)))); refine B1 hf fun Zp h51 hf=>Ev.cons Z Z Z (AO.call Z _ Z Z wW (gq _ h51 zg)) (Ev.cs aH 1 Z ?_); refine B1 hf fun Zx h52 hf=>Ev.cons Z Z Z (AO.call Z _ Z Z Dc (je _ h52 zg)) (Ev.cs aH 1 Z ?_); refine B1 hf fun b7 h54 hf=>Ev.cZ (hKE Qa) 3 35 38 true [6,8,32] (.bool b7) Z Z (fun Px=>?_) (fun Px=>?_) ?_
  · replace h54:=jN Px h54; refine Ev.is r9 35 Px Z (Ev.cs aH 1 Z ?_); refine BR h54 fun x20 h55 h54=>?_; refine Ev.run Z Z Z Z Z Z Z (AO.call Z _ Z Z Dc (je _ h55 zg)) ?_; cases h54; refine Ev.cs aH 1 Z ?_; exact Ev.nil (Less.settle (ps:=[38,6,8,32]) Z)
  · replace h54:=jA Px h54; refine Ev.is r9 35 Px Z ?_; cases h54; refine Ev.cs aH 3 Z ?_; exact Ev.nil (Less.settle (ps:=[38,6,8,32]) Z)
  refine Ev.cs aH 1 Z (Ev.or1 (hKE Qa) 3 39 42 [6,8,32] (kx4 == 3) Z Z (fun h56=>?_) (fun h56=>?_) ?_)
  · refine Ev.is r9 39 h56 Z (Ev.cs aH 3 Z ?_); exact Ev.nil (Less.settle (ps:=[42,6,8,32]) Z)
  · refine Ev.is r9 39 h56 Z (Ev.cs aH 3 Z ?_); exact Ev.nil (Less.settle (ps:=[42,6,8,32]) Z)
  refine Ev.cs aH 1 Z (Ev.nil ?_); show Ev _ _ _ _ _ _ _; refine Ev.or1 Qa 3 43 46 [6,32] (kx4 == 4) Z Z (fun h57=>?_) (fun h57=>?_) ?_
  · refine Ev.is r9 43 h57 Z (Ev.cs aH 3 Z ?_); exact Ev.nil (Less.settle (ps:=[46,6,32]) Z)
  · refine Ev.is r9 43 h57 Z (Ev.cs aH 3 Z ?_); exact Ev.nil (Less.settle (ps:=[46,6,32]) Z)
  refine Ev.nil (TF.bQ Z Z (AO.cO (i:=0) Z Z Z fD Z Z Z Z Z (TF.nil ?_))); show AR _ _ _ _ _ _ _ _; cases hf; exact N 1 Z (ZC [0] Z Z h)
 refine V 2 Z (C hf Z (fun h58 hf=>?_) fun h58 hf=>?_)
 · replace hf:=(lG _).trans hf; obtain ⟨x21,x22,h59,hf⟩:=bK hf; refine W 2 Z (CL Z (ady _ _ h59 ?_)); cases hf; exact Rx 4 [0] Z Z (ZC [0] Z Z h)
 refine V 0 Z (AW.zF 4 7 8 0 mixed (by kernel_rfl) (by kernel_rfl) (by kernel_rfl) Z Z Z Z ?_); refine B1 hf fun x23 h60 hf=>Ev.cons Z Z Z (AO.call Z _ Z Z wW (gq _ h60 zg)) (Ev.cs aH 1 Z ?_); refine B1 hf fun x24 h61 hf=>Ev.cons Z Z Z (AO.call Z _ Z Z mZ (iD _ _ h61 zg)) (Ev.cs aH 1 Z (Ev.nil ?_)); show Ev _ _ _ _ _ _ _; refine B1 hf fun b8 h63 hf=>Ev.cZ Qa 3 57 60 true [6,54] (.bool b8) Z Z (fun h62=>?_) (fun h62=>?_) ?_
 · replace h63:=jN h62 h63; refine Ev.is r9 57 h62 Z (Ev.cs aH 1 Z ?_); refine BR h63 fun x25 h64 h63=>?_; refine Ev.run Z Z Z Z Z Z Z (AO.call Z _ Z Z mZ (iD _ _ h64 zg)) ?_; cases h63; refine Ev.cs aH 1 Z ?_; exact Ev.nil (Less.settle (ps:=[60,6,54]) Z)
 · replace h63:=jA h62 h63; refine Ev.is r9 57 h62 Z ?_; cases h63; refine Ev.cs aH 3 Z ?_; exact Ev.nil (Less.settle (ps:=[60,6,54]) Z)
 refine Ev.nil (TF.bQ Z Z (AO.cO (i:=0) Z Z Z fD Z Z Z Z Z (TF.nil ?_))); show AR _ _ _ _ _ _ _ _; cases hf; exact N 1 Z (ZC [0] Z Z h)
theorem aaL (e1:ak) (l1:List aj) {r0:aj} {r1:Bool} (hf:eX e1 l1=some (r0,r1)) (h:Q (.ret (.tuple [.agg (aN r0),.bool r1])) τ):PC 99 [.agg (bf e1),.list (aj.aT l1)] τ Q:=by
 unfold eX at hf; refine BN 108 [.cell 4 54,.tmp 5] [0,1] Tryz.func99 Z Z Z Z Z (W 1 Z (AS Z (AO.aF Z gG (fun b4=>(J 5 Z (C hf Z (fun h1 hf=>?_) fun h1 hf=>?_))))))
 ·
  refine B1 hf fun e2 h2 hf=>W 1 Z (AS Z (AO.aJ h2 Z Z (aj.aA _) Z dX (aj.aC _) Z (J 3 Z (C hf Z (fun h3 hf=>?_) fun h3 hf=>?_))))
  · refine B1 hf fun e3 h4 hf=>W 1 Z (AS Z (AO.aJ h4 Z Z (aj.aA _) Z dX (aj.aC _) Z ?_)); refine B1 hf fun e4 h5 hf=>U 2 Z (AS Z (AO.aJ h5 Z Z (aj.aA _) Z dX (aj.aC _) Z ?_)); cases hf; exact Rx 3 [0] Z Z (ZC [0] Z Z h)
  refine V 0 Z (AW.draw 7 mixed (by kernel_rfl) Z ?_); refine Ev.cs aH 1 Z ?_; refine B1 hf fun e5 h6 hf=>Ev.cons Z Z Z (AO.aJ h6 Z Z (aj.aA _) Z dX (aj.aC _) Z zg) (Ev.cs aH 2 Z ?_); refine B1 hf fun e6 h7 hf=>Ev.cons Z Z Z (AO.aJ h7 Z Z (aj.aA _) Z dX (aj.aC _) Z zg) (Ev.cs aH 1 Z ?_); refine B1 hf fun x1 h8 hf=>Ev.cons Z Z Z (AO.call Z _ Z Z Dc (je _ h8 zg)) (Ev.nil ?_); show AR _ _ _ _ _ _ _ _; cases hf; exact Rx 2 [0] Z Z (ZC [0] Z Z h)
 refine V 2 Z (C hf Z (fun h9 hf=>?_) fun h9 hf=>?_)
 ·
  refine V 0 Z (AW.draw 9 mixed (by kernel_rfl) Z ?_); refine Ev.cs aH 1 Z ?_; refine B1 hf fun e7 h10 hf=>Ev.cons Z Z Z (AO.aJ h10 Z Z (aj.aA _) Z dX (aj.aC _) Z zg) (Ev.cs aH 2 Z ?_); refine B1 hf fun e8 h11 hf=>Ev.cons Z Z Z (AO.aJ h11 Z Z (aj.aA _) Z dX (aj.aC _) Z zg) (Ev.cs aH 1 Z ?_); replace hf:=(lG _).trans hf; obtain ⟨x2,x3,h12,hf⟩:=bK hf; refine Ev.cons Z Z Z (AO.call Z _ Z Z ajF (YW _ _ h12 zg)) (Ev.cs aH 2 Z (Ev.nil ?_)); show AR _ _ _ _ _ _ _ _; cases hf; exact Rx 2 [0] Z Z (ZC [0] Z Z h)
 refine V 2 Z (C hf Z (fun kQ hf=>?_) fun kQ hf=>?_)
 · replace hf:=(lG _).trans hf; obtain ⟨x4,x5,lQ,hf⟩:=bK hf; refine W 3 Z (CL Z (aaO _ _ lQ ?_)); cases hf; exact Rx 4 [0] Z Z (ZC [0] Z Z h)
 refine V 2 Z (C hf Z (fun ng hf=>?_) fun ng hf=>?_)
 ·
  refine V 4 Z (C hf Z (fun h16 hf=>?_) fun h16 hf=>?_)
  ·
   refine V 1 Z (AW.draw 7 mixed (by kernel_rfl) Z ?_); refine Ev.cs aH 1 Z ?_; refine B1 hf fun x6 vG hf=>Ev.cons Z Z Z (AO.call Z _ Z Z wW (gq _ vG zg)) (Ev.cs aH 1 Z ?_); refine B1 hf fun e9 h18 hf=>Ev.cons Z Z Z (AO.aJ h18 Z Z (aj.aA _) Z dX (aj.aC _) Z zg) (Ev.cs aH 2 Z ?_); refine B1 hf fun x7 h19 hf=>Ev.cons Z Z Z (AO.call Z _ Z Z mZ (iD _ _ h19 zg)) (Ev.nil ?_); show AR _ _ _ _ _ _ _ _; cases hf; exact Rx 2 [0] Z Z (ZC [0] Z Z h)
  refine V 0 Z (AW.draw 7 mixed (by kernel_rfl) Z ?_); refine Ev.cs aH 1 Z ?_; refine B1 hf fun x8 h20 hf=>Ev.cons Z Z Z (AO.call Z _ Z Z wW (gq _ h20 zg)) (Ev.cs aH 1 Z ?_); refine B1 hf fun e10 h21 hf=>Ev.cons Z Z Z (AO.aJ h21 Z Z (aj.aA _) Z dX (aj.aC _) Z zg) (Ev.cs aH 2 Z ?_); refine B1 hf fun x9 h22 hf=>Ev.cons Z Z Z (AO.call Z _ Z Z mZ (iD _ _ h22 zg)) (Ev.nil ?_); show AR _ _ _ _ _ _ _ _; cases hf; exact Rx 2 [0] Z Z (ZC [0] Z Z h)
 refine V 2 Z (C hf Z (fun h23 hf=>?_) fun h23 hf=>?_)
 ·
  refine V 0 Z (AW.draw 11 mixed (by kernel_rfl) Z ?_); refine Ev.cs aH 3 Z ?_; refine B1 hf fun e11 Fb hf=>Ev.cons Z Z Z (AO.aJ Fb Z Z (aj.aA _) Z dX (aj.aC _) Z zg) (Ev.cs aH 2 Z ?_); refine B1 hf fun e12 DV hf=>Ev.cons Z Z Z (AO.aJ DV Z Z (aj.aA _) Z dX (aj.aC _) Z zg) (Ev.cs aH 1 Z ?_); replace hf:=(lG _).trans hf; obtain ⟨BH,Hl,Ij,hf⟩:=bK hf; refine Ev.cons Z Z Z (AO.call Z _ Z Z ajE (WK _ _ _ Ij zg)) (Ev.cs aH 2 Z (Ev.nil ?_)); show AR _ _ _ _ _ _ _ _; cases hf; exact Rx 2 [0] Z Z (ZC [0] Z Z h)
 refine V 2 Z (C hf Z (fun h27 hf=>?_) fun h27 hf=>?_)
 ·
  refine V 0 Z (AW.draw 11 mixed (by kernel_rfl) Z ?_); refine Ev.cs aH 1 Z ?_; refine B1 hf fun e13 Qb hf=>Ev.cons Z Z Z (AO.aJ Qb Z Z (aj.aA _) Z dX (aj.aC _) Z zg) (Ev.cs aH 2 Z ?_); refine B1 hf fun e14 Ll hf=>Ev.cons Z Z Z (AO.aJ Ll Z Z (aj.aA _) Z dX (aj.aC _) Z zg) (Ev.cs aH 1 Z ?_); refine B1 hf fun Kn Lj hf=>Ev.cons Z Z Z (AO.call Z _ Z Z Z6 (LP _ _ Lj zg)) (Ev.cs aH 1 Z ?_); refine B1 hf fun e15 h31 hf=>Ev.cons Z Z Z (AO.aJ h31 Z Z (aj.aA _) Z dX (aj.aC _) Z zg) (Ev.cs aH 1 Z ?_); refine B1 hf fun KZ h32 hf=>Ev.cons Z Z Z (AO.call Z _ Z Z mZ (iD _ _ h32 zg)) (Ev.nil ?_); show AR _ _ _ _ _ _ _ _; cases hf; exact Rx 2 [0] Z Z (ZC [0] Z Z h)
 refine B1 hf fun SQ Io hf=>W 0 Z (CL Z (gq _ Io (AS Z (AO.aF Z gG (fun b7=>?_))))); refine Rw 2 [0] Z Z (Zn (fun i1 t1=>[(1,.list (aj.aT l1)),(2,.ref (bf e1)),(4,pP b4),(7,pP b7),(8,iP i1)]) (fun i1 t1=>[.box b7 (aN t1),.box b4 [iP 0,.own (.slice none 0 0) []]]) (fun bP i1 t1=>AV e1 l1 bP i1 t1=some (r0,r1)) BIG 0 SQ Z Z hf (fun _ _ hz=>bG hz) ?_); intro bP i1 t1 hf; rw [AV] at hf; refine W 2 Z (AS Z (AO.aM (l:=l1) Z Z Z Z dX Z (aj.aA _) (J 1 Z (C hf Z (fun Xa hf=>?_) fun Xa hf=>?_))))
 ·
  refine V 0 Z (AW.draw 6 mixed (by kernel_rfl) Z ?_); refine Ev.cons Z Z Z (AO.aP (i:=0) Z Z Z fD Z Z zg) (Ev.cs aH 2 Z ?_); refine B1 hf fun e16 Ru hf=>Ev.cons Z Z Z (AO.aJ Ru Z Z (aj.aA _) Z dX (aj.aC _) Z zg) (Ev.cs aH 1 Z ?_); refine B1 hf fun OI Rt hf=>Ev.cons Z Z Z (AO.call Z _ Z Z Z6 (LP _ _ Rt zg)) (Ev.nil ?_); show AR _ _ _ _ _ _ _ _; exact Rx 4 [0] Z Z ⟨(bW (i1 + 1)),OI,Z,Z,Z,hf⟩
 refine V 3 Z (C hf Z (fun h37 hf=>?_) fun h37 hf=>?_)
 · refine B1 hf fun Iu UZ hf=>Wr 1 [0] Z Z (CL Z (qE _ _ UZ ?_)); cases hf; exact Rx 2 [1] Z Z (ZC [1] Z Z h)
 refine B1 hf fun SN M0 hf=>Wr 1 [0] Z Z (CL Z (qE _ _ M0 ?_)); cases hf; exact Rx 2 [1] Z Z (ZC [1] Z Z h)
abbrev SH (oo:ak→List aG→Option (aj × Int)):Prop:=∀ (iO:ak) (gB:List aG) {aO:aj} {l7:Int},oo iO gB=some (aO,l7)→∀ {τ:List bg} {Q:eD→List bg→Prop} (h:Q (.ret (.tuple [.agg (aN aO),iP l7])) τ),PC 61 [.agg (bf iO),.list (List.map aG.cells gB)] τ Q
theorem ZA (oo) (V_:SH oo) (e1:ak) (b_:List aG) {r0:aj} {r1:Int} (hf:wU oo e1 b_=some (r0,r1)) (h:Q (.ret (.tuple [.agg (aN r0),iP r1])) τ):PC 61 [.agg (bf e1),.list (List.map aG.cells b_)] τ Q:=by
 unfold wU at hf; refine BN 87 [.cell 4 54,.tmp 5] [0,1] Tryz.func61 Z Z Z Z Z (W 1 Z (AS Z (AO.aF Z gG (fun b4=>(U 5 Z (On 4 15 19 [1,2,4] (e1.kind == 2) Z Z Z Z (J 0 Z (C hf Z (fun h2 hf=>?_) fun h2 hf=>?_))))))))
 · replace hf:=(lG _).trans hf; obtain ⟨x1,x2,h3,hf⟩:=bK hf; refine W 2 Z (CL Z (aaM _ _ h3 ?_)); cases hf; exact Rx 4 [0] Z Z (ZC [0] Z Z h)
 refine B1 hf fun b1 h5 hf=>W 4 Z (AR.cZ 5 28 33 true [1,2,4] b1 Z Z (fun h4=>?_) (fun h4=>?_) ?_)
 · refine IT 28 h4 h5 Z fun h5=>?_; refine B1 h5 fun x3 h6 h5=>U 2 Z (GO Z (AO.call Z _ Z Z aif (R8 _ h6 ?_))); cases h5; exact dY 2 Z (En [33,1,2,4] Z)
 · refine IF 28 h4 h5 Z fun h5=>?_; cases h5; exact dY 5 Z (En [33,1,2,4] Z)
 refine J 0 Z (C hf Z (fun h7 hf=>?_) fun h7 hf=>?_)
 · cases hf; exact Wx 3 [0] Z Z (ZC [0] Z Z h)
 refine V 0 Z (AW.draw 12 mixed (by kernel_rfl) Z ?_); refine Ev.cs aH 4 Z ?_; refine B1 hf fun b2 h9 hf=>Ev.cZ hKA 8 38 46 true [1,2,4] (.bool b2) Z Z (fun h8=>?_) (fun h8=>?_) ?_
 · replace h9:=jN h8 h9; refine Ev.is r9 38 h8 Z (Ev.cs aH 2 Z ?_); refine B1 h9 fun x4 h10 h9=>Ev.run Z Z Z Z Z Z Z (AO.call Z _ Z Z aif (R8 _ h10 zg)) (Ev.cs aH 2 Z (Ev.run Z Z Z Z Z Z Z (AO.aM (l:=e1.args) Z Z Z Z g_ Z (ak.aA _) zg) (Ev.cs aH 1 Z ?_))); cases h9; refine Ev.cs aH 1 Z ?_; exact Ev.nil (Less.settle (ps:=[46,1,2,4]) Z)
 · replace h9:=jA h8 h9; refine Ev.is r9 38 h8 Z ?_; cases h9; refine Ev.cs aH 8 Z ?_; exact Ev.nil (Less.settle (ps:=[46,1,2,4]) Z)
 refine Ev.nil ?_; show AR _ _ _ _ _ _ _ _; refine J 0 Z (C hf Z (fun h11 hf=>?_) fun h11 hf=>?_)
 · cases hf; exact Wx 3 [0] Z Z (ZC [0] Z Z h)
 refine V 2 Z (AW.row 2 54 (LK3 (fun l1 v1 i1=>[(1,.list (List.map aG.cells b_)),(2,.ref (bf e1)),(4,pP b4),(6,.own v1 (aj.aT l1)),(7,iP i1)]) (fun l1 v1 i1=>[.row v1 (aj.aT l1).length 2 54,.box b4 [iP 0,.own (.slice none 0 0) []]]) (fun bP l1 v1 i1=>pQ oo e1 b_ bP l1 i1=some (r0,r1)) BIG [] (.slice none 0 0) 0 Z Z hf (fun _ _ _ hz=>bG hz) ?_)); intro bP l1 v1 i1 hf; rw [pQ] at hf; refine W 3 Z (AS Z (AO.aM (l:=e1.args) Z Z Z Z g_ Z (ak.aA _) (J 1 Z (C hf Z (fun h12 hf=>?_) fun h12 hf=>?_))))
 ·
  refine B1 hf fun e2 kQ hf=>W 3 Z (AS Z (AO.aJ kQ Z Z (ak.aA _) Z g_ (ak.aC _) Z ?_)); obtain ⟨x5,f1,lQ,hf⟩:=bK hf; refine U 2 Z (CL Z (V_ _ _ lQ (U 3 Z (AS Z (AO.aF Z gG (fun b8=>(Rw 4 [0] Z Z (C hf Z (fun ng hf=>?_) fun ng hf=>?_))))))))
  · cases hf; exact Wx 4 [2] Z Z (ZC [2] Z Z h)
  refine Wr 2 [0] rfl rfl (AS rfl (AO.aX (aj.aT [x5]) rfl rC rfl rfl rfl (by first | rfl | simp only [List.map,aj.aC,aj.aT]) ?_)); refine B1 hf fun l2 h16 hf=>AS Z (AO.iC (i:=1) (l:=l1) (m:=[x5]) h16 Z Z Z Z Z Z Z rC dX (aj.aA _) (aj.aA _) (aj.aA _).symm (aj.dL) (aj.cells_one) (by decide) (fun v2 s1 hs1=>?_)); cases hs1; refine dY 4 Z (AR.drop1 ?_); exact N 0 Z ⟨l2,v2,(bW (i1 + 1)),Z,Z,Z,hf⟩
 obtain ⟨x6,ok1,vG,hf⟩:=bK hf; refine W 2 Z (CL Z (aaL _ _ vG (U 3 Z (AS Z (AO.aF Z gG (fun b10=>(Rw 4 [0] Z Z (C hf Z (fun h18 hf=>?_) fun h18 hf=>?_))))))))
 · cases hf; exact Wx 3 [2] Z Z (ZC [2] Z Z h)
 refine B1 hf fun x7 h19 hf=>Wr 1 [0] Z Z (CL Z (EF _ h19 (J 1 Z (C hf Z (fun h20 hf=>?_) fun h20 hf=>?_))))
 · cases hf; exact Wx 3 [2] Z Z (ZC [2] Z Z h)
 cases hf; exact Wx 3 [0,2] Z Z (ZC [2] Z Z h)
theorem aah :∀ k:Nat,(SH (gZ k)):=by
 intro k
 induction k with
 | zero=>exact fun _ _ _ _ hz=>by first | cases hz | (unfold gZ at hz; cases hz)
 | succ k ih=>exact fun iO gB aO l7 hz τ Q hq=>ZA (gZ k) ih iO gB hz hq
theorem R7 (iO:ak) (gB:List aG) {aO:aj} {l7:Int} (hf:mW iO gB=some (aO,l7)) (h:Q (.ret (.tuple [.agg (aN aO),iP l7])) τ):PC 61 [.agg (bf iO),.list (List.map aG.cells gB)] τ Q:=
 ((aah BIG)) iO gB hf h
theorem aaP (e1:ak) (b_:List aG) {r0:aj} {r1:Int} (hf:C_ e1 b_=some (r0,r1)) (h:Q (.ret (.tuple [.agg (aN r0),iP r1])) τ):PC 37 [.agg (bf e1),.list (List.map aG.cells b_)] τ Q:=by
 unfold C_ at hf; refine BN 25 [.cell 4 54,.tmp 5] [0,1] Tryz.func37 Z Z Z Z Z (W 1 Z (AS Z (AO.aF Z gG (fun b4=>?_)))); refine B1 hf fun f1 h1 hf=>U 2 Z (CL Z (adz _ h1 (J 3 Z (C hf Z (fun h2 hf=>?_) fun h2 hf=>?_))))
 · cases hf; exact Wx 4 [0] Z Z (ZC [0] Z Z h)
 refine B1 hf fun f2 h3 hf=>W 1 Z (CL Z (Y2 _ h3 (J 3 Z (C hf Z (fun h4 hf=>?_) fun h4 hf=>?_))))
 · cases hf; exact Wx 4 [0] Z Z (ZC [0] Z Z h)
 replace hf:=(lG _).trans hf; obtain ⟨x1,x2,h5,hf⟩:=bK hf; refine W 2 Z (CL Z (R7 _ _ h5 ?_)); cases hf; exact Rx 4 [0] Z Z (ZC [0] Z Z h)
abbrev SG (xP:aj→Option Bool):Prop:=∀ (wJ:aj) {aO:Bool},xP wJ=some aO→∀ {τ:List bg} {Q:eD→List bg→Prop} (h:Q (.ret (.bool aO)) τ),PC 66 [.agg (aN wJ)] τ Q
theorem Zz (xP) (V9:SG xP) (t1:aj) {r0:Bool} (hf:C9 xP t1=some r0) (h:Q (.ret (.bool r0)) τ):PC 66 [.agg (aN t1)] τ Q:=by
 unfold C9 at hf; refine BN 19 [.tmp 2] [0] Tryz.func66 Z Z Z Z Z ?_; refine BR hf fun b1 h2 hf=>?_; refine W 6 Z (AR.cZ 12 6 18 true [] b1 Z Z (fun h1=>?_) (fun h1=>?_) ?_)
 ·
  replace h2:=jN h1 h2; refine Is 6 h1 Z (U 2 Z (GO Z (AO.aM (l:=t1.elem) Z Z Z Z dX Z (aj.aA _) ?_))); refine BR h2 fun b2 h4 h2=>?_; refine U 2 Z (AR.cZ 6 11 17 false [6] b2 Z Z (fun h3=>?_) (fun h3=>?_) ?_)
  · refine IF 11 h3 h4 Z fun h4=>?_; refine B1 h4 fun e1 h5 h4=>U 2 Z (GO Z (AO.aJ h5 Z Z (aj.aA _) Z dX (aj.aC _) Z ?_)); refine BR h4 fun x1 h6 h4=>?_; refine U 1 Z (GO Z (AO.call Z _ Z Z aii (V9 _ h6 ?_))); cases h4; exact dY 1 Z (En [17,6] Z)
  · refine IT 11 h3 h4 Z fun h4=>?_; cases h4; exact dY 6 Z (En [17,6] Z)
  cases h2; exact dY 1 Z (En [18] Z)
 · refine IF 6 h1 h2 Z fun h2=>?_; cases h2; exact dY 12 Z (En [18] Z)
 cases hf; exact N 1 Z (Y Z h)
theorem aag :∀ k:Nat,(SG (tZ k)):=by
 intro k
 induction k with
 | zero=>exact fun _ _ hz=>by first | cases hz | (unfold tZ at hz; cases hz)
 | succ k ih=>exact fun wJ aO hz τ Q hq=>Zz (tZ k) ih wJ hz hq
theorem aaN (wJ:aj) {aO:Bool} (hf:MC wJ=some aO) (h:Q (.ret (.bool aO)) τ):PC 66 [.agg (aN wJ)] τ Q:=
 ((aag BIG)) wJ hf h
abbrev Nz (kR:ak→List aG→Option Bool):Prop:=∀ (iO:ak) (gB:List aG) {aO:Bool},kR iO gB=some aO→∀ {τ:List bg} {Q:eD→List bg→Prop} (h:Q (.ret (.bool aO)) τ),PC 42 [.agg (bf iO),.list (List.map aG.cells gB)] τ Q
theorem Vs (kR) (Rv:Nz kR) (e1:ak) (b_:List aG) {r0:Bool} (hf:Ca kR e1 b_=some r0) (h:Q (.ret (.bool r0)) τ):PC 42 [.agg (bf e1),.list (List.map aG.cells b_)] τ Q:=by
 unfold Ca at hf; refine BN 36 [.tmp 4] [0,1] Tryz.func42 Z Z Z Z Z ?_; obtain ⟨x1,f1,h1,hf⟩:=bK hf; refine W 4 Z (CL Z (R7 _ _ h1 (U 3 Z (AS Z (AO.aF Z gG (fun b5=>?_)))))); refine B1 hf fun b1 h3 hf=>Rr 5 [0] Z Z (AR.cZ 4 16 20 false [1,2] b1 Z Z (fun h2=>?_) (fun h2=>?_) ?_)
 · replace h3:=jA h2 h3; refine Is 16 h2 Z (GO Z (AO.aP (i:=0) Z Z Z fD Z Z ?_)); refine B1 h3 fun x2 h4 h3=>GO Z (AO.call Z _ Z Z aii (aaN _ h4 ?_)); cases h3; exact dY 2 Z (En [20,1,2] Z)
 · refine IT 16 h2 h3 Z fun h3=>?_; cases h3; exact dY 4 Z (En [20,1,2] Z)
 refine J 0 Z (C hf Z (fun h5 hf=>?_) fun h5 hf=>?_)
 · cases hf; exact M 1 Z (Y Z h)
 refine V 1 Z (E_ (fun i1=>[(1,.list (List.map aG.cells b_)),(2,.ref (bf e1)),(7,iP i1)]) (fun i1=>[.box b5 (aN x1)]) (fun bP i1=>wo kR e1 b_ bP i1=some r0) BIG 0 Z Z hf (fun _ hz=>bG hz) ?_); intro bP i1 hf; rw [wo] at hf; refine W 3 Z (AS Z (AO.aM (l:=e1.args) Z Z Z Z g_ Z (ak.aA _) (J 1 Z (C hf Z (fun h6 hf=>?_) fun h6 hf=>?_))))
 ·
  refine B1 hf fun e2 h7 hf=>W 3 Z (AS Z (AO.aJ h7 Z Z (ak.aA _) Z g_ (ak.aC _) Z ?_)); refine B1 hf fun x3 h8 hf=>U 2 Z (CL Z (Rv _ _ h8 (J 1 Z (C hf Z (fun h9 hf=>?_) fun h9 hf=>?_))))
  · cases hf; exact M 1 Z (Y Z h)
  exact M 3 Z ⟨(bW (i1 + 1)),Z,Z,Z,hf⟩
 cases hf; exact M 1 Z (Y Z h)
theorem VW :∀ k:Nat,(Nz (nW k)):=by
 intro k
 induction k with
 | zero=>exact fun _ _ _ hz=>by first | cases hz | (unfold nW at hz; cases hz)
 | succ k ih=>exact fun iO gB aO hz τ Q hq=>Vs (nW k) ih iO gB hz hq
theorem WJ (iO:ak) (gB:List aG) {aO:Bool} (hf:K_ iO gB=some aO) (h:Q (.ret (.bool aO)) τ):PC 42 [.agg (bf iO),.list (List.map aG.cells gB)] τ Q:=
 ((VW BIG)) iO gB hf h
theorem WL (e1:ak) (b_:List aG) {r0:Bool} (hf:zQ e1 b_=some r0) (h:Q (.ret (.bool r0)) τ):PC 22 [.agg (bf e1),.list (List.map aG.cells b_)] τ Q:=by
 unfold zQ at hf; refine BN 20 [.tmp 4] [0,1] Tryz.func22 Z Z Z Z Z ?_; obtain ⟨x1,f1,h1,hf⟩:=bK hf; refine W 4 Z (CL Z (aaP _ _ h1 (U 3 Z (AS Z (AO.aF Z gG (fun b5=>?_)))))); refine BR hf fun b1 h3 hf=>?_; refine Rr 5 [0] Z Z (AR.cZ 4 15 19 true [] b1 Z Z (fun h2=>?_) (fun h2=>?_) ?_)
 · refine IT 15 h2 h3 Z fun h3=>?_; refine BR h3 fun x2 h4 h3=>?_; refine U 2 Z (GO Z (AO.call Z _ Z Z alm (WJ _ _ h4 ?_))); cases h3; exact dY 1 Z (En [19] Z)
 · refine IF 15 h2 h3 Z fun h3=>?_; cases h3; exact dY 4 Z (En [19] Z)
 cases hf; exact N 1 Z (Y Z h)
section
variable [Hf]
theorem JO (iK:ak) (bR:List Int) (bU:List aB) {r0:Bool} (hf:rP iK bR bU=some r0) (h:Q (.ret (.bool r0)) τ):PC 8 [.agg (bf iK),.list (List.map FQ bR),.list (List.map aB.cells bU)] τ Q:=by
 unfold rP at hf; refine BN 76 [.tmp 6] [0,1,2] Tryz.func8 Z Z Z Z Z (W 4 Z (AS Z (AO.aM (l:=bR) Z Z Z Z Ju Z Z (U 1 Z (AS Z (AO.aM (l:=bU) Z Z Z Z nA Z Z ?_)))))); refine B1 hf fun x1 h1 hf=>U 1 Z (CL Z (Zb _ _ h1 ?_)); refine B1 hf fun b1 h3 hf=>U 2 Z (AR.cZ 6 19 25 false [1,2,3] b1 Z Z (fun h2=>?_) (fun h2=>?_) ?_)
 · refine IF 19 h2 h3 Z fun h3=>?_; refine B1 h3 fun x2 h4 h3=>U 2 Z (GO Z (AO.call Z _ Z Z alx (adw _ _ h4 ?_))); refine B1 h3 fun x3 h5 h3=>GO Z (AO.call Z _ Z Z alv (adx _ h5 ?_)); cases h3; exact dY 2 Z (En [25,1,2,3] Z)
 · refine IT 19 h2 h3 Z fun h3=>?_; cases h3; exact dY 6 Z (En [25,1,2,3] Z)
 refine J 0 Z (C hf Z (fun h6 hf=>?_) fun h6 hf=>?_)
 · refine BR hf fun x4 h7 hf=>?_; refine W 0 Z (CL Z (JN  h7 ?_)); cases hf; exact N 1 Z (Y Z h)
 refine V 2 Z (AW.row 3 57 (LK3 (fun l1 v1 i1=>[(1,.list (List.map FQ bR)),(2,.list (List.map aB.cells bU)),(3,.ref (bf iK)),(7,.own v1 (List.map aG.cells l1)),(8,iP i1)]) (fun l1 v1 i1=>[.row v1 (List.map aG.cells l1).length 3 57]) (fun bP l1 v1 i1=>lV iK bR bU bP l1 i1=some r0) BIG [] (.slice none 0 0) 0 Z Z hf (fun _ _ _ hz=>bG hz) ?_)); intro bP l1 v1 i1 hf; rw [lV] at hf; refine W 2 Z (AS Z (AO.aM (l:=bU) Z Z Z Z nA Z Z (J 1 Z (C hf Z (fun h8 hf=>?_) fun h8 hf=>?_))))
 ·
  refine V 0 Z (AW.draw 14 mixed (by kernel_rfl) Z ?_); refine Ev.cs aH 3 Z ?_; refine B1 hf fun e1 h9 hf=>Ev.cons Z Z Z (AO.aJ h9 Z Z Z Z nA (aB.aC _) Z zg) (Ev.cs aH 4 Z ?_); refine B1 hf fun e2 h10 hf=>Ev.cons Z Z Z (AO.aJ h10 Z Z Z Z nA (aB.aC _) Z zg) (Ev.cs aH 2 Z ?_); refine B1 hf fun x5 h11 hf=>Ev.cons rfl rfl rfl (AO.call rfl _ rfl rfl alu (Y6 _ h11 ⟨rfl,rfl⟩)) (Ev.cons rfl rfl rfl (AO.build rfl aa4 ael rfl ⟨rfl,rfl⟩) (Ev.cons rfl rfl rfl (AO.aX (List.map aG.cells [(aG.mk e1.name x5)]) rfl Mr rfl rfl rfl (by first | rfl | simp only [List.map,aG.aC]) ⟨rfl,rfl⟩) ?_))
  refine Ev.nil ?_; show AR _ _ _ _ _ _ _ _; refine B1 hf fun l2 h12 hf=>AS Z (AO.iC (i:=0) (l:=l1) (m:=[(aG.mk e1.name x5)]) h12 Z Z Z Z Z Z Z Mr zl Z Z Z (aG.dL) (aG.cells_one) (by decide) (fun v2 s1 hs1=>?_)); cases hs1; exact N 4 Z ⟨l2,v2,(bW (i1 + 1)),Z,Z,Z,hf⟩
 refine B1 hf fun x6 kQ hf=>W 2 Z (CL Z (tC _ _ kQ (J 1 Z (C hf Z (fun lQ hf=>?_) fun lQ hf=>?_))))
 · refine BR hf fun x7 ng hf=>?_; refine W 0 Z (CL Z (JN  ng ?_)); cases hf; exact N 1 Z (Y Z h)
 obtain ⟨x8,e3,h16,hf⟩:=bK hf; refine W 3 Z (CL Z (Gd _ _ _ h16 (J 5 Z (AW.draw 17 mixed (by kernel_rfl) Z ?_)))); refine Ev.cs aH 3 Z ?_; refine B1 hf fun b2 h18 hf=>Ev.cZ hKA 10 62 72 true [] (.bool b2) Z Z (fun vG=>?_) (fun vG=>?_) ?_
 ·
  replace h18:=jN vG h18; refine Ev.is r9 62 vG Z (Ev.cs aH 3 Z ?_); refine BR h18 fun b3 h20 h18=>?_; refine Ev.cZ r9 6 65 71 false [62] (.bool b3) Z Z (fun h19=>?_) (fun h19=>?_) ?_
  · replace h20:=jA h19 h20; refine Ev.is r9 65 h19 Z (Ev.cs aH 2 Z ?_); refine B1 h20 fun x9 h21 h20=>Ev.run Z Z Z Z Z Z Z (AO.call Z _ Z Z alr (YV _ h21 zg)) ?_; refine B1 h20 fun BH h22 h20=>Ev.run Z Z Z Z Z Z Z (AO.call Z _ Z Z als (WL _ _ h22 zg)) (Ev.cs aH 1 Z ?_); cases h20; refine Ev.cs aH 1 Z ?_; exact Ev.nil (Less.settle (ps:=[71,62]) Z)
  · replace h20:=jN h19 h20; refine Ev.is r9 65 h19 Z ?_; cases h20; refine Ev.cs aH 6 Z ?_; exact Ev.nil (Less.settle (ps:=[71,62]) Z)
  cases h18; refine Ev.cs aH 1 Z ?_; exact Ev.nil (Less.settle (ps:=[72]) Z)
 · replace h18:=jA vG h18; refine Ev.is r9 62 vG Z ?_; cases h18; refine Ev.cs aH 10 Z ?_; exact Ev.nil (Less.settle (ps:=[72]) Z)
 refine Ev.cs aH 1 Z ?_; refine BR hf fun b4 Fb hf=>?_; refine Ev.cZ hKA 2 73 75 true [] (.bool b4) Z Z (fun h23=>?_) (fun h23=>?_) ?_
 · replace Fb:=jN h23 Fb; refine Ev.is r9 73 h23 Z ?_; refine BR Fb fun Hl DV Fb=>?_; refine Ev.run Z Z Z Z Z Z Z (AO.call Z _ Z Z amE (JN  DV zg)) ?_; cases Fb; refine Ev.cs aH 1 Z ?_; exact Ev.nil (Less.settle (ps:=[75]) Z)
 · replace Fb:=jA h23 Fb; refine Ev.is r9 73 h23 Z ?_; cases Fb; refine Ev.cs aH 2 Z ?_; exact Ev.nil (Less.settle (ps:=[75]) Z)
 refine Ev.cs aH 1 Z (Ev.nil ?_); show AR _ _ _ _ _ _ _ _; cases hf; exact N 0 Z (Y Z h)
end
end Go.Proofs.YtggpjlegajicnaaGreatDoor
