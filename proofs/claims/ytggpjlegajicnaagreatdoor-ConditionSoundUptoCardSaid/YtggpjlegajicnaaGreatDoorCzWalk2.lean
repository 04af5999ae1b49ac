/- Proved here: each function does what its functional text says (part 2). -/
import Derived.Test.YtggpjlegajicnaaGreatDoorCzWalk1
set_option linter.unusedVariables false
set_option linter.unusedSimpArgs false
set_option linter.unusedSectionVars false
namespace Go.Proofs.YtggpjlegajicnaaGreatDoor
open Go Go.Abs Go.Ft
set_option maxRecDepth 20000
attribute [local irreducible] AO AR AW AC
variable [gX]
variable {τ : List bJ} {Q : eT → List bJ → Prop}
@[reducible] def Ql :fO aM ah→eT
 | .ok r=>.ret (.agg (aK r))
 | .bad e=>.panic (.iface 111 (.agg [iP e.code]))

theorem Ja (op1:Str) (a1:ah) (b1:ah) {rX:fO aM ah} (hf:sK op1 a1 b1=some rX) (h:Q (Ql rX) τ):PC 186 [.str op1,.agg (aK a1),.agg (aK b1)] τ Q:=by
 unfold sK at hf; refine BN 46 [.cell 6 31] [0,1,2] Tryz.func186 Z Z Z Z Z (W 2 Z (AS Z (AO.aF Z gq (fun b6=>?_)))); refine B1 hf fun x1 h1 hf=>U 2 Z (CL Z (vk _ _ _ h1 ?_)); rcases bS hf with ⟨e1,h2,hf⟩ | ⟨_,h2,hf⟩
 · refine CL Z (bP _ _ h2 ?_); cases hf; exact ⟨Z,[],List.nil_sublist _,h⟩
 refine CL Z (bP _ _ h2 (J 3 Z (C hf Z (fun h3 hf=>?_) fun h3 hf=>?_)))
 ·
  rcases bS hf with ⟨e2,h4,hf⟩ | ⟨x2,h4,hf⟩
  · refine W 5 Z (CL Z (qR _ h4 ?_)); cases hf; exact ⟨Z,[],List.nil_sublist _,h⟩
  refine W 5 Z (CL Z (qR _ h4 ?_)); cases hf; exact Rx 1 [0] Z Z (ZC [0] Z Z h)
 refine V 2 Z (C hf Z (fun h5 hf=>?_) fun h5 hf=>?_)
 ·
  refine B1 hf fun x3 h6 hf=>W 4 Z (CL Z (ahW _ _ h6 ?_)); rcases bS hf with ⟨e3,h7,hf⟩ | ⟨x4,h7,hf⟩
  · refine CL Z (qR _ h7 ?_); cases hf; exact ⟨Z,[],List.nil_sublist _,h⟩
  refine CL Z (qR _ h7 ?_); cases hf; exact Rx 1 [0] Z Z (ZC [0] Z Z h)
 rcases bS hf with ⟨e4,h8,hf⟩ | ⟨_,h8,hf⟩
 · refine W 3 Z (CL Z (bP _ _ h8 ?_)); cases hf; exact ⟨Z,[],List.nil_sublist _,h⟩
 refine W 3 Z (CL Z (bP _ _ h8 (J 2 Z (C hf Z (fun h9 hf=>?_) fun h9 hf=>?_))))
 ·
  refine B1 hf fun _ h10 hf=>W 4 Z (AS Z (AO.apD h10 Z Z Z ?_)); rcases bS hf with ⟨e5,h11,hf⟩ | ⟨x5,h11,hf⟩
  · refine CL Z (qR _ h11 ?_); cases hf; exact ⟨Z,[],List.nil_sublist _,h⟩
  refine CL Z (qR _ h11 ?_); cases hf; exact Rx 1 [0] Z Z (ZC [0] Z Z h)
 refine B1 hf fun _ h12 hf=>W 4 Z (AS Z (AO.apB h12 Z Z Z ?_)); refine B1 hf fun x6 jJ hf=>CL Z (yc _ jJ ?_); cases hf; exact Rx 1 [0] Z Z (ZC [0] Z Z h)

theorem WU (v1:ah) {r0:Int} (hf:Bh v1=some r0) (h:Q (.ret (iP r0)) τ):PC 277 [.agg (aK v1)] τ Q:=by
 unfold Bh at hf; refine AC.none (AC.OL 30 [.tmp 2] [0] Tryz.func277 Z Z Z Z Z ?_); obtain ⟨b1,s1,h1,hf⟩:=aV hf; cases hf; refine AW.sr (AR.step Z Z Z (AO.Ot Z Z Z (cs 1 Z (AR.nil [1] Z ?_)))); refine AW.sr (AR.step Z Z Z (AO.aF Z apf (fun b3=>(AR.dh Z Z (AO.dW (i:=0) Z Z Z EP Z Z Z Z Z (AR.nil [1,3] Z ?_)))))); refine AW.seq (AW.sr (cs 1 Z (AR.step Z Z Z (AO.call Z _ Z Z ajk (OY _ _ ?_)))))
 refine AR.nil [3,7] Z (AW.block (AW.rangeFunc (β:=Int) (X:=Int × ah) Z ajg (fun x=>[iP x.1,.agg (aK x.2)]) (fun _=>Z) (by decide) (fun s x=>jr s x.1 x.2) (fun s=>[.box b3 [iP s]]) (fun _=>none) (s0:=0) (s1:=r0) Z Z ?_ ?_ ?_))
 · intro l T' hy; refine Lv l T' jr (fun s1 bV v1 b s2 hh=>hy s1 (bV,v1) b s2 hh) 0 v1 1 h1 ⟨⟨_,Z⟩,Z⟩
 ·
  rintro l s ⟨bV,x1⟩ b s2 hh; unfold jr at hh; refine ⟨Z,?_⟩; cases hh; refine Cx.seq (Cx.region Z (cs 1 Z (AR.nil [3,4,9] Z ?_))); refine Cx.region Z (AR.step Z Z Z (AO.aF Z gq (fun b5=>(AR.dh Z Z (AO.dW (i:=0) Z Z Z dF Z Z Z Z Z (AR.nil [3,4,5] Z ?_)))))); refine ⟨Z,(Cx.block (Cx.seq (Cx.seq ?_)))⟩; refine Cx.region Z (cs 1 Z (AR.step Z Z Z (AO.aY (i:=0) Z Z Z EP Z Z (cs 2 Z ?_))))
  refine AR.or 4 13 17 [3,4,5] (x:=(x1.kind == 5)) Z Z (fun h2=>?_) (fun h2=>?_) ?_
  · refine AR.is 13 h2 Z (cs 1 Z (AR.go Z Z Z Z Z Z (AO.aY (i:=0) Z Z Z EP Z Z (cs 2 Z ?_)))); refine AR.nil [17,3,4,5] Z ?_; exact ⟨Z,Z,Z,Z⟩
  · refine AR.is 13 h2 Z (cs 4 Z (AR.nil [17,3,4,5] Z ?_)); exact ⟨Z,Z,Z,Z⟩
  refine cs 1 Z (AR.and 5 18 23 [3,4,5] (x:=((x1.aO.length:Int) == 0)) Z Z (fun h2=>?_) (fun h2=>?_) ?_)
  · refine AR.is 18 h2 Z (cs 1 Z (AR.go Z Z Z Z Z Z (AO.aY (i:=0) Z Z Z Jy Z Z (AR.go Z Z Z Z Z Z (AO.aP (l:=x1.aO) Z Z Z Z dX Z (ah.aB _) ?_))))); refine cs 2 Z (AR.nil [23,3,4,5] Z ?_); exact ⟨Z,Z,Z,Z⟩
  · refine AR.is 18 h2 Z (cs 5 Z (AR.nil [23,3,4,5] Z ?_)); exact ⟨Z,Z,Z,Z⟩
  refine AR.nil [3,4,23] Z (Cx.cond Z (fun h3=>?_) (fun h3=>?_))
  · rw [show vO bV x1=bZ (bV + 1) from if_pos h3]; refine Cx.region Z (cs 3 Z (AR.nil [3,4] Z (Cx.region Z ?_))); refine AR.step Z Z Z (AO.aY (i:=1) Z Z Z EP Z Z (cs 1 Z (AR.step Z Z Z (AO.max2 Z Z Z Z Z (AR.dh Z Z (AO.dW (i:=1) Z Z Z EP Z Z Z Z Z ?_)))))); refine AR.nil [] Z ?_; exact ⟨Z,.cons _ (List.Sublist.refl _),Z,Z⟩
  rw [show vO bV x1=bV from if_neg (by rw [h3]; simp)]; refine Cx.skip (Cx.region Z (AR.step Z Z Z (AO.aY (i:=1) Z Z Z EP Z Z (cs 1 Z ?_)))); refine AR.step Z Z Z (AO.max2 Z Z Z Z Z (AR.dh Z Z (AO.dW (i:=1) Z Z Z EP Z Z Z Z Z (AR.nil [] Z ?_)))); exact ⟨Z,.cons _ (List.Sublist.refl _),Z,Z⟩
 intro D; show AW _ _ _ _ _ _ _
 refine AW.sr (AR.step Z Z Z (AO.aY (i:=0) Z Z Z EP Z Z (cs 1 Z (AR.nil [2] Z ?_)))); refine AW.ret ?_; exact ⟨D,[_],Z,Z,_,⟨_,_,Z,Z,Z⟩,[],List.nil_sublist _,h⟩

theorem Ut (y1:aA) (c1:aA) {r0:Bool} (hf:oQ y1 c1=some r0) (h:Q (.ret (.bool r0)) τ):PC 279 [.agg (DT y1),.ref (DT c1)] τ Q:=by
 unfold oQ at hf; refine BN 9 [.tmp 3] [0,1] Tryz.func279 Z Z Z Z Z ?_; cases hf; exact M 8 Z (Y Z h)

theorem zG (s1:List aA) (f1:aA→Option Bool) (y5:FuncId) (Rv:List PV) (f1P:bB Tryz.prog y5=true) (f1H:∀ a0 b0,f1 a0=some b0→∀ {τ:List bJ} {Q:eT→List bJ→Prop},Q (.ret (.bool b0)) τ→PC y5 ([.agg (DT a0)] ++ Rv) τ Q) {r0:Int} (hf:j3 s1 f1=some r0) (h:Q (.ret (iP r0)) τ):PC 307 [.list (List.map aA.cells s1),.fn y5 Rv] τ Q:=by
 unfold j3 at hf; refine BN 19 [.tmp 4] [0,1] Tryz.func307 Z Z Z Z Z (W 2 Z (AS Z (AO.aP (l:=s1) Z Z Z Z jN Z Z (J 1 Z (Gh (fun i1=>[(0,.list (List.map aA.cells s1)),(1,.fn y5 Rv),(7,iP (s1.length:Int)),(8,iP i1)]) (fun i1=>[]) (fun bT i1=>iq s1 f1 bT i1=some r0) BIG 0 Z Z hf (fun _ hz=>bQ hz) ?_))))); intro bT i1 hf; rw [iq] at hf; refine V 1 Z (C hf Z (fun h1 hf=>?_) fun h1 hf=>?_)
 ·
  refine B1 hf fun e1 h2 hf=>W 5 Z (AS Z (AO.aI h2 Z Z Z Z jN (aA.aD _) Z ?_)); refine B1 hf fun x1 h3 hf=>U 1 Z (AS Z (AO.call Z _ Z Z f1P (f1H _ _ h3 (J 0 Z (C hf Z (fun h4 hf=>?_) fun h4 hf=>?_)))))
  · cases hf; exact M 2 Z (Y Z h)
  exact M 2 Z ⟨(bZ (i1 + 1)),Z,Z,Z,hf⟩
 cases hf; exact M 1 Z (Y Z h)

theorem wR (s1:List aA) (f1:aA→Option Bool) (y5:FuncId) (Rv:List PV) (f1P:bB Tryz.prog y5=true) (f1H:∀ a0 b0,f1 a0=some b0→∀ {τ:List bJ} {Q:eT→List bJ→Prop},Q (.ret (.bool b0)) τ→PC y5 ([.agg (DT a0)] ++ Rv) τ Q) {r0:Bool} (hf:iw s1 f1=some r0) (h:Q (.ret (.bool r0)) τ):PC 278 [.list (List.map aA.cells s1),.fn y5 Rv] τ Q:=by
 unfold iw at hf; refine BN 9 [.tmp 4] [0,1] Tryz.func278 Z Z Z Z Z ?_; refine B1 hf fun x1 h1 hf=>W 3 Z (CL Z (zG _ f1 y5 Rv f1P @f1H h1 ?_)); cases hf; exact N 2 Z (Y Z h)

theorem Yg (bG:List aA) (i1:Int) {r0:Int} (hf:D_ bG i1=some r0) (h:Q (.ret (iP r0)) τ):PC 244 [.list (List.map aA.cells bG),iP i1] τ Q:=by
 unfold D_ at hf; refine BN 36 [.tmp 4] [0,1] Tryz.func244 Z Z Z Z Z ?_; refine B1 hf fun e1 h1 hf=>W 3 Z (AS Z (AO.aI h1 Z Z Z Z jN (aA.aD _) Z (U 1 Z (AS Z (AO.aF Z OH (fun b5=>(Rr 3 [0,0] Z Z (AS Z (AO.b_ Z Z Z Z dM Z (U 2 Z (AR.or 5 15 20 [0,1,5] (x:=(decide (64 < (e1.name.length:Int)))) Z Z (fun h2=>?_) (fun h2=>?_) ?_)))))))))))
 · refine Is 15 h2 Z (U 1 Z (GO Z (AO.aY (i:=0) Z Z Z abZ Z Z (GO Z (AO.b_ Z Z Z Z dM Z ?_))))); exact eG 2 Z (En [20,0,1,5] Z)
 · refine Is 15 h2 Z ?_; exact eG 5 Z (En [20,0,1,5] Z)
 refine J 0 Z (C hf Z (fun h3 hf=>?_) fun h3 hf=>?_)
 · cases hf; exact M 1 Z (Y Z h)
 refine B1 hf fun e2 h4 hf=>Wr 2 [0] Z Z (CL Z (uh _ h4 (J 3 Z (C hf Z (fun h5 hf=>?_) fun h5 hf=>?_))))
 · cases hf; exact M 2 Z (Y Z h)
 refine B1 hf fun x1 h6 hf=>Wr 2 [0] Z Z (CL Z (WU _ h6 (J 1 Z (C hf Z (fun h7 hf=>?_) fun h7 hf=>?_))))
 · cases hf; exact M 1 Z (Y Z h)
 refine B1 hf fun x2 h8 hf=>W 2 Z (AS Z (AO.alA h8 Z jN Z Z Z (aA.dD) Z ⟨_,Z⟩ (AR.afO 5 0 Z Z Z Z ?_))); refine B1 hf fun x3 h9 hf=>U 1 Z (CL Z (wR _ (fun z0=>oQ z0 e1) 279 [.ref (DT e1)] anG (fun _ _ hz=>Ut _ _ hz) h9 (J 0 Z (C hf Z (fun h10 hf=>?_) fun h10 hf=>?_))))
 · cases hf; exact M 1 Z (Y Z h)
 cases hf; exact M 1 Z (Y Z h)

theorem Rs (s1:List aA) {r0:List aA} (hf:gW s1=some r0) (h:Q (.ret (.list (List.map aA.cells r0))) τ):PC 245 [.list (List.map aA.cells s1)] τ Q:=by
 unfold gW at hf; refine BN 8 [.tmp 2] [0] Tryz.func245 Z Z Z Z Z (W 0 Z (AS Z (AO.mh Z Z (U 1 Z (AS Z (AO.FC Z Z amA (fun b hb=>(J 0 Z (AW.cond Z (fun h1=>?_) (fun h1=>?_))))))))))
 · obtain rfl:s1=[]:=List.map_eq_nil_iff.1 (hb h1); obtain ⟨_,rfl⟩:=Ke hf; refine W 0 Z (AS Z (AO.mh Z Z ?_)); exact N 0 rfl ⟨rfl,_,⟨_,_,rfl,rfl,rfl⟩,_,List.Sublist.refl _,h⟩
 refine W 0 Z (AS Z (AO.qo [] Z zK Z Z Z Z Z (fun v1=>(U 1 Z (AS Z (AO.fK (i:=0) (l:=[]) (m:=s1) hf Z Z Z Z Z Z Z zK jN Z Z Z (aA.dD) (aA.cells_one) (by decide) (fun v2 s2 hs2=>?_))))))); cases hs2; exact N 1 Z (Y Z h)
theorem zH (s1:List aA) {r0:List aA} (hf:gW s1=some r0) {Q:eT→List bJ→Prop} (h:∀ v,Q (.ret (.val v)) [.buf v r0.length 7 51 (r0.flatMap aA.cells)]):PC 245 [.list (List.map aA.cells s1)] [] Q:=by
 unfold gW at hf; obtain ⟨hl,e0⟩:=Ke hf; rw [List.nil_append] at e0; subst e0; simp only [List.length_nil,Nat.zero_add] at hl; have hlen:∀ x:aA,(aA.cells x).length=7:=fun _=>Z; have hone:∀ x:aA,(aA.cells x).all PV.one=true:=fun _=>Z; refine AC.yU 8 [.tmp 2] [0] Tryz.func245 Z Z Z Z Z (AW.sr (AR.step Z Z Z (AO.mh Z Z (AR.nil [0] Z ?_)))); refine AW.seq (AW.sr (cs 1 Z (AR.step Z Z Z (AO.FC Z Z amA (fun b hb=>?_)))))
 refine AR.nil [0,4] Z (AW.cond Z (fun h1=>?_) (fun h1=>?_))
 · obtain rfl:r0=[]:=List.map_eq_nil_iff.1 (hb h1); refine AW.sr (AR.step Z Z Z (AO.af_ Z Z (AR.nil [2] Z (AW.aqK 7 51 ?_)))); refine AW.ret ?_; exact ⟨rfl,_,⟨_,_,rfl,rfl,rfl⟩,_,List.Sublist.refl _,h _⟩
 refine AW.skip (AW.sr (AR.step Z Z Z (AO.qo [] Z zK Z Z Z Z Z (fun v1=>(cs 1 Z ?_))))); refine AR.step Z Z Z (AO.Xu (i:=0) (l2:=List.map aA.cells r0) Z Z Z Z Z Z Z zK jN (fun y hy=>?_) (fun y hy=>?_) ?_ ?_ (fun v2 s1 hs1=>?_))
 · obtain ⟨s,_,rfl⟩:=List.mem_map.1 hy; exact hlen s
 · obtain ⟨s,_,rfl⟩:=List.mem_map.1 hy; exact hone s
 · rw [List.length_map]; unfold wB at hl; unfold maxLen; omega
 · rw [List.length_map]; unfold wB at hl; omega
 cases hs1; refine cs 1 Z (AR.nil [2] Z (AW.ret ?_)); have hv:=h v2; rw [List.flatMap_def,show r0.length=(List.map aA.cells r0).length from (List.length_map _).symm] at hv; exact ⟨rfl,_,⟨_,_,rfl,rfl,rfl⟩,_,List.Sublist.refl _,hv⟩

theorem Yh (a1:aA) (b1:aA) {r0:Int} (hf:Tk a1 b1=some r0) {τ:List bJ} {Q:eT→List bJ→Prop} (h:Q (.ret (iP r0)) τ):PC 247 [.agg (DT a1),.agg (DT b1)] τ Q:=by
 unfold Tk at hf; refine BN 10 [.tmp 4] [0,1] Tryz.func247 Z Z Z Z Z ?_; refine BR hf fun x1 h1 hf=>?_; refine W 7 Z (CL Z (E5 _ _ h1 ?_)); cases hf; exact N 1 Z (Y Z h)
def Mv :Go.Shelf.Ren:=⟨fun | 6=>246 | 15=>281 | 14=>280 | 28=>316 | 29=>317 | 20=>308 | 21=>309 | 22=>310 | 23=>311 | 24=>312 | 25=>313 | 26=>314 | 27=>315 | 46=>342 | 47=>343 | 48=>344 | 49=>345 | 50=>346 | 57=>364 | n=>n,fun | 22=>23 | 24=>51 | 25=>223 | 3=>3 | 39=>247 | 0=>0 | 53=>268 | 55=>237 | 4=>4 | 46=>262 | 45=>261 | 50=>198 | 5=>5 | 9=>9 | 66=>286 | 70=>290 | 76=>310 | 77=>311 | n=>n,fun | n=>n⟩
theorem R4 :Go.Proofs.SlLaysF0.n6 Tryz.prog Mv:={
 mixed:=by kernel_rfl
 f6:=⟨Tryz.f246.name,by decide,Tryz.func246.trans (congrArg some (by kernel_rfl))⟩
 f14:=⟨Tryz.f280.name,by decide,Tryz.func280.trans (congrArg some (by kernel_rfl))⟩
 f15:=Tryz.func281.trans (congrArg some (by kernel_rfl))
 f20:=⟨Tryz.f308.name,by decide,Tryz.func308.trans (congrArg some (by kernel_rfl))⟩
 f21:=⟨Tryz.f309.name,by decide,Tryz.func309.trans (congrArg some (by kernel_rfl))⟩
 f22:=⟨Tryz.f310.name,by decide,Tryz.func310.trans (congrArg some (by kernel_rfl))⟩
 f23:=⟨Tryz.f311.name,by decide,Tryz.func311.trans (congrArg some (by kernel_rfl))⟩
 f24:=⟨Tryz.f312.name,by decide,Tryz.func312.trans (congrArg some (by kernel_rfl))⟩
 f25:=⟨Tryz.f313.name,by decide,Tryz.func313.trans (congrArg some (by kernel_rfl))⟩
 f26:=⟨Tryz.f314.name,by decide,Tryz.func314.trans (congrArg some (by kernel_rfl))⟩
 f27:=⟨Tryz.f315.name,by decide,Tryz.func315.trans (congrArg some (by kernel_rfl))⟩
 f28:=Tryz.func316.trans (congrArg some (by kernel_rfl))
 f29:=Tryz.func317.trans (congrArg some (by kernel_rfl))
 f46:=⟨Tryz.f342.name,by decide,Tryz.func342.trans (congrArg some (by kernel_rfl))⟩
 f47:=Tryz.func343.trans (congrArg some (by kernel_rfl))
 f48:=Tryz.func344.trans (congrArg some (by kernel_rfl))
 f49:=⟨Tryz.f345.name,by decide,Tryz.func345.trans (congrArg some (by kernel_rfl))⟩
 f50:=⟨Tryz.f346.name,by decide,Tryz.func346.trans (congrArg some (by kernel_rfl))⟩
 f57:=⟨Tryz.f364.name,by decide,Tryz.func364.trans (congrArg some (by kernel_rfl))⟩
 t0:=Tryz.underlying0
 a0:=Tryz.isAgg0
 z0:=Tryz.sizeOf0
 v0:=Tryz.zeroValue0
 t3:=Tryz.underlying3
 a3:=Tryz.isAgg3
 z3:=Tryz.sizeOf3
 v3:=Tryz.zeroValue3
 t4:=Tryz.underlying4
 a4:=Tryz.isAgg4
 z4:=Tryz.sizeOf4
 v4:=Tryz.zeroValue4
 t5:=Tryz.underlying5
 a5:=Tryz.isAgg5
 z5:=Tryz.sizeOf5
 v5:=Tryz.zeroValue5
 t9:=Tryz.underlying9
 a9:=Tryz.isAgg9
 z9:=Tryz.sizeOf9
 v9:=Tryz.zeroValue9
 t22:=Tryz.underlying23
 a22:=Tryz.isAgg23
 z22:=Tryz.sizeOf23
 v22:=Tryz.zeroValue23
 t25:=Tryz.underlying223
 a25:=Tryz.isAgg223
 z25:=Tryz.sizeOf223
 v25:=Tryz.zeroValue223
 t39:=Tryz.underlying247
 a39:=Tryz.isAgg247
 z39:=Tryz.sizeOf247
 v39:=Tryz.zeroValue247
 t45:=Tryz.underlying261
 a45:=Tryz.isAgg261
 z45:=Tryz.sizeOf261
 v45:=Tryz.zeroValue261
 t46:=Tryz.underlying262
 a46:=Tryz.isAgg262
 z46:=Tryz.sizeOf262
 v46:=Tryz.zeroValue262
 t50:=Tryz.underlying198
 a50:=Tryz.isAgg198
 z50:=Tryz.sizeOf198
 v50:=Tryz.zeroValue198
 t53:=Tryz.underlying268
 a53:=Tryz.isAgg268
 z53:=Tryz.sizeOf268
 v53:=Tryz.zeroValue268
 t55:=Tryz.underlying237
 a55:=Tryz.isAgg237
 z55:=Tryz.sizeOf237
 v55:=Tryz.zeroValue237
 t66:=Tryz.underlying286
 a66:=Tryz.isAgg286
 z66:=Tryz.sizeOf286
 v66:=Tryz.zeroValue286
 t70:=Tryz.underlying290
 a70:=Tryz.isAgg290
 z70:=Tryz.sizeOf290
 v70:=Tryz.zeroValue290
 t76:=Tryz.underlying310
 a76:=Tryz.isAgg310
 z76:=Tryz.sizeOf310
 v76:=Tryz.zeroValue310
 t77:=Tryz.underlying311
 a77:=Tryz.isAgg311
 z77:=Tryz.sizeOf311
 v77:=Tryz.zeroValue311}


theorem P8 (s1:List aA) {r0:List aA} (hf:YX (fun x=>x.name) s1=some r0) {v:Value} {e:TypeId} {Q:eT→List bJ→Prop} (h:Q (.ret (.tuple [])) [.buf v (List.map aA.cells r0).length 7 e (r0.flatMap aA.cells)]):
  PC 246 [.val v,.fn 247 []] [.buf v s1.length 7 e (s1.flatMap aA.cells)] Q:=by
 unfold YX at hf
 split at hf
 case isFalse=>cases hf
 rename_i hg
 obtain ⟨h1,h2,h3⟩:=hg
 cases hf
 rw [List.length_map] at h
 exact AC.agZ R4 aA.cells (k:=7) (by decide) (fun _=>Z) (fun _=>Z) aqP apg anM (cf:=fun a b=>iF a.name b.name)
  (fun a b ha hb=>@Yh ac7 a b _ (Sg (h2 a ha) (h2 b hb)) _ _ Z) (fun x hx=>by rw [acM] at hx; omega) (fun x y z a b=>KG a b) (fun x y z a b=>OM a b)
  (by
   rw [List.Nodup,List.pairwise_map] at h3
   refine h3.imp fun {x y} hne=>?_
   rcases Int.lt_trichotomy (iF x.name y.name) 0 with h | h | h
   ·
    exact .inl h
   ·
    exact absurd (Es h) hne
   ·
    right; rw [xG]; omega)
  (by unfold wB at h1; omega) h

theorem adv (bG:List aA) {r0:ah} {r1:Int} (hf:FU bG=some (r0,r1)) (h:Q (.ret (.tuple [.agg (aK r0),iP r1])) τ):PC 187 [.list (List.map aA.cells bG)] τ Q:=by
 unfold FU at hf; refine BN 55 [.cell 2 31,.tmp 3] [0] Tryz.func187 Z Z Z Z Z (W 0 Z (AS Z (AO.aF Z gq (fun b2=>(U 2 Z (AS Z (AO.aP (l:=bG) Z Z Z Z jN Z Z (J 1 Z (C hf Z (fun h1 hf=>?_) fun h1 hf=>?_)))))))))
 · cases hf; exact Wx 3 [0] Z Z (ZC [0] Z Z h)
 refine W 1 Z (AS Z (AO.aP (l:=bG) Z Z Z Z jN Z Z (J 1 Z (Gh (fun i1=>[(0,.list (List.map aA.cells bG)),(2,pP b2),(15,iP (bG.length:Int)),(16,iP i1)]) (fun i1=>[.box b2 [iP 0,.bool false,iP 0,.str ([]:Str),.own (.slice none 0 0) [],.own (.slice none 0 0) []]]) (fun bT i1=>yF bG bT i1=some (r0,r1)) BIG 0 Z Z hf (fun _ hz=>bQ hz) ?_)))); intro bT i1 hf; rw [yF] at hf; refine V 1 Z (C hf Z (fun h2 hf=>?_) fun h2 hf=>?_)
 ·
  refine B1 hf fun e1 h3 hf=>W 4 Z (CL Z (Yg _ _ h3 (J 3 Z (C hf Z (fun h4 hf=>?_) fun h4 hf=>?_))))
  · cases hf; exact Wx 4 [0] Z Z (ZC [0] Z Z h)
  exact M 2 Z ⟨(bZ (i1 + 1)),Z,Z,Z,hf⟩
 refine B1 hf fun UG h5 hf=>W 1 Z (CL Z (AC.none (zH _ h5 (fun v1=>?_)))); refine B1 hf fun wI h6 hf=>U 2 rfl (CL rfl (AC.one 0 rfl (P8 _ h6 ⟨_,rfl,(AR.freeze 6 0 (List.map aA.cells wI) rfl rfl rfl (fun x hx=>by obtain ⟨s,_,rfl⟩:=List.mem_map.1 hx; rfl) Z ?_)⟩))); refine U 1 Z (AS Z (AO.aF Z gq (fun b7=>(Rr 2 [0] Z Z (AS Z (AO.aP (l:=wI) Z Z Z Z jN Z Z ?_))))))
 refine J 1 Z (AW.row 6 31 (AW.row 1 9 (LK4 (fun x1 bH v2 v3=>[(2,pP b2),(7,pP b7),(32,.own v1 (List.map aA.cells wI)),(33,iP (wI.length:Int)),(34,iP x1)]) (fun x1 bH v2 v3=>[.row v3 (List.map qC bH.keys).length 1 9,.row v2 (ah.aU bH.aO).length 6 31,.box b7 [iP bH.kind,.bool bH.dO,iP bH.dI,.str bH.bR,.own v2 (ah.aU bH.aO),.own v3 (List.map qC bH.keys)],.row v1 (List.map aA.cells wI).length 7 51,.box b2 [iP 0,.bool false,iP 0,.str ([]:Str),.own (.slice none 0 0) [],.own (.slice none 0 0) []]]) (fun KQ x1 bH v2 v3=>yE wI KQ x1 bH=some (r0,r1)) BIG 0 (ah.mk 5 false 0 ([]:Str) [] []) (.slice none 0 0) (.slice none 0 0) Z Z hf (fun _ _ _ _ hz=>bQ hz) ?_)))
 intro KQ x1 bH v2 v3 hf; rw [yE] at hf; refine V 1 Z (C hf Z (fun h7 hf=>?_) fun h7 hf=>?_)
 ·
  refine B1 hf fun e2 h8 hf=>W 0 Z (AS Z (AO.aI h8 Z Z Z Z jN (aA.aD _) Z (U 1 Z (AS Z (AO.aF Z OH (fun b9=>(Rr 5 [0,3,0] Z Z (AS Z (AO.aS (List.map qC ([e2.name]:List Str)) Z u6 Z Z Z Z ?_))))))))); refine B1 hf fun x2 h9 hf=>AS Z (AO.fK (i:=1) (l:=bH.keys) (m:=([e2.name]:List Str)) h9 Z Z Z Z Z Z Z u6 f_ Z Z Z (fun _=>Z) (fun _=>Z) (by decide) (fun v4 s1 hs1=>?_)); cases hs1; refine Rw 2 [3] Z Z (AW.draw 6 mixed (by kernel_rfl) Z ?_)
  refine Ev.cs aG 1 Z (Ev.cons Z Z Z (AO.aY (i:=3) Z Z Z Jy Z Z zg) (Ev.cs aG 1 Z (Ev.cons Z Z Z (AO.aY (i:=0) Z Z Z dF Z Z zg) ?_))); refine B1 hf fun x3 h10 hf=>Ev.cons rfl rfl rfl (AO.call rfl _ rfl rfl ajf (OZ _ h10 ⟨rfl,rfl⟩)) (Ev.cons rfl rfl rfl (AO.aS (ah.aU [x3]) rfl qM rfl rfl rfl (by first | rfl | simp only [List.map,ah.aD,ah.aU]) ⟨rfl,rfl⟩) ?_); refine Ev.nil ?_; show AR _ _ _ _ _ _ _ _
  refine B1 hf fun x4 h11 hf=>AS Z (AO.fK (i:=2) (l:=bH.aO) (m:=[x3]) h11 Z Z Z Z Z Z Z qM dX (ah.aB _) (ah.aB _) (ah.aB _).symm (ah.dD) (ah.cells_one) (by decide) (fun v5 s2 hs2=>?_)); cases hs2; refine Rn 4 [3] Z Z (AR.drop1 ?_); exact N 0 Z ⟨(bZ (x1 + 1)),(ah.mk bH.kind bH.dO bH.dI bH.bR x4 x2),v5,v4,Z,Z,Z,hf⟩
 cases hf; exact Wx 3 [2,4] Z Z (ZC [4] Z Z h)

section
variable [FR]
@[reducible] def Bf :fO aM ah→eT
 | .ok r=>.ret (.agg (aK r))
 | .bad e=>.panic (.iface 111 (.agg [iP e.code]))

@[reducible] def Bg :fO aM ah→eT
 | .ok r=>.ret (.agg (aK r))
 | .bad e=>.panic (.iface 111 (.agg [iP e.code]))

@[reducible] def CJ :fO aM (List ah)→eT
 | .ok r=>.ret (.list (ah.aU r))
 | .bad e=>.panic (.iface 111 (.agg [iP e.code]))

@[reducible] def zx :fO aM ah→eT
 | .ok r=>.ret (.agg (aK r))
 | .bad e=>.panic (.iface 111 (.agg [iP e.code]))

@[reducible] def wX :fO aM ah→eT
 | .ok r=>.ret (.agg (aK r))
 | .bad e=>.panic (.iface 111 (.agg [iP e.code]))

abbrev qc (bM:List aA→aj→Option (fO aM ah)):Prop:=∀ (vP:List aA) (iY:aj) {fP:fO aM ah},bM vP iY=some fP→∀ {τ:List bJ} {Q:eT→List bJ→Prop} (h:Q (Bf fP) τ),PC 76 [.list (List.map aA.cells vP),.agg (bA iY)] τ Q
abbrev qd (dP:List aA→aj→Option (fO aM ah)):Prop:=∀ (vP:List aA) (iY:aj) {fP:fO aM ah},dP vP iY=some fP→∀ {τ:List bJ} {Q:eT→List bJ→Prop} (h:Q (Bg fP) τ),PC 119 [.list (List.map aA.cells vP),.agg (bA iY)] τ Q
abbrev rA (dN:List aA→List aj→Option (fO aM (List ah))):Prop:=∀ (vP:List aA) (Uh:List aj) {fP:fO aM (List ah)},dN vP Uh=some fP→∀ {τ:List bJ} {Q:eT→List bJ→Prop} (h:Q (CJ fP) τ),PC 124 [.list (List.map aA.cells vP),.list (aj.aU Uh)] τ Q
abbrev nU (dA:List aA→aj→Option (fO aM ah)):Prop:=∀ (vP:List aA) (iY:aj) {fP:fO aM ah},dA vP iY=some fP→∀ {τ:List bJ} {Q:eT→List bJ→Prop} (h:Q (zx fP) τ),PC 121 [.list (List.map aA.cells vP),.agg (bA iY)] τ Q
abbrev nk (cK:List aA→aj→Option (fO aM ah)):Prop:=∀ (vP:List aA) (iY:aj) {fP:fO aM ah},cK vP iY=some fP→∀ {τ:List bJ} {Q:eT→List bJ→Prop} (h:Q (wX fP) τ),PC 126 [.list (List.map aA.cells vP),.agg (bA iY)] τ Q
theorem Qo (bM) (bY:qc bM) (dP) (nS:qd dP) (dN) (jF:rA dN) (dA) (mH:nU dA) (cK) (l9:nk cK) (s1:List aA) (e1:aj) {rX:fO aM ah} (hf:wN bM dP dN dA cK s1 e1=some rX) (h:Q (Bf rX) τ):PC 76 [.list (List.map aA.cells s1),.agg (bA e1)] τ Q:=by
 unfold wN at hf; refine BN 104 [.cell 4 31] [0,1] Tryz.func76 Z Z Z Z Z (W 1 Z (AS Z (AO.aF Z gq (fun b4=>(J 4 Z (C hf Z (fun h1 hf=>?_) fun h1 hf=>?_))))))
 · cases hf; exact Wx 3 [0] Z Z (ZC [0] Z Z h)
 refine V 2 Z (C hf Z (fun h2 hf=>?_) fun h2 hf=>?_)
 ·
  rcases bS hf with ⟨e2,h3,hf⟩ | ⟨x1,h3,hf⟩
  · refine W 3 Z (CL Z (I8 _ _ h3 ?_)); cases hf; exact ⟨Z,[],List.nil_sublist _,h⟩
  refine W 3 Z (CL Z (I8 _ _ h3 ?_)); cases hf; exact Rx 1 [0] Z Z (ZC [0] Z Z h)
 refine V 2 Z (C hf Z (fun h4 hf=>?_) fun h4 hf=>?_)
 ·
  refine B1 hf fun e3 h5 hf=>?_; rcases bS hf with ⟨e4,h6,hf⟩ | ⟨x2,h6,hf⟩
  ·
   refine V 0 Z (AW.agx 5 8 mixed (by kernel_rfl) Z Z ?_); refine Ev.cs aG 3 Z (Ev.cons Z Z Z (AO.aI h5 Z Z (aj.aB _) Z iT (aj.aD _) Z zg) (Ev.cs aG 1 Z (Ev.nil ?_))); refine ⟨_,_,Z,Z,Z,Z,AO.call Z _ Z Z Tx (bY _ _ h6 ?_),?_⟩
   · cases hf; exact ⟨Z,[],List.nil_sublist _,h⟩
   refine Ev.cs aG 2 Z (Ev.nil ?_); trivial
  refine V 0 Z (AW.draw 9 mixed (by kernel_rfl) Z ?_); refine Ev.cs aG 3 Z (Ev.cons Z Z Z (AO.aI h5 Z Z (aj.aB _) Z iT (aj.aD _) Z zg) (Ev.cs aG 1 Z (Ev.cons Z Z Z (AO.call Z _ Z Z Tx (bY _ _ h6 zg)) ?_))); refine Ev.cs aG 2 Z ?_; refine B1 hf fun x3 h7 hf=>Ev.cons Z Z Z (AO.call Z _ Z Z ajs (xZ _ h7 zg)) (Ev.nil ?_); show AR _ _ _ _ _ _ _ _
  rcases bS hf with ⟨e5,h8,hf⟩ | ⟨x4,h8,hf⟩
  · refine CL Z (FL _ _ h8 ?_); cases hf; exact ⟨Z,[],List.nil_sublist _,h⟩
  refine CL Z (FL _ _ h8 ?_); cases hf; exact Rx 1 [0] Z Z (ZC [0] Z Z h)
 refine V 2 Z (C hf Z (fun h9 hf=>?_) fun h9 hf=>?_)
 ·
  refine B1 hf fun e6 h10 hf=>W 3 Z (AS Z (AO.aI h10 Z Z (aj.aB _) Z iT (aj.aD _) Z ?_)); rcases bS hf with ⟨e7,h11,hf⟩ | ⟨x5,h11,hf⟩
  · refine U 1 Z (CL Z (bY _ _ h11 ?_)); cases hf; exact ⟨Z,[],List.nil_sublist _,h⟩
  refine U 1 Z (CL Z (bY _ _ h11 (AS Z (AO.aF Z gq (fun b5=>?_))))); refine B1 hf fun e8 h12 hf=>?_; rcases bS hf with ⟨e9,jJ,hf⟩ | ⟨x6,jJ,hf⟩
  ·
   refine Rw 1 [0] Z Z (AW.agx 6 7 mixed (by kernel_rfl) Z Z ?_); refine Ev.cons Z Z Z (AO.aY (i:=0) Z Z Z dF Z Z zg) (Ev.cs aG 3 Z (Ev.cons Z Z Z (AO.aI h12 Z Z (aj.aB _) Z iT (aj.aD _) Z zg) (Ev.cs aG 1 Z ?_))); refine Ev.nil (⟨_,_,Z,Z,Z,Z,AO.call Z _ Z Z Tx (bY _ _ jJ ?_),?_⟩)
   · cases hf; exact ⟨Z,[],List.nil_sublist _,h⟩
   refine Ev.nil ?_; trivial
  refine Rw 1 [0] Z Z (AW.draw 7 mixed (by kernel_rfl) Z ?_); refine Ev.cons Z Z Z (AO.aY (i:=0) Z Z Z dF Z Z zg) (Ev.cs aG 3 Z (Ev.cons Z Z Z (AO.aI h12 Z Z (aj.aB _) Z iT (aj.aD _) Z zg) (Ev.cs aG 1 Z ?_))); refine Ev.cons Z Z Z (AO.call Z _ Z Z Tx (bY _ _ jJ zg)) (Ev.nil ?_); show AR _ _ _ _ _ _ _ _
  rcases bS hf with ⟨e10,j5,hf⟩ | ⟨x7,j5,hf⟩
  · refine CL Z (NM _ _ j5 ?_); cases hf; exact ⟨Z,[],List.nil_sublist _,h⟩
  refine CL Z (NM _ _ j5 ?_); cases hf; exact Rx 1 [1] Z Z (ZC [1] Z Z h)
 refine V 2 Z (C hf Z (fun mo hf=>?_) fun mo hf=>?_)
 ·
  rcases bS hf with ⟨e11,h16,hf⟩ | ⟨x8,h16,hf⟩
  · refine W 2 Z (CL Z (nS _ _ h16 ?_)); cases hf; exact ⟨Z,[],List.nil_sublist _,h⟩
  refine W 2 Z (CL Z (nS _ _ h16 ?_)); cases hf; exact Rx 1 [0] Z Z (ZC [0] Z Z h)
 refine V 2 Z (C hf Z (fun qB hf=>?_) fun qB hf=>?_)
 ·
  refine B1 hf fun e12 h18 hf=>?_; rcases bS hf with ⟨e13,h19,hf⟩ | ⟨x9,h19,hf⟩
  ·
   refine V 0 Z (AW.agx 7 8 mixed (by kernel_rfl) Z Z ?_); refine Ev.cs aG 5 Z (Ev.cons Z Z Z (AO.aI h18 Z Z (aj.aB _) Z iT (aj.aD _) Z zg) (Ev.cs aG 1 Z (Ev.nil ?_))); refine ⟨_,_,Z,Z,Z,Z,AO.call Z _ Z Z Tx (bY _ _ h19 ?_),?_⟩
   · cases hf; exact ⟨Z,[],List.nil_sublist _,h⟩
   refine Ev.nil ?_; trivial
  refine V 0 Z (AW.draw 8 mixed (by kernel_rfl) Z ?_); refine Ev.cs aG 5 Z (Ev.cons Z Z Z (AO.aI h18 Z Z (aj.aB _) Z iT (aj.aD _) Z zg) (Ev.cs aG 1 Z (Ev.cons Z Z Z (AO.call Z _ Z Z Tx (bY _ _ h19 zg)) ?_))); refine Ev.nil ?_; show AR _ _ _ _ _ _ _ _
  rcases bS hf with ⟨e14,h20,hf⟩ | ⟨wS,h20,hf⟩
  · refine CL Z (Rz _ _ h20 ?_); cases hf; exact ⟨Z,[],List.nil_sublist _,h⟩
  refine CL Z (Rz _ _ h20 ?_); cases hf; exact Rx 1 [0] Z Z (ZC [0] Z Z h)
 refine V 2 Z (C hf Z (fun h21 hf=>?_) fun h21 hf=>?_)
 ·
  rcases bS hf with ⟨e15,h22,hf⟩ | ⟨H8,h22,hf⟩
  · refine W 2 Z (CL Z (mH _ _ h22 ?_)); cases hf; exact ⟨Z,[],List.nil_sublist _,h⟩
  refine W 2 Z (CL Z (mH _ _ h22 ?_)); cases hf; exact Rx 1 [0] Z Z (ZC [0] Z Z h)
 refine V 2 Z (C hf Z (fun h23 hf=>?_) fun h23 hf=>?_)
 ·
  refine B1 hf fun e16 wT hf=>W 3 Z (AS Z (AO.aI wT Z Z (aj.aB _) Z iT (aj.aD _) Z ?_)); rcases bS hf with ⟨e17,Cv,hf⟩ | ⟨LQ,Cv,hf⟩
  · refine U 1 Z (CL Z (bY _ _ Cv ?_)); cases hf; exact ⟨Z,[],List.nil_sublist _,h⟩
  refine U 1 Z (CL Z (bY _ _ Cv ?_)); rcases bS hf with ⟨e18,Ic,hf⟩ | ⟨Mg,Ic,hf⟩
  · refine CL Z (tK _ Ic ?_); cases hf; exact ⟨Z,[],List.nil_sublist _,h⟩
  refine CL Z (tK _ Ic (J 0 Z (C hf Z (fun h27 hf=>?_) fun h27 hf=>?_)))
  ·
   refine B1 hf fun e19 RQ hf=>W 3 Z (AS Z (AO.aI RQ Z Z (aj.aB _) Z iT (aj.aD _) Z ?_)); rcases bS hf with ⟨e20,Na,hf⟩ | ⟨RP,Na,hf⟩
   · refine U 1 Z (CL Z (bY _ _ Na ?_)); cases hf; exact ⟨Z,[],List.nil_sublist _,h⟩
   refine U 1 Z (CL Z (bY _ _ Na ?_)); cases hf; exact Rx 1 [0] Z Z (ZC [0] Z Z h)
  refine B1 hf fun e21 LY hf=>W 3 Z (AS Z (AO.aI LY Z Z (aj.aB _) Z iT (aj.aD _) Z ?_)); rcases bS hf with ⟨e22,h31,hf⟩ | ⟨RO,h31,hf⟩
  · refine U 1 Z (CL Z (bY _ _ h31 ?_)); cases hf; exact ⟨Z,[],List.nil_sublist _,h⟩
  refine U 1 Z (CL Z (bY _ _ h31 ?_)); cases hf; exact Rx 1 [0] Z Z (ZC [0] Z Z h)
 refine V 2 Z (C hf Z (fun h32 hf=>?_) fun h32 hf=>?_)
 ·
  rcases bS hf with ⟨e23,Js,hf⟩ | ⟨LP,Js,hf⟩
  · refine W 3 Z (CL Z (jF _ _ Js ?_)); cases hf; exact ⟨Z,[],List.nil_sublist _,h⟩
  refine W 3 Z (CL Z (jF _ _ Js ?_)); refine B1 hf fun XD XE hf=>CL Z (RA _ XE (AS Z (AO.aF Z gq (fun b6=>?_)))); refine B1 hf fun y8 PK hf=>Rr 2 [0,0] Z Z (CL Z (uh _ PK ?_)); rcases bS hf with ⟨e24,QZ,hf⟩ | ⟨_,QZ,hf⟩
  · refine U 1 Z (CL Z (bP _ _ QZ ?_)); cases hf; exact ⟨Z,[],List.nil_sublist _,h⟩
  refine U 1 Z (CL Z (bP _ _ QZ ?_)); cases hf; exact Rx 2 [0,1] Z Z (ZC [1] Z Z h)
 rcases bS hf with ⟨e25,h37,hf⟩ | ⟨y9,h37,hf⟩
 · refine W 2 Z (CL Z (l9 _ _ h37 ?_)); cases hf; exact ⟨Z,[],List.nil_sublist _,h⟩
 refine W 2 Z (CL Z (l9 _ _ h37 ?_)); cases hf; exact Rx 1 [0] Z Z (ZC [0] Z Z h)
theorem Qp (bM) (bY:qc bM) (dP) (nS:qd dP) (dN) (jF:rA dN) (dA) (mH:nU dA) (cK) (l9:nk cK) (s1:List aA) (e1:aj) {rX:fO aM ah} (hf:tq bM dP dN dA cK s1 e1=some rX) (h:Q (Bg rX) τ):PC 119 [.list (List.map aA.cells s1),.agg (bA e1)] τ Q:=by
 unfold tq at hf; refine BN 40 [.cell 4 31] [0,1] Tryz.func119 Z Z Z Z Z (W 1 Z (AS Z (AO.aF Z gq (fun b4=>?_)))); refine B1 hf fun n1 h1 hf=>U 2 Z (CL Z (abv _ h1 ?_)); rcases bS hf with ⟨e2,h2,hf⟩ | ⟨_,h2,hf⟩
 · refine U 3 Z (CL Z (bP _ _ h2 ?_)); cases hf; exact ⟨Z,[],List.nil_sublist _,h⟩
 refine U 3 Z (CL Z (bP _ _ h2 (U 2 Z (AS Z (AO.aP (l:=e1.args) Z Z Z Z iT Z (aj.aB _) ?_))))); rcases bS hf with ⟨e3,h3,hf⟩ | ⟨_,h3,hf⟩
 · refine U 2 Z (CL Z (bP _ _ h3 ?_)); cases hf; exact ⟨Z,[],List.nil_sublist _,h⟩
 refine U 2 Z (CL Z (bP _ _ h3 ?_)); rcases bS hf with ⟨e4,h4,hf⟩ | ⟨args1,h4,hf⟩
 · refine U 3 Z (CL Z (jF _ _ h4 ?_)); cases hf; exact ⟨Z,[],List.nil_sublist _,h⟩
 refine U 3 Z (CL Z (jF _ _ h4 (J 3 Z (C hf Z (fun h5 hf=>?_) fun h5 hf=>?_))))
 ·
  refine V 0 Z (AW.draw 5 mixed (by kernel_rfl) Z ?_); refine Ev.cs aG 3 Z ?_; refine B1 hf fun e5 h6 hf=>Ev.cons Z Z Z (AO.aI h6 Z Z (ah.aB _) Z dX (ah.aD _) Z zg) (Ev.cs aG 1 Z (Ev.nil ?_)); show AR _ _ _ _ _ _ _ _
  rcases bS hf with ⟨e6,h7,hf⟩ | ⟨x1,h7,hf⟩
  · refine CL Z (Xn _ _ h7 ?_); cases hf; exact ⟨Z,[],List.nil_sublist _,h⟩
  refine CL Z (Xn _ _ h7 ?_); cases hf; exact Rx 1 [0] Z Z (ZC [0] Z Z h)
 refine V 0 Z (AW.draw 8 mixed (by kernel_rfl) Z ?_); refine Ev.cs aG 3 Z ?_; refine B1 hf fun e7 h8 hf=>Ev.cons Z Z Z (AO.aI h8 Z Z (ah.aB _) Z dX (ah.aD _) Z zg) (Ev.cs aG 2 Z ?_); refine B1 hf fun e8 h9 hf=>Ev.cons Z Z Z (AO.aI h9 Z Z (ah.aB _) Z dX (ah.aD _) Z zg) (Ev.cs aG 1 Z (Ev.nil ?_)); show AR _ _ _ _ _ _ _ _
 rcases bS hf with ⟨e9,h10,hf⟩ | ⟨x2,h10,hf⟩
 · refine CL Z (Xl _ _ _ h10 ?_); cases hf; exact ⟨Z,[],List.nil_sublist _,h⟩
 refine CL Z (Xl _ _ _ h10 ?_); cases hf; exact Rx 1 [0] Z Z (ZC [0] Z Z h)
theorem RV (bM) (bY:qc bM) (dP) (nS:qd dP) (dN) (jF:rA dN) (dA) (mH:nU dA) (cK) (l9:nk cK) (s1:List aA) (l1:List aj) {rX:fO aM (List ah)} (hf:Dp bM dP dN dA cK s1 l1=some rX) (h:Q (CJ rX) τ):PC 124 [.list (List.map aA.cells s1),.list (aj.aU l1)] τ Q:=by
 unfold Dp at hf
 refine BN 22 [.tmp 4] [0,1] Tryz.func124 Z Z Z Z Z (W 0 Z (AS Z (AO.mh Z Z (U 2 Z (AS Z (AO.aP (l:=l1) Z Z Z Z iT Z (aj.aB _) (J 1 Z (AW.row 6 31 (ZU (fun bH v1 x1=>[(0,.list (List.map aA.cells s1)),(5,.own v1 (ah.aU bH)),(8,.list (aj.aU l1)),(9,iP (l1.length:Int)),(10,iP x1)]) (fun bH v1 x1=>[.row v1 (ah.aU bH).length 6 31]) (fun bT bH v1 x1=>pY bM s1 l1 bT bH x1=some rX) BIG [] (.slice none 0 0) 0 Z Z hf (fun _ _ _ hz=>bQ hz) ?_)))))))))
 intro bT bH v1 x1 hf; rw [pY] at hf; refine V 1 Z (C hf Z (fun h1 hf=>?_) fun h1 hf=>?_)
 ·
  refine B1 hf fun e1 h2 hf=>W 0 Z (AS Z (AO.aI h2 Z Z (aj.aB _) Z iT (aj.aD _) Z (U 1 Z (AS Z (AO.aF Z rC (fun b7=>?_)))))); rcases bS hf with ⟨e2,h3,hf⟩ | ⟨x2,h3,hf⟩
  · refine Rr 4 [0,0] Z Z (CL Z (bY _ _ h3 ?_)); cases hf; exact ⟨Z,[],List.nil_sublist _,h⟩
  refine Rr 4 [0,0] rfl rfl (CL rfl (bY _ _ h3 (AS rfl (AO.aS (ah.aU [x2]) rfl qM rfl rfl rfl (by first | rfl | simp only [List.map,ah.aD,ah.aU]) ?_)))); refine B1 hf fun yS h4 hf=>AS Z (AO.fK (i:=1) (l:=bH) (m:=[x2]) h4 Z Z Z Z Z Z Z qM dX (ah.aB _) (ah.aB _) (ah.aB _).symm (ah.dD) (ah.cells_one) (by decide) (fun v2 s2 hs2=>?_)); cases hs2; refine eG 3 Z (AR.drop1 ?_); exact N 0 Z ⟨yS,v2,(bZ (x1 + 1)),Z,Z,Z,hf⟩
 cases hf; exact M 2 Z (Y Z h)
theorem Oy (bM) (bY:qc bM) (dP) (nS:qd dP) (dN) (jF:rA dN) (dA) (mH:nU dA) (cK) (l9:nk cK) (s1:List aA) (e1:aj) {rX:fO aM ah} (hf:qz bM dP dN dA cK s1 e1=some rX) (h:Q (zx rX) τ):PC 121 [.list (List.map aA.cells s1),.agg (bA e1)] τ Q:=by
 unfold qz at hf; refine BN 95 [.cell 4 31] [0,1] Tryz.func121 Z Z Z Z Z (W 1 Z (AS Z (AO.aF Z gq (fun b4=>?_)))); refine B1 hf fun e2 h1 hf=>U 3 Z (AS Z (AO.aI h1 Z Z (aj.aB _) Z iT (aj.aD _) Z ?_)); rcases bS hf with ⟨e3,h2,hf⟩ | ⟨x1,h2,hf⟩
 · refine U 1 Z (CL Z (bY _ _ h2 ?_)); cases hf; exact ⟨Z,[],List.nil_sublist _,h⟩
 refine U 1 Z (CL Z (bY _ _ h2 (AS Z (AO.aF Z gq (fun b5=>(Rr 5 [0] Z Z (On 4 16 20 [0,3,4,5] (e1.name == ([124,124]:Str)) Z Z Z Z (J 0 Z (C hf Z (fun h4 hf=>?_) fun h4 hf=>?_)))))))))
 ·
  rcases bS hf with ⟨e4,h5,hf⟩ | ⟨x2,h5,hf⟩
  ·
   refine V 0 Z (AW.agx 1 5 mixed (by kernel_rfl) Z Z ?_); refine Ev.cons Z Z Z (AO.aY (i:=0) Z Z Z dF Z Z zg) (Ev.nil (⟨_,_,Z,Z,Z,Z,AO.call Z _ Z Z ajr (tK _ h5 ?_),?_⟩))
   · cases hf; exact ⟨Z,[],List.nil_sublist _,h⟩
   refine Ev.cs aG 3 Z (Ev.nil ?_); trivial
  refine V 0 Z (AW.draw 6 mixed (by kernel_rfl) Z ?_); refine Ev.cons Z Z Z (AO.aY (i:=0) Z Z Z dF Z Z zg) (Ev.cons Z Z Z (AO.call Z _ Z Z ajr (tK _ h5 zg)) (Ev.cs aG 3 Z (Ev.cons Z Z Z (AO.J_ Z XQ Z Z zg) ?_))); refine Ev.nil ?_; show AR _ _ _ _ _ _ _ _
  refine J 0 Z (C hf Z (fun h6 hf=>?_) fun h6 hf=>?_)
  · cases hf; exact Wx 2 [0,1] Z Z (ZC [1] Z Z h)
  refine B1 hf fun e5 h7 hf=>W 3 Z (AS Z (AO.aI h7 Z Z (aj.aB _) Z iT (aj.aD _) Z ?_)); rcases bS hf with ⟨e6,h8,hf⟩ | ⟨x3,h8,hf⟩
  · refine U 1 Z (CL Z (bY _ _ h8 ?_)); cases hf; exact ⟨Z,[],List.nil_sublist _,h⟩
  refine U 1 Z (CL Z (bY _ _ h8 ?_)); rcases bS hf with ⟨e7,h9,hf⟩ | ⟨x4,h9,hf⟩
  · refine CL Z (tK _ h9 ?_); cases hf; exact ⟨Z,[],List.nil_sublist _,h⟩
  refine CL Z (tK _ h9 ?_); refine B1 hf fun x5 h10 hf=>CL Z (lI _ h10 ?_); cases hf; exact Rx 1 [1] Z Z (ZC [1] Z Z h)
 refine B1 hf fun e8 h11 hf=>W 3 Z (AS Z (AO.aI h11 Z Z (aj.aB _) Z iT (aj.aD _) Z ?_)); rcases bS hf with ⟨e9,h12,hf⟩ | ⟨x6,h12,hf⟩
 · refine U 1 Z (CL Z (bY _ _ h12 ?_)); cases hf; exact ⟨Z,[],List.nil_sublist _,h⟩
 refine U 1 Z (CL Z (bY _ _ h12 (AS Z (AO.aF Z gq (fun b6=>(Rw 5 [0] Z Z (C hf Z (fun jJ hf=>?_) fun jJ hf=>?_)))))))
 · refine B1 hf fun x7 j5 hf=>Wr 2 [1,0] Z Z (CL Z (Jl _ _ j5 ?_)); refine B1 hf fun x8 mo hf=>CL Z (lI _ mo ?_); cases hf; exact Rx 1 [2] Z Z (ZC [2] Z Z h)
 refine V 2 Z (C hf Z (fun h16 hf=>?_) fun h16 hf=>?_)
 · refine B1 hf fun x9 qB hf=>Wr 2 [1,0] Z Z (CL Z (Jl _ _ qB ?_)); refine B1 hf fun wS h18 hf=>U 1 Z (CL Z (lI _ h18 ?_)); cases hf; exact Rx 1 [2] Z Z (ZC [2] Z Z h)
 refine V 2 Z (C hf Z (fun h19 hf=>?_) fun h19 hf=>?_)
 ·
  rcases bS hf with ⟨e10,h20,hf⟩ | ⟨H8,h20,hf⟩
  · refine Wr 2 [1,0] Z Z (CL Z (tL _ _ h20 ?_)); cases hf; exact ⟨Z,[],List.nil_sublist _,h⟩
  refine Wr 2 [1,0] Z Z (CL Z (tL _ _ h20 ?_)); refine B1 hf fun LQ h21 hf=>U 1 Z (CL Z (lI _ h21 ?_)); cases hf; exact Rx 1 [2] Z Z (ZC [2] Z Z h)
 refine V 2 Z (C hf Z (fun h22 hf=>?_) fun h22 hf=>?_)
 ·
  rcases bS hf with ⟨e11,h23,hf⟩ | ⟨Mg,h23,hf⟩
  · refine Wr 2 [1,0] Z Z (CL Z (tL _ _ h23 ?_)); cases hf; exact ⟨Z,[],List.nil_sublist _,h⟩
  refine Wr 2 [1,0] Z Z (CL Z (tL _ _ h23 ?_)); refine B1 hf fun RP wT hf=>U 1 Z (CL Z (lI _ wT ?_)); cases hf; exact Rx 1 [2] Z Z (ZC [2] Z Z h)
 refine V 2 Z (C hf Z (fun Cv hf=>?_) fun Cv hf=>?_)
 ·
  rcases bS hf with ⟨e12,Ic,hf⟩ | ⟨RO,Ic,hf⟩
  · refine Wr 2 [1,0] Z Z (CL Z (tL _ _ Ic ?_)); cases hf; exact ⟨Z,[],List.nil_sublist _,h⟩
  refine Wr 2 [1,0] Z Z (CL Z (tL _ _ Ic ?_)); refine B1 hf fun LP h27 hf=>U 1 Z (CL Z (lI _ h27 ?_)); cases hf; exact Rx 1 [2] Z Z (ZC [2] Z Z h)
 refine V 2 Z (C hf Z (fun RQ hf=>?_) fun RQ hf=>?_)
 ·
  rcases bS hf with ⟨e13,Na,hf⟩ | ⟨XD,Na,hf⟩
  · refine Wr 2 [1,0] Z Z (CL Z (tL _ _ Na ?_)); cases hf; exact ⟨Z,[],List.nil_sublist _,h⟩
  refine Wr 2 [1,0] Z Z (CL Z (tL _ _ Na ?_)); refine B1 hf fun y8 LY hf=>U 1 Z (CL Z (lI _ LY ?_)); cases hf; exact Rx 1 [2] Z Z (ZC [2] Z Z h)
 refine V 2 Z (C hf Z (fun h31 hf=>?_) fun h31 hf=>?_)
 ·
  rcases bS hf with ⟨e14,h32,hf⟩ | ⟨y9,h32,hf⟩
  · refine Wr 2 [1,0] Z Z (CL Z (Xm _ _ h32 ?_)); cases hf; exact ⟨Z,[],List.nil_sublist _,h⟩
  refine Wr 2 [1,0] Z Z (CL Z (Xm _ _ h32 ?_)); cases hf; exact Rx 1 [2] Z Z (ZC [2] Z Z h)
 rcases bS hf with ⟨e15,Js,hf⟩ | ⟨x20,Js,hf⟩
 · refine Wr 4 [1,0] Z Z (CL Z (Ja _ _ _ Js ?_)); cases hf; exact ⟨Z,[],List.nil_sublist _,h⟩
 refine Wr 4 [1,0] Z Z (CL Z (Ja _ _ _ Js ?_)); cases hf; exact Rx 1 [2] Z Z (ZC [2] Z Z h)
theorem Ml (bM) (bY:qc bM) (dP) (nS:qd dP) (dN) (jF:rA dN) (dA) (mH:nU dA) (cK) (l9:nk cK) (s1:List aA) (e1:aj) {rX:fO aM ah} (hf:pV bM dP dN dA cK s1 e1=some rX) (h:Q (wX rX) τ):PC 126 [.list (List.map aA.cells s1),.agg (bA e1)] τ Q:=by
 unfold pV at hf; refine BN 41 [.cell 4 31] [0,1] Tryz.func126 Z Z Z Z Z (W 1 Z (AS Z (AO.aF Z gq (fun b4=>?_)))); rcases bS hf with ⟨e2,h1,hf⟩ | ⟨x1,h1,hf⟩
 · refine U 4 Z (CL Z (jF _ _ h1 ?_)); cases hf; exact ⟨Z,[],List.nil_sublist _,h⟩
 refine U 4 Z (CL Z (jF _ _ h1 (AS Z (AO.aP (l:=x1) Z Z Z Z dX Z (ah.aB _) ?_))))
 refine J 1 Z (AW.row 7 51 (ZU (fun bG v1 i1=>[(3,.ref (bA e1)),(4,pP b4),(5,.own v1 (List.map aA.cells bG)),(13,.list (ah.aU x1)),(14,iP (x1.length:Int)),(15,iP i1)]) (fun bG v1 i1=>[.row v1 (List.map aA.cells bG).length 7 51,.box b4 [iP 0,.bool false,iP 0,.str ([]:Str),.own (.slice none 0 0) [],.own (.slice none 0 0) []]]) (fun bT bG v1 i1=>oD e1 x1 bT bG i1=some rX) BIG [] (.slice none 0 0) 0 Z Z hf (fun _ _ _ hz=>bQ hz) ?_)); intro bT bG v1 i1 hf; rw [oD] at hf
 refine V 1 Z (C hf Z (fun h2 hf=>?_) fun h2 hf=>?_)
 ·
  refine B1 hf fun e3 h3 hf=>W 1 Z (AS Z (AO.aI h3 Z Z (ah.aB _) Z dX (ah.aD _) Z (U 1 Z (AS Z (AO.aF Z gq (fun b7=>(Rw 2 [0] Z Z (AW.draw 9 mixed (by kernel_rfl) Z ?_)))))))); refine Ev.cs aG 4 Z ?_; refine B1 hf fun e4 h4 hf=>Ev.cons Z Z Z (AO.aI h4 Z Z Z Z f_ Z Z zg) (Ev.cs aG 1 Z (Ev.cons Z Z Z (AO.aY (i:=0) Z Z Z dF Z Z zg) (Ev.cons Z Z Z (AO.build Z OH aeo Z zg) ?_)))
  refine Ev.cons rfl rfl rfl (AO.aS (List.map aA.cells [(aA.mk e4 e3)]) rfl zK rfl rfl rfl (by first | rfl | simp only [List.map,aA.aD]) ⟨rfl,rfl⟩) ?_; refine Ev.nil ?_; show AR _ _ _ _ _ _ _ _
  refine B1 hf fun Gl h5 hf=>AS Z (AO.fK (i:=1) (l:=bG) (m:=[(aA.mk e4 e3)]) h5 Z Z Z Z Z Z Z zK jN Z Z Z (aA.dD) (aA.cells_one) (by decide) (fun v2 s2 hs2=>?_)); cases hs2; refine eG 3 Z (AR.drop1 ?_); exact N 0 Z ⟨Gl,v2,(bZ (i1 + 1)),Z,Z,Z,hf⟩
 obtain ⟨x2,IZ,h6,hf⟩:=aV hf; refine W 1 Z (CL Z (adv _ h6 (U 3 Z (AS Z (AO.aF Z gq (fun b8=>?_)))))); rcases bS hf with ⟨e5,h7,hf⟩ | ⟨_,h7,hf⟩
 · refine Rr 5 [0] Z Z (CL Z (bP _ _ h7 ?_)); cases hf; exact ⟨Z,[],List.nil_sublist _,h⟩
 refine Rr 5 [0] Z Z (CL Z (bP _ _ h7 ?_)); cases hf; exact Rx 2 [0,2] Z Z (ZC [2] Z Z h)
theorem sV :∀ k:Nat,(qc (dU k))∧(qd (fQ k))∧(rA (gG k))∧(nU (fB k))∧(nk (eO k)):=by
 intro k
 induction k with
 | zero=>exact ⟨fun _ _ _ hz=>by first | cases hz | (unfold dU at hz; cases hz),fun _ _ _ hz=>by first | cases hz | (unfold fQ at hz; cases hz),fun _ _ _ hz=>by first | cases hz | (unfold gG at hz; cases hz),fun _ _ _ hz=>by first | cases hz | (unfold fB at hz; cases hz),fun _ _ _ hz=>by first | cases hz | (unfold eO at hz; cases hz)⟩
 | succ k ih=>exact ⟨fun vP iY fP hz τ Q hq=>Qo (dU k) ih.1 (fQ k) ih.2.1 (gG k) ih.2.2.1 (fB k) ih.2.2.2.1 (eO k) ih.2.2.2.2 vP iY hz hq,fun vP iY fP hz τ Q hq=>Qp (dU k) ih.1 (fQ k) ih.2.1 (gG k) ih.2.2.1 (fB k) ih.2.2.2.1 (eO k) ih.2.2.2.2 vP iY hz hq,fun vP Uh fP hz τ Q hq=>RV (dU k) ih.1 (fQ k) ih.2.1 (gG k) ih.2.2.1 (fB k) ih.2.2.2.1 (eO k) ih.2.2.2.2 vP Uh hz hq,fun vP iY fP hz τ Q hq=>Oy (dU k) ih.1 (fQ k) ih.2.1 (gG k) ih.2.2.1 (fB k) ih.2.2.2.1 (eO k) ih.2.2.2.2 vP iY hz hq,fun vP iY fP hz τ Q hq=>Ml (dU k) ih.1 (fQ k) ih.2.1 (gG k) ih.2.2.1 (fB k) ih.2.2.2.1 (eO k) ih.2.2.2.2 vP iY hz hq⟩
theorem I9 (vP:List aA) (iY:aj) {fP:fO aM ah} (hf:EW vP iY=some fP) (h:Q (Bf fP) τ):PC 76 [.list (List.map aA.cells vP),.agg (bA iY)] τ Q:=
 ((sV BIG).1) vP iY hf h
theorem agD (vP:List aA) (iY:aj) {fP:fO aM ah} (hf:Ur vP iY=some fP) (h:Q (Bg fP) τ):PC 119 [.list (List.map aA.cells vP),.agg (bA iY)] τ Q:=
 ((sV BIG).2.1) vP iY hf h
theorem ahX (vP:List aA) (Uh:List aj) {fP:fO aM (List ah)} (hf:Wt vP Uh=some fP) (h:Q (CJ fP) τ):PC 124 [.list (List.map aA.cells vP),.list (aj.aU Uh)] τ Q:=
 ((sV BIG).2.2.1) vP Uh hf h
theorem ad3 (vP:List aA) (iY:aj) {fP:fO aM ah} (hf:Ri vP iY=some fP) (h:Q (zx fP) τ):PC 121 [.list (List.map aA.cells vP),.agg (bA iY)] τ Q:=
 ((sV BIG).2.2.2.1) vP iY hf h
theorem adO (vP:List aA) (iY:aj) {fP:fO aM ah} (hf:PU vP iY=some fP) (h:Q (wX fP) τ):PC 126 [.list (List.map aA.cells vP),.agg (bA iY)] τ Q:=
 ((sV BIG).2.2.2.2) vP iY hf h
end

section
variable [FR]
theorem SY (s1:List aA) (e1:aj) {r0:ah} {r1:Int} (hf:Cj s1 e1=some (r0,r1)) (h:Q (.ret (.tuple [.agg (aK r0),iP r1])) τ):PC 51 [.list (List.map aA.cells s1),.agg (bA e1)] τ Q:=by
 unfold Cj at hf; refine AC.none (AC.Tz 10 [.cell 4 31,.cell 5 36] [0,1] [0,1] Tryz.func51 Z Z Z Z Z Tryz.func75 Z Z Z Z Z Z Z apL (AW.sr (AR.step Z Z Z (AO.Ot Z Z Z ?_)))); refine AR.step Z Z Z (AO.aF Z gq (fun b4=>(AR.step Z Z Z (AO.aF Z aib (fun b5=>(AR.nil [0,3,4,5] Z (AW.sr ?_))))))); refine cs 1 Z (AR.defer (vs:=[.pointer (some ⟨b4,0,none⟩),.pointer (some ⟨b5,0,none⟩)]) Z Z Z Z Z Z (AR.nil [0,3,4,5] Z (AW.sr ?_))); refine cs 2 Z ?_
 rcases bS hf with ⟨f1,h1,hf⟩ | ⟨v1,h1,hf⟩
 ·
  refine AR.step Z Z Z (AO.call Z _ Z Z Tx (I9 _ _ h1 ?_)); cases hf; refine ⟨[.pointer (some ⟨b4,0,none⟩),.pointer (some ⟨b5,0,none⟩)],_,Z,Z,Z,(AR.step Z Z Z (AO.afS Z Z alf (cs 3 Z (AR.step Z Z Z (AO.aF Z aii (fun b6=>?_))))))⟩; refine AR.dh Z Z (AO.dW (i:=0) Z Z Z aiF Z Z Z Z Z (cs 1 Z (AR.nil [0,1,2,3] Z (AW.sr ?_)))); refine cs 1 Z (AR.nil [0,1,2,9] Z (AW.cond Z (fun _=>?_) (fun hh=>by cases hh)))
  refine AW.WC 1 3 4 [_] [_,_] mixed (by kernel_rfl) (by kernel_rfl) (by kernel_rfl) Z Z Z (List.Perm.refl _) ?_; refine Ev.cons Z Z Z (AO.build Z gq aep Z zg) (Ev.nil ?_); show Ev _ _ _ _ _ _ _
  refine Ev.cs aG 1 Z (Ev.cons Z Z Z (AO.aY (i:=0) Z Z Z Io Z Z zg) (Ev.nil (TF.dh Z Z (AO.dW (i:=1) Z Z Z dF Z Z Z Z Z ?_)))); refine TF.nil ?_; show AR _ _ _ _ _ _ _ _
  refine AR.dh Z Z (AO.dW (i:=1) Z Z Z Io Z Z Z Z Z (AR.nil [] Z ?_)); exact ⟨rfl,_,⟨_,_,rfl,⟨_,_,2,_,_,rfl,rfl,dF,rfl⟩,⟨_,_,rfl,⟨_,_,1,_,_,rfl,rfl,Io,rfl⟩,rfl⟩⟩,[],List.nil_sublist _,h⟩
 refine AR.step Z Z Z (AO.call Z _ Z Z Tx (I9 _ _ h1 ?_)); cases hf; refine AR.dh Z Z (AO.dW (i:=1) Z Z Z dF Z Z Z Z Z (AR.dh Z Z (AO.dW (i:=0) Z Z Z Io Z Z Z Z Z (AR.nil [4,5] Z (AW.ret ?_))))); refine ⟨[.pointer (some ⟨b4,0,none⟩),.pointer (some ⟨b5,0,none⟩)],_,Z,Z,Z,(AR.step Z Z Z (AO.ab0 (p:=.agg [iP 0]) Z Z alh (fun _ _=>by simp only [eZ]; exact ⟨[.int .i64 0],Z,bN.cons (by simp [eZ]) bN.nil⟩) ?_))⟩
 refine cs 3 Z (AR.step Z Z Z (AO.aF Z aii (fun b6=>(AR.dh Z Z (AO.dW (i:=0) Z Z Z aiF Z Z Z Z Z (cs 1 Z ?_)))))); refine AR.nil [3] Z (AW.sr (cs 1 Z (AR.nil [9] Z ?_))); refine AW.cond Z (fun hh=>by cases hh) (fun _=>?_); refine AW.skip ?_; exact ⟨rfl,_,⟨_,_,rfl,⟨_,_,2,_,_,rfl,rfl,dF,rfl⟩,⟨_,_,rfl,⟨_,_,1,_,_,rfl,rfl,Io,rfl⟩,rfl⟩⟩,[],List.nil_sublist _,h⟩
end


abbrev RN (nH:ah→Option ah):Prop:=∀ (qg:ah) {aR:ah},nH qg=some aR→∀ {τ:List bJ} {Q:eT→List bJ→Prop} (h:Q (.ret (.agg (aK aR))) τ),PC 52 [.agg (aK qg)] τ Q
theorem aac (nH) (Wm:RN nH) (v1:ah) {r0:ah} (hf:Fz nH v1=some r0) (h:Q (.ret (.agg (aK r0))) τ):PC 52 [.agg (aK v1)] τ Q:=by
 unfold Fz at hf; refine BN 31 [.cell 2 31] [0] Tryz.func52 Z Z Z Z Z (W 1 Z (AS Z (AO.aF Z gq (fun b2=>(U 1 Z (AS Z (AO.aF Z gq (fun b3=>(Rr 7 [0,0,0] Z Z (AS Z (AO.aP (l:=v1.aO) Z Z Z Z dX Z (ah.aB _) ?_)))))))))))
 refine J 1 Z (AW.row 6 31 (AW.row 1 9 (LK4 (fun x1 bH v2 v3=>[(1,.ref (aK v1)),(2,pP b2),(3,pP b3),(10,.list (ah.aU v1.aO)),(11,iP (v1.aO.length:Int)),(12,iP x1)]) (fun x1 bH v2 v3=>[.row v3 (List.map qC bH.keys).length 1 9,.row v2 (ah.aU bH.aO).length 6 31,.box b3 [iP bH.kind,.bool bH.dO,iP bH.dI,.str bH.bR,.own v2 (ah.aU bH.aO),.own v3 (List.map qC bH.keys)],.box b2 [iP 0,.bool false,iP 0,.str ([]:Str),.own (.slice none 0 0) [],.own (.slice none 0 0) []]]) (fun bT x1 bH v2 v3=>zX nH v1 bT x1 bH=some r0) BIG 0 (ah.mk v1.kind v1.dO v1.dI v1.bR [] []) (.slice none 0 0) (.slice none 0 0) Z Z hf (fun _ _ _ _ hz=>bQ hz) ?_)))
 intro bT x1 bH v2 v3 hf; rw [zX] at hf; refine V 1 Z (C hf Z (fun h1 hf=>?_) fun h1 hf=>?_)
 ·
  refine B1 hf fun e1 h2 hf=>W 0 Z (AS Z (AO.aI h2 Z Z (ah.aB _) Z dX (ah.aD _) Z (U 1 Z (AS Z (AO.aF Z gq (fun b5=>(Rw 1 [0] Z Z (AW.draw 5 mixed (by kernel_rfl) Z ?_)))))))); refine Ev.cs aG 1 Z (Ev.cons Z Z Z (AO.aY (i:=3) Z Z Z Jy Z Z zg) (Ev.cons Z Z Z (AO.aY (i:=0) Z Z Z dF Z Z zg) ?_)); refine B1 hf fun x2 h3 hf=>Ev.cons rfl rfl rfl (AO.call rfl _ rfl rfl apO (Wm _ h3 ⟨rfl,rfl⟩)) (Ev.cons rfl rfl rfl (AO.aS (ah.aU [x2]) rfl qM rfl rfl rfl (by first | rfl | simp only [List.map,ah.aD,ah.aU]) ⟨rfl,rfl⟩) ?_)
  refine Ev.nil ?_; show AR _ _ _ _ _ _ _ _
  refine B1 hf fun x3 h4 hf=>AS Z (AO.fK (i:=2) (l:=bH.aO) (m:=[x2]) h4 Z Z Z Z Z Z Z qM dX (ah.aB _) (ah.aB _) (ah.aB _).symm (ah.dD) (ah.cells_one) (by decide) (fun v4 s1 hs1=>?_)); cases hs1; refine Rn 4 [3] Z Z (AR.drop1 ?_); exact N 0 Z ⟨(bZ (x1 + 1)),(ah.mk bH.kind bH.dO bH.dI bH.bR x3 bH.keys),v4,v3,Z,Z,Z,hf⟩
 refine B1 hf fun x4 h5 hf=>Wr 4 [2] Z Z (AS Z (AO.fK (i:=0) (l:=bH.keys) (m:=v1.keys) h5 Z Z Z Z Z Z Z u6 f_ Z Z Z (fun _=>Z) (fun _=>Z) (by decide) (fun v5 s2 hs2=>?_))); cases hs2; cases hf; exact Rx 4 [2,2,3] Z Z (ZC [3] Z Z h)
theorem aaH :∀ k:Nat,(RN (o_ k)):=by
 intro k
 induction k with
 | zero=>exact fun _ _ hz=>by first | cases hz | (unfold o_ at hz; cases hz)
 | succ k ih=>exact fun qg aR hz τ Q hq=>aac (o_ k) ih qg hz hq
theorem abw (qg:ah) {aR:ah} (hf:Ap qg=some aR) (h:Q (.ret (.agg (aK aR))) τ):PC 52 [.agg (aK qg)] τ Q:=
 ((aaH BIG)) qg hf h

section
variable [FR]
theorem adP (e1:aj) (cB:List aA) {r0:ah} {r1:Int} (hf:Ba e1 cB=some (r0,r1)) (h:Q (.ret (.tuple [.agg (aK r0),iP r1])) τ):PC 34 [.agg (bA e1),.list (List.map aA.cells cB)] τ Q:=by
 unfold Ba at hf; refine BN 28 [.cell 4 31,.tmp 5] [0,1] Tryz.func34 Z Z Z Z Z (W 1 Z (AS Z (AO.aF Z gq (fun b4=>?_)))); obtain ⟨s1,f1,h1,hf⟩:=aV hf; refine U 3 Z (CL Z (YA _ _ h1 (J 7 Z (C hf Z (fun h2 hf=>?_) fun h2 hf=>?_))))
 · cases hf; exact Wx 4 [0] Z Z (ZC [0] Z Z h)
 obtain ⟨x1,f2,h3,hf⟩:=aV hf; refine W 2 Z (CL Z (SY _ _ h3 (U 3 Z (AS Z (AO.aF Z gq (fun b8=>?_)))))); refine B1 hf fun x2 h4 hf=>Rr 3 [0,0] Z Z (CL Z (abw _ h4 ?_)); cases hf; exact Rx 3 [1] Z Z (ZC [1] Z Z h)
end

section
variable [FR]
theorem qY (fD:aj) (bC:List Int) (bG:List aA) {r0:Bool} {r1:Int} (hf:jO fD bC bG=some (r0,r1)) (h:Q (.ret (.tuple [.bool r0,iP r1])) τ):PC 14 [.agg (bA fD),.list (List.map vT bC),.list (List.map aA.cells bG)] τ Q:=by
 unfold jO at hf; refine BN 28 [.tmp 6,.tmp 7] [0,1,2] Tryz.func14 Z Z Z Z Z (V 3 Z (AW.WC 0 8 10 [] [] mixed (by kernel_rfl) (by kernel_rfl) (by kernel_rfl) Z Z Z (List.Perm.refl _) ?_)); refine Ev.nil ?_; show Ev _ _ _ _ _ _ _
 refine Ev.cs aG 3 Z ?_; refine B1 hf fun x1 h1 hf=>Ev.cons Z Z Z (AO.call Z _ Z Z amO (E8 _ _ h1 zg)) ?_; obtain ⟨x2,e1,h2,hf⟩:=aV hf; refine Ev.cons Z Z Z (AO.call Z _ Z Z apX (adP _ _ h2 zg)) (Ev.cs aG 3 Z (Ev.nil (TF.step Z Z Z (AO.aF Z gq (fun b8=>?_))))); refine TF.dh Z Z (AO.dW (i:=0) Z Z Z dF Z Z Z Z Z (TF.nil ?_)); show AR _ _ _ _ _ _ _ _
 refine J 4 Z (C hf Z (fun h3 hf=>?_) fun h3 hf=>?_)
 · cases hf; exact M 3 Z (Y Z h)
 refine Ww 4 [0] Z Z (C hf Z (fun h4 hf=>?_) fun h4 hf=>?_)
 · cases hf; exact M 2 Z (Y Z h)
 cases hf; exact Wx 4 [0] Z Z (Y Z h)
end

section
variable [FR]
theorem zo (gM:Str) (bC:List Int) {r0:Bool} {r1:Int} (hf:mW gM bC=some (r0,r1)) (h:Q (.ret (.tuple [.bool r0,iP r1])) τ):PC 19 [.str gM,.list (List.map vT bC)] τ Q:=by
 unfold mW at hf; refine BN 23 [.tmp 4,.tmp 5] [0,1] Tryz.func19 Z Z Z Z Z ?_; obtain ⟨x1,x2,f1,h1,hf⟩:=wz hf; refine W 3 Z (CL Z (NG _ h1 (U 4 Z (AS Z (AO.aF Z rC (fun b6=>(Rw 5 [0] Z Z (C hf Z (fun h2 hf=>?_) fun h2 hf=>?_))))))))
 · cases hf; exact M 3 Z (Y Z h)
 replace hf:=(eH _).trans hf; obtain ⟨x3,x4,h3,hf⟩:=aV hf; refine Wr 2 [0] Z Z (CL Z (qY _ _ _ h3 ?_)); cases hf; exact N 4 Z (Y Z h)
end

theorem uD {r0:aj} (hf:nO=some r0) (h:Q (.ret (.agg (bA r0))) τ):PC 18 [] τ Q:=by
 unfold nO at hf; refine BN 2 [.cell 0 34] [] Tryz.func18 Z Z Z Z Z (W 0 Z (AS Z (AO.aF Z rC (fun b0=>?_)))); cases hf; exact Rx 2 [0] Z Z (ZC [0] Z Z h)

theorem Yi (fE:Int) {r0:Str} (hf:Av fE=some r0) (h:Q (.ret (.str r0)) τ):PC 137 [iP fE] τ Q:=by
 unfold Av at hf; refine BN 14 [.tmp 2] [0] Tryz.func137 Z Z Z Z Z (W 1 Z (AS Z (AO.Ta Z aie akC Z (AS Z (AO.aF Z aie (fun b3=>(Rr 4 [0] Z Z (On 3 7 10 [0,3] (decide (8≤fE)) Z Z Z Z ?_)))))))); refine J 0 Z (C hf Z (fun h2 hf=>?_) fun h2 hf=>?_)
 · cases hf; exact M 1 Z (Y Z h)
 refine BR hf fun e1 h3 hf=>?_; refine W 1 Z (AS Z (AO.Wd h3 Z akC Z Z Z (AS Z (AO.ahp (i:=0) (fun z:Str=>.str z) h3 Z Z Z abZ Z ?_)))); cases hf; exact N 1 Z (Y Z h)

theorem vV (fE:Int) {r0:Bool} (hf:jS fE=some r0) (h:Q (.ret (.bool r0)) τ):PC 138 [iP fE] τ Q:=by
 unfold jS at hf; refine BN 9 [.tmp 2] [0] Tryz.func138 Z Z Z Z Z (W 4 Z (On 3 5 8 [] (fE == 6) Z Z Z Z ?_)); cases hf; exact N 1 Z (Y Z h)

theorem Cq (t1:ak) {r0:Int} (hf:lW t1=some r0) (h:Q (.ret (iP r0)) τ):PC 81 [.agg (aW t1)] τ Q:=by
 unfold lW at hf; refine BN 43 [.tmp 2] [0] Tryz.func81 Z Z Z Z Z (W 0 Z (AS Z (AO.abA Z Z (fun b1=>(J 2 Z (Xy (fun bV t2=>[(1,pP b1),(3,iP bV)]) (fun bV t2=>[.box b1 (aW t2)]) (fun bT bV t2=>mQ bT bV t2=some r0) BIG 1 t1 Z Z hf (fun _ _ hz=>bQ hz) ?_)))))); intro bT bV t2 hf; rw [mQ] at hf; refine V 2 Z (C hf Z (fun h1 hf=>?_) fun h1 hf=>?_)
 · cases hf; exact M 1 Z (Y Z h)
 refine B1 hf fun x1 h2 hf=>Wr 2 [0] Z Z (CL Z (Yi _ h2 ?_)); refine B1 hf fun b1 h4 hf=>U 2 Z (AR.dB 10 12 22 false [1,3] b1 Z Z (fun h3=>?_) (fun h3=>?_) ?_)
 ·
  replace h4:=cZ h3 h4; refine Is 12 h3 Z (U 1 Z (GO Z (AO.aY (i:=0) Z Z Z EP Z Z ?_))); refine B1 h4 fun x2 h5 h4=>GO Z (AO.call Z _ Z Z ajo (vV _ h5 (U 1 Z (AR.and 5 16 21 [1,3,12] (x:=((t2.elem.length:Int) != 1)) Z Z (fun h6=>?_) (fun h6=>?_) ?_))))
  · refine Is 16 h6 Z (U 1 Z (GO Z (AO.aY (i:=0) Z Z Z amC Z Z (GO Z (AO.aP (l:=t2.elem) Z Z Z Z fZ Z (ak.aB _) ?_))))); exact eG 2 Z (En [21,1,3,12] Z)
  · refine Is 16 h6 Z ?_; exact eG 5 Z (En [21,1,3,12] Z)
  cases h4; exact eG 1 Z (En [22,1,3] Z)
 · refine IT 12 h3 h4 Z fun h4=>?_; cases h4; exact eG 10 Z (En [22,1,3] Z)
 refine B1 hf fun b2 h8 hf=>U 1 Z (AR.dB 11 23 34 false [1,3] b2 Z Z (fun h7=>?_) (fun h7=>?_) ?_)
 ·
  replace h8:=cZ h7 h8; refine Is 23 h7 Z (U 1 Z (GO Z (AO.aY (i:=0) Z Z Z EP Z Z ?_))); refine B1 h8 fun x3 h9 h8=>GO Z (AO.call Z _ Z Z ajo (vV _ h9 (U 2 Z (AR.and 5 28 33 [1,3,23] (x:=((t2.elem.length:Int) != 0)) Z Z (fun h10=>?_) (fun h10=>?_) ?_))))
  · refine Is 28 h10 Z (U 1 Z (GO Z (AO.aY (i:=0) Z Z Z amC Z Z (GO Z (AO.aP (l:=t2.elem) Z Z Z Z fZ Z (ak.aB _) ?_))))); exact eG 2 Z (En [33,1,3,23] Z)
  · refine Is 28 h10 Z ?_; exact eG 5 Z (En [33,1,3,23] Z)
  cases h8; exact eG 1 Z (En [34,1,3] Z)
 · refine IT 23 h7 h8 Z fun h8=>?_; cases h8; exact eG 11 Z (En [34,1,3] Z)
 refine J 0 Z (C hf Z (fun h11 hf=>?_) fun h11 hf=>?_)
 · cases hf; exact M 1 Z (Y Z h)
 refine B1 hf fun x4 h12 hf=>Wr 2 [0] Z Z (CL Z (vV _ h12 (J 1 Z (C hf Z (fun jJ hf=>?_) fun jJ hf=>?_))))
 · cases hf; exact M 1 Z (Y Z h)
 refine B1 hf fun e1 j5 hf=>Wr 2 [0] Z Z (AS Z (AO.aI j5 Z Z (ak.aB _) Z fZ (ak.aD _) Z ?_)); exact Rx 5 [0] Z Z ⟨(bZ (bV + 1)),e1,Z,Z,Z,hf⟩

theorem adR (cB:List aH) {r0:Int} (hf:J6 cB=some r0) (h:Q (.ret (iP r0)) τ):PC 55 [.list (List.map aH.cells cB)] τ Q:=by
 unfold J6 at hf; refine BN 39 [.tmp 2] [0] Tryz.func55 Z Z Z Z Z (W 2 Z (AS Z (AO.aP (l:=cB) Z Z Z Z Bb Z Z (J 1 Z (C hf Z (fun h1 hf=>?_) fun h1 hf=>?_)))))
 · cases hf; exact M 1 Z (Y Z h)
 refine W 0 Z (AS Z (AO.VY Z (fun m10=>(U 2 Z (AS Z (AO.aP (l:=cB) Z Z Z Z Bb Z Z (J 1 Z (Xy (fun x1 y1=>[(3,.val (.map (some m10))),(11,.list (List.map aH.cells cB)),(12,iP (cB.length:Int)),(13,iP x1)]) (fun x1 y1=>[.obj m10 (zC y1)]) (fun bT x1 y1=>Co cB bT x1 y1=some r0) BIG 0 [] Z Z hf (fun _ _ hz=>bQ hz) ?_)))))))); intro bT x1 y1 hf; rw [Co] at hf; refine V 1 Z (C hf Z (fun h2 hf=>?_) fun h2 hf=>?_)
 ·
  refine B1 hf fun e1 h3 hf=>W 0 Z (AS Z (AO.aI h3 Z Z Z Z Bb (aH.aD _) Z (U 1 Z (AS Z (AO.aF Z afF (fun b5=>?_)))))); refine B1 hf fun x2 h4 hf=>Rr 4 [0,0] Z Z (CL Z (xY _ h4 (J 1 Z (C hf Z (fun h5 hf=>?_) fun h5 hf=>?_))))
  · cases hf; exact M 1 Z (Y Z h)
  refine B1 hf fun e2 h6 hf=>Wr 2 [0] Z Z (CL Z (Cq _ h6 (J 3 Z (C hf Z (fun h7 hf=>?_) fun h7 hf=>?_))))
  · cases hf; exact M 2 Z (Y Z h)
  refine Wr 3 [0] Z Z (AS Z (AO.Oi (i:=1) (l:=y1) Z Z Z Z KJ dM agO (U 1 Z (AR.dh Z Z (AO.Pw (i:=1) (l:=y1) Z Z Z Z Z KJ dM (Rr 3 [0] Z Z (AS Z (AO.Oi (i:=1) (l:=(uX y1 e1.name (bZ ((qp y1 e1.name) + 1)))) Z Z Z Z KJ dM agO (J 1 Z (C hf Z (fun h8 hf=>?_) fun h8 hf=>?_))))))))))
  · cases hf; exact M 1 Z (Y Z h)
  refine Wn0 2 Z (AR.drop1 ?_); exact N 0 Z ⟨(bZ (x1 + 1)),(uX y1 e1.name (bZ ((qp y1 e1.name) + 1))),Z,Z,Z,hf⟩
 cases hf; exact M 1 Z (Y Z h)

theorem gH (fE:Int) {r0:ak} (hf:gB fE=some r0) (h:Q (.ret (.agg (aW r0))) τ):PC 59 [iP fE] τ Q:=by
 unfold gB at hf; refine BN 5 [.cell 2 54] [0] Tryz.func59 Z Z Z Z Z (W 0 Z (AS Z (AO.aF Z jk (fun b2=>?_)))); cases hf; exact Rx 3 [0] Z Z (ZC [0] Z Z h)

theorem yg (fE:Int) (kg:ak) {r0:ak} (hf:nQ fE kg=some r0) (h:Q (.ret (.agg (aW r0))) τ):PC 147 [iP fE,.agg (aW kg)] τ Q:=by
 unfold nQ at hf; refine BN 9 [.cell 4 54] [0,1] Tryz.func147 rfl rfl rfl rfl rfl (W 1 rfl (AS rfl (AO.aF rfl jk (fun b4=>(U 2 rfl (AS rfl (AO.aS (ak.aU [kg]) rfl uZ rfl rfl rfl (by first | rfl | simp only [List.map,ak.aD,ak.aU]) ?_))))))); cases hf; exact Rx 2 [0] Z Z (ZC [0] Z Z h)

theorem Qf (name1:Str) {r0:List (List ak)} {r1:ak} (hf:kJ name1=some (r0,r1)) (h:Q (.ret (.tuple [.list (List.map ak.uz r0),.agg (aW r1)])) τ):PC 140 [.str name1] τ Q:=by
 unfold kJ at hf; refine BN 106 [.tmp 2,.cell 3 54] [0] Tryz.func140 Z Z Z Z Z (W 0 Z (AS Z (AO.mh Z Z (AS Z (AO.aF Z jk (fun b3=>?_)))))); refine B1 hf fun x1 h1 hf=>U 0 Z (CL Z (gH _ h1 ?_)); refine B1 hf fun x2 h2 hf=>CL Z (gH _ h2 ?_); refine B1 hf fun x3 h3 hf=>CL Z (gH _ h3 ?_); refine B1 hf fun x4 h4 hf=>CL Z (gH _ h4 (AS Z (AO.aF Z jk (fun b4=>(AS Z (AO.aF Z jk (fun b5=>(AS Z (AO.aF Z jk (fun b6=>?_))))))))))
 refine AS Z (AO.aF Z jk (fun b7=>(Rw 4 [3,2,1,0] Z Z (AW.aqH 6 54 [8,9,10] mixed (by kernel_rfl) Z jk Z (by kernel_rfl) (by decide) ?_)))); refine Ev.cons Z Z Z (AO.aY (i:=3) Z Z Z bI Z Z zg) ?_; refine B1 hf fun x5 h5 hf=>Ev.cons Z Z Z (AO.call Z _ Z Z aaA (yg _ _ h5 zg)) (Ev.cons Z Z Z (AO.aY (i:=3) Z Z Z bI Z Z zg) ?_); refine B1 hf fun x6 h6 hf=>Ev.cons Z Z Z (AO.call Z _ Z Z aaA (yg _ _ h6 zg)) (Ev.cons Z Z Z (AO.aY (i:=1) Z Z Z bI Z Z zg) ?_)
 refine B1 hf fun x7 h7 hf=>Ev.cons Z Z Z (AO.call Z _ Z Z aaA (yg _ _ h7 zg)) (Ev.nil ?_); intro b8 b9 b10; show AR _ _ _ _ _ _ _ _
 refine Rw 6 [2,1,0] Z Z (C hf Z (fun h8 hf=>?_) fun h8 hf=>?_)
 ·
  refine V 0 Z (AW.draw 9 mixed (by kernel_rfl) Z ?_); refine Ev.cons rfl rfl rfl (AO.aY (i:=4) rfl rfl rfl bI rfl rfl ⟨rfl,rfl⟩) (Ev.cons rfl rfl rfl (AO.aS (ak.aU [x3]) rfl uZ rfl rfl rfl (by first | rfl | simp only [List.map,ak.aD,ak.aU]) ⟨rfl,rfl⟩) ?_); refine Ev.cons rfl rfl rfl (AO.aY (i:=2) rfl rfl rfl bI rfl rfl ⟨rfl,rfl⟩) (Ev.cons rfl rfl rfl (AO.aS (ak.aU [x5]) rfl uZ rfl rfl rfl (by first | rfl | simp only [List.map,ak.aD,ak.aU]) ⟨rfl,rfl⟩) ?_)
  refine Ev.cons rfl rfl rfl (AO.aY (i:=1) rfl rfl rfl bI rfl rfl ⟨rfl,rfl⟩) (Ev.cons rfl rfl rfl (AO.aS (ak.aU [x6]) rfl uZ rfl rfl rfl (by first | rfl | simp only [List.map,ak.aD,ak.aU]) ⟨rfl,rfl⟩) ?_); refine Ev.cons Z Z Z (AO.aS (List.map ak.uz [[x3],[x5],[x6]]) Z ER Z Z Z Z zg) (Ev.cons Z Z Z (AO.aY (i:=5) Z Z Z bI Z Z zg) (Ev.cs aG 1 Z (Ev.nil ?_))); show AR _ _ _ _ _ _ _ _
  cases hf; exact Rx 1 [7] Z Z (ZC [7] Z Z h)
 refine V 2 Z (C hf Z (fun h9 hf=>?_) fun h9 hf=>?_)
 ·
  refine V 0 Z (AW.draw 12 mixed (by kernel_rfl) Z ?_); refine Ev.cons rfl rfl rfl (AO.aY (i:=2) rfl rfl rfl bI rfl rfl ⟨rfl,rfl⟩) (Ev.cons rfl rfl rfl (AO.aY (i:=6) rfl rfl rfl bI rfl rfl ⟨rfl,rfl⟩) (Ev.cons rfl rfl rfl (AO.aS (ak.aU [x5,x1]) rfl uZ rfl rfl rfl (by first | rfl | simp only [List.map,ak.aD,ak.aU]) ⟨rfl,rfl⟩) ?_))
  refine Ev.cons rfl rfl rfl (AO.aY (i:=4) rfl rfl rfl bI rfl rfl ⟨rfl,rfl⟩) (Ev.cons rfl rfl rfl (AO.aY (i:=4) rfl rfl rfl bI rfl rfl ⟨rfl,rfl⟩) (Ev.cons rfl rfl rfl (AO.aS (ak.aU [x3,x3]) rfl uZ rfl rfl rfl (by first | rfl | simp only [List.map,ak.aD,ak.aU]) ⟨rfl,rfl⟩) ?_))
  refine Ev.cons rfl rfl rfl (AO.aY (i:=1) rfl rfl rfl bI rfl rfl ⟨rfl,rfl⟩) (Ev.cons rfl rfl rfl (AO.aY (i:=4) rfl rfl rfl bI rfl rfl ⟨rfl,rfl⟩) (Ev.cons rfl rfl rfl (AO.aS (ak.aU [x6,x3]) rfl uZ rfl rfl rfl (by first | rfl | simp only [List.map,ak.aD,ak.aU]) ⟨rfl,rfl⟩) ?_)); refine Ev.cons Z Z Z (AO.aS (List.map ak.uz [[x5,x1],[x3,x3],[x6,x3]]) Z ER Z Z Z Z zg) (Ev.cons Z Z Z (AO.aY (i:=3) Z Z Z bI Z Z zg) (Ev.cs aG 1 Z (Ev.nil ?_)))
  show AR _ _ _ _ _ _ _ _
  cases hf; exact Rx 1 [7] Z Z (ZC [7] Z Z h)
 refine V 2 Z (C hf Z (fun h10 hf=>?_) fun h10 hf=>?_)
 ·
  refine V 0 Z (AW.draw 6 mixed (by kernel_rfl) Z ?_); refine Ev.cons rfl rfl rfl (AO.aY (i:=0) rfl rfl rfl bI rfl rfl ⟨rfl,rfl⟩) (Ev.cons rfl rfl rfl (AO.aY (i:=4) rfl rfl rfl bI rfl rfl ⟨rfl,rfl⟩) (Ev.cons rfl rfl rfl (AO.aS (ak.aU [x7,x3]) rfl uZ rfl rfl rfl (by first | rfl | simp only [List.map,ak.aD,ak.aU]) ⟨rfl,rfl⟩) ?_))
  refine Ev.cons Z Z Z (AO.aS (List.map ak.uz [[x7,x3]]) Z ER Z Z Z Z zg) (Ev.cons Z Z Z (AO.aY (i:=4) Z Z Z bI Z Z zg) (Ev.cs aG 1 Z (Ev.nil ?_))); show AR _ _ _ _ _ _ _ _
  cases hf; exact Rx 1 [7] Z Z (ZC [7] Z Z h)
 refine V 2 Z (C hf Z (fun h11 hf=>?_) fun h11 hf=>?_)
 ·
  refine V 0 Z (AW.draw 11 mixed (by kernel_rfl) Z ?_); refine B1 hf fun x8 h12 hf=>Ev.cons rfl rfl rfl (AO.call rfl _ rfl rfl VD (gH _ h12 ⟨rfl,rfl⟩)) (Ev.cons rfl rfl rfl (AO.aS (ak.aU [x8]) rfl uZ rfl rfl rfl (by first | rfl | simp only [List.map,ak.aD,ak.aU]) ⟨rfl,rfl⟩) ?_); refine Ev.cons rfl rfl rfl (AO.aY (i:=3) rfl rfl rfl bI rfl rfl ⟨rfl,rfl⟩) (Ev.cons rfl rfl rfl (AO.aS (ak.aU [x4]) rfl uZ rfl rfl rfl (by first | rfl | simp only [List.map,ak.aD,ak.aU]) ⟨rfl,rfl⟩) ?_)
  refine Ev.cons rfl rfl rfl (AO.aY (i:=5) rfl rfl rfl bI rfl rfl ⟨rfl,rfl⟩) (Ev.cons rfl rfl rfl (AO.aS (ak.aU [x2]) rfl uZ rfl rfl rfl (by first | rfl | simp only [List.map,ak.aD,ak.aU]) ⟨rfl,rfl⟩) ?_); refine Ev.cons rfl rfl rfl (AO.aY (i:=4) rfl rfl rfl bI rfl rfl ⟨rfl,rfl⟩) (Ev.cons rfl rfl rfl (AO.aS (ak.aU [x3]) rfl uZ rfl rfl rfl (by first | rfl | simp only [List.map,ak.aD,ak.aU]) ⟨rfl,rfl⟩) ?_)
  refine Ev.cons Z Z Z (AO.aS (List.map ak.uz [[x8],[x4],[x2],[x3]]) Z ER Z Z Z Z zg) (Ev.cons Z Z Z (AO.aY (i:=4) Z Z Z bI Z Z zg) (Ev.cs aG 1 Z (Ev.nil ?_))); show AR _ _ _ _ _ _ _ _
  cases hf; exact Rx 1 [7] Z Z (ZC [7] Z Z h)
 refine V 2 Z (C hf Z (fun jJ hf=>?_) fun jJ hf=>?_)
 ·
  refine V 0 Z (AW.cond Z (fun j5=>?_) (fun j5=>?_))
  ·
   refine V 0 Z (AW.draw 5 mixed (by kernel_rfl) Z ?_); refine Ev.cons rfl rfl rfl (AO.aY (i:=4) rfl rfl rfl bI rfl rfl ⟨rfl,rfl⟩) (Ev.cons rfl rfl rfl (AO.aS (ak.aU [x3]) rfl uZ rfl rfl rfl (by first | rfl | simp only [List.map,ak.aD,ak.aU]) ⟨rfl,rfl⟩) ?_); refine Ev.cons Z Z Z (AO.aS (List.map ak.uz [[x3]]) Z ER Z Z Z Z zg) (Ev.cons Z Z Z (AO.aY (i:=4) Z Z Z bI Z Z zg) (Ev.cs aG 1 Z (Ev.nil ?_))); show AR _ _ _ _ _ _ _ _
   cases hf; exact Rx 1 [7] Z Z (ZC [7] Z Z h)
  cases jJ.symm.trans j5
 refine V 2 Z (C hf Z (fun mo hf=>?_) fun mo hf=>?_)
 ·
  refine V 0 Z (AW.draw 5 mixed (by kernel_rfl) Z ?_); refine Ev.cons rfl rfl rfl (AO.aY (i:=4) rfl rfl rfl bI rfl rfl ⟨rfl,rfl⟩) (Ev.cons rfl rfl rfl (AO.aS (ak.aU [x3]) rfl uZ rfl rfl rfl (by first | rfl | simp only [List.map,ak.aD,ak.aU]) ⟨rfl,rfl⟩) ?_); refine Ev.cons Z Z Z (AO.aS (List.map ak.uz [[x3]]) Z ER Z Z Z Z zg) (Ev.cons Z Z Z (AO.aY (i:=4) Z Z Z bI Z Z zg) (Ev.cs aG 1 Z (Ev.nil ?_))); show AR _ _ _ _ _ _ _ _
  cases hf; exact Rx 1 [7] Z Z (ZC [7] Z Z h)
 refine V 2 Z (C hf Z (fun h16 hf=>?_) fun h16 hf=>?_)
 ·
  refine V 0 Z (AW.draw 6 mixed (by kernel_rfl) Z ?_); refine Ev.cons rfl rfl rfl (AO.aY (i:=4) rfl rfl rfl bI rfl rfl ⟨rfl,rfl⟩) (Ev.cons rfl rfl rfl (AO.aY (i:=4) rfl rfl rfl bI rfl rfl ⟨rfl,rfl⟩) (Ev.cons rfl rfl rfl (AO.aS (ak.aU [x3,x3]) rfl uZ rfl rfl rfl (by first | rfl | simp only [List.map,ak.aD,ak.aU]) ⟨rfl,rfl⟩) ?_))
  refine Ev.cons Z Z Z (AO.aS (List.map ak.uz [[x3,x3]]) Z ER Z Z Z Z zg) (Ev.cons Z Z Z (AO.aY (i:=0) Z Z Z bI Z Z zg) (Ev.cs aG 1 Z (Ev.nil ?_))); show AR _ _ _ _ _ _ _ _
  cases hf; exact Rx 1 [7] Z Z (ZC [7] Z Z h)
 refine V 2 Z (C hf Z (fun qB hf=>?_) fun qB hf=>?_)
 ·
  refine V 0 Z (AW.cond Z (fun h18=>?_) (fun h18=>?_))
  ·
   refine V 0 Z (AW.draw 6 mixed (by kernel_rfl) Z ?_); refine Ev.cons rfl rfl rfl (AO.aY (i:=4) rfl rfl rfl bI rfl rfl ⟨rfl,rfl⟩) (Ev.cons rfl rfl rfl (AO.aY (i:=4) rfl rfl rfl bI rfl rfl ⟨rfl,rfl⟩) (Ev.cons rfl rfl rfl (AO.aS (ak.aU [x3,x3]) rfl uZ rfl rfl rfl (by first | rfl | simp only [List.map,ak.aD,ak.aU]) ⟨rfl,rfl⟩) ?_))
   refine Ev.cons Z Z Z (AO.aS (List.map ak.uz [[x3,x3]]) Z ER Z Z Z Z zg) (Ev.cons Z Z Z (AO.aY (i:=3) Z Z Z bI Z Z zg) (Ev.cs aG 1 Z (Ev.nil ?_))); show AR _ _ _ _ _ _ _ _
   cases hf; exact Rx 1 [7] Z Z (ZC [7] Z Z h)
  cases qB.symm.trans h18
 refine V 2 Z (C hf Z (fun h19 hf=>?_) fun h19 hf=>?_)
 ·
  refine V 0 Z (AW.draw 6 mixed (by kernel_rfl) Z ?_); refine Ev.cons rfl rfl rfl (AO.aY (i:=4) rfl rfl rfl bI rfl rfl ⟨rfl,rfl⟩) (Ev.cons rfl rfl rfl (AO.aY (i:=4) rfl rfl rfl bI rfl rfl ⟨rfl,rfl⟩) (Ev.cons rfl rfl rfl (AO.aS (ak.aU [x3,x3]) rfl uZ rfl rfl rfl (by first | rfl | simp only [List.map,ak.aD,ak.aU]) ⟨rfl,rfl⟩) ?_))
  refine Ev.cons Z Z Z (AO.aS (List.map ak.uz [[x3,x3]]) Z ER Z Z Z Z zg) (Ev.cons Z Z Z (AO.aY (i:=3) Z Z Z bI Z Z zg) (Ev.cs aG 1 Z (Ev.nil ?_))); show AR _ _ _ _ _ _ _ _
  cases hf; exact Rx 1 [7] Z Z (ZC [7] Z Z h)
 refine V 2 Z (C hf Z (fun h20 hf=>?_) fun h20 hf=>?_)
 ·
  refine V 0 Z (AW.draw 5 mixed (by kernel_rfl) Z ?_); refine Ev.cons rfl rfl rfl (AO.aY (i:=4) rfl rfl rfl bI rfl rfl ⟨rfl,rfl⟩) (Ev.cons rfl rfl rfl (AO.aS (ak.aU [x3]) rfl uZ rfl rfl rfl (by first | rfl | simp only [List.map,ak.aD,ak.aU]) ⟨rfl,rfl⟩) ?_); refine Ev.cons Z Z Z (AO.aS (List.map ak.uz [[x3]]) Z ER Z Z Z Z zg) (Ev.cons Z Z Z (AO.aY (i:=5) Z Z Z bI Z Z zg) (Ev.cs aG 1 Z (Ev.nil ?_))); show AR _ _ _ _ _ _ _ _
  cases hf; exact Rx 1 [7] Z Z (ZC [7] Z Z h)
 refine V 2 Z (C hf Z (fun h21 hf=>?_) fun h21 hf=>?_)
 ·
  refine V 0 Z (AW.draw 6 mixed (by kernel_rfl) Z ?_); refine Ev.cons rfl rfl rfl (AO.aY (i:=6) rfl rfl rfl bI rfl rfl ⟨rfl,rfl⟩) (Ev.cons rfl rfl rfl (AO.aY (i:=6) rfl rfl rfl bI rfl rfl ⟨rfl,rfl⟩) (Ev.cons rfl rfl rfl (AO.aS (ak.aU [x1,x1]) rfl uZ rfl rfl rfl (by first | rfl | simp only [List.map,ak.aD,ak.aU]) ⟨rfl,rfl⟩) ?_))
  refine Ev.cons Z Z Z (AO.aS (List.map ak.uz [[x1,x1]]) Z ER Z Z Z Z zg) (Ev.cons Z Z Z (AO.aY (i:=6) Z Z Z bI Z Z zg) (Ev.cs aG 1 Z (Ev.nil ?_))); show AR _ _ _ _ _ _ _ _
  cases hf; exact Rx 1 [7] Z Z (ZC [7] Z Z h)
 refine V 2 Z (C hf Z (fun h22 hf=>?_) fun h22 hf=>?_)
 ·
  refine V 0 Z (AW.draw 5 mixed (by kernel_rfl) Z ?_); refine Ev.cons rfl rfl rfl (AO.aY (i:=1) rfl rfl rfl bI rfl rfl ⟨rfl,rfl⟩) (Ev.cons rfl rfl rfl (AO.aS (ak.aU [x6]) rfl uZ rfl rfl rfl (by first | rfl | simp only [List.map,ak.aD,ak.aU]) ⟨rfl,rfl⟩) ?_); refine Ev.cons Z Z Z (AO.aS (List.map ak.uz [[x6]]) Z ER Z Z Z Z zg) (Ev.cons Z Z Z (AO.aY (i:=0) Z Z Z bI Z Z zg) (Ev.cs aG 1 Z (Ev.nil ?_))); show AR _ _ _ _ _ _ _ _
  cases hf; exact Rx 1 [7] Z Z (ZC [7] Z Z h)
 refine V 0 Z (AW.draw 2 mixed (by kernel_rfl) Z ?_); refine Ev.cons Z Z Z (AO.aY (i:=6) Z Z Z bI Z Z zg) (Ev.cons Z Z Z (AO.mh Z Z zg) (Ev.nil ?_)); show AR _ _ _ _ _ _ _ _
 cases hf; exact Rx 1 [7] Z Z (ZC [7] Z Z h)

theorem jm (t1:ak) {r0:Bool} (hf:gI t1=some r0) (h:Q (.ret (.bool r0)) τ):PC 143 [.agg (aW t1)] τ Q:=by
 unfold gI at hf; refine BN 11 [.tmp 2] [0] Tryz.func143 Z Z Z Z Z (W 6 Z (On 4 6 10 [] (t1.kind == 7) Z Z Z Z ?_)); cases hf; exact N 1 Z (Y Z h)


abbrev H7 (nT:ak→ak→Option Bool):Prop:=∀ (z_:ak) (Uf:ak) {aR:Bool},nT z_ Uf=some aR→∀ {τ:List bJ} {Q:eT→List bJ→Prop} (h:Q (.ret (.bool aR)) τ),PC 92 [.agg (aW z_),.agg (aW Uf)] τ Q
theorem Pf (nT) (Nb:H7 nT) (t1:ak) (u1:ak) {r0:Bool} (hf:mX nT t1 u1=some r0) (h:Q (.ret (.bool r0)) τ):PC 92 [.agg (aW t1),.agg (aW u1)] τ Q:=by
 unfold mX at hf; refine BN 39 [.tmp 4] [0,1] Tryz.func92 Z Z Z Z Z ?_; refine B1 hf fun x1 h1 hf=>W 4 Z (CL Z (jm _ h1 (U 1 Z (On 4 8 12 [2,3] (u1.kind == 0) Z Z Z Z (J 1 Z (C hf Z (fun h3 hf=>?_) fun h3 hf=>?_))))))
 · cases hf; exact M 1 Z (Y Z h)
 refine V 6 Z (C hf Z (fun h4 hf=>?_) fun h4 hf=>?_)
 · cases hf; exact M 1 Z (Y Z h)
 refine W 2 Z (AS Z (AO.aP (l:=t1.elem) Z Z Z Z fZ Z (ak.aB _) (U 2 Z (AR.and 5 24 29 [2,3] (x:=((u1.elem.length:Int) == 1)) Z Z (fun h5=>?_) (fun h5=>?_) ?_))))
 · refine Is 24 h5 Z (U 2 Z (GO Z (AO.aP (l:=u1.elem) Z Z Z Z fZ Z (ak.aB _) ?_))); exact eG 2 Z (En [29,2,3] Z)
 · refine Is 24 h5 Z ?_; exact eG 5 Z (En [29,2,3] Z)
 refine J 1 Z (C hf Z (fun h6 hf=>?_) fun h6 hf=>?_)
 ·
  refine V 0 Z (AW.draw 10 mixed (by kernel_rfl) Z ?_); refine Ev.cs aG 2 Z ?_; refine B1 hf fun e1 h7 hf=>Ev.cons Z Z Z (AO.aI h7 Z Z (ak.aB _) Z fZ (ak.aD _) Z zg) (Ev.cs aG 3 Z ?_); refine B1 hf fun e2 h8 hf=>Ev.cons Z Z Z (AO.aI h8 Z Z (ak.aB _) Z fZ (ak.aD _) Z zg) (Ev.cs aG 1 Z ?_); refine BR hf fun x2 h9 hf=>?_; refine Ev.cons Z Z Z (AO.call Z _ Z Z VB (Nb _ _ h9 zg)) (Ev.cs aG 1 Z (Ev.nil ?_))
  show AR _ _ _ _ _ _ _ _
  cases hf; exact N 0 Z (Y Z h)
 cases hf; exact M 1 Z (Y Z h)
theorem Pv :∀ k:Nat,(H7 (jG k)):=by
 intro k
 induction k with
 | zero=>exact fun _ _ _ hz=>by first | cases hz | (unfold jG at hz; cases hz)
 | succ k ih=>exact fun z_ Uf aR hz τ Q hq=>Pf (jG k) ih z_ Uf hz hq
theorem lJ (z_:ak) (Uf:ak) {aR:Bool} (hf:jP z_ Uf=some aR) (h:Q (.ret (.bool aR)) τ):PC 92 [.agg (aW z_),.agg (aW Uf)] τ Q:=
 ((Pv BIG)) z_ Uf hf h

theorem YD (yA:List ak) (D7:List ak) {r0:Bool} (hf:tC yA D7=some r0) (h:Q (.ret (.bool r0)) τ):PC 141 [.list (ak.aU yA),.list (ak.aU D7)] τ Q:=by
 unfold tC at hf; refine BN 22 [.tmp 4] [0,1] Tryz.func141 Z Z Z Z Z (W 2 Z (AS Z (AO.aP (l:=D7) Z Z Z Z fZ Z (ak.aB _) (J 1 Z (Gh (fun i1=>[(0,.list (ak.aU yA)),(1,.list (ak.aU D7)),(7,iP (D7.length:Int)),(8,iP i1)]) (fun i1=>[]) (fun bT i1=>uR yA D7 bT i1=some r0) BIG 0 Z Z hf (fun _ hz=>bQ hz) ?_))))); intro bT i1 hf; rw [uR] at hf; refine V 1 Z (C hf Z (fun h1 hf=>?_) fun h1 hf=>?_)
 ·
  refine V 2 Z (AW.draw 10 mixed (by kernel_rfl) Z ?_); refine Ev.cs aG 2 Z ?_; refine B1 hf fun e1 h2 hf=>Ev.cons Z Z Z (AO.aI h2 Z Z (ak.aB _) Z fZ (ak.aD _) Z zg) (Ev.cs aG 3 Z ?_); refine B1 hf fun e2 h3 hf=>Ev.cons Z Z Z (AO.aI h3 Z Z (ak.aB _) Z fZ (ak.aD _) Z zg) (Ev.cs aG 1 Z ?_); refine B1 hf fun x1 h4 hf=>Ev.cons Z Z Z (AO.call Z _ Z Z VB (lJ _ _ h4 zg)) (Ev.cs aG 1 Z (Ev.nil ?_)); show AR _ _ _ _ _ _ _ _
  refine J 0 Z (C hf Z (fun h5 hf=>?_) fun h5 hf=>?_)
  · cases hf; exact M 1 Z (Y Z h)
  exact M 2 Z ⟨(bZ (i1 + 1)),Z,Z,Z,hf⟩
 cases hf; exact M 1 Z (Y Z h)

theorem lU (fE:Int) {r0:ak} (hf:g_ fE=some r0) (h:Q (.ret (.agg (aW r0))) τ):PC 95 [iP fE] τ Q:=by
 unfold g_ at hf; refine BN 5 [.cell 2 54] [0] Tryz.func95 Z Z Z Z Z (W 0 Z (AS Z (AO.aF Z jk (fun b2=>?_)))); cases hf; exact Rx 3 [0] Z Z (ZC [0] Z Z h)

theorem I4 (fE:Int) (kg:ak) {r0:ak} (hf:qU fE kg=some r0) (h:Q (.ret (.agg (aW r0))) τ):PC 149 [iP fE,.agg (aW kg)] τ Q:=by
 unfold qU at hf; refine BN 9 [.cell 4 54] [0,1] Tryz.func149 rfl rfl rfl rfl rfl (W 1 rfl (AS rfl (AO.aF rfl jk (fun b4=>(U 2 rfl (AS rfl (AO.aS (ak.aU [kg]) rfl uZ rfl rfl rfl (by first | rfl | simp only [List.map,ak.aD,ak.aU]) ?_))))))); cases hf; exact Rx 2 [0] Z Z (ZC [0] Z Z h)


abbrev NS (sI:ak→Option ak):Prop:=∀ (z_:ak) {aR:ak},sI z_=some aR→∀ {τ:List bJ} {Q:eT→List bJ→Prop} (h:Q (.ret (.agg (aW aR))) τ),PC 148 [.agg (aW z_)] τ Q
theorem U_ (sI) (Sv:NS sI) (t1:ak) {r0:ak} (hf:w_ sI t1=some r0) (h:Q (.ret (.agg (aW r0))) τ):PC 148 [.agg (aW t1)] τ Q:=by
 unfold w_ at hf; refine BN 18 [.cell 2 54] [0] Tryz.func148 Z Z Z Z Z (W 1 Z (AS Z (AO.aF Z jk (fun b2=>?_)))); refine B1 hf fun x1 h1 hf=>U 2 Z (CL Z (vV _ h1 (J 1 Z (C hf Z (fun h2 hf=>?_) fun h2 hf=>?_))))
 · refine BR hf fun x2 h3 hf=>?_; refine W 2 Z (CL Z (lU _ h3 ?_)); cases hf; exact Rx 1 [0] Z Z (ZC [0] Z Z h)
 refine V 0 Z (AW.draw 8 mixed (by kernel_rfl) Z ?_); refine Ev.cs aG 4 Z ?_; refine B1 hf fun e1 h4 hf=>Ev.cons Z Z Z (AO.aI h4 Z Z (ak.aB _) Z fZ (ak.aD _) Z zg) (Ev.cs aG 1 Z ?_); refine B1 hf fun x3 h5 hf=>Ev.cons Z Z Z (AO.call Z _ Z Z an7 (Sv _ h5 zg)) ?_; refine BR hf fun x4 h6 hf=>?_; refine Ev.cons Z Z Z (AO.call Z _ Z Z ajn (I4 _ _ h6 zg)) (Ev.nil ?_); show AR _ _ _ _ _ _ _ _
 cases hf; exact Rx 1 [0] Z Z (ZC [0] Z Z h)
theorem VP :∀ k:Nat,(NS (pJ k)):=by
 intro k
 induction k with
 | zero=>exact fun _ _ hz=>by first | cases hz | (unfold pJ at hz; cases hz)
 | succ k ih=>exact fun z_ aR hz τ Q hq=>U_ (pJ k) ih z_ hz hq
theorem Nu (z_:ak) {aR:ak} (hf:Fb z_=some aR) (h:Q (.ret (.agg (aW aR))) τ):PC 148 [.agg (aW z_)] τ Q:=
 ((VP BIG)) z_ hf h


abbrev O8 (uN:ak→ak→Option ak):Prop:=∀ (sF:ak) (sD:ak) {aR:ak},uN sF sD=some aR→∀ {τ:List bJ} {Q:eT→List bJ→Prop} (h:Q (.ret (.agg (aW aR))) τ),PC 96 [.agg (aW sF),.agg (aW sD)] τ Q
theorem XJ (uN) (Uo:O8 uN) (a1:ak) (b1:ak) {r0:ak} (hf:tY uN a1 b1=some r0) (h:Q (.ret (.agg (aW r0))) τ):PC 96 [.agg (aW a1),.agg (aW b1)] τ Q:=by
 unfold tY at hf; refine BN 43 [.cell 4 54] [0,1] Tryz.func96 Z Z Z Z Z (W 2 Z (AS Z (AO.aF Z jk (fun b4=>(J 4 Z (C hf Z (fun h1 hf=>?_) fun h1 hf=>?_))))))
 · refine BR hf fun x1 h2 hf=>?_; refine W 1 Z (CL Z (Nu _ h2 ?_)); cases hf; exact Rx 1 [0] Z Z (ZC [0] Z Z h)
 refine V 4 Z (C hf Z (fun h3 hf=>?_) fun h3 hf=>?_)
 · refine BR hf fun x2 h4 hf=>?_; refine W 1 Z (CL Z (Nu _ h4 ?_)); cases hf; exact Rx 1 [0] Z Z (ZC [0] Z Z h)
 refine V 6 Z (C hf Z (fun h5 hf=>?_) fun h5 hf=>?_)
 · refine BR hf fun x3 h6 hf=>?_; refine W 0 Z (CL Z (lU _ h6 ?_)); cases hf; exact Rx 1 [0] Z Z (ZC [0] Z Z h)
 refine B1 hf fun x4 h7 hf=>W 2 Z (CL Z (vV _ h7 (J 1 Z (C hf Z (fun h8 hf=>?_) fun h8 hf=>?_))))
 ·
  refine V 0 Z (AW.draw 12 mixed (by kernel_rfl) Z ?_); refine Ev.cs aG 4 Z ?_; refine B1 hf fun e1 h9 hf=>Ev.cons Z Z Z (AO.aI h9 Z Z (ak.aB _) Z fZ (ak.aD _) Z zg) (Ev.cs aG 3 Z ?_); refine B1 hf fun e2 h10 hf=>Ev.cons Z Z Z (AO.aI h10 Z Z (ak.aB _) Z fZ (ak.aD _) Z zg) (Ev.cs aG 1 Z ?_); refine B1 hf fun x5 h11 hf=>Ev.cons Z Z Z (AO.call Z _ Z Z amF (Uo _ _ h11 zg)) ?_; refine BR hf fun x6 h12 hf=>?_
  refine Ev.cons Z Z Z (AO.call Z _ Z Z ajn (I4 _ _ h12 zg)) (Ev.nil ?_); show AR _ _ _ _ _ _ _ _
  cases hf; exact Rx 1 [0] Z Z (ZC [0] Z Z h)
 refine BR hf fun x7 jJ hf=>?_; refine W 2 Z (CL Z (lU _ jJ ?_)); cases hf; exact Rx 1 [0] Z Z (ZC [0] Z Z h)
theorem XV :∀ k:Nat,(O8 (nD k)):=by
 intro k
 induction k with
 | zero=>exact fun _ _ _ hz=>by first | cases hz | (unfold nD at hz; cases hz)
 | succ k ih=>exact fun sF sD aR hz τ Q hq=>XJ (nD k) ih sF sD hz hq
theorem O0 (sF:ak) (sD:ak) {aR:ak} (hf:Ec sF sD=some aR) (h:Q (.ret (.agg (aW aR))) τ):PC 96 [.agg (aW sF),.agg (aW sD)] τ Q:=
 ((XV BIG)) sF sD hf h


abbrev O9 (mP:ah→Option ak):Prop:=∀ (qg:ah) {aR:ak},mP qg=some aR→∀ {τ:List bJ} {Q:eT→List bJ→Prop} (h:Q (.ret (.agg (aW aR))) τ),PC 142 [.agg (aK qg)] τ Q
theorem XK (mP) (Uq:O9 mP) (v1:ah) {r0:ak} (hf:Dy mP v1=some r0) (h:Q (.ret (.agg (aW r0))) τ):PC 142 [.agg (aK v1)] τ Q:=by
 unfold Dy at hf; refine BN 40 [.cell 2 54] [0] Tryz.func142 Z Z Z Z Z (W 1 Z (AS Z (AO.aF Z jk (fun b2=>(J 4 Z (C hf Z (fun h1 hf=>?_) fun h1 hf=>?_))))))
 · refine BR hf fun x1 h2 hf=>?_; refine W 0 Z (CL Z (lU _ h2 ?_)); cases hf; exact Rx 1 [0] Z Z (ZC [0] Z Z h)
 refine V 2 Z (C hf Z (fun h3 hf=>?_) fun h3 hf=>?_)
 · refine BR hf fun x2 h4 hf=>?_; refine W 0 Z (CL Z (lU _ h4 ?_)); cases hf; exact Rx 1 [0] Z Z (ZC [0] Z Z h)
 refine V 2 Z (C hf Z (fun h5 hf=>?_) fun h5 hf=>?_)
 · refine BR hf fun x3 h6 hf=>?_; refine W 0 Z (CL Z (lU _ h6 ?_)); cases hf; exact Rx 1 [0] Z Z (ZC [0] Z Z h)
 refine V 2 Z (C hf Z (fun h7 hf=>?_) fun h7 hf=>?_)
 · refine BR hf fun x4 h8 hf=>?_; refine W 0 Z (CL Z (lU _ h8 ?_)); cases hf; exact Rx 1 [0] Z Z (ZC [0] Z Z h)
 refine B1 hf fun x5 h9 hf=>W 0 Z (CL Z (lU _ h9 (AS Z (AO.aF Z jk (fun b3=>(Rr 3 [0] Z Z (AS Z (AO.aP (l:=v1.aO) Z Z Z Z dX Z (ah.aB _) ?_))))))))
 refine J 1 Z (Xy (fun x6 kg=>[(1,.ref (aK v1)),(2,pP b2),(3,pP b3),(22,.list (ah.aU v1.aO)),(23,iP (v1.aO.length:Int)),(24,iP x6)]) (fun x6 kg=>[.box b3 (aW kg),.box b2 [iP 0,.own (.slice none 0 0) []]]) (fun bT x6 kg=>w9 mP v1 bT x6 kg=some r0) BIG 0 x5 Z Z hf (fun _ _ hz=>bQ hz) ?_); intro bT x6 kg hf; rw [w9] at hf; refine V 1 Z (C hf Z (fun h10 hf=>?_) fun h10 hf=>?_)
 ·
  refine B1 hf fun e1 h11 hf=>W 0 Z (AS Z (AO.aI h11 Z Z (ah.aB _) Z dX (ah.aD _) Z (U 1 Z (AS Z (AO.aF Z gq (fun b5=>(Rw 1 [0] Z Z (AW.draw 4 mixed (by kernel_rfl) Z ?_)))))))); refine Ev.cons Z Z Z (AO.aY (i:=1) Z Z Z bI Z Z zg) (Ev.cons Z Z Z (AO.aY (i:=0) Z Z Z dF Z Z zg) ?_); refine B1 hf fun x7 h12 hf=>Ev.cons Z Z Z (AO.call Z _ Z Z an8 (Uq _ h12 zg)) ?_; refine B1 hf fun x8 jJ hf=>Ev.cons Z Z Z (AO.call Z _ Z Z amF (O0 _ _ jJ zg)) (Ev.nil ?_)
  show AR _ _ _ _ _ _ _ _
  refine Rn 3 [1] Z Z (AR.drop1 ?_); exact N 0 Z ⟨(bZ (x6 + 1)),x8,Z,Z,Z,hf⟩
 refine V 3 Z (C hf Z (fun j5 hf=>?_) fun j5 hf=>?_)
 · refine BR hf fun x9 mo hf=>?_; refine Wr 1 [0] Z Z (CL Z (I4 _ _ mo ?_)); cases hf; exact Rx 1 [1] Z Z (ZC [1] Z Z h)
 refine BR hf fun wS h16 hf=>?_; refine Wr 1 [0] Z Z (CL Z (I4 _ _ h16 ?_)); cases hf; exact Rx 1 [1] Z Z (ZC [1] Z Z h)
theorem XW :∀ k:Nat,(O9 (oV k)):=by
 intro k
 induction k with
 | zero=>exact fun _ _ hz=>by first | cases hz | (unfold oV at hz; cases hz)
 | succ k ih=>exact fun qg aR hz τ Q hq=>XK (oV k) ih qg hz hq
theorem Yj (qg:ah) {aR:ak} (hf:Mq qg=some aR) (h:Q (.ret (.agg (aW aR))) τ):PC 142 [.agg (aK qg)] τ Q:=
 ((XW BIG)) qg hf h

theorem adw (v1:ah) {r0:ak} (hf:Jv v1=some r0) (h:Q (.ret (.agg (aW r0))) τ):PC 86 [.agg (aK v1)] τ Q:=by
 unfold Jv at hf; refine BN 9 [.cell 2 54] [0] Tryz.func86 Z Z Z Z Z (W 1 Z (AS Z (AO.aF Z jk (fun b2=>?_)))); refine B1 hf fun x1 h1 hf=>U 1 Z (CL Z (uh _ h1 (J 1 Z (C hf Z (fun h2 hf=>?_) fun h2 hf=>?_))))
 · refine BR hf fun x2 h3 hf=>?_; refine W 0 Z (CL Z (lU _ h3 ?_)); cases hf; exact Rx 1 [0] Z Z (ZC [0] Z Z h)
 refine BR hf fun x3 h4 hf=>?_; refine W 1 Z (CL Z (Yj _ h4 ?_)); cases hf; exact Rx 1 [0] Z Z (ZC [0] Z Z h)

theorem S_ (cB:List aH) (name1:Str) {r0:ak} {r1:Int} (hf:xW cB name1=some (r0,r1)) (h:Q (.ret (.tuple [.agg (aW r0),iP r1])) τ):PC 87 [.list (List.map aH.cells cB),.str name1] τ Q:=by
 unfold xW at hf; refine BN 22 [.cell 4 54,.tmp 5] [0,1] Tryz.func87 Z Z Z Z Z (W 0 Z (AS Z (AO.aF Z jk (fun b4=>(U 2 Z (AS Z (AO.aP (l:=cB) Z Z Z Z Bb Z Z (J 1 Z (Gh (fun x1=>[(1,.str name1),(4,pP b4),(8,.list (List.map aH.cells cB)),(9,iP (cB.length:Int)),(10,iP x1)]) (fun x1=>[.box b4 [iP 0,.own (.slice none 0 0) []]]) (fun bT x1=>tH cB name1 bT x1=some (r0,r1)) BIG 0 Z Z hf (fun _ hz=>bQ hz) ?_))))))))); intro bT x1 hf; rw [tH] at hf
 refine V 1 Z (C hf Z (fun h1 hf=>?_) fun h1 hf=>?_)
 ·
  refine B1 hf fun e1 h2 hf=>W 0 Z (AS Z (AO.aI h2 Z Z Z Z Bb (aH.aD _) Z (U 1 Z (AS Z (AO.aF Z afF (fun b7=>(Rw 5 [0,0] Z Z (C hf Z (fun h3 hf=>?_) fun h3 hf=>?_))))))))
  · cases hf; exact Wx 4 [0,1] Z Z (ZC [1] Z Z h)
  refine Wn0 2 Z (AR.drop1 ?_); exact N 0 Z ⟨(bZ (x1 + 1)),Z,Z,Z,hf⟩
 cases hf; exact Wx 3 [0] Z Z (ZC [0] Z Z h)

theorem Xo (t1:ak) {r0:ak} {r1:Int} (hf:Cm t1=some (r0,r1)) (h:Q (.ret (.tuple [.agg (aW r0),iP r1])) τ):PC 88 [.agg (aW t1)] τ Q:=by
 unfold Cm at hf; refine BN 17 [.cell 2 54,.tmp 3] [0] Tryz.func88 Z Z Z Z Z (W 1 Z (AS Z (AO.aF Z jk (fun b2=>?_)))); refine B1 hf fun x1 h1 hf=>U 2 Z (CL Z (jm _ h1 (J 1 Z (C hf Z (fun h2 hf=>?_) fun h2 hf=>?_))))
 · cases hf; exact Wx 3 [0] Z Z (ZC [0] Z Z h)
 refine V 4 Z (C hf Z (fun h3 hf=>?_) fun h3 hf=>?_)
 · refine B1 hf fun e1 h4 hf=>W 2 Z (AS Z (AO.aI h4 Z Z (ak.aB _) Z fZ (ak.aD _) Z ?_)); cases hf; exact Rx 3 [0] Z Z (ZC [0] Z Z h)
 cases hf; exact Wx 3 [0] Z Z (ZC [0] Z Z h)

theorem YE (t1:ak) (i1:ak) {r0:ak} {r1:Int} (hf:EF t1 i1=some (r0,r1)) (h:Q (.ret (.tuple [.agg (aW r0),iP r1])) τ):PC 89 [.agg (aW t1),.agg (aW i1)] τ Q:=by
 unfold EF at hf; refine BN 42 [.cell 4 54,.tmp 5] [0,1] Tryz.func89 Z Z Z Z Z (W 2 Z (AS Z (AO.aF Z jk (fun b4=>(J 1 Z (AW.draw 8 mixed (by kernel_rfl) Z ?_)))))); refine Ev.cs aG 1 Z ?_; refine B1 hf fun x1 h1 hf=>Ev.cons Z Z Z (AO.call Z _ Z Z VD (gH _ h1 zg)) ?_; refine B1 hf fun QO h2 hf=>Ev.cons Z Z Z (AO.call Z _ Z Z VB (lJ _ _ h2 zg)) (Ev.cs aG 1 Z ?_); refine B1 hf fun x2 h3 hf=>Ev.cons Z Z Z (AO.call Z _ Z Z VD (gH _ h3 zg)) ?_
 refine B1 hf fun text1 h4 hf=>Ev.cons Z Z Z (AO.call Z _ Z Z VB (lJ _ _ h4 zg)) (Ev.cs aG 2 Z (Ev.nil ?_)); show AR _ _ _ _ _ _ _ _
 refine U 4 Z (An 2 18 20 [2,4,6,7] QO Z Z Z Z (J 1 Z (C hf Z (fun h6 hf=>?_) fun h6 hf=>?_)))
 ·
  refine V 0 Z (AW.cond Z (fun h7=>?_) (fun h7=>?_))
  · refine B1 hf fun e1 h8 hf=>W 2 Z (AS Z (AO.aI h8 Z Z (ak.aB _) Z fZ (ak.aD _) Z ?_)); cases hf; exact Rx 3 [0] Z Z (ZC [0] Z Z h)
  cases h6.symm.trans h7
 refine W 4 Z (An 2 24 26 [2,4,6,7,14] text1 Z Z Z Z (J 1 Z (C hf Z (fun h10 hf=>?_) fun h10 hf=>?_)))
 · refine B1 hf fun e2 h11 hf=>W 2 Z (AS Z (AO.aI h11 Z Z (ak.aB _) Z fZ (ak.aD _) Z ?_)); cases hf; exact Rx 3 [0] Z Z (ZC [0] Z Z h)
 refine B1 hf fun x3 h12 hf=>W 1 Z (CL Z (jm _ h12 (U 1 Z (AR.and 5 34 39 [2,4] (x:=(QO || text1)) Z Z (fun jJ=>?_) (fun jJ=>?_) ?_))))
 · refine Is 34 jJ Z (U 2 Z (On 2 36 38 [2,4,34] text1 Z Z Z Z ?_)); exact eG 1 Z (En [39,2,4] Z)
 · refine Is 34 jJ Z ?_; exact eG 5 Z (En [39,2,4] Z)
 refine J 1 Z (C hf Z (fun mo hf=>?_) fun mo hf=>?_)
 · cases hf; exact Wx 3 [0] Z Z (ZC [0] Z Z h)
 cases hf; exact Wx 3 [0] Z Z (ZC [0] Z Z h)

theorem YC (op1:Str) (t1:ak) {r0:ak} {r1:Int} (hf:ED op1 t1=some (r0,r1)) (h:Q (.ret (.tuple [.agg (aW r0),iP r1])) τ):PC 90 [.str op1,.agg (aW t1)] τ Q:=by
 unfold ED at hf; refine BN 17 [.cell 4 54,.tmp 5] [0,1] Tryz.func90 Z Z Z Z Z (W 1 Z (AS Z (AO.aF Z jk (fun b4=>?_)))); refine B1 hf fun x1 h1 hf=>U 1 Z (CL Z (gH _ h1 (AS Z (AO.aF Z jk (fun b6=>(Rw 3 [0] Z Z (C hf Z (fun h2 hf=>?_) fun h2 hf=>?_)))))))
 ·
  refine B1 hf fun x2 h3 hf=>W 0 Z (CL Z (gH _ h3 ?_)); refine B1 hf fun x3 h4 hf=>Rr 3 [0,0] Z Z (CL Z (lJ _ _ h4 (J 1 Z (C hf Z (fun h5 hf=>?_) fun h5 hf=>?_))))
  · cases hf; exact Wx 3 [1] Z Z (ZC [1] Z Z h)
  cases hf; exact Wx 3 [0,1] Z Z (ZC [1] Z Z h)
 refine B1 hf fun x4 h6 hf=>Wr 2 [0] Z Z (CL Z (lJ _ _ h6 (J 1 Z (C hf Z (fun h7 hf=>?_) fun h7 hf=>?_))))
 · cases hf; exact Wx 3 [1] Z Z (ZC [1] Z Z h)
 cases hf; exact Wx 3 [0,1] Z Z (ZC [1] Z Z h)

theorem qZ (fE:Int) (c1:ak) (c2:ak) {r0:Bool} (hf:kC fE c1 c2=some r0) (h:Q (.ret (.bool r0)) τ):PC 144 [iP fE,.ref (aW c1),.ref (aW c2)] τ Q:=by
 unfold kC at hf; refine BN 15 [.tmp 4] [0,1,2] Tryz.func144 Z Z Z Z Z (V 1 Z (AW.draw 11 mixed (by kernel_rfl) Z ?_)); refine Ev.cs aG 2 Z ?_; refine B1 hf fun x1 h1 hf=>Ev.cons Z Z Z (AO.call Z _ Z Z VD (gH _ h1 zg)) ?_; refine B1 hf fun x2 h2 hf=>Ev.cons Z Z Z (AO.call Z _ Z Z VB (lJ _ _ h2 zg)) (Ev.cs aG 1 Z ?_); refine BR hf fun b1 h4 hf=>?_; refine Ev.dB hKA 5 9 14 true [] (.bool b1) Z Z (fun h3=>?_) (fun h3=>?_) ?_
 · replace h4:=cO h3 h4; refine Ev.is uq 9 h3 Z (Ev.cs aG 2 Z ?_); refine B1 h4 fun x3 h5 h4=>Ev.run Z Z Z Z Z Z Z (AO.call Z _ Z Z VD (gH _ h5 zg)) ?_; refine BR h4 fun x4 h6 h4=>?_; refine Ev.run Z Z Z Z Z Z Z (AO.call Z _ Z Z VB (lJ _ _ h6 zg)) ?_; cases h4; refine Ev.cs aG 1 Z ?_; exact Ev.nil (Less.settle (ps:=[14]) Z)
 · replace h4:=cZ h3 h4; refine Ev.is uq 9 h3 Z ?_; cases h4; refine Ev.cs aG 5 Z ?_; exact Ev.nil (Less.settle (ps:=[14]) Z)
 refine Ev.cs aG 1 Z (Ev.nil ?_); show AR _ _ _ _ _ _ _ _
 cases hf; exact N 0 Z (Y Z h)

theorem lK (a1:ak) (b1:ak) (fE:Int) {r0:Bool} (hf:jy a1 b1 fE=some r0) (h:Q (.ret (.bool r0)) τ):PC 145 [.agg (aW a1),.agg (aW b1),iP fE] τ Q:=by
 unfold jy at hf; refine BN 37 [.tmp 6] [0,1,2] Tryz.func145 Z Z Z Z Z ?_; refine B1 hf fun x1 h1 hf=>W 4 Z (CL Z (jm _ h1 (U 1 Z (On 5 9 14 [2,3,4] (a1.kind == fE) Z Z Z Z ?_)))); refine B1 hf fun b2 h4 hf=>U 1 Z (AR.dB 9 15 24 true [2,3,4] b2 Z Z (fun h3=>?_) (fun h3=>?_) ?_)
 · refine IT 15 h3 h4 Z fun h4=>?_; refine B1 h4 fun x2 h5 h4=>U 1 Z (GO Z (AO.call Z _ Z Z R9 (jm _ h5 (U 1 Z (On 5 18 23 [2,3,4,15] (b1.kind == fE) Z Z Z Z ?_))))); cases h4; exact eG 1 Z (En [24,2,3,4] Z)
 · refine IF 15 h3 h4 Z fun h4=>?_; cases h4; exact eG 9 Z (En [24,2,3,4] Z)
 refine U 1 Z (AR.and 11 25 36 [] (x:=((a1.kind == fE) || (b1.kind == fE))) Z Z (fun h7=>?_) (fun h7=>?_) ?_)
 · refine Is 25 h7 Z (U 5 Z (On 5 30 35 [25] (b1.kind == fE) Z Z Z Z ?_)); exact eG 1 Z (En [36] Z)
 · refine Is 25 h7 Z ?_; exact eG 11 Z (En [36] Z)
 cases hf; exact N 1 Z (Y Z h)

theorem LD (t1:ak) {r0:ak} (hf:wu t1=some r0) (h:Q (.ret (.agg (aW r0))) τ):PC 207 [.agg (aW t1)] τ Q:=by
 unfold wu at hf; refine BN 10 [.cell 2 54] [0] Tryz.func207 Z Z Z Z Z (W 1 Z (AS Z (AO.aF Z jk (fun b2=>?_)))); refine B1 hf fun x1 h1 hf=>U 1 Z (CL Z (jm _ h1 (J 0 Z (C hf Z (fun h2 hf=>?_) fun h2 hf=>?_))))
 · cases hf; exact Wx 2 [0] Z Z (ZC [0] Z Z h)
 refine BR hf fun e1 h3 hf=>?_; refine W 2 Z (AS Z (AO.aI h3 Z Z (ak.aB _) Z fZ (ak.aD _) Z ?_)); cases hf; exact Rx 2 [0] Z Z (ZC [0] Z Z h)

theorem Yk (a1:ak) (b1:ak) {r0:Bool} (hf:Im a1 b1=some r0) (h:Q (.ret (.bool r0)) τ):PC 94 [.agg (aW a1),.agg (aW b1)] τ Q:=by
 unfold Im at hf; refine BN 13 [.tmp 4] [0,1] Tryz.func94 Z Z Z Z Z ?_; refine B1 hf fun x1 h1 hf=>W 4 Z (CL Z (Cq _ h1 ?_)); refine BR hf fun b2 h3 hf=>?_; refine U 2 Z (AR.dB 4 8 12 true [] b2 Z Z (fun h2=>?_) (fun h2=>?_) ?_)
 · refine IT 8 h2 h3 Z fun h3=>?_; refine B1 h3 fun x2 h4 h3=>U 1 Z (GO Z (AO.call Z _ Z Z apK (Cq _ h4 ?_))); cases h3; exact eG 2 Z (En [12] Z)
 · refine IF 8 h2 h3 Z fun h3=>?_; cases h3; exact eG 4 Z (En [12] Z)
 cases hf; exact N 1 Z (Y Z h)

theorem DW (a1:ak) (b1:ak) {r0:ak} (hf:nW a1 b1=some r0) (h:Q (.ret (.agg (aW r0))) τ):PC 58 [.agg (aW a1),.agg (aW b1)] τ Q:=by
 unfold nW at hf; refine BN 13 [.cell 4 54] [0,1] Tryz.func58 Z Z Z Z Z (W 2 Z (AS Z (AO.aF Z jk (fun b4=>?_)))); refine B1 hf fun x1 h1 hf=>U 2 Z (CL Z (Yk _ _ h1 (J 1 Z (C hf Z (fun h2 hf=>?_) fun h2 hf=>?_))))
 · refine BR hf fun x2 h3 hf=>?_; refine W 0 Z (CL Z (lU _ h3 ?_)); cases hf; exact Rx 1 [0] Z Z (ZC [0] Z Z h)
 refine BR hf fun x3 h4 hf=>?_; refine W 2 Z (CL Z (O0 _ _ h4 ?_)); cases hf; exact Rx 1 [0] Z Z (ZC [0] Z Z h)

theorem adQ (a1:ak) (b1:ak) {r0:ak} {r1:Int} (hf:J5 a1 b1=some (r0,r1)) (h:Q (.ret (.tuple [.agg (aW r0),iP r1])) τ):PC 146 [.agg (aW a1),.agg (aW b1)] τ Q:=by
 unfold J5 at hf; refine BN 44 [.cell 4 54,.tmp 5] [0,1] Tryz.func146 Z Z Z Z Z (W 2 Z (AS Z (AO.aF Z jk (fun b4=>?_)))); refine B1 hf fun x1 h1 hf=>U 2 Z (CL Z (jm _ h1 ?_)); refine B1 hf fun b2 h3 hf=>U 1 Z (AR.dB 3 9 12 true [2,3,4] b2 Z Z (fun h2=>?_) (fun h2=>?_) ?_)
 · refine IT 9 h2 h3 Z fun h3=>?_; refine BR h3 fun x2 h4 h3=>?_; refine U 1 Z (GO Z (AO.call Z _ Z Z R9 (jm _ h4 ?_))); cases h3; exact eG 1 Z (En [12,2,3,4] Z)
 · refine IF 9 h2 h3 Z fun h3=>?_; cases h3; exact eG 3 Z (En [12,2,3,4] Z)
 refine J 1 Z (C hf Z (fun h5 hf=>?_) fun h5 hf=>?_)
 ·
  refine W 4 Z (On 4 16 20 [4] (b1.kind == 0) Z Z Z Z (J 0 Z (C hf Z (fun h7 hf=>?_) fun h7 hf=>?_)))
  · refine B1 hf fun x3 h8 hf=>W 0 Z (CL Z (gH _ h8 ?_)); cases hf; exact Rx 2 [0] Z Z (ZC [0] Z Z h)
  refine B1 hf fun x4 h9 hf=>W 0 Z (CL Z (gH _ h9 ?_)); cases hf; exact Rx 2 [0] Z Z (ZC [0] Z Z h)
 refine B1 hf fun x5 h10 hf=>W 2 Z (CL Z (lK _ _ _ h10 (J 1 Z (C hf Z (fun h11 hf=>?_) fun h11 hf=>?_))))
 · refine B1 hf fun x6 h12 hf=>W 0 Z (CL Z (gH _ h12 ?_)); cases hf; exact Rx 2 [0] Z Z (ZC [0] Z Z h)
 refine B1 hf fun x7 jJ hf=>W 2 Z (CL Z (lK _ _ _ jJ (J 1 Z (C hf Z (fun j5 hf=>?_) fun j5 hf=>?_))))
 · refine B1 hf fun x8 mo hf=>W 0 Z (CL Z (gH _ mo ?_)); cases hf; exact Rx 2 [0] Z Z (ZC [0] Z Z h)
 refine B1 hf fun x9 h16 hf=>W 2 Z (CL Z (lK _ _ _ h16 (J 1 Z (C hf Z (fun qB hf=>?_) fun qB hf=>?_))))
 ·
  refine V 0 Z (AW.draw 6 mixed (by kernel_rfl) Z ?_); refine Ev.cs aG 1 Z ?_; refine B1 hf fun wS h18 hf=>Ev.cons Z Z Z (AO.call Z _ Z Z ajj (LD _ h18 zg)) (Ev.cs aG 1 Z ?_); refine B1 hf fun H8 h19 hf=>Ev.cons Z Z Z (AO.call Z _ Z Z ajj (LD _ h19 zg)) ?_; refine B1 hf fun LQ h20 hf=>Ev.cons Z Z Z (AO.call Z _ Z Z ai6 (DW _ _ h20 zg)) ?_; refine B1 hf fun Mg h21 hf=>Ev.cons Z Z Z (AO.call Z _ Z Z aaA (yg _ _ h21 zg)) (Ev.nil ?_)
  show AR _ _ _ _ _ _ _ _
  cases hf; exact Rx 2 [0] Z Z (ZC [0] Z Z h)
 cases hf; exact Wx 3 [0] Z Z (ZC [0] Z Z h)

theorem Xp (op1:Str) (a1:ak) (b1:ak) {r0:ak} {r1:Int} (hf:FJ op1 a1 b1=some (r0,r1)) (h:Q (.ret (.tuple [.agg (aW r0),iP r1])) τ):PC 91 [.str op1,.agg (aW a1),.agg (aW b1)] τ Q:=by
 unfold FJ at hf; refine BN 59 [.cell 6 54,.tmp 7] [0,1,2] Tryz.func91 Z Z Z Z Z (W 2 Z (AS Z (AO.aF Z jk (fun b6=>(J 6 Z (C hf Z (fun h1 hf=>?_) fun h1 hf=>?_))))))
 ·
  refine V 0 Z (AW.cond Z (fun h2=>?_) (fun h2=>?_))
  ·
   refine B1 hf fun x1 h3 hf=>W 1 Z (CL Z (qZ _ _ _ h3 (J 0 Z (C hf Z (fun h4 hf=>?_) fun h4 hf=>?_))))
   · refine B1 hf fun x2 h5 hf=>W 0 Z (CL Z (gH _ h5 ?_)); cases hf; exact Rx 2 [0] Z Z (ZC [0] Z Z h)
   cases hf; exact Wx 3 [0] Z Z (ZC [0] Z Z h)
  cases h1.symm.trans h2
 refine V 2 Z (C hf Z (fun h6 hf=>?_) fun h6 hf=>?_)
 ·
  refine B1 hf fun x3 h7 hf=>W 1 Z (CL Z (qZ _ _ _ h7 (J 0 Z (C hf Z (fun h8 hf=>?_) fun h8 hf=>?_))))
  · refine B1 hf fun x4 h9 hf=>W 0 Z (CL Z (gH _ h9 ?_)); cases hf; exact Rx 2 [0] Z Z (ZC [0] Z Z h)
  cases hf; exact Wx 3 [0] Z Z (ZC [0] Z Z h)
 refine V 2 Z (C hf Z (fun h10 hf=>?_) fun h10 hf=>?_)
 ·
  refine V 0 Z (AW.cond Z (fun h11=>?_) (fun h11=>?_))
  · refine B1 hf fun x5 h12 hf=>W 0 Z (CL Z (gH _ h12 ?_)); cases hf; exact Rx 2 [0] Z Z (ZC [0] Z Z h)
  cases h10.symm.trans h11
 refine V 2 Z (C hf Z (fun jJ hf=>?_) fun jJ hf=>?_)
 · refine B1 hf fun x6 j5 hf=>W 0 Z (CL Z (gH _ j5 ?_)); cases hf; exact Rx 2 [0] Z Z (ZC [0] Z Z h)
 refine V 2 Z (C hf Z (fun mo hf=>?_) fun mo hf=>?_)
 ·
  refine V 0 Z (AW.cond Z (fun h16=>?_) (fun h16=>?_))
  ·
   refine B1 hf fun x7 qB hf=>W 1 Z (CL Z (jm _ qB ?_)); refine B1 hf fun b2 h19 hf=>U 1 Z (AR.dB 3 28 31 true [4,5,6] b2 Z Z (fun h18=>?_) (fun h18=>?_) ?_)
   · refine IT 28 h18 h19 Z fun h19=>?_; refine BR h19 fun x8 h20 h19=>?_; refine U 1 Z (GO Z (AO.call Z _ Z Z R9 (jm _ h20 ?_))); cases h19; exact eG 1 Z (En [31,4,5,6] Z)
   · refine IF 28 h18 h19 Z fun h19=>?_; cases h19; exact eG 3 Z (En [31,4,5,6] Z)
   refine B1 hf fun b3 h22 hf=>U 1 Z (AR.dB 4 32 36 false [4,5,6] b3 Z Z (fun h21=>?_) (fun h21=>?_) ?_)
   · refine IF 32 h21 h22 Z fun h22=>?_; refine BR h22 fun x9 h23 h22=>?_; refine U 2 Z (GO Z (AO.call Z _ Z Z MW (lK _ _ _ h23 ?_))); cases h22; exact eG 1 Z (En [36,4,5,6] Z)
   · refine IT 32 h21 h22 Z fun h22=>?_; cases h22; exact eG 4 Z (En [36,4,5,6] Z)
   refine B1 hf fun b4 Cv hf=>U 1 Z (AR.dB 4 37 41 false [6] b4 Z Z (fun wT=>?_) (fun wT=>?_) ?_)
   · refine IF 37 wT Cv Z fun Cv=>?_; refine BR Cv fun wS Ic Cv=>?_; refine U 2 Z (GO Z (AO.call Z _ Z Z MW (lK _ _ _ Ic ?_))); cases Cv; exact eG 1 Z (En [41,6] Z)
   · refine IT 37 wT Cv Z fun Cv=>?_; cases Cv; exact eG 4 Z (En [41,6] Z)
   refine J 0 Z (C hf Z (fun h27 hf=>?_) fun h27 hf=>?_)
   · refine B1 hf fun H8 RQ hf=>W 0 Z (CL Z (gH _ RQ ?_)); cases hf; exact Rx 2 [0] Z Z (ZC [0] Z Z h)
   cases hf; exact Wx 3 [0] Z Z (ZC [0] Z Z h)
  cases mo.symm.trans h16
 refine V 2 Z (C hf Z (fun Na hf=>?_) fun Na hf=>?_)
 ·
  refine V 0 Z (AW.cond Z (fun LY=>?_) (fun LY=>?_))
  ·
   refine B1 hf fun LQ h31 hf=>W 1 Z (CL Z (jm _ h31 ?_)); refine B1 hf fun b5 Js hf=>U 1 Z (AR.dB 3 28 31 true [4,5,6] b5 Z Z (fun h32=>?_) (fun h32=>?_) ?_)
   · refine IT 28 h32 Js Z fun Js=>?_; refine BR Js fun Mg XE Js=>?_; refine U 1 Z (GO Z (AO.call Z _ Z Z R9 (jm _ XE ?_))); cases Js; exact eG 1 Z (En [31,4,5,6] Z)
   · refine IF 28 h32 Js Z fun Js=>?_; cases Js; exact eG 3 Z (En [31,4,5,6] Z)
   refine B1 hf fun b6 QZ hf=>U 1 Z (AR.dB 4 32 36 false [4,5,6] b6 Z Z (fun PK=>?_) (fun PK=>?_) ?_)
   · refine IF 32 PK QZ Z fun QZ=>?_; refine BR QZ fun RP h37 QZ=>?_; refine U 2 Z (GO Z (AO.call Z _ Z Z MW (lK _ _ _ h37 ?_))); cases QZ; exact eG 1 Z (En [36,4,5,6] Z)
   · refine IT 32 PK QZ Z fun QZ=>?_; cases QZ; exact eG 4 Z (En [36,4,5,6] Z)
   refine B1 hf fun b7 OC hf=>U 1 Z (AR.dB 4 37 41 false [6] b7 Z Z (fun UO=>?_) (fun UO=>?_) ?_)
   · refine IF 37 UO OC Z fun OC=>?_; refine BR OC fun RO h40 OC=>?_; refine U 2 Z (GO Z (AO.call Z _ Z Z MW (lK _ _ _ h40 ?_))); cases OC; exact eG 1 Z (En [41,6] Z)
   · refine IT 37 UO OC Z fun OC=>?_; cases OC; exact eG 4 Z (En [41,6] Z)
   refine J 0 Z (C hf Z (fun h41 hf=>?_) fun h41 hf=>?_)
   · refine B1 hf fun LP h42 hf=>W 0 Z (CL Z (gH _ h42 ?_)); cases hf; exact Rx 2 [0] Z Z (ZC [0] Z Z h)
   cases hf; exact Wx 3 [0] Z Z (ZC [0] Z Z h)
  cases Na.symm.trans LY
 refine V 2 Z (C hf Z (fun h43 hf=>?_) fun h43 hf=>?_)
 ·
  refine V 0 Z (AW.cond Z (fun h44=>?_) (fun h44=>?_))
  ·
   refine B1 hf fun XD h45 hf=>W 1 Z (CL Z (jm _ h45 ?_)); refine B1 hf fun b8 h47 hf=>U 1 Z (AR.dB 3 28 31 true [4,5,6] b8 Z Z (fun h46=>?_) (fun h46=>?_) ?_)
   · refine IT 28 h46 h47 Z fun h47=>?_; refine BR h47 fun y8 h48 h47=>?_; refine U 1 Z (GO Z (AO.call Z _ Z Z R9 (jm _ h48 ?_))); cases h47; exact eG 1 Z (En [31,4,5,6] Z)
   · refine IF 28 h46 h47 Z fun h47=>?_; cases h47; exact eG 3 Z (En [31,4,5,6] Z)
   refine B1 hf fun b9 h50 hf=>U 1 Z (AR.dB 4 32 36 false [4,5,6] b9 Z Z (fun h49=>?_) (fun h49=>?_) ?_)
   · refine IF 32 h49 h50 Z fun h50=>?_; refine BR h50 fun y9 h51 h50=>?_; refine U 2 Z (GO Z (AO.call Z _ Z Z MW (lK _ _ _ h51 ?_))); cases h50; exact eG 1 Z (En [36,4,5,6] Z)
   · refine IT 32 h49 h50 Z fun h50=>?_; cases h50; exact eG 4 Z (En [36,4,5,6] Z)
   refine B1 hf fun b10 Sr hf=>U 1 Z (AR.dB 4 37 41 false [6] b10 Z Z (fun h52=>?_) (fun h52=>?_) ?_)
   · refine IF 37 h52 Sr Z fun Sr=>?_; refine BR Sr fun x20 h54 Sr=>?_; refine U 2 Z (GO Z (AO.call Z _ Z Z MW (lK _ _ _ h54 ?_))); cases Sr; exact eG 1 Z (En [41,6] Z)
   · refine IT 37 h52 Sr Z fun Sr=>?_; cases Sr; exact eG 4 Z (En [41,6] Z)
   refine J 0 Z (C hf Z (fun h55 hf=>?_) fun h55 hf=>?_)
   · refine B1 hf fun x21 h56 hf=>W 0 Z (CL Z (gH _ h56 ?_)); cases hf; exact Rx 2 [0] Z Z (ZC [0] Z Z h)
   cases hf; exact Wx 3 [0] Z Z (ZC [0] Z Z h)
  cases h43.symm.trans h44
 refine V 2 Z (C hf Z (fun h57 hf=>?_) fun h57 hf=>?_)
 ·
  refine B1 hf fun x22 h58 hf=>W 1 Z (CL Z (jm _ h58 ?_)); refine B1 hf fun b11 h60 hf=>U 1 Z (AR.dB 3 28 31 true [4,5,6] b11 Z Z (fun h59=>?_) (fun h59=>?_) ?_)
  · refine IT 28 h59 h60 Z fun h60=>?_; refine BR h60 fun x23 h61 h60=>?_; refine U 1 Z (GO Z (AO.call Z _ Z Z R9 (jm _ h61 ?_))); cases h60; exact eG 1 Z (En [31,4,5,6] Z)
  · refine IF 28 h59 h60 Z fun h60=>?_; cases h60; exact eG 3 Z (En [31,4,5,6] Z)
  refine B1 hf fun b12 h63 hf=>U 1 Z (AR.dB 4 32 36 false [4,5,6] b12 Z Z (fun CU=>?_) (fun CU=>?_) ?_)
  · refine IF 32 CU h63 Z fun h63=>?_; refine BR h63 fun x24 h64 h63=>?_; refine U 2 Z (GO Z (AO.call Z _ Z Z MW (lK _ _ _ h64 ?_))); cases h63; exact eG 1 Z (En [36,4,5,6] Z)
  · refine IT 32 CU h63 Z fun h63=>?_; cases h63; exact eG 4 Z (En [36,4,5,6] Z)
  refine B1 hf fun b13 h66 hf=>U 1 Z (AR.dB 4 37 41 false [6] b13 Z Z (fun h65=>?_) (fun h65=>?_) ?_)
  · refine IF 37 h65 h66 Z fun h66=>?_; refine BR h66 fun x25 h67 h66=>?_; refine U 2 Z (GO Z (AO.call Z _ Z Z MW (lK _ _ _ h67 ?_))); cases h66; exact eG 1 Z (En [41,6] Z)
  · refine IT 37 h65 h66 Z fun h66=>?_; cases h66; exact eG 4 Z (En [41,6] Z)
  refine J 0 Z (C hf Z (fun h68 hf=>?_) fun h68 hf=>?_)
  · refine B1 hf fun x26 h69 hf=>W 0 Z (CL Z (gH _ h69 ?_)); cases hf; exact Rx 2 [0] Z Z (ZC [0] Z Z h)
  cases hf; exact Wx 3 [0] Z Z (ZC [0] Z Z h)
 refine V 2 Z (C hf Z (fun h70 hf=>?_) fun h70 hf=>?_)
 ·
  refine V 0 Z (AW.cond Z (fun h71=>?_) (fun h71=>?_))
  ·
   refine B1 hf fun x27 h72 hf=>W 1 Z (CL Z (qZ _ _ _ h72 (J 0 Z (C hf Z (fun h73 hf=>?_) fun h73 hf=>?_))))
   · refine B1 hf fun x28 h74 hf=>W 0 Z (CL Z (gH _ h74 ?_)); cases hf; exact Rx 2 [0] Z Z (ZC [0] Z Z h)
   cases hf; exact Wx 3 [0] Z Z (ZC [0] Z Z h)
  cases h70.symm.trans h71
 refine V 2 Z (C hf Z (fun h75 hf=>?_) fun h75 hf=>?_)
 ·
  refine V 0 Z (AW.cond Z (fun h76=>?_) (fun h76=>?_))
  ·
   refine B1 hf fun x29 h77 hf=>W 1 Z (CL Z (qZ _ _ _ h77 (J 0 Z (C hf Z (fun h78 hf=>?_) fun h78 hf=>?_))))
   · refine B1 hf fun x30 h79 hf=>W 0 Z (CL Z (gH _ h79 ?_)); cases hf; exact Rx 2 [0] Z Z (ZC [0] Z Z h)
   cases hf; exact Wx 3 [0] Z Z (ZC [0] Z Z h)
  cases h75.symm.trans h76
 refine V 2 Z (C hf Z (fun h80 hf=>?_) fun h80 hf=>?_)
 ·
  refine V 0 Z (AW.cond Z (fun h81=>?_) (fun h81=>?_))
  ·
   refine B1 hf fun x31 h82 hf=>W 1 Z (CL Z (qZ _ _ _ h82 (J 0 Z (C hf Z (fun h83 hf=>?_) fun h83 hf=>?_))))
   · refine B1 hf fun x32 h84 hf=>W 0 Z (CL Z (gH _ h84 ?_)); cases hf; exact Rx 2 [0] Z Z (ZC [0] Z Z h)
   cases hf; exact Wx 3 [0] Z Z (ZC [0] Z Z h)
  cases h80.symm.trans h81
 refine V 2 Z (C hf Z (fun h85 hf=>?_) fun h85 hf=>?_)
 ·
  refine B1 hf fun x33 h86 hf=>W 1 Z (CL Z (qZ _ _ _ h86 (J 0 Z (C hf Z (fun h87 hf=>?_) fun h87 hf=>?_))))
  · refine B1 hf fun x34 h88 hf=>W 0 Z (CL Z (gH _ h88 ?_)); cases hf; exact Rx 2 [0] Z Z (ZC [0] Z Z h)
  cases hf; exact Wx 3 [0] Z Z (ZC [0] Z Z h)
 refine V 2 Z (C hf Z (fun h89 hf=>?_) fun h89 hf=>?_)
 · replace hf:=(eH _).trans hf; obtain ⟨x35,x36,h90,hf⟩:=aV hf; refine W 2 Z (CL Z (adQ _ _ h90 ?_)); cases hf; exact Rx 4 [0] Z Z (ZC [0] Z Z h)
 cases hf; exact Wx 3 [0] Z Z (ZC [0] Z Z h)

theorem J8 (fE:Int) (yA:List ak) {r0:ak} {r1:Int} (hf:uS fE yA=some (r0,r1)) (h:Q (.ret (.tuple [.agg (aW r0),iP r1])) τ):PC 93 [iP fE,.list (ak.aU yA)] τ Q:=by
 unfold uS at hf; refine BN 29 [.cell 4 54,.tmp 5] [0,1] Tryz.func93 Z Z Z Z Z (W 0 Z (AS Z (AO.aF Z jk (fun b4=>?_)))); refine B1 hf fun x1 h1 hf=>U 1 Z (CL Z (gH _ h1 (AS Z (AO.aF Z jk (fun b6=>(Rr 2 [0] Z Z (AS Z (AO.aP (l:=yA) Z Z Z Z fZ Z (ak.aB _) ?_))))))))
 refine J 1 Z (Xy (fun x2 kg=>[(0,iP fE),(4,pP b4),(6,pP b6),(11,.list (ak.aU yA)),(12,iP (yA.length:Int)),(13,iP x2)]) (fun x2 kg=>[.box b6 (aW kg),.box b4 [iP 0,.own (.slice none 0 0) []]]) (fun bT x2 kg=>tF fE yA bT x2 kg=some (r0,r1)) BIG 0 x1 Z Z hf (fun _ _ hz=>bQ hz) ?_); intro bT x2 kg hf; rw [tF] at hf; refine V 1 Z (C hf Z (fun h2 hf=>?_) fun h2 hf=>?_)
 · refine B1 hf fun e1 h3 hf=>W 0 Z (AS Z (AO.aI h3 Z Z (ak.aB _) Z fZ (ak.aD _) Z (U 1 Z (AS Z (AO.aF Z jk (fun b8=>?_)))))); refine B1 hf fun x3 h4 hf=>Rr 3 [0,1,0] Z Z (CL Z (DW _ _ h4 (Rn 3 [1] Z Z (AR.drop1 ?_)))); exact N 0 Z ⟨(bZ (x2 + 1)),x3,Z,Z,Z,hf⟩
 refine B1 hf fun x4 h5 hf=>Wr 2 [0] Z Z (CL Z (yg _ _ h5 (AS Z (AO.aF Z jk (fun b9=>?_))))); refine B1 hf fun x5 h6 hf=>Rr 2 [0,0] Z Z (CL Z (Cq _ h6 (J 1 Z (C hf Z (fun h7 hf=>?_) fun h7 hf=>?_))))
 · cases hf; exact Wx 3 [2] Z Z (ZC [2] Z Z h)
 cases hf; exact Wx 3 [0,2] Z Z (ZC [2] Z Z h)


abbrev FP (iD:aj→List aH→Option (ak × Int)):Prop:=∀ (iY:aj) (eU:List aH) {aR:ak} {iW:Int},iD iY eU=some (aR,iW)→∀ {τ:List bJ} {Q:eT→List bJ→Prop} (h:Q (.ret (.tuple [.agg (aW aR),iP iW])) τ),PC 57 [.agg (bA iY),.list (List.map aH.cells eU)] τ Q
abbrev FQ (jT:aj→List aH→Option (ak × Int)):Prop:=∀ (iY:aj) (eU:List aH) {aR:ak} {iW:Int},jT iY eU=some (aR,iW)→∀ {τ:List bJ} {Q:eT→List bJ→Prop} (h:Q (.ret (.tuple [.agg (aW aR),iP iW])) τ),PC 84 [.agg (bA iY),.list (List.map aH.cells eU)] τ Q
abbrev Jc (j6:List aj→List aH→Option (List ak × Int)):Prop:=∀ (Uh:List aj) (eU:List aH) {aR:List ak} {iW:Int},j6 Uh eU=some (aR,iW)→∀ {τ:List bJ} {Q:eT→List bJ→Prop} (h:Q (.ret (.tuple [.list (ak.aU aR),iP iW])) τ),PC 85 [.list (aj.aU Uh),.list (List.map aH.cells eU)] τ Q
theorem aad (iD) (G5:FP iD) (jT) (G6:FQ jT) (j6) (DU:Jc j6) (e1:aj) (cB:List aH) {r0:ak} {r1:Int} (hf:FI iD jT j6 e1 cB=some (r0,r1)) (h:Q (.ret (.tuple [.agg (aW r0),iP r1])) τ):PC 57 [.agg (bA e1),.list (List.map aH.cells cB)] τ Q:=by
 unfold FI at hf; refine BN 110 [.cell 4 54,.tmp 5] [0,1] Tryz.func57 Z Z Z Z Z (W 1 Z (AS Z (AO.aF Z jk (fun b4=>(J 4 Z (C hf Z (fun h1 hf=>?_) fun h1 hf=>?_))))))
 · replace hf:=(eH _).trans hf; obtain ⟨x1,x2,h2,hf⟩:=aV hf; refine W 2 Z (CL Z (G6 _ _ h2 ?_)); cases hf; exact Rx 4 [0] Z Z (ZC [0] Z Z h)
 obtain ⟨yA,f1,h3,hf⟩:=aV hf; refine W 3 Z (CL Z (DU _ _ h3 (J 7 Z (C hf Z (fun h4 hf=>?_) fun h4 hf=>?_))))
 · cases hf; exact Wx 4 [0] Z Z (ZC [0] Z Z h)
 refine V 4 Z (C hf Z (fun h5 hf=>?_) fun h5 hf=>?_)
 · refine B1 hf fun x3 h6 hf=>W 2 Z (CL Z (adw _ h6 ?_)); cases hf; exact Rx 2 [0] Z Z (ZC [0] Z Z h)
 refine V 2 Z (C hf Z (fun h7 hf=>?_) fun h7 hf=>?_)
 · replace hf:=(eH _).trans hf; obtain ⟨x4,x5,h8,hf⟩:=aV hf; refine W 3 Z (CL Z (S_ _ _ h8 ?_)); cases hf; exact Rx 4 [0] Z Z (ZC [0] Z Z h)
 refine V 2 Z (C hf Z (fun h9 hf=>?_) fun h9 hf=>?_)
 · refine B1 hf fun e2 h10 hf=>W 1 Z (AS Z (AO.aI h10 Z Z (ak.aB _) Z fZ (ak.aD _) Z ?_)); replace hf:=(eH _).trans hf; obtain ⟨x6,x7,h11,hf⟩:=aV hf; refine U 1 Z (CL Z (Xo _ h11 ?_)); cases hf; exact Rx 4 [0] Z Z (ZC [0] Z Z h)
 refine V 2 Z (C hf Z (fun h12 hf=>?_) fun h12 hf=>?_)
 ·
  refine V 0 Z (AW.draw 9 mixed (by kernel_rfl) Z ?_); refine Ev.cs aG 1 Z ?_; refine B1 hf fun e3 jJ hf=>Ev.cons Z Z Z (AO.aI jJ Z Z (ak.aB _) Z fZ (ak.aD _) Z zg) (Ev.cs aG 2 Z ?_); refine B1 hf fun e4 j5 hf=>Ev.cons Z Z Z (AO.aI j5 Z Z (ak.aB _) Z fZ (ak.aD _) Z zg) (Ev.cs aG 1 Z ?_); replace hf:=(eH _).trans hf; obtain ⟨x8,x9,mo,hf⟩:=aV hf
  refine Ev.cons Z Z Z (AO.call Z _ Z Z apJ (YE _ _ mo zg)) (Ev.cs aG 2 Z (Ev.nil ?_)); show AR _ _ _ _ _ _ _ _
  cases hf; exact Rx 2 [0] Z Z (ZC [0] Z Z h)
 refine V 2 Z (C hf Z (fun h16 hf=>?_) fun h16 hf=>?_)
 ·
  refine V 0 Z (AW.draw 8 mixed (by kernel_rfl) Z ?_); refine Ev.cs aG 3 Z ?_; refine B1 hf fun e5 qB hf=>Ev.cons Z Z Z (AO.aI qB Z Z (ak.aB _) Z fZ (ak.aD _) Z zg) (Ev.cs aG 1 Z ?_); replace hf:=(eH _).trans hf; obtain ⟨wS,H8,h18,hf⟩:=aV hf; refine Ev.cons Z Z Z (AO.call Z _ Z Z apI (YC _ _ h18 zg)) (Ev.cs aG 2 Z (Ev.nil ?_)); show AR _ _ _ _ _ _ _ _
  cases hf; exact Rx 2 [0] Z Z (ZC [0] Z Z h)
 refine V 2 Z (C hf Z (fun h19 hf=>?_) fun h19 hf=>?_)
 ·
  refine V 0 Z (AW.draw 11 mixed (by kernel_rfl) Z ?_); refine Ev.cs aG 3 Z ?_; refine B1 hf fun e6 h20 hf=>Ev.cons Z Z Z (AO.aI h20 Z Z (ak.aB _) Z fZ (ak.aD _) Z zg) (Ev.cs aG 2 Z ?_); refine B1 hf fun e7 h21 hf=>Ev.cons Z Z Z (AO.aI h21 Z Z (ak.aB _) Z fZ (ak.aD _) Z zg) (Ev.cs aG 1 Z ?_); replace hf:=(eH _).trans hf; obtain ⟨LQ,Mg,h22,hf⟩:=aV hf
  refine Ev.cons Z Z Z (AO.call Z _ Z Z apH (Xp _ _ _ h22 zg)) (Ev.cs aG 2 Z (Ev.nil ?_)); show AR _ _ _ _ _ _ _ _
  cases hf; exact Rx 2 [0] Z Z (ZC [0] Z Z h)
 refine V 2 Z (C hf Z (fun h23 hf=>?_) fun h23 hf=>?_)
 ·
  refine V 0 Z (AW.draw 6 mixed (by kernel_rfl) Z ?_); refine Ev.cs aG 1 Z ?_; refine B1 hf fun e8 wT hf=>Ev.cons Z Z Z (AO.aI wT Z Z (ak.aB _) Z fZ (ak.aD _) Z zg) (Ev.cs aG 1 Z ?_); refine B1 hf fun RP Cv hf=>Ev.cons Z Z Z (AO.call Z _ Z Z VD (gH _ Cv zg)) ?_; refine B1 hf fun RO Ic hf=>Ev.cons Z Z Z (AO.call Z _ Z Z VB (lJ _ _ Ic zg)) (Ev.cs aG 1 Z (Ev.nil ?_)); show AR _ _ _ _ _ _ _ _
  refine J 0 Z (C hf Z (fun h27 hf=>?_) fun h27 hf=>?_)
  · cases hf; exact Wx 3 [0] Z Z (ZC [0] Z Z h)
  refine V 0 Z (AW.draw 7 mixed (by kernel_rfl) Z ?_); refine Ev.cs aG 1 Z ?_; refine B1 hf fun e9 RQ hf=>Ev.cons Z Z Z (AO.aI RQ Z Z (ak.aB _) Z fZ (ak.aD _) Z zg) (Ev.cs aG 2 Z ?_); refine B1 hf fun e10 Na hf=>Ev.cons Z Z Z (AO.aI Na Z Z (ak.aB _) Z fZ (ak.aD _) Z zg) (Ev.cs aG 1 Z ?_); refine B1 hf fun LP LY hf=>Ev.cons Z Z Z (AO.call Z _ Z Z ai6 (DW _ _ LY zg)) (Ev.nil ?_); show AR _ _ _ _ _ _ _ _
  cases hf; exact Rx 2 [0] Z Z (ZC [0] Z Z h)
 refine V 2 Z (C hf Z (fun h31 hf=>?_) fun h31 hf=>?_)
 · replace hf:=(eH _).trans hf; obtain ⟨XD,y8,h32,hf⟩:=aV hf; refine W 1 Z (CL Z (J8 _ _ h32 ?_)); cases hf; exact Rx 4 [0] Z Z (ZC [0] Z Z h)
 replace hf:=(eH _).trans hf; obtain ⟨y9,x20,Js,hf⟩:=aV hf; refine W 1 Z (CL Z (J8 _ _ Js ?_)); cases hf; exact Rx 4 [0] Z Z (ZC [0] Z Z h)
theorem aae (iD) (G5:FP iD) (jT) (G6:FQ jT) (j6) (DU:Jc j6) (e1:aj) (cB:List aH) {r0:ak} {r1:Int} (hf:Cn iD jT j6 e1 cB=some (r0,r1)) (h:Q (.ret (.tuple [.agg (aW r0),iP r1])) τ):PC 84 [.agg (bA e1),.list (List.map aH.cells cB)] τ Q:=by
 unfold Cn at hf; refine BN 69 [.cell 4 54,.tmp 5] [0,1] Tryz.func84 Z Z Z Z Z (W 1 Z (AS Z (AO.aF Z jk (fun b4=>?_)))); obtain ⟨kK,x1,h1,hf⟩:=aV hf; refine U 3 Z (CL Z (Qf _ h1 (U 3 Z (AS Z (AO.aF Z jk (fun b7=>(Rr 3 [0] Z Z (AS Z (AO.aP (l:=kK) Z Z Z Z aa3 Z Z (J 1 Z (C hf Z (fun h2 hf=>?_) fun h2 hf=>?_)))))))))))
 · cases hf; exact Wx 3 [1] Z Z (ZC [1] Z Z h)
 refine V 0 Z (AW.draw 8 mixed (by kernel_rfl) Z ?_); refine Ev.cs aG 2 Z (Ev.cons Z Z Z (AO.aP (l:=e1.args) Z Z Z Z iT Z (aj.aB _) zg) (Ev.cs aG 1 Z ?_)); refine B1 hf fun e2 h3 hf=>Ev.cons Z Z Z (AO.aI h3 Z Z Z Z aa3 Z Z zg) (Ev.cs aG 1 Z (Ev.cons Z Z Z (AO.aP (l:=e2) Z Z Z Z fZ Z (ak.aB _) zg) (Ev.cs aG 1 Z ?_))); refine Ev.nil ?_; show AR _ _ _ _ _ _ _ _
 refine J 0 Z (C hf Z (fun h4 hf=>?_) fun h4 hf=>?_)
 · cases hf; exact Wx 3 [1] Z Z (ZC [1] Z Z h)
 obtain ⟨yA,f1,h5,hf⟩:=aV hf; refine W 3 Z (CL Z (DU _ _ h5 (J 7 Z (C hf Z (fun h6 hf=>?_) fun h6 hf=>?_))))
 · cases hf; exact Wx 4 [1] Z Z (ZC [1] Z Z h)
 refine W 1 Z (AS Z (AO.aP (l:=kK) Z Z Z Z aa3 Z Z ?_)); refine J 1 Z (Gh (fun x2=>[(2,.ref (bA e1)),(4,pP b4),(7,pP b7),(8,.list (ak.aU yA)),(42,.list (List.map ak.uz kK)),(43,iP (kK.length:Int)),(44,iP x2)]) (fun x2=>[.box b7 (aW x1),.box b4 [iP 0,.own (.slice none 0 0) []]]) (fun bT x2=>pq e1 kK x1 yA bT x2=some (r0,r1)) BIG 0 Z Z hf (fun _ hz=>bQ hz) ?_); intro bT x2 hf; rw [pq] at hf
 refine V 1 Z (C hf Z (fun h7 hf=>?_) fun h7 hf=>?_)
 ·
  refine B1 hf fun D7 h8 hf=>W 0 Z (AS Z (AO.aI h8 Z Z Z Z aa3 Z Z ?_)); refine B1 hf fun x3 h9 hf=>U 4 Z (CL Z (YD _ _ h9 (J 1 Z (C hf Z (fun h10 hf=>?_) fun h10 hf=>?_))))
  · exact M 2 Z ⟨(bZ (x2 + 1)),Z,Z,Z,hf⟩
  refine V 3 Z (C hf Z (fun h11 hf=>?_) fun h11 hf=>?_)
  · cases hf; exact Wx 3 [0,1] Z Z (ZC [1] Z Z h)
  refine B1 hf fun e3 h12 hf=>W 1 Z (AS Z (AO.aI h12 Z Z (ak.aB _) Z fZ (ak.aD _) Z (J 3 Z (C hf Z (fun jJ hf=>?_) fun jJ hf=>?_))))
  · refine B1 hf fun e4 j5 hf=>W 1 Z (AS Z (AO.aI j5 Z Z (ak.aB _) Z fZ (ak.aD _) Z ?_)); cases hf; exact Rx 3 [1] Z Z (ZC [1] Z Z h)
  refine B1 hf fun e5 mo hf=>W 1 Z (AS Z (AO.aI mo Z Z (ak.aB _) Z fZ (ak.aD _) Z ?_)); cases hf; exact Rx 3 [1] Z Z (ZC [1] Z Z h)
 cases hf; exact Wx 3 [1] Z Z (ZC [1] Z Z h)
theorem abQ (iD) (G5:FP iD) (jT) (G6:FQ jT) (j6) (DU:Jc j6) (l1:List aj) (cB:List aH) {r0:List ak} {r1:Int} (hf:Nt iD jT j6 l1 cB=some (r0,r1)) (h:Q (.ret (.tuple [.list (ak.aU r0),iP r1])) τ):PC 85 [.list (aj.aU l1),.list (List.map aH.cells cB)] τ Q:=by
 unfold Nt at hf
 refine BN 32 [.tmp 4,.tmp 5] [0,1] Tryz.func85 Z Z Z Z Z (W 0 Z (AS Z (AO.mh Z Z (U 3 Z (AS Z (AO.aP (l:=l1) Z Z Z Z iT Z (aj.aB _) (J 1 Z (AW.row 2 54 (ZU (fun bH v1 x1=>[(1,.list (List.map aH.cells cB)),(6,.own v1 (ak.aU bH)),(11,.list (aj.aU l1)),(12,iP (l1.length:Int)),(13,iP x1)]) (fun bH v1 x1=>[.row v1 (ak.aU bH).length 2 54]) (fun bT bH v1 x1=>qJ iD l1 cB bT bH x1=some (r0,r1)) BIG [] (.slice none 0 0) 0 Z Z hf (fun _ _ _ hz=>bQ hz) ?_)))))))))
 intro bT bH v1 x1 hf; rw [qJ] at hf; refine V 1 Z (C hf Z (fun h1 hf=>?_) fun h1 hf=>?_)
 ·
  refine B1 hf fun e1 h2 hf=>W 0 Z (AS Z (AO.aI h2 Z Z (aj.aB _) Z iT (aj.aD _) Z (U 1 Z (AS Z (AO.aF Z rC (fun b8=>?_)))))); obtain ⟨x2,f1,h3,hf⟩:=aV hf; refine Rr 3 [0,0] Z Z (CL Z (G5 _ _ h3 (U 3 Z (AS Z (AO.aF Z jk (fun b9=>(Rw 4 [0] Z Z (C hf Z (fun h4 hf=>?_) fun h4 hf=>?_))))))))
  · refine W 1 Z (AS Z (AO.mh Z Z ?_)); cases hf; exact N 1 Z (Y Z h)
  refine Wr 2 [0] rfl rfl (AS rfl (AO.aS (ak.aU [x2]) rfl uZ rfl rfl rfl (by first | rfl | simp only [List.map,ak.aD,ak.aU]) ?_)); refine B1 hf fun yS h5 hf=>AS Z (AO.fK (i:=2) (l:=bH) (m:=[x2]) h5 Z Z Z Z Z Z Z uZ fZ (ak.aB _) (ak.aB _) (ak.aB _).symm (ak.dD) (ak.cells_one) (by decide) (fun v2 s1 hs1=>?_)); cases hs1; refine eG 3 Z (AR.drop1 (AR.drop1 ?_)); exact N 0 Z ⟨yS,v2,(bZ (x1 + 1)),Z,Z,Z,hf⟩
 cases hf; exact M 3 Z (Y Z h)
theorem KI :∀ k:Nat,(FP (iN k))∧(FQ (nR k))∧(Jc (mD k)):=by
 intro k
 induction k with
 | zero=>exact ⟨fun _ _ _ _ hz=>by first | cases hz | (unfold iN at hz; cases hz),fun _ _ _ _ hz=>by first | cases hz | (unfold nR at hz; cases hz),fun _ _ _ _ hz=>by first | cases hz | (unfold mD at hz; cases hz)⟩
 | succ k ih=>exact ⟨fun iY eU aR iW hz τ Q hq=>aad (iN k) ih.1 (nR k) ih.2.1 (mD k) ih.2.2 iY eU hz hq,fun iY eU aR iW hz τ Q hq=>aae (iN k) ih.1 (nR k) ih.2.1 (mD k) ih.2.2 iY eU hz hq,fun Uh eU aR iW hz τ Q hq=>abQ (iN k) ih.1 (nR k) ih.2.1 (mD k) ih.2.2 Uh eU hz hq⟩
theorem aby (iY:aj) (eU:List aH) {aR:ak} {iW:Int} (hf:PZ iY eU=some (aR,iW)) (h:Q (.ret (.tuple [.agg (aW aR),iP iW])) τ):PC 57 [.agg (bA iY),.list (List.map aH.cells eU)] τ Q:=
 ((KI BIG).1) iY eU hf h
theorem amf (iY:aj) (eU:List aH) {aR:ak} {iW:Int} (hf:afb iY eU=some (aR,iW)) (h:Q (.ret (.tuple [.agg (aW aR),iP iW])) τ):PC 84 [.agg (bA iY),.list (List.map aH.cells eU)] τ Q:=
 ((KI BIG).2.1) iY eU hf h
theorem anb (Uh:List aj) (eU:List aH) {aR:List ak} {iW:Int} (hf:ahJ Uh eU=some (aR,iW)) (h:Q (.ret (.tuple [.list (ak.aU aR),iP iW])) τ):PC 85 [.list (aj.aU Uh),.list (List.map aH.cells eU)] τ Q:=
 ((KI BIG).2.2) Uh eU hf h

theorem abz (e1:aj) (cB:List aH) {r0:ak} {r1:Int} (hf:xX e1 cB=some (r0,r1)) (h:Q (.ret (.tuple [.agg (aW r0),iP r1])) τ):PC 36 [.agg (bA e1),.list (List.map aH.cells cB)] τ Q:=by
 unfold xX at hf; refine BN 35 [.cell 4 54,.tmp 5] [0,1] Tryz.func36 Z Z Z Z Z (W 1 Z (AS Z (AO.aF Z jk (fun b4=>?_)))); refine B1 hf fun f1 h1 hf=>U 2 Z (CL Z (adR _ h1 (J 3 Z (C hf Z (fun h2 hf=>?_) fun h2 hf=>?_))))
 · cases hf; exact Wx 4 [0] Z Z (ZC [0] Z Z h)
 refine B1 hf fun f2 h3 hf=>W 1 Z (CL Z (xY _ h3 (J 3 Z (C hf Z (fun h4 hf=>?_) fun h4 hf=>?_))))
 · cases hf; exact Wx 4 [0] Z Z (ZC [0] Z Z h)
 obtain ⟨x1,f3,h5,hf⟩:=aV hf; refine W 2 Z (CL Z (aby _ _ h5 (U 3 Z (AS Z (AO.aF Z jk (fun b8=>(Rw 4 [0] Z Z (C hf Z (fun h6 hf=>?_) fun h6 hf=>?_))))))))
 · cases hf; exact Wx 4 [1] Z Z (ZC [1] Z Z h)
 refine V 0 Z (AW.draw 3 mixed (by kernel_rfl) Z ?_); refine Ev.cons Z Z Z (AO.aY (i:=0) Z Z Z bI Z Z zg) ?_; refine B1 hf fun x2 h7 hf=>Ev.cons Z Z Z (AO.call Z _ Z Z VD (gH _ h7 zg)) ?_; refine B1 hf fun x3 h8 hf=>Ev.cons Z Z Z (AO.call Z _ Z Z ai6 (DW _ _ h8 zg)) (Ev.nil ?_); show AR _ _ _ _ _ _ _ _
 cases hf; exact Rx 2 [1] Z Z (ZC [1] Z Z h)

theorem tO (fD:aj) (bG:List aH) {r0:Int} (hf:je fD bG=some r0) (h:Q (.ret (iP r0)) τ):PC 16 [.agg (bA fD),.list (List.map aH.cells bG)] τ Q:=by
 unfold je at hf
 refine AC.none (AC.yU 41 [.tmp 4] [0,1] Tryz.func16 Z Z Z Z Z (AW.sr (AR.step Z Z Z (AO.Ot Z Z Z ?_))))
 refine cs 1 Z (AR.nil [1,2] Z (AW.sr (cs 1 Z ?_)))
 refine AR.nil [1,2,5] Z (AW.seq (AW.sr ?_))
 refine B1 hf fun x1 h1 hf=>?_
 refine AR.step Z Z Z (AO.call Z _ Z Z amO (E8 _ _ h1 (AR.step Z Z Z (AO.aP (l:=x1) Z Z Z Z jN Z Z (cs 1 Z (AR.nil [1,2,5,10,11,12] Z ?_))))))
 refine AW.block (AW.row 3 57 (AW.settle [1,2,5,10,11,12] Z ?_))
 refine AW.aop (fun decls1 v1 x2=>[(1,.list (List.map aH.cells bG)),(2,.ref (bA fD)),(5,.own v1 (List.map aH.cells decls1)),(10,.list (List.map aA.cells x1)),(11,iP (x1.length:Int)),(12,iP x2)]) (fun decls1 v1 x2=>[.row v1 (List.map aH.cells decls1).length 3 57]) (fun bT decls1 v1 x2=>rQ fD bG x1 bT decls1 x2=some r0) BIG [] (.slice none 0 0) 0 Z Z hf (fun _ _ _ hz=>bQ hz) ?_
 intro bT decls1 v1 x2 hf
 rw [rQ] at hf
 refine AW.sr (cs 1 Z (AR.nil [1,2,5,10,11,12,13] Z (AW.seq ?_)))
 refine AW.cond Z (fun h2=>?_) (fun h2=>?_)
 ·
  replace hf:=cO h2 hf
  refine AW.skip (AW.seq (AW.block (AW.sr ?_)))
  refine B1 hf fun e1 h3 hf=>?_
  refine AR.step Z Z Z (AO.aI h3 Z Z Z Z jN (aA.aD _) Z (cs 1 Z (AR.step Z Z Z (AO.aF Z OH (fun b7=>(AR.dh Z Z (AO.dW (i:=0) Z Z Z apv Z Z Z Z Z ?_)))))))
  refine AR.nil [1,2,5,7,10,11,12] Z (AW.region (cs 2 Z (AR.step Z Z Z (AO.aY (i:=0) Z Z Z abZ Z Z ?_))))
  refine AR.step rfl rfl rfl (AO.build rfl jk anv rfl (AR.step rfl rfl rfl (AO.build rfl afF aiN rfl (AR.step rfl rfl rfl (AO.aS (List.map aH.cells [(aH.mk e1.name (ak.mk 2 []))]) rfl Qy rfl rfl rfl (by first | rfl | simp only [List.map,aH.aD]) ?_)))))
  refine B1 hf fun decls2 h4 hf=>?_
  refine AR.step Z Z Z (AO.fK (i:=1) (l:=decls1) (m:=[(aH.mk e1.name (ak.mk 2 []))]) h4 Z Z Z Z Z Z Z Qy Bb Z Z Z (aH.dD) (aH.cells_one) (by decide) (fun v2 s1 hs1=>?_))
  cases hs1
  refine cs 1 Z (AR.nil [1,2,5,10,11,12] Z (AW.region (cs 2 Z ?_)))
  refine AR.drop1 (AR.nil [1,2,5,10,11,12] Z ?_)
  exact ⟨decls2,v2,(bZ (x2 + 1)),Z,Z,Z,hf⟩
 ·
  replace hf:=cZ h2 hf
  refine AW.exit (AW.seq ?_)
  refine B1 hf fun x3 h5 hf=>?_
  obtain ⟨x4,e2,h6,hf⟩:=aV hf
  refine AW.aqG 3 10 [] [.row v1 (List.map aH.cells decls1).length 3 57] (fun S e s=>∃ (v':Value) (b:Nat),e.get 25=.agg (bA fD)∧e.get 26=.own v1 (List.map aH.cells decls1)∧e.get 27=.list (List.map aH.cells bG)∧(S 3=true→e.get 28=.own v' (List.map aH.cells x3))∧(S 4=true→e.get 29=.tuple [.agg (aW x4),iP e2])∧(S 5=true→e.get 24=.tuple [.agg (aW x4),iP e2])∧(S 6=true→e.get 30=.agg (aW x4))∧(S 7=true→e.get 31=iP e2)∧(S 8=true→e.get 8=pP b)∧(S 9=true→S 8=true)∧s=(bif S 8 then [.box b (bif S 9 then (aW x4) else [iP 0,.own (.slice none 0 0) []])] else []) ++ [bif S 3 then .row v' (List.map aH.cells x3).length 3 57 else .row v1 (List.map aH.cells decls1).length 3 57]) mixed (by kernel_rfl) Z Z (List.Perm.refl _) ?_ ?_ ?_ ?_
  ·
   refine Ev.cs aG 3 Z (Ev.nil ?_)
   exact ⟨v1,0,Z,Z,Z,(fun h=>by cases h),(fun h=>by cases h),(fun h=>by cases h),(fun h=>by cases h),(fun h=>by cases h),(fun h=>by cases h),(fun h=>by cases h),Z⟩
  ·
   rintro S S' e s hS ⟨v',b,q1,q2,q3,q4,q5,q6,q7,q8,q9,qa,qb⟩
   have z:=fun i h1 h2=>(hS i h1 h2).symm
   refine ⟨v',b,q1,q2,q3,?_,?_,?_,?_,?_,?_,?_,?_⟩
   ·
    rw [z 3 (by decide) (by decide)]; exact q4
   ·
    rw [z 4 (by decide) (by decide)]; exact q5
   ·
    rw [z 5 (by decide) (by decide)]; exact q6
   ·
    rw [z 6 (by decide) (by decide)]; exact q7
   ·
    rw [z 7 (by decide) (by decide)]; exact q8
   ·
    rw [z 8 (by decide) (by decide)]; exact q9
   ·
    rw [z 9 (by decide) (by decide),z 8 (by decide) (by decide)]; exact qa
   ·
    rw [z 3 (by decide) (by decide),z 8 (by decide) (by decide),z 9 (by decide) (by decide)]; exact qb
  ·
   rintro S e s i o ⟨v',b,q1,q2,q3,q4,q5,q6,q7,q8,q9,qa,rfl⟩ hi1 hi2 hSi hp ho
   have hi:i=3∨i=4∨i=5∨i=6∨i=7∨i=8∨i=9:=by omega
   rcases hi with rfl | rfl | rfl | rfl | rfl | rfl | rfl
   ·
    cases ho
    refine ⟨Z,(fun t ht=>by cases ht; decide),AO.less (Less.add q2 (Less.add q3 Less.nil)) ?_⟩
    cases h8:S 8 with
    | false=>
     rw [hSi]
     refine AO.fK (i:=0) (l:=decls1) (m:=bG) h5 Z Z Z Z Z Z Z Qy Bb Z Z Z (aH.dD) (aH.cells_one) (by decide) (fun v3 s2 hs2=>?_)
     cases hs2
     exact ⟨v3,b,q1,q2,q3,(fun _=>Z),q5,q6,q7,q8,(fun h=>by rw [show S 8=true from h] at h8; cases h8),qa,by simp [h8]⟩
    | true=>
     rw [hSi]
     refine AO.fK (i:=1) (l:=decls1) (m:=bG) h5 Z Z Z Z Z Z Z Qy Bb Z Z Z (aH.dD) (aH.cells_one) (by decide) (fun v3 s2 hs2=>?_)
     cases hs2
     exact ⟨v3,b,q1,q2,q3,(fun _=>Z),q5,q6,q7,q8,q9,qa,by simp [h8]⟩
   ·
    cases ho
    have s3:=hp 3 (any_beq.1 Z) (by decide)
    refine ⟨Z,(fun t ht=>by cases ht; decide),AO.less (Less.add q1 (Less.add (q4 s3) Less.nil)) ?_⟩
    refine AO.call Z _ Z Z apV (abz _ _ h6 ?_)
    exact ⟨v',b,q1,q2,q3,q4,(fun _=>Z),q6,q7,q8,q9,qa,Z⟩
   ·
    cases ho
    have s4:=hp 4 (any_beq.1 Z) (by decide)
    refine ⟨Z,(fun t ht=>by cases ht; decide),AO.less (Less.add (q5 s4) Less.nil) (AO.calc' Z ?_)⟩
    exact ⟨v',b,q1,q2,q3,q4,q5,(fun _=>Z),q7,q8,q9,qa,Z⟩
   ·
    cases ho
    have s5:=hp 5 (any_beq.1 Z) (by decide)
    refine ⟨Z,(fun t ht=>by cases ht; decide),AO.less (Less.add (q6 s5) Less.nil) (AO.calc' Z ?_)⟩
    exact ⟨v',b,q1,q2,q3,q4,q5,q6,(fun _=>Z),q8,q9,qa,Z⟩
   ·
    cases ho
    have s5:=hp 5 (any_beq.1 Z) (by decide)
    refine ⟨Z,(fun t ht=>by cases ht; decide),AO.less (Less.add (q6 s5) Less.nil) (AO.calc' Z ?_)⟩
    exact ⟨v',b,q1,q2,q3,q4,q5,q6,q7,(fun _=>Z),q9,qa,Z⟩
   ·
    cases ho
    have h9:S 9=false:=Bool.eq_false_iff.2 fun h9=>by rw [qa h9] at hSi; cases hSi
    rw [hSi,h9]
    refine ⟨Z,(fun t ht=>by cases ht; decide),AO.aF Z jk (fun b8=>?_)⟩
    exact ⟨v',b8,q1,q2,q3,q4,q5,q6,q7,q8,(fun _=>Z),(fun _=>Z),by simp [h9]⟩
   ·
    cases ho
    have s8:=hp 8 (any_beq.1 Z) (by decide)
    have s6:=hp 6 (any_beq.1 Z) (by decide)
    rw [s8,hSi]
    refine ⟨Z,(fun t ht=>by cases ht),AO.less (Less.add (q9 s8) (Less.add (q7 s6) Less.nil)) ?_⟩
    refine AO.dW (i:=0) Z Z Z bI Z Z Z Z Z ?_
    exact ⟨v',b,q1,q2,q3,q4,q5,q6,q7,q8,q9,(fun _=>s8),by simp [s8]⟩
  rintro S e s hS ⟨v',b8,q1,q2,q3,q4,q5,q6,q7,q8,q9,qa,rfl⟩
  rw [hS 3 (by decide) (by decide),hS 8 (by decide) (by decide),hS 9 (by decide) (by decide)]
  refine AR.less (Less.add (q9 (hS 8 (by decide) (by decide))) (Less.add (q8 (hS 7 (by decide) (by decide))) Less.nil)) ?_
  refine cs 1 Z (AR.nil [8,9] Z (AW.seq (AW.sr ?_)))
  refine cs 2 Z (AR.nil [8,9,33] Z (AW.cond Z (fun h7=>?_) (fun h7=>?_)))
  ·
   replace hf:=cO h7 hf
   refine AW.sr (cs 2 Z (AR.nil [4] Z (AW.ret ?_)))
   cases hf
   exact ⟨rfl,_,⟨_,_,rfl,rfl,rfl⟩,[],List.nil_sublist _,h⟩
  ·
   replace hf:=cZ h7 hf
   refine AW.skip (AW.seq (AW.sr (cs 1 Z ?_)))
   refine AR.step Z Z Z (AO.aY (i:=0) Z Z Z EP Z Z (AR.nil [36] Z (AW.block (AW.seq ?_))))
   refine AW.sr (cs 2 Z (AR.nil [36,37] Z (AW.cond Z (fun h8=>?_) (fun h8=>?_))))
   ·
    replace hf:=cO h8 hf
    refine AW.skip (AW.cond Z (fun h9=>?_) (fun h9=>?_))
    ·
     refine AW.sr (cs 1 Z (AR.nil [4] Z (AW.ret ?_)))
     cases hf
     exact ⟨rfl,_,⟨_,_,rfl,rfl,rfl⟩,[],List.nil_sublist _,h⟩
    ·
     cases h8.symm.trans h9
   ·
    replace hf:=cZ h8 hf
    refine AW.sr (cs 2 Z (AR.nil [36,37] Z (AW.cond Z (fun h10=>?_) (fun h10=>?_))))
    ·
     replace hf:=cO h10 hf
     refine AW.skip (AW.cond Z (fun h11=>?_) (fun h11=>?_))
     ·
      refine AW.sr (cs 1 Z (AR.nil [4] Z (AW.ret ?_)))
      cases hf
      exact ⟨rfl,_,⟨_,_,rfl,rfl,rfl⟩,[],List.nil_sublist _,h⟩
     ·
      cases h10.symm.trans h11
    ·
     replace hf:=cZ h10 hf
     refine AW.region (cs 2 Z (AR.nil [37] Z (AW.cond Z (fun h12=>?_) (fun h12=>?_))))
     ·
      replace hf:=cO h12 hf
      refine AW.sr (cs 1 Z (AR.nil [4] Z (AW.ret ?_)))
      cases hf
      exact ⟨rfl,_,⟨_,_,rfl,rfl,rfl⟩,[],List.nil_sublist _,h⟩
     ·
      replace hf:=cZ h12 hf
      refine AW.skip (AW.sr (cs 1 Z (AR.nil [4] Z ?_)))
      refine AW.ret ?_
      cases hf
      exact ⟨rfl,_,⟨_,_,rfl,rfl,rfl⟩,[],List.nil_sublist _,h⟩

theorem Yl {r0:aj} (hf:MG=some r0) (h:Q (.ret (.agg (bA r0))) τ):PC 47 [] τ Q:=by
 unfold MG at hf; refine BN 2 [.cell 0 34] [] Tryz.func47 Z Z Z Z Z (W 0 Z (AS Z (AO.aF Z rC (fun b0=>?_)))); cases hf; exact Rx 2 [0] Z Z (ZC [0] Z Z h)

theorem Ar (UY:Bool) {r0:Int} (hf:pO UY=some r0) (h:Q (.ret (iP r0)) τ):PC 170 [.bool UY] τ Q:=by
 unfold pO at hf; refine BN 4 [.tmp 2] [0] Tryz.func170 Z Z Z Z Z (V 2 Z (C hf Z (fun h1 hf=>?_) fun h1 hf=>?_))
 · cases hf; exact M 1 Z (Y Z h)
 cases hf; exact M 1 Z (Y Z h)

theorem adJ (a1:List Str) (b1:List Str) {r0:Int} (hf:JM a1 b1=some r0) (h:Q (.ret (iP r0)) τ):PC 172 [sP a1,sP b1] τ Q:=by
 unfold JM at hf; refine BN 44 [.tmp 4] [0,1] Tryz.func172 Z Z Z Z Z (V 2 Z (Gh (fun i1=>[(0,sP a1),(1,sP b1),(5,iP i1)]) (fun i1=>[]) (fun bT i1=>yM a1 b1 bT i1=some r0) BIG 0 Z Z hf (fun _ hz=>bQ hz) ?_)); intro bT i1 hf; rw [yM] at hf; refine W 2 Z (AS Z (AO.aP (l:=a1) Z Z Z Z f_ Z Z (U 2 Z (AR.and 5 11 16 [0,1,5] (x:=(decide (i1 < (b1.length:Int)))) Z Z (fun h1=>?_) (fun h1=>?_) ?_))))
 · refine Is 11 h1 Z (U 2 Z (GO Z (AO.aP (l:=b1) Z Z Z Z f_ Z Z ?_))); exact eG 2 Z (En [16,0,1,5] Z)
 · refine Is 11 h1 Z ?_; exact eG 5 Z (En [16,0,1,5] Z)
 refine J 0 Z (C hf Z (fun h2 hf=>?_) fun h2 hf=>?_)
 ·
  refine V 0 Z (AW.draw 10 mixed (by kernel_rfl) Z ?_); refine Ev.cs aG 2 Z ?_; refine B1 hf fun e1 h3 hf=>Ev.cons Z Z Z (AO.aI h3 Z Z Z Z f_ Z Z zg) (Ev.cs aG 3 Z ?_); refine B1 hf fun e2 h4 hf=>Ev.cons Z Z Z (AO.aI h4 Z Z Z Z f_ Z Z zg) (Ev.cs aG 1 Z ?_); refine B1 hf fun c1 h5 hf=>Ev.cons Z Z Z (AO.call Z _ Z Z aeE (Jm _ _ h5 zg)) (Ev.cs aG 1 Z (Ev.nil ?_)); show AR _ _ _ _ _ _ _ _
  refine J 2 Z (C hf Z (fun h6 hf=>?_) fun h6 hf=>?_)
  · refine BR hf fun x1 h7 hf=>?_; refine W 2 Z (CL Z (Ar _ h7 ?_)); cases hf; exact N 1 Z (Y Z h)
  exact M 3 Z ⟨(bZ (i1 + 1)),Z,Z,Z,hf⟩
 refine W 1 Z (AS Z (AO.aP (l:=a1) Z Z Z Z f_ Z Z (U 1 Z (AS Z (AO.aP (l:=b1) Z Z Z Z f_ Z Z (J 1 Z (C hf Z (fun h8 hf=>?_) fun h8 hf=>?_)))))))
 · cases hf; exact M 1 Z (Y Z h)
 refine W 1 Z (AS Z (AO.aP (l:=a1) Z Z Z Z f_ Z Z (U 1 Z (AS Z (AO.aP (l:=b1) Z Z Z Z f_ Z Z ?_))))); refine BR hf fun x2 h9 hf=>?_; refine U 1 Z (CL Z (Ar _ h9 ?_)); cases hf; exact N 1 Z (Y Z h)


abbrev Jr (jv:ah→ah→Option Int):Prop:=∀ (sF:ah) (sD:ah) {aR:Int},jv sF sD=some aR→∀ {τ:List bJ} {Q:eT→List bJ→Prop} (h:Q (.ret (iP aR)) τ),PC 113 [.agg (aK sF),.agg (aK sD)] τ Q
abbrev NT (nN:List ah→List ah→Option Int):Prop:=∀ (sF:List ah) (sD:List ah) {aR:Int},nN sF sD=some aR→∀ {τ:List bJ} {Q:eT→List bJ→Prop} (h:Q (.ret (iP aR)) τ),PC 171 [.list (ah.aU sF),.list (ah.aU sD)] τ Q
theorem XP (jv) (Lu:Jr jv) (nN) (Ji:NT nN) (a1:ah) (b1:ah) {r0:Int} (hf:DL jv nN a1 b1=some r0) (h:Q (.ret (iP r0)) τ):PC 113 [.agg (aK a1),.agg (aK b1)] τ Q:=by
 unfold DL at hf; refine BN 77 [.tmp 4] [0,1] Tryz.func113 Z Z Z Z Z (V 8 Z (C hf Z (fun h1 hf=>?_) fun h1 hf=>?_))
 · refine BR hf fun x1 h2 hf=>?_; refine W 5 Z (CL Z (Ar _ h2 ?_)); cases hf; exact N 1 Z (Y Z h)
 refine V 4 Z (C hf Z (fun h3 hf=>?_) fun h3 hf=>?_)
 ·
  refine W 4 Z (AS Z (AO.RD Z XQ Z Z (J 0 Z (C hf Z (fun h4 hf=>?_) fun h4 hf=>?_))))
  · refine BR hf fun x2 h5 hf=>?_; refine W 2 Z (CL Z (Ar _ h5 ?_)); cases hf; exact N 1 Z (Y Z h)
  cases hf; exact M 1 Z (Y Z h)
 refine V 2 Z (C hf Z (fun h6 hf=>?_) fun h6 hf=>?_)
 ·
  refine V 5 Z (C hf Z (fun h7 hf=>?_) fun h7 hf=>?_)
  · refine BR hf fun x3 h8 hf=>?_; refine W 5 Z (CL Z (Ar _ h8 ?_)); cases hf; exact N 1 Z (Y Z h)
  cases hf; exact M 1 Z (Y Z h)
 refine V 2 Z (C hf Z (fun h9 hf=>?_) fun h9 hf=>?_)
 ·
  refine V 5 Z (C hf Z (fun h10 hf=>?_) fun h10 hf=>?_)
  · refine BR hf fun x4 h11 hf=>?_; refine W 5 Z (CL Z (Ar _ h11 ?_)); cases hf; exact N 1 Z (Y Z h)
  cases hf; exact M 1 Z (Y Z h)
 refine V 2 Z (C hf Z (fun h12 hf=>?_) fun h12 hf=>?_)
 · refine BR hf fun x5 jJ hf=>?_; refine W 4 Z (CL Z (Ji _ _ jJ ?_)); cases hf; exact N 1 Z (Y Z h)
 refine V 2 Z (C hf Z (fun j5 hf=>?_) fun j5 hf=>?_)
 ·
  refine B1 hf fun c1 mo hf=>W 4 Z (CL Z (adJ _ _ mo (J 3 Z (C hf Z (fun h16 hf=>?_) fun h16 hf=>?_))))
  · cases hf; exact M 2 Z (Y Z h)
  refine BR hf fun x6 qB hf=>?_; refine W 4 Z (CL Z (Ji _ _ qB ?_)); cases hf; exact N 1 Z (Y Z h)
 cases hf; exact M 1 Z (Y Z h)
theorem abO (jv) (Lu:Jr jv) (nN) (Ji:NT nN) (a1:List ah) (b1:List ah) {r0:Int} (hf:Iz jv nN a1 b1=some r0) (h:Q (.ret (iP r0)) τ):PC 171 [.list (ah.aU a1),.list (ah.aU b1)] τ Q:=by
 unfold Iz at hf; refine BN 42 [.tmp 4] [0,1] Tryz.func171 Z Z Z Z Z (V 2 Z (Gh (fun i1=>[(0,.list (ah.aU a1)),(1,.list (ah.aU b1)),(5,iP i1)]) (fun i1=>[]) (fun bT i1=>yN jv a1 b1 bT i1=some r0) BIG 0 Z Z hf (fun _ hz=>bQ hz) ?_)); intro bT i1 hf; rw [yN] at hf; refine W 2 Z (AS Z (AO.aP (l:=a1) Z Z Z Z dX Z (ah.aB _) (U 2 Z (AR.and 5 11 16 [0,1,5] (x:=(decide (i1 < (b1.length:Int)))) Z Z (fun h1=>?_) (fun h1=>?_) ?_))))
 · refine Is 11 h1 Z (U 2 Z (GO Z (AO.aP (l:=b1) Z Z Z Z dX Z (ah.aB _) ?_))); exact eG 2 Z (En [16,0,1,5] Z)
 · refine Is 11 h1 Z ?_; exact eG 5 Z (En [16,0,1,5] Z)
 refine J 0 Z (C hf Z (fun h2 hf=>?_) fun h2 hf=>?_)
 ·
  refine V 0 Z (AW.draw 10 mixed (by kernel_rfl) Z ?_); refine Ev.cs aG 2 Z ?_; refine B1 hf fun e1 h3 hf=>Ev.cons Z Z Z (AO.aI h3 Z Z (ah.aB _) Z dX (ah.aD _) Z zg) (Ev.cs aG 3 Z ?_); refine B1 hf fun e2 h4 hf=>Ev.cons Z Z Z (AO.aI h4 Z Z (ah.aB _) Z dX (ah.aD _) Z zg) (Ev.cs aG 1 Z ?_); refine B1 hf fun c1 h5 hf=>Ev.cons Z Z Z (AO.call Z _ Z Z aod (Lu _ _ h5 zg)) (Ev.cs aG 1 Z (Ev.nil ?_)); show AR _ _ _ _ _ _ _ _
  refine J 2 Z (C hf Z (fun h6 hf=>?_) fun h6 hf=>?_)
  · cases hf; exact M 2 Z (Y Z h)
  exact M 3 Z ⟨(bZ (i1 + 1)),Z,Z,Z,hf⟩
 refine W 1 Z (AS Z (AO.aP (l:=a1) Z Z Z Z dX Z (ah.aB _) (U 1 Z (AS Z (AO.aP (l:=b1) Z Z Z Z dX Z (ah.aB _) (J 1 Z (C hf Z (fun h7 hf=>?_) fun h7 hf=>?_)))))))
 · cases hf; exact M 1 Z (Y Z h)
 refine W 1 Z (AS Z (AO.aP (l:=a1) Z Z Z Z dX Z (ah.aB _) (U 1 Z (AS Z (AO.aP (l:=b1) Z Z Z Z dX Z (ah.aB _) ?_))))); refine BR hf fun x1 h8 hf=>?_; refine U 1 Z (CL Z (Ar _ h8 ?_)); cases hf; exact N 1 Z (Y Z h)
theorem OO :∀ k:Nat,(Jr (lN k))∧(NT (u_ k)):=by
 intro k
 induction k with
 | zero=>exact ⟨fun _ _ _ hz=>by first | cases hz | (unfold lN at hz; cases hz),fun _ _ _ hz=>by first | cases hz | (unfold u_ at hz; cases hz)⟩
 | succ k ih=>exact ⟨fun sF sD aR hz τ Q hq=>XP (lN k) ih.1 (u_ k) ih.2 sF sD hz hq,fun sF sD aR hz τ Q hq=>abO (lN k) ih.1 (u_ k) ih.2 sF sD hz hq⟩
theorem Yo (sF:ah) (sD:ah) {aR:Int} (hf:IE sF sD=some aR) (h:Q (.ret (iP aR)) τ):PC 113 [.agg (aK sF),.agg (aK sD)] τ Q:=
 ((OO BIG).1) sF sD hf h
theorem ana (sF:List ah) (sD:List ah) {aR:Int} (hf:ahe sF sD=some aR) (h:Q (.ret (iP aR)) τ):PC 171 [.list (ah.aU sF),.list (ah.aU sD)] τ Q:=
 ((OO BIG).2) sF sD hf h

theorem NA (a1:ah) (b1:ah) {r0:Bool} (hf:yP a1 b1=some r0) (h:Q (.ret (.bool r0)) τ):PC 73 [.agg (aK a1),.agg (aK b1)] τ Q:=by
 unfold yP at hf; refine BN 9 [.tmp 4] [0,1] Tryz.func73 Z Z Z Z Z ?_; refine B1 hf fun x1 h1 hf=>W 5 Z (CL Z (Yo _ _ h1 ?_)); cases hf; exact N 2 Z (Y Z h)


abbrev T9 (kS:aj→aj→Option Bool):Prop:=∀ (sF:aj) (sD:aj) {aR:Bool},kS sF sD=some aR→∀ {τ:List bJ} {Q:eT→List bJ→Prop} (h:Q (.ret (.bool aR)) τ),PC 46 [.agg (bA sF),.agg (bA sD)] τ Q
theorem abL (kS) (X8:T9 kS) (a1:aj) (b1:aj) {r0:Bool} (hf:MK kS a1 b1=some r0) (h:Q (.ret (.bool r0)) τ):PC 46 [.agg (bA a1),.agg (bA b1)] τ Q:=by
 unfold MK at hf; refine BN 82 [.tmp 4] [0,1] Tryz.func46 Z Z Z Z Z (W 9 Z (On 6 12 18 [2,3] (!(a1.name == b1.name)) Z Z Z Z (U 1 Z (AR.or 8 19 27 [2,3] (x:=((a1.keys.length:Int) != (b1.keys.length:Int))) Z Z (fun h2=>?_) (fun h2=>?_) ?_))))
 · refine Is 19 h2 Z (U 2 Z (GO Z (AO.aP (l:=a1.keys) Z Z Z Z f_ Z Z (U 2 Z (GO Z (AO.aP (l:=b1.keys) Z Z Z Z f_ Z Z ?_)))))); exact eG 2 Z (En [27,2,3] Z)
 · refine Is 19 h2 Z ?_; exact eG 8 Z (En [27,2,3] Z)
 refine U 1 Z (AR.or 8 28 36 [2,3] (x:=((a1.args.length:Int) != (b1.args.length:Int))) Z Z (fun h3=>?_) (fun h3=>?_) ?_)
 · refine Is 28 h3 Z (U 2 Z (GO Z (AO.aP (l:=a1.args) Z Z Z Z iT Z (aj.aB _) (U 2 Z (GO Z (AO.aP (l:=b1.args) Z Z Z Z iT Z (aj.aB _) ?_)))))); exact eG 2 Z (En [36,2,3] Z)
 · refine Is 28 h3 Z ?_; exact eG 8 Z (En [36,2,3] Z)
 refine B1 hf fun b2 h5 hf=>U 1 Z (AR.dB 7 37 44 false [2,3] b2 Z Z (fun h4=>?_) (fun h4=>?_) ?_)
 · refine IF 37 h4 h5 Z fun h5=>?_; refine B1 h5 fun x1 h6 h5=>U 4 Z (GO Z (AO.call Z _ Z Z amG (NA _ _ h6 ?_))); cases h5; exact eG 2 Z (En [44,2,3] Z)
 · refine IT 37 h4 h5 Z fun h5=>?_; cases h5; exact eG 7 Z (En [44,2,3] Z)
 refine J 0 Z (C hf Z (fun h7 hf=>?_) fun h7 hf=>?_)
 · cases hf; exact M 1 Z (Y Z h)
 refine V 1 Z (Gh (fun i1=>[(2,.ref (bA a1)),(3,.ref (bA b1)),(5,iP i1)]) (fun i1=>[]) (fun bT i1=>Fh kS a1 b1 bT i1=some r0) BIG 0 Z Z hf (fun _ hz=>bQ hz) ?_); intro bT i1 hf; rw [Fh] at hf; refine W 3 Z (AS Z (AO.aP (l:=a1.keys) Z Z Z Z f_ Z Z (J 1 Z (C hf Z (fun h8 hf=>?_) fun h8 hf=>?_))))
 ·
  refine V 0 Z (AW.draw 11 mixed (by kernel_rfl) Z ?_); refine Ev.cs aG 3 Z ?_; refine B1 hf fun e1 h9 hf=>Ev.cons Z Z Z (AO.aI h9 Z Z Z Z f_ Z Z zg) (Ev.cs aG 4 Z ?_); refine B1 hf fun e2 h10 hf=>Ev.cons Z Z Z (AO.aI h10 Z Z Z Z f_ Z Z zg) (Ev.cs aG 2 Z (Ev.nil ?_)); show AR _ _ _ _ _ _ _ _
  refine J 0 Z (C hf Z (fun h11 hf=>?_) fun h11 hf=>?_)
  · cases hf; exact M 1 Z (Y Z h)
  exact M 3 Z ⟨(bZ (i1 + 1)),Z,Z,Z,hf⟩
 refine V 1 Z (Gh (fun i2=>[(2,.ref (bA a1)),(3,.ref (bA b1)),(6,iP i2)]) (fun i2=>[]) (fun KQ i2=>Fg kS a1 b1 KQ i2=some r0) BIG 0 Z Z hf (fun _ hz=>bQ hz) ?_); intro KQ i2 hf; rw [Fg] at hf; refine W 3 Z (AS Z (AO.aP (l:=a1.args) Z Z Z Z iT Z (aj.aB _) (J 1 Z (C hf Z (fun h12 hf=>?_) fun h12 hf=>?_))))
 ·
  refine V 0 Z (AW.draw 12 mixed (by kernel_rfl) Z ?_); refine Ev.cs aG 3 Z ?_; refine B1 hf fun e3 jJ hf=>Ev.cons Z Z Z (AO.aI jJ Z Z (aj.aB _) Z iT (aj.aD _) Z zg) (Ev.cs aG 4 Z ?_); refine B1 hf fun e4 j5 hf=>Ev.cons Z Z Z (AO.aI j5 Z Z (aj.aB _) Z iT (aj.aD _) Z zg) (Ev.cs aG 1 Z ?_); refine B1 hf fun x2 mo hf=>Ev.cons Z Z Z (AO.call Z _ Z Z amJ (X8 _ _ mo zg)) (Ev.cs aG 1 Z (Ev.nil ?_)); show AR _ _ _ _ _ _ _ _
  refine J 0 Z (C hf Z (fun h16 hf=>?_) fun h16 hf=>?_)
  · cases hf; exact M 1 Z (Y Z h)
  exact M 3 Z ⟨(bZ (i2 + 1)),Z,Z,Z,hf⟩
 cases hf; exact M 1 Z (Y Z h)
theorem acP :∀ k:Nat,(T9 (Ej k)):=by
 intro k
 induction k with
 | zero=>exact fun _ _ _ hz=>by first | cases hz | (unfold Ej at hz; cases hz)
 | succ k ih=>exact fun sF sD aR hz τ Q hq=>abL (Ej k) ih sF sD hz hq
theorem adF (sF:aj) (sD:aj) {aR:Bool} (hf:Zd sF sD=some aR) (h:Q (.ret (.bool aR)) τ):PC 46 [.agg (bA sF),.agg (bA sD)] τ Q:=
 ((acP BIG)) sF sD hf h

theorem adx (e1:aj) {r0:Bool} (hf:JC e1=some r0) (h:Q (.ret (.bool r0)) τ):PC 25 [.agg (bA e1)] τ Q:=by
 unfold JC at hf; refine BN 6 [.tmp 2] [0] Tryz.func25 Z Z Z Z Z (V 2 Z (AW.draw 4 mixed (by kernel_rfl) Z ?_)); refine Ev.cs aG 1 Z ?_; refine B1 hf fun x1 h1 hf=>Ev.cons Z Z Z (AO.call Z _ Z Z apR (Yl  h1 zg)) ?_; refine BR hf fun x2 h2 hf=>?_; refine Ev.cons Z Z Z (AO.call Z _ Z Z amJ (adF _ _ h2 zg)) (Ev.cs aG 1 Z (Ev.nil ?_)); show AR _ _ _ _ _ _ _ _
 cases hf; exact N 0 Z (Y Z h)

section
variable [FR]
theorem m_ {r0:Bool} (hf:lZ=some r0) (h:Q (.ret (.bool r0)) τ):PC 9 [] τ Q:=by
 unfold lZ at hf; refine BN 86 [.tmp 0] [] Tryz.func9 Z Z Z Z Z (W 1 Z (AS Z (AO.aS (List.map vT ([1,2]:List Int)) Z Y4 Z Z Z Z ?_))); obtain ⟨a1,e1,h1,hf⟩:=aV hf; refine U 2 Z (CL Z (zo _ _ h1 ?_)); obtain ⟨b1,f1,h2,hf⟩:=aV hf; refine U 6 Z (CL Z (zo _ _ h2 ?_)); obtain ⟨c1,g1,h3,hf⟩:=aV hf; refine U 6 Z (CL Z (zo _ _ h3 ?_)); obtain ⟨x1,hx1,h4,hf⟩:=aV hf; refine U 5 Z (CL Z (zo _ _ h4 ?_)); obtain ⟨x2,x3,x4,h5,hf⟩:=wz hf
 refine U 5 Z (CL Z (NG _ h5 (U 4 Z (AS Z (AO.aF Z rC (fun b10=>?_)))))); refine B1 hf fun x5 h6 hf=>Rr 3 [0] rfl rfl (CL rfl (uD  h6 (U 2 rfl (AS rfl (AO.aS (List.map aH.cells [(aH.mk ([97,108,119,97,121,115]:Str) (ak.mk 2 []))]) rfl Qy rfl rfl rfl (by first | rfl | simp only [List.map,aH.aD]) ?_))))); refine B1 hf fun rV h7 hf=>CL Z (tO _ _ h7 (U 3 Z (An 3 45 48 [4,5,6,7,9,10,13] (e1 == 0) Z Z Z Z (U 1 Z (An 3 49 52 [5,6,7,9,10,13] (!b1) Z Z Z Z (U 1 Z (An 3 53 56 [6,7,9,10,13] (f1 == 0) Z Z Z Z ?_)))))))
 refine U 1 Z (An 2 57 59 [7,9,10,13] c1 Z Z Z Z (U 1 Z (An 3 60 63 [9,10,13] (g1 == 0) Z Z Z Z (U 1 Z (An 3 64 67 [10,13] (hx1 == 9) Z Z Z Z ?_))))); refine B1 hf fun b2 mo hf=>U 1 Z (AR.dB 4 68 72 true [13] b2 Z Z (fun j5=>?_) (fun j5=>?_) ?_)
 · replace mo:=cO j5 mo; refine Is 68 j5 Z (GO Z (AO.aY (i:=0) Z Z Z nX Z Z ?_)); refine B1 mo fun x6 h16 mo=>GO Z (AO.call Z _ Z Z ajm (tO _ _ h16 ?_)); cases mo; exact eG 2 Z (En [72,13] Z)
 · refine IF 68 j5 mo Z fun mo=>?_; cases mo; exact eG 4 Z (En [72,13] Z)
 refine U 1 Z (An 3 73 76 [] (rV == 7) Z Z Z Z ?_); refine B1 hf fun b3 h19 hf=>U 1 Z (AR.dB 3 77 80 true [] b3 Z Z (fun h18=>?_) (fun h18=>?_) ?_)
 · refine IT 77 h18 h19 Z fun h19=>?_; refine B1 h19 fun x7 h20 h19=>GO Z (AO.call Z _ Z Z amM (uD  h20 ?_)); refine BR h19 fun x8 h21 h19=>?_; refine GO Z (AO.call Z _ Z Z apY (adx _ h21 ?_)); cases h19; exact eG 1 Z (En [80] Z)
 · refine IF 77 h18 h19 Z fun h19=>?_; cases h19; exact eG 3 Z (En [80] Z)
 refine BR hf fun b4 h23 hf=>?_; refine U 1 Z (AR.dB 4 81 85 true [] b4 Z Z (fun h22=>?_) (fun h22=>?_) ?_)
 · refine IT 81 h22 h23 Z fun h23=>?_; refine B1 h23 fun x9 wT h23=>GO Z (AO.call Z _ Z Z amM (uD  wT ?_)); refine B1 h23 fun wS Cv h23=>GO Z (AO.call Z _ Z Z ajm (tO _ _ Cv ?_)); cases h23; exact eG 2 Z (En [85] Z)
 · refine IF 81 h22 h23 Z fun h23=>?_; cases h23; exact eG 4 Z (En [85] Z)
 cases hf; exact N 1 Z (Y Z h)
end

theorem qQ (fE:Int) {r0:ak} (hf:kH fE=some r0) (h:Q (.ret (.agg (aW r0))) τ):PC 40 [iP fE] τ Q:=by
 unfold kH at hf; refine BN 5 [.cell 2 54] [0] Tryz.func40 Z Z Z Z Z (W 0 Z (AS Z (AO.aF Z jk (fun b2=>?_)))); cases hf; exact Rx 3 [0] Z Z (ZC [0] Z Z h)

theorem TN (fE:Int) {r0:Bool} (hf:Df fE=some r0) (h:Q (.ret (.bool r0)) τ):PC 104 [iP fE] τ Q:=by
 unfold Df at hf; refine BN 9 [.tmp 2] [0] Tryz.func104 Z Z Z Z Z (W 4 Z (On 3 5 8 [] (fE == 6) Z Z Z Z ?_)); cases hf; exact N 1 Z (Y Z h)

theorem uj (fE:Int) (t1:ak) {r0:ak} (hf:kP fE t1=some r0) (h:Q (.ret (.agg (aW r0))) τ):PC 65 [iP fE,.agg (aW t1)] τ Q:=by
 unfold kP at hf; refine BN 9 [.cell 4 54] [0,1] Tryz.func65 rfl rfl rfl rfl rfl (W 1 rfl (AS rfl (AO.aF rfl jk (fun b4=>(U 2 rfl (AS rfl (AO.aS (ak.aU [t1]) rfl uZ rfl rfl rfl (by first | rfl | simp only [List.map,ak.aD,ak.aU]) ?_))))))); cases hf; exact Rx 2 [0] Z Z (ZC [0] Z Z h)


abbrev XB (A8:ak→ak→Option ak):Prop:=∀ (sF:ak) (sD:ak) {aR:ak},A8 sF sD=some aR→∀ {τ:List bJ} {Q:eT→List bJ→Prop} (h:Q (.ret (.agg (aW aR))) τ),PC 64 [.agg (aW sF),.agg (aW sD)] τ Q
theorem aee (A8) (aaW:XB A8) (a1:ak) (b1:ak) {r0:ak} (hf:Ai A8 a1 b1=some r0) (h:Q (.ret (.agg (aW r0))) τ):PC 64 [.agg (aW a1),.agg (aW b1)] τ Q:=by
 unfold Ai at hf; refine BN 35 [.cell 4 54] [0,1] Tryz.func64 Z Z Z Z Z (W 2 Z (AS Z (AO.aF Z jk (fun b4=>(J 3 Z (C hf Z (fun h1 hf=>?_) fun h1 hf=>?_))))))
 · cases hf; exact Wx 2 [0] Z Z (ZC [0] Z Z h)
 refine V 3 Z (C hf Z (fun h2 hf=>?_) fun h2 hf=>?_)
 · cases hf; exact Wx 2 [0] Z Z (ZC [0] Z Z h)
 refine V 5 Z (C hf Z (fun h3 hf=>?_) fun h3 hf=>?_)
 · refine BR hf fun x1 h4 hf=>?_; refine W 0 Z (CL Z (qQ _ h4 ?_)); cases hf; exact Rx 1 [0] Z Z (ZC [0] Z Z h)
 refine B1 hf fun x2 h5 hf=>W 2 Z (CL Z (TN _ h5 (J 0 Z (C hf Z (fun h6 hf=>?_) fun h6 hf=>?_))))
 ·
  refine V 0 Z (AW.draw 12 mixed (by kernel_rfl) Z ?_); refine Ev.cs aG 4 Z ?_; refine B1 hf fun e1 h7 hf=>Ev.cons Z Z Z (AO.aI h7 Z Z (ak.aB _) Z fZ (ak.aD _) Z zg) (Ev.cs aG 3 Z ?_); refine B1 hf fun e2 h8 hf=>Ev.cons Z Z Z (AO.aI h8 Z Z (ak.aB _) Z fZ (ak.aD _) Z zg) (Ev.cs aG 1 Z ?_); refine B1 hf fun x3 h9 hf=>Ev.cons Z Z Z (AO.call Z _ Z Z amI (aaW _ _ h9 zg)) ?_; refine BR hf fun x4 h10 hf=>?_
  refine Ev.cons Z Z Z (AO.call Z _ Z Z acE (uj _ _ h10 zg)) (Ev.nil ?_); show AR _ _ _ _ _ _ _ _
  cases hf; exact Rx 1 [0] Z Z (ZC [0] Z Z h)
 cases hf; exact Wx 2 [0] Z Z (ZC [0] Z Z h)
theorem aeQ :∀ k:Nat,(XB (tZ k)):=by
 intro k
 induction k with
 | zero=>exact fun _ _ _ hz=>by first | cases hz | (unfold tZ at hz; cases hz)
 | succ k ih=>exact fun sF sD aR hz τ Q hq=>aee (tZ k) ih sF sD hz hq
theorem WY (sF:ak) (sD:ak) {aR:ak} (hf:MN sF sD=some aR) (h:Q (.ret (.agg (aW aR))) τ):PC 64 [.agg (aW sF),.agg (aW sD)] τ Q:=
 ((aeQ BIG)) sF sD hf h


abbrev adZ (wo:ah→Option ak):Prop:=∀ (qg:ah) {aR:ak},wo qg=some aR→∀ {τ:List bJ} {Q:eT→List bJ→Prop} (h:Q (.ret (.agg (aW aR))) τ),PC 41 [.agg (aK qg)] τ Q
theorem ail (wo) (ae2:adZ wo) (v1:ah) {r0:ak} (hf:QI wo v1=some r0) (h:Q (.ret (.agg (aW r0))) τ):PC 41 [.agg (aK v1)] τ Q:=by
 unfold QI at hf; refine BN 42 [.cell 2 54] [0] Tryz.func41 Z Z Z Z Z (W 1 Z (AS Z (AO.aF Z jk (fun b2=>(J 4 Z (C hf Z (fun h1 hf=>?_) fun h1 hf=>?_))))))
 · refine BR hf fun x1 h2 hf=>?_; refine W 0 Z (CL Z (qQ _ h2 ?_)); cases hf; exact Rx 1 [0] Z Z (ZC [0] Z Z h)
 refine V 2 Z (C hf Z (fun h3 hf=>?_) fun h3 hf=>?_)
 · refine BR hf fun x2 h4 hf=>?_; refine W 0 Z (CL Z (qQ _ h4 ?_)); cases hf; exact Rx 1 [0] Z Z (ZC [0] Z Z h)
 refine V 2 Z (C hf Z (fun h5 hf=>?_) fun h5 hf=>?_)
 · refine BR hf fun x3 h6 hf=>?_; refine W 0 Z (CL Z (qQ _ h6 ?_)); cases hf; exact Rx 1 [0] Z Z (ZC [0] Z Z h)
 refine V 2 Z (C hf Z (fun h7 hf=>?_) fun h7 hf=>?_)
 · refine BR hf fun x4 h8 hf=>?_; refine W 0 Z (CL Z (qQ _ h8 ?_)); cases hf; exact Rx 1 [0] Z Z (ZC [0] Z Z h)
 refine B1 hf fun x5 h9 hf=>W 0 Z (CL Z (qQ _ h9 (AS Z (AO.aF Z jk (fun b3=>(Rw 2 [0] Z Z (Xy (fun i1 t1=>[(1,.ref (aK v1)),(2,pP b2),(3,pP b3),(4,iP i1)]) (fun i1 t1=>[.box b3 (aW t1),.box b2 [iP 0,.own (.slice none 0 0) []]]) (fun bT i1 t1=>JK wo v1 bT i1 t1=some r0) BIG 0 x5 Z Z hf (fun _ _ hz=>bQ hz) ?_))))))); intro bT i1 t1 hf; rw [JK] at hf
 refine W 3 Z (AS Z (AO.aP (l:=v1.aO) Z Z Z Z dX Z (ah.aB _) (J 1 Z (C hf Z (fun h10 hf=>?_) fun h10 hf=>?_))))
 ·
  refine V 0 Z (AW.draw 8 mixed (by kernel_rfl) Z ?_); refine Ev.cons Z Z Z (AO.aY (i:=0) Z Z Z bI Z Z zg) (Ev.cs aG 3 Z ?_); refine B1 hf fun e1 h11 hf=>Ev.cons Z Z Z (AO.aI h11 Z Z (ah.aB _) Z dX (ah.aD _) Z zg) (Ev.cs aG 1 Z ?_); refine B1 hf fun x6 h12 hf=>Ev.cons Z Z Z (AO.call Z _ Z Z apT (ae2 _ h12 zg)) ?_; refine B1 hf fun x7 jJ hf=>Ev.cons Z Z Z (AO.call Z _ Z Z amI (WY _ _ jJ zg)) (Ev.nil ?_); show AR _ _ _ _ _ _ _ _
  exact Rx 4 [0] Z Z ⟨(bZ (i1 + 1)),x7,Z,Z,Z,hf⟩
 refine V 3 Z (C hf Z (fun j5 hf=>?_) fun j5 hf=>?_)
 · refine BR hf fun x8 mo hf=>?_; refine Wr 1 [0] Z Z (CL Z (uj _ _ mo ?_)); cases hf; exact Rx 1 [1] Z Z (ZC [1] Z Z h)
 refine BR hf fun x9 h16 hf=>?_; refine Wr 1 [0] Z Z (CL Z (uj _ _ h16 ?_)); cases hf; exact Rx 1 [1] Z Z (ZC [1] Z Z h)
theorem ajK :∀ k:Nat,(adZ (Bz k)):=by
 intro k
 induction k with
 | zero=>exact fun _ _ hz=>by first | cases hz | (unfold Bz at hz; cases hz)
 | succ k ih=>exact fun qg aR hz τ Q hq=>ail (Bz k) ih qg hz hq
theorem akr (qg:ah) {aR:ak} (hf:aeB qg=some aR) (h:Q (.ret (.agg (aW aR))) τ):PC 41 [.agg (aK qg)] τ Q:=
 ((ajK BIG)) qg hf h

theorem adH (v1:ah) {r0:ak} (hf:MO v1=some r0) (h:Q (.ret (.agg (aW r0))) τ):PC 21 [.agg (aK v1)] τ Q:=by
 unfold MO at hf; refine BN 9 [.cell 2 54] [0] Tryz.func21 Z Z Z Z Z (W 1 Z (AS Z (AO.aF Z jk (fun b2=>?_)))); refine B1 hf fun x1 h1 hf=>U 1 Z (CL Z (EI _ h1 (J 1 Z (C hf Z (fun h2 hf=>?_) fun h2 hf=>?_))))
 · refine BR hf fun x2 h3 hf=>?_; refine W 0 Z (CL Z (qQ _ h3 ?_)); cases hf; exact Rx 1 [0] Z Z (ZC [0] Z Z h)
 refine BR hf fun x3 h4 hf=>?_; refine W 1 Z (CL Z (akr _ h4 ?_)); cases hf; exact Rx 1 [0] Z Z (ZC [0] Z Z h)

theorem TH (bG:List aH) {r0:List aH} (hf:CX bG=some r0) (h:Q (.ret (.list (List.map aH.cells r0))) τ):PC 23 [.list (List.map aH.cells bG)] τ Q:=by
 unfold CX at hf; refine BN 20 [.tmp 2] [0] Tryz.func23 Z Z Z Z Z (W 0 Z (AS Z (AO.mh Z Z ?_))); refine B1 hf fun x1 h1 hf=>U 0 rfl (CL rfl (qQ _ h1 (AS rfl (AO.aF rfl jk (fun b3=>(Rr 11 [0,0,0,0,0,0] rfl rfl (AS rfl (AO.qo (List.map aH.cells [(aH.mk ([97,108,119,97,121,115]:Str) x1),(aH.mk ([99,97,110,99,101,108,108,101,100]:Str) x1),(aH.mk ([102,97,105,108,117,114,101]:Str) x1),(aH.mk ([115,107,105,112,112,101,100]:Str) x1),(aH.mk ([115,117,99,99,101,115,115]:Str) x1)]) rfl Qy rfl rfl rfl rfl (by first | rfl | simp only [List.map,aH.aD]) (fun v1=>?_)))))))))
 refine BR hf fun x2 h2 hf=>?_; refine U 3 Z (AS Z (AO.fK (i:=0) (l:=[(aH.mk ([97,108,119,97,121,115]:Str) x1),(aH.mk ([99,97,110,99,101,108,108,101,100]:Str) x1),(aH.mk ([102,97,105,108,117,114,101]:Str) x1),(aH.mk ([115,107,105,112,112,101,100]:Str) x1),(aH.mk ([115,117,99,99,101,115,115]:Str) x1)]) (m:=bG) h2 Z Z Z Z Z Z Z Qy Bb Z Z Z (aH.dD) (aH.cells_one) (by decide) (fun v2 s1 hs1=>?_))); cases hs1; cases hf; exact N 1 Z (Y Z h)


abbrev Ua (zh:ak→Int→Option Int):Prop:=∀ (z_:ak) (gu:Int) {aR:Int},zh z_ gu=some aR→∀ {τ:List bJ} {Q:eT→List bJ→Prop} (h:Q (.ret (iP aR)) τ),PC 150 [.agg (aW z_),iP gu] τ Q
theorem abN (zh) (X_:Ua zh) (t1:ak) (bV:Int) {r0:Int} (hf:Iy zh t1 bV=some r0) (h:Q (.ret (iP r0)) τ):PC 150 [.agg (aW t1),iP bV] τ Q:=by
 unfold Iy at hf; refine BN 34 [.tmp 4] [0,1] Tryz.func150 Z Z Z Z Z (V 4 Z (C hf Z (fun h1 hf=>?_) fun h1 hf=>?_))
 · cases hf; exact M 1 Z (Y Z h)
 refine W 4 Z (On 4 10 14 [1,2] (decide (7 < t1.kind)) Z Z Z Z (J 0 Z (C hf Z (fun h3 hf=>?_) fun h3 hf=>?_)))
 · cases hf; exact M 1 Z (Y Z h)
 refine B1 hf fun x1 h4 hf=>W 2 Z (CL Z (TN _ h4 (J 1 Z (C hf Z (fun h5 hf=>?_) fun h5 hf=>?_))))
 ·
  refine W 2 Z (AS Z (AO.aP (l:=t1.elem) Z Z Z Z fZ Z (ak.aB _) (J 1 Z (C hf Z (fun h6 hf=>?_) fun h6 hf=>?_))))
  · cases hf; exact M 1 Z (Y Z h)
  cases hf; exact M 1 Z (Y Z h)
 refine W 2 Z (AS Z (AO.aP (l:=t1.elem) Z Z Z Z fZ Z (ak.aB _) (J 1 Z (C hf Z (fun h7 hf=>?_) fun h7 hf=>?_))))
 · cases hf; exact M 1 Z (Y Z h)
 refine B1 hf fun e1 h8 hf=>W 2 Z (AS Z (AO.aI h8 Z Z (ak.aB _) Z fZ (ak.aD _) Z ?_)); refine BR hf fun x2 h9 hf=>?_; refine U 3 Z (CL Z (X_ _ _ h9 ?_)); cases hf; exact N 1 Z (Y Z h)
theorem acR :∀ k:Nat,(Ua (xw k)):=by
 intro k
 induction k with
 | zero=>exact fun _ _ _ hz=>by first | cases hz | (unfold xw at hz; cases hz)
 | succ k ih=>exact fun z_ gu aR hz τ Q hq=>abN (xw k) ih z_ gu hz hq
theorem adG (z_:ak) (gu:Int) {aR:Int} (hf:Ze z_ gu=some aR) (h:Q (.ret (iP aR)) τ):PC 150 [.agg (aW z_),iP gu] τ Q:=
 ((acR BIG)) z_ gu hf h

theorem I5 (t1:ak) {r0:Int} (hf:yL t1=some r0) (h:Q (.ret (iP r0)) τ):PC 97 [.agg (aW t1)] τ Q:=by
 unfold yL at hf; refine BN 5 [.tmp 2] [0] Tryz.func97 Z Z Z Z Z ?_; refine BR hf fun x1 h1 hf=>?_; refine W 3 Z (CL Z (adG _ _ h1 ?_)); cases hf; exact N 1 Z (Y Z h)

theorem ahS (cB:List aH) {r0:Int} (hf:QH cB=some r0) (h:Q (.ret (iP r0)) τ):PC 60 [.list (List.map aH.cells cB)] τ Q:=by
 unfold QH at hf; refine BN 47 [.tmp 2] [0] Tryz.func60 Z Z Z Z Z (W 2 Z (AS Z (AO.aP (l:=cB) Z Z Z Z Bb Z Z (J 1 Z (C hf Z (fun h1 hf=>?_) fun h1 hf=>?_)))))
 · cases hf; exact M 1 Z (Y Z h)
 refine V 1 Z (Gh (fun i1=>[(0,.list (List.map aH.cells cB)),(3,iP i1)]) (fun i1=>[]) (fun bT i1=>xu cB bT i1=some r0) BIG 0 Z Z hf (fun _ hz=>bQ hz) ?_); intro bT i1 hf; rw [xu] at hf; refine W 2 Z (AS Z (AO.aP (l:=cB) Z Z Z Z Bb Z Z (J 1 Z (C hf Z (fun h2 hf=>?_) fun h2 hf=>?_))))
 ·
  refine B1 hf fun e1 h3 hf=>W 2 Z (AS Z (AO.aI h3 Z Z Z Z Bb (aH.aD _) Z ?_)); refine B1 hf fun x1 h4 hf=>U 2 Z (CL Z (EH _ h4 (J 1 Z (C hf Z (fun h5 hf=>?_) fun h5 hf=>?_))))
  · cases hf; exact M 1 Z (Y Z h)
  refine B1 hf fun e2 h6 hf=>W 2 Z (AS Z (AO.aI h6 Z Z Z Z Bb (aH.aD _) Z ?_)); refine B1 hf fun e3 h7 hf=>U 2 Z (CL Z (I5 _ h7 (J 3 Z (C hf Z (fun h8 hf=>?_) fun h8 hf=>?_))))
  · cases hf; exact M 2 Z (Y Z h)
  refine V 1 Z (Gh (fun rV=>[(0,.list (List.map aH.cells cB)),(3,iP i1),(5,iP rV)]) (fun rV=>[]) (fun KQ rV=>Da cB i1 (xu cB bT) KQ rV=some r0) BIG 0 Z Z hf (fun _ hz=>bQ hz) ?_); intro KQ rV hf; rw [Da] at hf; refine V 3 Z (C hf Z (fun h9 hf=>?_) fun h9 hf=>?_)
  ·
   refine V 0 Z (AW.draw 11 mixed (by kernel_rfl) Z ?_); refine Ev.cs aG 2 Z ?_; refine B1 hf fun e4 h10 hf=>Ev.cons Z Z Z (AO.aI h10 Z Z Z Z Bb (aH.aD _) Z zg) (Ev.cs aG 4 Z ?_); refine B1 hf fun e5 h11 hf=>Ev.cons Z Z Z (AO.aI h11 Z Z Z Z Bb (aH.aD _) Z zg) (Ev.cs aG 3 Z (Ev.nil ?_)); show AR _ _ _ _ _ _ _ _
   refine J 0 Z (C hf Z (fun h12 hf=>?_) fun h12 hf=>?_)
   · cases hf; exact M 1 Z (Y Z h)
   exact M 3 Z ⟨(bZ (rV + 1)),Z,Z,Z,hf⟩
  exact M 3 Z ⟨(bZ (i1 + 1)),Z,Z,Z,hf⟩
 cases hf; exact M 1 Z (Y Z h)

theorem adE (e1:aj) {r0:Bool} (hf:JI e1=some r0) (h:Q (.ret (.bool r0)) τ):PC 188 [.agg (bA e1)] τ Q:=by
 unfold JI at hf; refine BN 45 [.tmp 2] [0] Tryz.func188 Z Z Z Z Z (V 6 Z (C hf Z (fun h1 hf=>?_) fun h1 hf=>?_))
 ·
  refine V 0 Z (AW.cond Z (fun h2=>?_) (fun h2=>?_))
  · refine W 2 Z (AS Z (AO.aP (l:=e1.args) Z Z Z Z iT Z (aj.aB _) ?_)); cases hf; exact N 2 Z (Y Z h)
  cases h1.symm.trans h2
 refine V 2 Z (C hf Z (fun h3 hf=>?_) fun h3 hf=>?_)
 · refine W 2 Z (AS Z (AO.aP (l:=e1.args) Z Z Z Z iT Z (aj.aB _) ?_)); cases hf; exact N 2 Z (Y Z h)
 refine V 2 Z (C hf Z (fun h4 hf=>?_) fun h4 hf=>?_)
 ·
  refine V 0 Z (AW.cond Z (fun h5=>?_) (fun h5=>?_))
  · refine W 2 Z (AS Z (AO.aP (l:=e1.args) Z Z Z Z iT Z (aj.aB _) ?_)); cases hf; exact N 2 Z (Y Z h)
  cases h4.symm.trans h5
 refine V 2 Z (C hf Z (fun h6 hf=>?_) fun h6 hf=>?_)
 · refine W 2 Z (AS Z (AO.aP (l:=e1.args) Z Z Z Z iT Z (aj.aB _) ?_)); cases hf; exact N 2 Z (Y Z h)
 refine V 2 Z (C hf Z (fun h7 hf=>?_) fun h7 hf=>?_)
 ·
  refine V 0 Z (AW.cond Z (fun h8=>?_) (fun h8=>?_))
  · refine W 2 Z (AS Z (AO.aP (l:=e1.args) Z Z Z Z iT Z (aj.aB _) ?_)); cases hf; exact N 2 Z (Y Z h)
  cases h7.symm.trans h8
 refine V 2 Z (C hf Z (fun h9 hf=>?_) fun h9 hf=>?_)
 · refine W 2 Z (AS Z (AO.aP (l:=e1.args) Z Z Z Z iT Z (aj.aB _) ?_)); cases hf; exact N 2 Z (Y Z h)
 refine V 2 Z (C hf Z (fun h10 hf=>?_) fun h10 hf=>?_)
 · refine W 2 Z (AS Z (AO.aP (l:=e1.args) Z Z Z Z iT Z (aj.aB _) ?_)); cases hf; exact N 2 Z (Y Z h)
 refine W 4 Z (On 4 35 39 [1] (e1.kind == 9) Z Z Z Z (U 1 Z (On 4 40 44 [] (e1.kind == 10) Z Z Z Z ?_))); cases hf; exact N 1 Z (Y Z h)

theorem Ny (op1:Str) {r0:Int} (hf:Bv op1=some r0) (h:Q (.ret (iP r0)) τ):PC 197 [.str op1] τ Q:=by
 unfold Bv at hf; refine BN 22 [.tmp 2] [0] Tryz.func197 Z Z Z Z Z (V 4 Z (C hf Z (fun h1 hf=>?_) fun h1 hf=>?_))
 · cases hf; exact M 1 Z (Y Z h)
 refine V 2 Z (C hf Z (fun h2 hf=>?_) fun h2 hf=>?_)
 · cases hf; exact M 1 Z (Y Z h)
 refine V 2 Z (C hf Z (fun h3 hf=>?_) fun h3 hf=>?_)
 ·
  refine V 0 Z (AW.cond Z (fun h4=>?_) (fun h4=>?_))
  · cases hf; exact M 1 Z (Y Z h)
  cases h3.symm.trans h4
 refine V 2 Z (C hf Z (fun h5 hf=>?_) fun h5 hf=>?_)
 ·
  refine V 0 Z (AW.cond Z (fun h6=>?_) (fun h6=>?_))
  · cases hf; exact M 1 Z (Y Z h)
  cases h5.symm.trans h6
 refine V 2 Z (C hf Z (fun h7 hf=>?_) fun h7 hf=>?_)
 ·
  refine V 0 Z (AW.cond Z (fun h8=>?_) (fun h8=>?_))
  · cases hf; exact M 1 Z (Y Z h)
  cases h7.symm.trans h8
 refine V 2 Z (C hf Z (fun h9 hf=>?_) fun h9 hf=>?_)
 ·
  refine V 0 Z (AW.cond Z (fun h10=>?_) (fun h10=>?_))
  · cases hf; exact M 1 Z (Y Z h)
  cases h9.symm.trans h10
 refine V 2 Z (C hf Z (fun h11 hf=>?_) fun h11 hf=>?_)
 ·
  refine V 0 Z (AW.cond Z (fun h12=>?_) (fun h12=>?_))
  · cases hf; exact M 1 Z (Y Z h)
  cases h11.symm.trans h12
 refine V 2 Z (C hf Z (fun jJ hf=>?_) fun jJ hf=>?_)
 · cases hf; exact M 1 Z (Y Z h)
 refine V 2 Z (C hf Z (fun j5 hf=>?_) fun j5 hf=>?_)
 ·
  refine V 0 Z (AW.cond Z (fun mo=>?_) (fun mo=>?_))
  · cases hf; exact M 1 Z (Y Z h)
  cases j5.symm.trans mo
 refine V 2 Z (C hf Z (fun h16 hf=>?_) fun h16 hf=>?_)
 · cases hf; exact M 1 Z (Y Z h)
 refine V 2 Z (C hf Z (fun qB hf=>?_) fun qB hf=>?_)
 ·
  refine V 0 Z (AW.cond Z (fun h18=>?_) (fun h18=>?_))
  · cases hf; exact M 1 Z (Y Z h)
  cases qB.symm.trans h18
 refine V 2 Z (C hf Z (fun h19 hf=>?_) fun h19 hf=>?_)
 ·
  refine V 0 Z (AW.cond Z (fun h20=>?_) (fun h20=>?_))
  · cases hf; exact M 1 Z (Y Z h)
  cases h19.symm.trans h20
 refine V 2 Z (C hf Z (fun h21 hf=>?_) fun h21 hf=>?_)
 · cases hf; exact M 1 Z (Y Z h)
 cases hf; exact M 1 Z (Y Z h)

theorem adC (e1:aj) {r0:Bool} (hf:JH e1=some r0) (h:Q (.ret (.bool r0)) τ):PC 189 [.agg (bA e1)] τ Q:=by
 unfold JH at hf; refine BN 31 [.tmp 2] [0] Tryz.func189 Z Z Z Z Z (V 6 Z (C hf Z (fun h1 hf=>?_) fun h1 hf=>?_))
 ·
  refine V 0 Z (AW.cond Z (fun h2=>?_) (fun h2=>?_))
  · refine BR hf fun x1 h3 hf=>?_; refine W 2 Z (CL Z (EH _ h3 ?_)); cases hf; exact N 1 Z (Y Z h)
  cases h1.symm.trans h2
 refine V 2 Z (C hf Z (fun h4 hf=>?_) fun h4 hf=>?_)
 ·
  refine V 0 Z (AW.cond Z (fun h5=>?_) (fun h5=>?_))
  · refine BR hf fun x2 h6 hf=>?_; refine W 2 Z (CL Z (EH _ h6 ?_)); cases hf; exact N 1 Z (Y Z h)
  cases h4.symm.trans h5
 refine V 2 Z (C hf Z (fun h7 hf=>?_) fun h7 hf=>?_)
 · refine BR hf fun x3 h8 hf=>?_; refine W 2 Z (CL Z (EH _ h8 ?_)); cases hf; exact N 1 Z (Y Z h)
 refine V 2 Z (C hf Z (fun h9 hf=>?_) fun h9 hf=>?_)
 · refine W 4 Z (On 4 17 21 [] (e1.name == ([45]:Str)) Z Z Z Z ?_); cases hf; exact N 1 Z (Y Z h)
 refine V 2 Z (C hf Z (fun h11 hf=>?_) fun h11 hf=>?_)
 · refine B1 hf fun x4 h12 hf=>W 2 Z (CL Z (Ny _ h12 ?_)); cases hf; exact N 2 Z (Y Z h)
 cases hf; exact M 4 Z (Y Z h)


abbrev XC (mq:ah→ah→Option Bool):Prop:=∀ (sF:ah) (sD:ah) {aR:Bool},mq sF sD=some aR→∀ {τ:List bJ} {Q:eT→List bJ→Prop} (h:Q (.ret (.bool aR)) τ),PC 26 [.agg (aK sF),.agg (aK sD)] τ Q
theorem aef (mq) (aaX:XC mq) (a1:ah) (b1:ah) {r0:Bool} (hf:Gx mq a1 b1=some r0) (h:Q (.ret (.bool r0)) τ):PC 26 [.agg (aK a1),.agg (aK b1)] τ Q:=by
 unfold Gx at hf; refine BN 88 [.tmp 4] [0,1] Tryz.func26 Z Z Z Z Z (W 9 Z (AR.or 6 12 18 [2,3] (x:=(!(a1.dO == b1.dO))) Z Z (fun h1=>?_) (fun h1=>?_) ?_))
 · refine Is 12 h1 Z (U 4 Z (GO Z (AO.RD Z XQ Z Z ?_))); exact eG 1 Z (En [18,2,3] Z)
 · refine Is 12 h1 Z ?_; exact eG 6 Z (En [18,2,3] Z)
 refine U 1 Z (On 6 19 25 [2,3] (a1.dI != b1.dI) Z Z Z Z (U 1 Z (On 6 26 32 [2,3] (!(a1.bR == b1.bR)) Z Z Z Z (U 1 Z (AR.or 8 33 41 [2,3] (x:=((a1.aO.length:Int) != (b1.aO.length:Int))) Z Z (fun h4=>?_) (fun h4=>?_) ?_)))))
 · refine Is 33 h4 Z (U 2 Z (GO Z (AO.aP (l:=a1.aO) Z Z Z Z dX Z (ah.aB _) (U 2 Z (GO Z (AO.aP (l:=b1.aO) Z Z Z Z dX Z (ah.aB _) ?_)))))); exact eG 2 Z (En [41,2,3] Z)
 · refine Is 33 h4 Z ?_; exact eG 8 Z (En [41,2,3] Z)
 refine U 1 Z (AR.or 8 42 50 [2,3] (x:=((a1.keys.length:Int) != (b1.keys.length:Int))) Z Z (fun h5=>?_) (fun h5=>?_) ?_)
 · refine Is 42 h5 Z (U 2 Z (GO Z (AO.aP (l:=a1.keys) Z Z Z Z f_ Z Z (U 2 Z (GO Z (AO.aP (l:=b1.keys) Z Z Z Z f_ Z Z ?_)))))); exact eG 2 Z (En [50,2,3] Z)
 · refine Is 42 h5 Z ?_; exact eG 8 Z (En [50,2,3] Z)
 refine J 0 Z (C hf Z (fun h6 hf=>?_) fun h6 hf=>?_)
 · cases hf; exact M 1 Z (Y Z h)
 refine V 1 Z (Gh (fun i1=>[(2,.ref (aK a1)),(3,.ref (aK b1)),(5,iP i1)]) (fun i1=>[]) (fun bT i1=>xC mq a1 b1 bT i1=some r0) BIG 0 Z Z hf (fun _ hz=>bQ hz) ?_); intro bT i1 hf; rw [xC] at hf; refine W 3 Z (AS Z (AO.aP (l:=a1.keys) Z Z Z Z f_ Z Z (J 1 Z (C hf Z (fun h7 hf=>?_) fun h7 hf=>?_))))
 ·
  refine V 0 Z (AW.draw 11 mixed (by kernel_rfl) Z ?_); refine Ev.cs aG 3 Z ?_; refine B1 hf fun e1 h8 hf=>Ev.cons Z Z Z (AO.aI h8 Z Z Z Z f_ Z Z zg) (Ev.cs aG 4 Z ?_); refine B1 hf fun e2 h9 hf=>Ev.cons Z Z Z (AO.aI h9 Z Z Z Z f_ Z Z zg) (Ev.cs aG 2 Z (Ev.nil ?_)); show AR _ _ _ _ _ _ _ _
  refine J 0 Z (C hf Z (fun h10 hf=>?_) fun h10 hf=>?_)
  · cases hf; exact M 1 Z (Y Z h)
  exact M 3 Z ⟨(bZ (i1 + 1)),Z,Z,Z,hf⟩
 refine V 1 Z (Gh (fun i2=>[(2,.ref (aK a1)),(3,.ref (aK b1)),(6,iP i2)]) (fun i2=>[]) (fun KQ i2=>pQ mq a1 b1 KQ i2=some r0) BIG 0 Z Z hf (fun _ hz=>bQ hz) ?_); intro KQ i2 hf; rw [pQ] at hf; refine W 3 Z (AS Z (AO.aP (l:=a1.aO) Z Z Z Z dX Z (ah.aB _) (J 1 Z (C hf Z (fun h11 hf=>?_) fun h11 hf=>?_))))
 ·
  refine V 0 Z (AW.draw 12 mixed (by kernel_rfl) Z ?_); refine Ev.cs aG 3 Z ?_; refine B1 hf fun e3 h12 hf=>Ev.cons Z Z Z (AO.aI h12 Z Z (ah.aB _) Z dX (ah.aD _) Z zg) (Ev.cs aG 4 Z ?_); refine B1 hf fun e4 jJ hf=>Ev.cons Z Z Z (AO.aI jJ Z Z (ah.aB _) Z dX (ah.aD _) Z zg) (Ev.cs aG 1 Z ?_); refine B1 hf fun x1 j5 hf=>Ev.cons Z Z Z (AO.call Z _ Z Z ajb (aaX _ _ j5 zg)) (Ev.cs aG 1 Z (Ev.nil ?_)); show AR _ _ _ _ _ _ _ _
  refine J 0 Z (C hf Z (fun mo hf=>?_) fun mo hf=>?_)
  · cases hf; exact M 1 Z (Y Z h)
  exact M 3 Z ⟨(bZ (i2 + 1)),Z,Z,Z,hf⟩
 cases hf; exact M 1 Z (Y Z h)
theorem aeR :∀ k:Nat,(XC (xB k)):=by
 intro k
 induction k with
 | zero=>exact fun _ _ _ hz=>by first | cases hz | (unfold xB at hz; cases hz)
 | succ k ih=>exact fun sF sD aR hz τ Q hq=>aef (xB k) ih sF sD hz hq
theorem W9 (sF:ah) (sD:ah) {aR:Bool} (hf:Gy sF sD=some aR) (h:Q (.ret (.bool aR)) τ):PC 26 [.agg (aK sF),.agg (aK sD)] τ Q:=
 ((aeR BIG)) sF sD hf h

theorem abp (e1:aj) {r0:Bool} (hf:Gw e1=some r0) (h:Q (.ret (.bool r0)) τ):PC 127 [.agg (bA e1)] τ Q:=by
 unfold Gw at hf; refine BN 61 [.tmp 2] [0] Tryz.func127 Z Z Z Z Z ?_; refine B1 hf fun x1 h1 hf=>W 3 Z (CL Z (adE _ h1 ?_)); refine B1 hf fun b1 h3 hf=>U 2 Z (AR.dB 4 7 11 false [1] b1 Z Z (fun h2=>?_) (fun h2=>?_) ?_)
 · refine IF 7 h2 h3 Z fun h3=>?_; refine B1 h3 fun x2 h4 h3=>U 1 Z (GO Z (AO.call Z _ Z Z an0 (adC _ h4 ?_))); cases h3; exact eG 2 Z (En [11,1] Z)
 · refine IT 7 h2 h3 Z fun h3=>?_; cases h3; exact eG 4 Z (En [11,1] Z)
 refine B1 hf fun b2 h6 hf=>U 1 Z (AR.dB 11 12 23 false [1] b2 Z Z (fun h5=>?_) (fun h5=>?_) ?_)
 ·
  refine IF 12 h5 h6 Z fun h6=>?_; refine BR h6 fun b3 h8 h6=>?_; refine U 4 Z (AR.dB 6 16 22 true [1,12] b3 Z Z (fun h7=>?_) (fun h7=>?_) ?_)
  · replace h8:=cO h7 h8; refine Is 16 h7 Z (U 2 Z (GO Z (AO.build Z gq aep Z ?_))); refine B1 h8 fun x3 h9 h8=>GO Z (AO.call Z _ Z Z ajb (W9 _ _ h9 ?_)); cases h8; exact eG 2 Z (En [22,1,12] Z)
  · refine IF 16 h7 h8 Z fun h8=>?_; cases h8; exact eG 6 Z (En [22,1,12] Z)
  cases h6; exact eG 1 Z (En [23,1] Z)
 · refine IT 12 h5 h6 Z fun h6=>?_; cases h6; exact eG 11 Z (En [23,1] Z)
 refine J 0 Z (C hf Z (fun h10 hf=>?_) fun h10 hf=>?_)
 · cases hf; exact M 1 Z (Y Z h)
 refine V 3 Z (C hf Z (fun h11 hf=>?_) fun h11 hf=>?_)
 · refine W 2 Z (AS Z (AO.aP (l:=e1.keys) Z Z Z Z f_ Z Z ?_)); cases hf; exact N 2 Z (Y Z h)
 refine V 1 Z (Gh (fun i1=>[(1,.ref (bA e1)),(3,iP i1)]) (fun i1=>[]) (fun bT i1=>vZ e1 bT i1=some r0) BIG 0 Z Z hf (fun _ hz=>bQ hz) ?_); intro bT i1 hf; rw [vZ] at hf; refine W 3 Z (AS Z (AO.aP (l:=e1.keys) Z Z Z Z f_ Z Z (J 1 Z (C hf Z (fun h12 hf=>?_) fun h12 hf=>?_))))
 ·
  refine B1 hf fun e2 jJ hf=>W 3 Z (AS Z (AO.aI jJ Z Z Z Z f_ Z Z (U 1 Z (AS Z (AO.b_ Z Z Z Z dM Z ?_))))); refine B1 hf fun b4 mo hf=>U 2 Z (AR.dB 8 45 53 false [1,3] b4 Z Z (fun j5=>?_) (fun j5=>?_) ?_)
  · refine IF 45 j5 mo Z fun mo=>?_; refine B1 mo fun e3 h16 mo=>U 3 Z (GO Z (AO.aI h16 Z Z Z Z f_ Z Z (U 1 Z (GO Z (AO.b_ Z Z Z Z dM Z ?_))))); cases mo; exact eG 2 Z (En [53,1,3] Z)
  · refine IT 45 j5 mo Z fun mo=>?_; cases mo; exact eG 8 Z (En [53,1,3] Z)
  refine J 0 Z (C hf Z (fun qB hf=>?_) fun qB hf=>?_)
  · cases hf; exact M 1 Z (Y Z h)
  exact M 3 Z ⟨(bZ (i1 + 1)),Z,Z,Z,hf⟩
 refine W 2 Z (AS Z (AO.aP (l:=e1.keys) Z Z Z Z f_ Z Z (U 2 Z (AS Z (AO.aP (l:=e1.args) Z Z Z Z iT Z (aj.aB _) ?_))))); cases hf; exact N 2 Z (Y Z h)

theorem adB (Cy:List Str) {r0:Bool} (hf:JG Cy=some r0) (h:Q (.ret (.bool r0)) τ):PC 128 [sP Cy] τ Q:=by
 unfold JG at hf; refine BN 25 [.tmp 2] [0] Tryz.func128 Z Z Z Z Z (V 2 Z (Gh (fun i1=>[(0,sP Cy),(3,iP i1)]) (fun i1=>[]) (fun bT i1=>sN Cy bT i1=some r0) BIG 0 Z Z hf (fun _ hz=>bQ hz) ?_)); intro bT i1 hf; rw [sN] at hf; refine W 2 Z (AS Z (AO.aP (l:=Cy) Z Z Z Z f_ Z Z (J 1 Z (C hf Z (fun h1 hf=>?_) fun h1 hf=>?_))))
 ·
  refine V 1 Z (Gh (fun rV=>[(0,sP Cy),(3,iP i1),(4,iP rV)]) (fun rV=>[]) (fun KQ rV=>yJ Cy i1 (sN Cy bT) KQ rV=some r0) BIG 0 Z Z hf (fun _ hz=>bQ hz) ?_); intro KQ rV hf; rw [yJ] at hf; refine V 3 Z (C hf Z (fun h2 hf=>?_) fun h2 hf=>?_)
  ·
   refine V 0 Z (AW.draw 9 mixed (by kernel_rfl) Z ?_); refine Ev.cs aG 2 Z ?_; refine B1 hf fun e1 h3 hf=>Ev.cons Z Z Z (AO.aI h3 Z Z Z Z f_ Z Z zg) (Ev.cs aG 3 Z ?_); refine B1 hf fun e2 h4 hf=>Ev.cons Z Z Z (AO.aI h4 Z Z Z Z f_ Z Z zg) (Ev.cs aG 2 Z (Ev.nil ?_)); show AR _ _ _ _ _ _ _ _
   refine J 0 Z (C hf Z (fun h5 hf=>?_) fun h5 hf=>?_)
   · cases hf; exact M 1 Z (Y Z h)
   exact M 3 Z ⟨(bZ (rV + 1)),Z,Z,Z,hf⟩
  exact M 3 Z ⟨(bZ (i1 + 1)),Z,Z,Z,hf⟩
 cases hf; exact M 1 Z (Y Z h)


abbrev TY (o7:aj→Int→Option Int):Prop:=∀ (iY:aj) (gu:Int) {aR:Int},o7 iY gu=some aR→∀ {τ:List bJ} {Q:eT→List bJ→Prop} (h:Q (.ret (iP aR)) τ),PC 77 [.agg (bA iY),iP gu] τ Q
theorem abK (o7) (X7:TY o7) (e1:aj) (bV:Int) {r0:Int} (hf:Iu o7 e1 bV=some r0) (h:Q (.ret (iP r0)) τ):PC 77 [.agg (bA e1),iP bV] τ Q:=by
 unfold Iu at hf; refine BN 49 [.tmp 4] [0,1] Tryz.func77 Z Z Z Z Z (V 4 Z (C hf Z (fun h1 hf=>?_) fun h1 hf=>?_))
 · cases hf; exact M 1 Z (Y Z h)
 refine B1 hf fun x1 h2 hf=>W 1 Z (CL Z (abp _ h2 (J 1 Z (C hf Z (fun h3 hf=>?_) fun h3 hf=>?_))))
 · cases hf; exact M 1 Z (Y Z h)
 refine B1 hf fun f1 h4 hf=>W 2 Z (CL Z (EI _ h4 (U 5 Z (An 3 19 22 [1,2,5] (f1 != 0) Z Z Z Z (J 0 Z (C hf Z (fun h6 hf=>?_) fun h6 hf=>?_))))))
 · cases hf; exact M 2 Z (Y Z h)
 refine W 2 Z (AS Z (AO.aP (l:=e1.args) Z Z Z Z iT Z (aj.aB _) (J 1 Z (C hf Z (fun h7 hf=>?_) fun h7 hf=>?_))))
 · cases hf; exact M 1 Z (Y Z h)
 refine B1 hf fun x2 h8 hf=>W 2 Z (CL Z (adB _ h8 (J 0 Z (C hf Z (fun h9 hf=>?_) fun h9 hf=>?_))))
 · cases hf; exact M 1 Z (Y Z h)
 refine V 1 Z (Gh (fun i1=>[(1,iP bV),(2,.ref (bA e1)),(6,iP i1)]) (fun i1=>[]) (fun bT i1=>Bu o7 e1 bV bT i1=some r0) BIG 0 Z Z hf (fun _ hz=>bQ hz) ?_); intro bT i1 hf; rw [Bu] at hf; refine W 3 Z (AS Z (AO.aP (l:=e1.args) Z Z Z Z iT Z (aj.aB _) (J 1 Z (C hf Z (fun h10 hf=>?_) fun h10 hf=>?_))))
 ·
  refine B1 hf fun e2 h11 hf=>W 3 Z (AS Z (AO.aI h11 Z Z (aj.aB _) Z iT (aj.aD _) Z ?_)); refine B1 hf fun f2 h12 hf=>U 3 Z (CL Z (X7 _ _ h12 (J 3 Z (C hf Z (fun jJ hf=>?_) fun jJ hf=>?_))))
  · cases hf; exact M 2 Z (Y Z h)
  exact M 3 Z ⟨(bZ (i1 + 1)),Z,Z,Z,hf⟩
 cases hf; exact M 1 Z (Y Z h)
theorem acO :∀ k:Nat,(TY (sO k)):=by
 intro k
 induction k with
 | zero=>exact fun _ _ _ hz=>by first | cases hz | (unfold sO at hz; cases hz)
 | succ k ih=>exact fun iY gu aR hz τ Q hq=>abK (sO k) ih iY gu hz hq
theorem adD (iY:aj) (gu:Int) {aR:Int} (hf:R5 iY gu=some aR) (h:Q (.ret (iP aR)) τ):PC 77 [.agg (bA iY),iP gu] τ Q:=
 ((acO BIG)) iY gu hf h

theorem TK (e1:aj) {r0:Int} (hf:F6 e1=some r0) (h:Q (.ret (iP r0)) τ):PC 53 [.agg (bA e1)] τ Q:=by
 unfold F6 at hf; refine BN 8 [.tmp 2] [0] Tryz.func53 Z Z Z Z Z ?_; refine B1 hf fun x1 h1 hf=>W 3 Z (CL Z (TL _ h1 (J 1 Z (C hf Z (fun h2 hf=>?_) fun h2 hf=>?_))))
 · cases hf; exact M 1 Z (Y Z h)
 refine BR hf fun x2 h3 hf=>?_; refine W 1 Z (CL Z (adD _ _ h3 ?_)); cases hf; exact N 1 Z (Y Z h)

theorem afm (e1:aj) (cB:List aH) {r0:ak} {r1:Int} (hf:Br e1 cB=some (r0,r1)) (h:Q (.ret (.tuple [.agg (aW r0),iP r1])) τ):PC 98 [.agg (bA e1),.list (List.map aH.cells cB)] τ Q:=by
 unfold Br at hf; refine BN 33 [.cell 4 54,.tmp 5] [0,1] Tryz.func98 Z Z Z Z Z (W 1 Z (AS Z (AO.aF Z jk (fun b4=>(J 4 Z (C hf Z (fun h1 hf=>?_) fun h1 hf=>?_))))))
 · refine B1 hf fun x1 h2 hf=>W 2 Z (CL Z (adH _ h2 ?_)); cases hf; exact Rx 2 [0] Z Z (ZC [0] Z Z h)
 refine V 1 Z (Gh (fun i1=>[(1,.list (List.map aH.cells cB)),(2,.ref (bA e1)),(4,pP b4),(6,iP i1)]) (fun i1=>[.box b4 [iP 0,.own (.slice none 0 0) []]]) (fun bT i1=>AB e1 cB bT i1=some (r0,r1)) BIG 0 Z Z hf (fun _ hz=>bQ hz) ?_); intro bT i1 hf; rw [AB] at hf; refine W 2 Z (AS Z (AO.aP (l:=cB) Z Z Z Z Bb Z Z (J 1 Z (C hf Z (fun h3 hf=>?_) fun h3 hf=>?_))))
 ·
  refine V 0 Z (AW.draw 8 mixed (by kernel_rfl) Z ?_); refine Ev.cs aG 2 Z ?_; refine B1 hf fun e2 h4 hf=>Ev.cons Z Z Z (AO.aI h4 Z Z Z Z Bb (aH.aD _) Z zg) (Ev.cs aG 5 Z (Ev.nil ?_)); show AR _ _ _ _ _ _ _ _
  refine J 0 Z (C hf Z (fun h5 hf=>?_) fun h5 hf=>?_)
  · refine B1 hf fun e3 h6 hf=>W 2 Z (AS Z (AO.aI h6 Z Z Z Z Bb (aH.aD _) Z ?_)); cases hf; exact Rx 4 [0] Z Z (ZC [0] Z Z h)
  exact M 3 Z ⟨(bZ (i1 + 1)),Z,Z,Z,hf⟩
 cases hf; exact Wx 3 [0] Z Z (ZC [0] Z Z h)

theorem K6 (name1:Str) {r0:Int} (hf:rE name1=some r0) (h:Q (.ret (iP r0)) τ):PC 79 [.str name1] τ Q:=by
 unfold rE at hf; refine BN 18 [.tmp 2] [0] Tryz.func79 Z Z Z Z Z (V 4 Z (C hf Z (fun h1 hf=>?_) fun h1 hf=>?_))
 ·
  refine V 0 Z (AW.cond Z (fun h2=>?_) (fun h2=>?_))
  · cases hf; exact M 1 Z (Y Z h)
  cases h1.symm.trans h2
 refine V 2 Z (C hf Z (fun h3 hf=>?_) fun h3 hf=>?_)
 ·
  refine V 0 Z (AW.cond Z (fun h4=>?_) (fun h4=>?_))
  · cases hf; exact M 1 Z (Y Z h)
  cases h3.symm.trans h4
 refine V 2 Z (C hf Z (fun h5 hf=>?_) fun h5 hf=>?_)
 ·
  refine V 0 Z (AW.cond Z (fun h6=>?_) (fun h6=>?_))
  · cases hf; exact M 1 Z (Y Z h)
  cases h5.symm.trans h6
 refine V 2 Z (C hf Z (fun h7 hf=>?_) fun h7 hf=>?_)
 ·
  refine V 0 Z (AW.cond Z (fun h8=>?_) (fun h8=>?_))
  · cases hf; exact M 1 Z (Y Z h)
  cases h7.symm.trans h8
 refine V 2 Z (C hf Z (fun h9 hf=>?_) fun h9 hf=>?_)
 ·
  refine V 0 Z (AW.cond Z (fun h10=>?_) (fun h10=>?_))
  · cases hf; exact M 1 Z (Y Z h)
  cases h9.symm.trans h10
 refine V 2 Z (C hf Z (fun h11 hf=>?_) fun h11 hf=>?_)
 · cases hf; exact M 1 Z (Y Z h)
 refine V 2 Z (C hf Z (fun h12 hf=>?_) fun h12 hf=>?_)
 ·
  refine V 0 Z (AW.cond Z (fun jJ=>?_) (fun jJ=>?_))
  · cases hf; exact M 1 Z (Y Z h)
  cases h12.symm.trans jJ
 refine V 2 Z (C hf Z (fun j5 hf=>?_) fun j5 hf=>?_)
 ·
  refine V 0 Z (AW.cond Z (fun mo=>?_) (fun mo=>?_))
  · cases hf; exact M 1 Z (Y Z h)
  cases j5.symm.trans mo
 refine V 2 Z (C hf Z (fun h16 hf=>?_) fun h16 hf=>?_)
 ·
  refine V 0 Z (AW.cond Z (fun qB=>?_) (fun qB=>?_))
  · cases hf; exact M 1 Z (Y Z h)
  cases h16.symm.trans qB
 refine V 2 Z (C hf Z (fun h18 hf=>?_) fun h18 hf=>?_)
 ·
  refine V 0 Z (AW.cond Z (fun h19=>?_) (fun h19=>?_))
  · cases hf; exact M 1 Z (Y Z h)
  cases h18.symm.trans h19
 refine V 2 Z (C hf Z (fun h20 hf=>?_) fun h20 hf=>?_)
 ·
  refine V 0 Z (AW.cond Z (fun h21=>?_) (fun h21=>?_))
  · cases hf; exact M 1 Z (Y Z h)
  cases h20.symm.trans h21
 refine V 2 Z (C hf Z (fun h22 hf=>?_) fun h22 hf=>?_)
 · cases hf; exact M 1 Z (Y Z h)
 cases hf; exact M 1 Z (Y Z h)

theorem kM (t1:ak) {r0:Bool} (hf:iI t1=some r0) (h:Q (.ret (.bool r0)) τ):PC 151 [.agg (aW t1)] τ Q:=by
 unfold iI at hf; refine BN 11 [.tmp 2] [0] Tryz.func151 Z Z Z Z Z (W 6 Z (On 4 6 10 [] (t1.kind == 7) Z Z Z Z ?_)); cases hf; exact N 1 Z (Y Z h)

theorem iU (fE:Int) {r0:ak} (hf:gL fE=some r0) (h:Q (.ret (.agg (aW r0))) τ):PC 154 [iP fE] τ Q:=by
 unfold gL at hf; refine BN 5 [.cell 2 54] [0] Tryz.func154 Z Z Z Z Z (W 0 Z (AS Z (AO.aF Z jk (fun b2=>?_)))); refine BR hf fun x1 h1 hf=>?_; refine U 1 Z (CL Z (qQ _ h1 ?_)); cases hf; exact Rx 1 [0] Z Z (ZC [0] Z Z h)


abbrev Ki (pX:ak→ak→Option Bool):Prop:=∀ (z_:ak) (Uf:ak) {aR:Bool},pX z_ Uf=some aR→∀ {τ:List bJ} {Q:eT→List bJ→Prop} (h:Q (.ret (.bool aR)) τ),PC 208 [.agg (aW z_),.agg (aW Uf)] τ Q
theorem RU (pX) (PL:Ki pX) (t1:ak) (u1:ak) {r0:Bool} (hf:oH pX t1 u1=some r0) (h:Q (.ret (.bool r0)) τ):PC 208 [.agg (aW t1),.agg (aW u1)] τ Q:=by
 unfold oH at hf; refine BN 32 [.tmp 4] [0,1] Tryz.func208 Z Z Z Z Z ?_; refine B1 hf fun x1 h1 hf=>W 4 Z (CL Z (kM _ h1 (U 1 Z (On 4 7 11 [2,3] (u1.kind == 0) Z Z Z Z (J 0 Z (C hf Z (fun h3 hf=>?_) fun h3 hf=>?_))))))
 · cases hf; exact M 1 Z (Y Z h)
 refine V 5 Z (C hf Z (fun h4 hf=>?_) fun h4 hf=>?_)
 · cases hf; exact M 1 Z (Y Z h)
 refine V 0 Z (AW.draw 16 mixed (by kernel_rfl) Z ?_); refine Ev.cs aG 2 Z (Ev.cons Z Z Z (AO.aP (l:=t1.elem) Z Z Z Z fZ Z (ak.aB _) zg) (Ev.cs aG 2 Z ?_)); refine BR hf fun b1 h6 hf=>?_; refine Ev.dB hKA 10 21 31 false [] (.bool b1) Z Z (fun h5=>?_) (fun h5=>?_) ?_
 ·
  replace h6:=cZ h5 h6; refine Ev.is uq 21 h5 Z (Ev.cs aG 2 Z ?_); refine B1 h6 fun e1 h7 h6=>Ev.run Z Z Z Z Z Z Z (AO.aI h7 Z Z (ak.aB _) Z fZ (ak.aD _) Z zg) (Ev.cs aG 3 Z ?_); refine B1 h6 fun e2 h8 h6=>Ev.run Z Z Z Z Z Z Z (AO.aI h8 Z Z (ak.aB _) Z fZ (ak.aD _) Z zg) (Ev.cs aG 1 Z ?_); refine BR h6 fun x2 h9 h6=>?_; refine Ev.run Z Z Z Z Z Z Z (AO.call Z _ Z Z MV (PL _ _ h9 zg)) ?_; cases h6
  refine Ev.cs aG 1 Z ?_; exact Ev.nil (Less.settle (ps:=[31]) Z)
 · replace h6:=cO h5 h6; refine Ev.is uq 21 h5 Z ?_; cases h6; refine Ev.cs aG 10 Z ?_; exact Ev.nil (Less.settle (ps:=[31]) Z)
 refine Ev.cs aG 1 Z (Ev.nil ?_); show AR _ _ _ _ _ _ _ _
 cases hf; exact N 0 Z (Y Z h)
theorem Si :∀ k:Nat,(Ki (kG k)):=by
 intro k
 induction k with
 | zero=>exact fun _ _ _ hz=>by first | cases hz | (unfold kG at hz; cases hz)
 | succ k ih=>exact fun z_ Uf aR hz τ Q hq=>RU (kG k) ih z_ Uf hz hq
theorem oO (z_:ak) (Uf:ak) {aR:Bool} (hf:fV z_ Uf=some aR) (h:Q (.ret (.bool aR)) τ):PC 208 [.agg (aW z_),.agg (aW Uf)] τ Q:=
 ((Si BIG)) z_ Uf hf h

theorem jW (t1:ak) (fE:Int) {r0:Bool} (hf:ig t1 fE=some r0) (h:Q (.ret (.bool r0)) τ):PC 155 [.agg (aW t1),iP fE] τ Q:=by
 unfold ig at hf; refine BN 9 [.tmp 4] [0,1] Tryz.func155 Z Z Z Z Z (V 2 Z (AW.draw 5 mixed (by kernel_rfl) Z ?_)); refine Ev.cs aG 2 Z ?_; refine B1 hf fun x1 h1 hf=>Ev.cons Z Z Z (AO.call Z _ Z Z Aj (iU _ h1 zg)) ?_; refine BR hf fun x2 h2 hf=>?_; refine Ev.cons Z Z Z (AO.call Z _ Z Z MV (oO _ _ h2 zg)) (Ev.cs aG 1 Z (Ev.nil ?_)); show AR _ _ _ _ _ _ _ _
 cases hf; exact N 0 Z (Y Z h)

theorem adA (a1:ak) (b1:ak) {r0:ak} {r1:Bool} (hf:JF a1 b1=some (r0,r1)) (h:Q (.ret (.tuple [.agg (aW r0),.bool r1])) τ):PC 152 [.agg (aW a1),.agg (aW b1)] τ Q:=by
 unfold JF at hf; refine BN 37 [.cell 4 54,.tmp 5] [0,1] Tryz.func152 Z Z Z Z Z (W 2 Z (AS Z (AO.aF Z jk (fun b4=>(J 5 Z (C hf Z (fun h1 hf=>?_) fun h1 hf=>?_))))))
 ·
  refine V 0 Z (AW.draw 6 mixed (by kernel_rfl) Z ?_); refine Ev.cs aG 2 Z ?_; refine B1 hf fun e1 h2 hf=>Ev.cons Z Z Z (AO.aI h2 Z Z (ak.aB _) Z fZ (ak.aD _) Z zg) (Ev.cs aG 2 Z ?_); refine B1 hf fun x1 h3 hf=>Ev.cons Z Z Z (AO.call Z _ Z Z pU (jW _ _ h3 zg)) (Ev.nil ?_); show AR _ _ _ _ _ _ _ _
  cases hf; exact Rx 2 [0] Z Z (ZC [0] Z Z h)
 refine V 4 Z (C hf Z (fun h4 hf=>?_) fun h4 hf=>?_)
 ·
  refine V 0 Z (AW.draw 6 mixed (by kernel_rfl) Z ?_); refine Ev.cs aG 2 Z ?_; refine B1 hf fun e2 h5 hf=>Ev.cons Z Z Z (AO.aI h5 Z Z (ak.aB _) Z fZ (ak.aD _) Z zg) (Ev.cs aG 2 Z ?_); refine B1 hf fun x2 h6 hf=>Ev.cons Z Z Z (AO.call Z _ Z Z pU (jW _ _ h6 zg)) (Ev.nil ?_); show AR _ _ _ _ _ _ _ _
  cases hf; exact Rx 2 [0] Z Z (ZC [0] Z Z h)
 refine V 0 Z (AW.Bc 4 11 12 0 mixed (by kernel_rfl) (by kernel_rfl) (by kernel_rfl) Z Z Z Z ?_); refine Ev.cs aG 2 Z ?_; refine B1 hf fun x3 h7 hf=>Ev.cons Z Z Z (AO.call Z _ Z Z GD (kM _ h7 zg)) (Ev.cs aG 1 Z (Ev.nil ?_)); show Ev _ _ _ _ _ _ _
 refine B1 hf fun b2 h9 hf=>Ev.dB UN 7 29 36 true [4,26] (.bool b2) Z Z (fun h8=>?_) (fun h8=>?_) ?_
 ·
  replace h9:=cO h8 h9; refine Ev.is uq 29 h8 Z (Ev.cs aG 1 Z ?_); refine B1 h9 fun x4 h10 h9=>Ev.run Z Z Z Z Z Z Z (AO.call Z _ Z Z pU (jW _ _ h10 zg)) (Ev.cs aG 1 Z ?_); refine BR h9 fun b3 h12 h9=>?_; refine Ev.dB uq 3 32 35 false [4,26,29] (.bool b3) Z Z (fun h11=>?_) (fun h11=>?_) ?_
  · replace h12:=cZ h11 h12; refine Ev.is uq 32 h11 Z (Ev.cs aG 1 Z ?_); refine BR h12 fun x5 jJ h12=>?_; refine Ev.run Z Z Z Z Z Z Z (AO.call Z _ Z Z pU (jW _ _ jJ zg)) ?_; cases h12; refine Ev.cs aG 1 Z ?_; exact Ev.nil (Less.settle (ps:=[35,4,26,29]) Z)
  · replace h12:=cO h11 h12; refine Ev.is uq 32 h11 Z ?_; cases h12; refine Ev.cs aG 3 Z ?_; exact Ev.nil (Less.settle (ps:=[35,4,26,29]) Z)
  cases h9; refine Ev.cs aG 1 Z ?_; exact Ev.nil (Less.settle (ps:=[36,4,26]) Z)
 · replace h9:=cZ h8 h9; refine Ev.is uq 29 h8 Z ?_; cases h9; refine Ev.cs aG 7 Z ?_; exact Ev.nil (Less.settle (ps:=[36,4,26]) Z)
 refine Ev.nil (TF.dh Z Z (AO.dW (i:=0) Z Z Z bI Z Z Z Z Z (TF.nil ?_))); show AR _ _ _ _ _ _ _ _
 cases hf; exact N 1 Z (ZC [0] Z Z h)

theorem EG (fE:Int) {r0:ak} (hf:C9 fE=some r0) (h:Q (.ret (.agg (aW r0))) τ):PC 209 [iP fE] τ Q:=by
 unfold C9 at hf; refine BN 6 [.cell 2 54] [0] Tryz.func209 Z Z Z Z Z (W 0 Z (AS Z (AO.aF Z jk (fun b2=>?_)))); refine B1 hf fun x1 h1 hf=>U 1 Z (CL Z (iU _ h1 ?_)); refine BR hf fun x2 h2 hf=>?_; refine CL Z (uj _ _ h2 ?_); cases hf; exact Rx 1 [0] Z Z (ZC [0] Z Z h)

theorem afo (name1:Str) (l1:List ak) {r0:ak} {r1:Bool} (hf:gY name1 l1=some (r0,r1)) (h:Q (.ret (.tuple [.agg (aW r0),.bool r1])) τ):PC 153 [.str name1,.list (ak.aU l1)] τ Q:=by
 unfold gY at hf; refine BN 150 [.cell 4 54,.tmp 5] [0,1] Tryz.func153 Z Z Z Z Z (W 0 Z (AS Z (AO.aF Z jk (fun b4=>?_)))); refine B1 hf fun x1 h1 hf=>U 1 Z (CL Z (iU _ h1 (AS Z (AO.aF Z jk (fun b6=>(Rw 4 [0] Z Z (C hf Z (fun h2 hf=>?_) fun h2 hf=>?_)))))))
 ·
  refine V 0 Z (AW.Bc 13 19 20 1 mixed (by kernel_rfl) (by kernel_rfl) (by kernel_rfl) Z Z Z Z ?_); refine B1 hf fun x2 h3 hf=>Ev.cons Z Z Z (AO.call Z _ Z Z Aj (iU _ h3 zg)) (Ev.cs aG 1 Z ?_); refine B1 hf fun e1 h4 hf=>Ev.cons Z Z Z (AO.aI h4 Z Z (ak.aB _) Z fZ (ak.aD _) Z zg) (Ev.cs aG 1 Z ?_); refine B1 hf fun x3 h5 hf=>Ev.cons Z Z Z (AO.call Z _ Z Z pU (jW _ _ h5 zg)) (Ev.cs aG 1 Z ?_); refine B1 hf fun b1 h7 hf=>Ev.dB (hKE UN) 6 16 22 false [1,4,11] (.bool b1) Z Z (fun h6=>?_) (fun h6=>?_) ?_
  ·
   replace h7:=cZ h6 h7; refine Ev.is uq 16 h6 Z (Ev.cs aG 1 Z ?_); refine B1 h7 fun e2 h8 h7=>Ev.run Z Z Z Z Z Z Z (AO.aI h8 Z Z (ak.aB _) Z fZ (ak.aD _) Z zg) (Ev.cs aG 1 Z ?_); refine B1 h7 fun x4 h9 h7=>Ev.run Z Z Z Z Z Z Z (AO.call Z _ Z Z VF (EG _ h9 zg)) ?_; refine BR h7 fun x5 h10 h7=>?_; refine Ev.run Z Z Z Z Z Z Z (AO.call Z _ Z Z MV (oO _ _ h10 zg)) ?_; cases h7; refine Ev.cs aG 1 Z ?_
   exact Ev.nil (Less.settle (ps:=[22,1,4,11]) Z)
  · replace h7:=cO h6 h7; refine Ev.is uq 16 h6 Z ?_; cases h7; refine Ev.cs aG 6 Z ?_; exact Ev.nil (Less.settle (ps:=[22,1,4,11]) Z)
  refine Ev.cs aG 1 Z (Ev.nil ?_); show Ev _ _ _ _ _ _ _
  refine B1 hf fun b2 h12 hf=>Ev.dB UN 6 23 29 false [4,11] (.bool b2) Z Z (fun h11=>?_) (fun h11=>?_) ?_
  ·
   replace h12:=cZ h11 h12; refine Ev.is uq 23 h11 Z (Ev.cs aG 1 Z ?_); refine B1 h12 fun e3 jJ h12=>Ev.run Z Z Z Z Z Z Z (AO.aI jJ Z Z (ak.aB _) Z fZ (ak.aD _) Z zg) (Ev.cs aG 1 Z ?_); refine B1 h12 fun x6 j5 h12=>Ev.run Z Z Z Z Z Z Z (AO.call Z _ Z Z VF (EG _ j5 zg)) ?_; refine BR h12 fun x7 mo h12=>?_; refine Ev.run Z Z Z Z Z Z Z (AO.call Z _ Z Z MV (oO _ _ mo zg)) ?_; cases h12; refine Ev.cs aG 1 Z ?_
   exact Ev.nil (Less.settle (ps:=[29,4,11]) Z)
  · replace h12:=cO h11 h12; refine Ev.is uq 23 h11 Z ?_; cases h12; refine Ev.cs aG 6 Z ?_; exact Ev.nil (Less.settle (ps:=[29,4,11]) Z)
  refine Ev.nil (TF.dh Z Z (AO.dW (i:=0) Z Z Z bI Z Z Z Z Z (TF.nil ?_))); show AR _ _ _ _ _ _ _ _
  cases hf; exact N 1 Z (ZC [1] Z Z h)
 refine V 2 Z (C hf Z (fun h16 hf=>?_) fun h16 hf=>?_)
 ·
  refine V 0 Z (AW.Bc 7 25 26 1 mixed (by kernel_rfl) (by kernel_rfl) (by kernel_rfl) Z Z Z Z ?_); refine B1 hf fun x8 qB hf=>Ev.cons Z Z Z (AO.call Z _ Z Z Aj (iU _ qB zg)) (Ev.cs aG 1 Z ?_); refine B1 hf fun e4 h18 hf=>Ev.cons Z Z Z (AO.aI h18 Z Z (ak.aB _) Z fZ (ak.aD _) Z zg) (Ev.cs aG 1 Z ?_); refine B1 hf fun x9 h19 hf=>Ev.cons Z Z Z (AO.call Z _ Z Z VF (EG _ h19 zg)) ?_; refine B1 hf fun wS h20 hf=>Ev.cons Z Z Z (AO.call Z _ Z Z MV (oO _ _ h20 zg)) (Ev.cs aG 1 Z (Ev.nil ?_))
  show Ev _ _ _ _ _ _ _
  refine B1 hf fun b3 h22 hf=>Ev.dB UN 18 38 56 false [4,32] (.bool b3) Z Z (fun h21=>?_) (fun h21=>?_) ?_
  ·
   replace h22:=cZ h21 h22; refine Ev.is uq 38 h21 Z (Ev.cs aG 1 Z ?_); refine B1 h22 fun e5 h23 h22=>Ev.run Z Z Z Z Z Z Z (AO.aI h23 Z Z (ak.aB _) Z fZ (ak.aD _) Z zg) (Ev.cs aG 1 Z ?_); refine B1 h22 fun H8 wT h22=>Ev.run Z Z Z Z Z Z Z (AO.call Z _ Z Z pU (jW _ _ wT zg)) (Ev.cs aG 1 Z ?_); refine BR h22 fun b4 Ic h22=>?_; refine Ev.dB uq 12 43 55 true [4,32,38] (.bool b4) Z Z (fun Cv=>?_) (fun Cv=>?_) ?_
   ·
    replace Ic:=cO Cv Ic; refine Ev.is uq 43 Cv Z (Ev.cs aG 1 Z ?_); refine B1 Ic fun e6 h27 Ic=>Ev.run Z Z Z Z Z Z Z (AO.aI h27 Z Z (ak.aB _) Z fZ (ak.aD _) Z zg) (Ev.cs aG 1 Z ?_); refine B1 Ic fun LQ RQ Ic=>Ev.run Z Z Z Z Z Z Z (AO.call Z _ Z Z pU (jW _ _ RQ zg)) (Ev.cs aG 1 Z ?_); refine BR Ic fun b5 LY Ic=>?_; refine Ev.dB uq 6 48 54 false [4,32,38,43] (.bool b5) Z Z (fun Na=>?_) (fun Na=>?_) ?_
    ·
     replace LY:=cZ Na LY; refine Ev.is uq 48 Na Z (Ev.cs aG 1 Z ?_); refine B1 LY fun e7 h31 LY=>Ev.run Z Z Z Z Z Z Z (AO.aI h31 Z Z (ak.aB _) Z fZ (ak.aD _) Z zg) (Ev.cs aG 1 Z ?_); refine B1 LY fun Mg h32 LY=>Ev.run Z Z Z Z Z Z Z (AO.call Z _ Z Z VF (EG _ h32 zg)) ?_; refine BR LY fun RP Js LY=>?_; refine Ev.run Z Z Z Z Z Z Z (AO.call Z _ Z Z MV (oO _ _ Js zg)) ?_; cases LY; refine Ev.cs aG 1 Z ?_
     exact Ev.nil (Less.settle (ps:=[54,4,32,38,43]) Z)
    · replace LY:=cO Na LY; refine Ev.is uq 48 Na Z ?_; cases LY; refine Ev.cs aG 6 Z ?_; exact Ev.nil (Less.settle (ps:=[54,4,32,38,43]) Z)
    cases Ic; refine Ev.cs aG 1 Z ?_; exact Ev.nil (Less.settle (ps:=[55,4,32,38]) Z)
   · replace Ic:=cZ Cv Ic; refine Ev.is uq 43 Cv Z ?_; cases Ic; refine Ev.cs aG 12 Z ?_; exact Ev.nil (Less.settle (ps:=[55,4,32,38]) Z)
   cases h22; refine Ev.cs aG 1 Z ?_; exact Ev.nil (Less.settle (ps:=[56,4,32]) Z)
  · replace h22:=cO h21 h22; refine Ev.is uq 38 h21 Z ?_; cases h22; refine Ev.cs aG 18 Z ?_; exact Ev.nil (Less.settle (ps:=[56,4,32]) Z)
  refine Ev.nil (TF.dh Z Z (AO.dW (i:=0) Z Z Z bI Z Z Z Z Z (TF.nil ?_))); show AR _ _ _ _ _ _ _ _
  cases hf; exact N 1 Z (ZC [1] Z Z h)
 refine V 2 Z (C hf Z (fun XE hf=>?_) fun XE hf=>?_)
 ·
  refine V 0 Z (AW.Bc 8 13 14 1 mixed (by kernel_rfl) (by kernel_rfl) (by kernel_rfl) Z Z Z Z ?_); refine Ev.cons Z Z Z (AO.aY (i:=0) Z Z Z bI Z Z zg) (Ev.cs aG 1 Z ?_); refine B1 hf fun e8 PK hf=>Ev.cons Z Z Z (AO.aI PK Z Z (ak.aB _) Z fZ (ak.aD _) Z zg) (Ev.cs aG 1 Z (Ev.cons Z Z Z (AO.aY (i:=0) Z Z Z bI Z Z zg) ?_)); refine B1 hf fun RO QZ hf=>Ev.cons Z Z Z (AO.call Z _ Z Z acE (uj _ _ QZ zg)) ?_
  refine B1 hf fun LP h37 hf=>Ev.cons Z Z Z (AO.call Z _ Z Z MV (oO _ _ h37 zg)) (Ev.cs aG 1 Z (Ev.nil ?_)); show Ev _ _ _ _ _ _ _
  refine B1 hf fun b6 OC hf=>Ev.dB UN 5 66 71 true [4,59] (.bool b6) Z Z (fun UO=>?_) (fun UO=>?_) ?_
  · replace OC:=cO UO OC; refine Ev.is uq 66 UO Z (Ev.cs aG 1 Z ?_); refine B1 OC fun e9 h40 OC=>Ev.run Z Z Z Z Z Z Z (AO.aI h40 Z Z (ak.aB _) Z fZ (ak.aD _) Z zg) (Ev.cs aG 1 Z ?_); refine BR OC fun XD h41 OC=>?_; refine Ev.run Z Z Z Z Z Z Z (AO.call Z _ Z Z pU (jW _ _ h41 zg)) ?_; cases OC; refine Ev.cs aG 1 Z ?_; exact Ev.nil (Less.settle (ps:=[71,4,59]) Z)
  · replace OC:=cZ UO OC; refine Ev.is uq 66 UO Z ?_; cases OC; refine Ev.cs aG 5 Z ?_; exact Ev.nil (Less.settle (ps:=[71,4,59]) Z)
  refine Ev.nil (TF.dh Z Z (AO.dW (i:=0) Z Z Z bI Z Z Z Z Z (TF.nil ?_))); show AR _ _ _ _ _ _ _ _
  cases hf; exact N 1 Z (ZC [1] Z Z h)
 refine V 2 Z (C hf Z (fun h42 hf=>?_) fun h42 hf=>?_)
 ·
  refine V 0 Z (AW.Bc 7 12 13 1 mixed (by kernel_rfl) (by kernel_rfl) (by kernel_rfl) Z Z Z Z ?_); refine Ev.cons Z Z Z (AO.aY (i:=0) Z Z Z bI Z Z zg) ?_; refine B1 hf fun y8 h43 hf=>Ev.cons Z Z Z (AO.call Z _ Z Z acE (uj _ _ h43 zg)) (Ev.cs aG 1 Z ?_); refine B1 hf fun e10 h44 hf=>Ev.cons Z Z Z (AO.aI h44 Z Z (ak.aB _) Z fZ (ak.aD _) Z zg) (Ev.cs aG 1 Z ?_); refine B1 hf fun y9 h45 hf=>Ev.cons Z Z Z (AO.call Z _ Z Z pU (jW _ _ h45 zg)) (Ev.cs aG 1 Z (Ev.nil ?_))
  show Ev _ _ _ _ _ _ _
  refine B1 hf fun b7 h47 hf=>Ev.dB UN 5 80 85 true [4,75] (.bool b7) Z Z (fun h46=>?_) (fun h46=>?_) ?_
  · replace h47:=cO h46 h47; refine Ev.is uq 80 h46 Z (Ev.cs aG 1 Z ?_); refine B1 h47 fun e11 h48 h47=>Ev.run Z Z Z Z Z Z Z (AO.aI h48 Z Z (ak.aB _) Z fZ (ak.aD _) Z zg) (Ev.cs aG 1 Z ?_); refine BR h47 fun x20 h49 h47=>?_; refine Ev.run Z Z Z Z Z Z Z (AO.call Z _ Z Z pU (jW _ _ h49 zg)) ?_; cases h47; refine Ev.cs aG 1 Z ?_; exact Ev.nil (Less.settle (ps:=[85,4,75]) Z)
  · replace h47:=cZ h46 h47; refine Ev.is uq 80 h46 Z ?_; cases h47; refine Ev.cs aG 5 Z ?_; exact Ev.nil (Less.settle (ps:=[85,4,75]) Z)
  refine Ev.nil (TF.dh Z Z (AO.dW (i:=0) Z Z Z bI Z Z Z Z Z (TF.nil ?_))); show AR _ _ _ _ _ _ _ _
  cases hf; exact N 1 Z (ZC [1] Z Z h)
 refine V 2 Z (C hf Z (fun h50 hf=>?_) fun h50 hf=>?_)
 ·
  refine V 0 Z (AW.cond Z (fun h51=>?_) (fun h51=>?_))
  ·
   refine V 0 Z (AW.draw 5 mixed (by kernel_rfl) Z ?_); refine Ev.cons Z Z Z (AO.aY (i:=0) Z Z Z bI Z Z zg) (Ev.cs aG 1 Z ?_); refine B1 hf fun e12 h52 hf=>Ev.cons Z Z Z (AO.aI h52 Z Z (ak.aB _) Z fZ (ak.aD _) Z zg) (Ev.cs aG 1 Z ?_); refine B1 hf fun x21 Sr hf=>Ev.cons Z Z Z (AO.call Z _ Z Z pU (jW _ _ Sr zg)) (Ev.nil ?_); show AR _ _ _ _ _ _ _ _
   cases hf; exact Rx 2 [1] Z Z (ZC [1] Z Z h)
  cases h50.symm.trans h51
 refine V 2 Z (C hf Z (fun h54 hf=>?_) fun h54 hf=>?_)
 ·
  refine V 0 Z (AW.draw 5 mixed (by kernel_rfl) Z ?_); refine Ev.cons Z Z Z (AO.aY (i:=0) Z Z Z bI Z Z zg) (Ev.cs aG 1 Z ?_); refine B1 hf fun e13 h55 hf=>Ev.cons Z Z Z (AO.aI h55 Z Z (ak.aB _) Z fZ (ak.aD _) Z zg) (Ev.cs aG 1 Z ?_); refine B1 hf fun x22 h56 hf=>Ev.cons Z Z Z (AO.call Z _ Z Z pU (jW _ _ h56 zg)) (Ev.nil ?_); show AR _ _ _ _ _ _ _ _
  cases hf; exact Rx 2 [1] Z Z (ZC [1] Z Z h)
 refine V 2 Z (C hf Z (fun h57 hf=>?_) fun h57 hf=>?_)
 ·
  refine V 0 Z (AW.cond Z (fun h58=>?_) (fun h58=>?_))
  ·
   refine V 0 Z (AW.Bc 6 11 12 1 mixed (by kernel_rfl) (by kernel_rfl) (by kernel_rfl) Z Z Z Z ?_); refine B1 hf fun x23 h59 hf=>Ev.cons Z Z Z (AO.call Z _ Z Z Aj (iU _ h59 zg)) (Ev.cs aG 1 Z ?_); refine B1 hf fun e14 h60 hf=>Ev.cons Z Z Z (AO.aI h60 Z Z (ak.aB _) Z fZ (ak.aD _) Z zg) (Ev.cs aG 1 Z ?_); refine B1 hf fun x24 h61 hf=>Ev.cons Z Z Z (AO.call Z _ Z Z pU (jW _ _ h61 zg)) (Ev.cs aG 1 Z (Ev.nil ?_)); show Ev _ _ _ _ _ _ _
   refine B1 hf fun b8 h63 hf=>Ev.dB UN 5 102 107 true [4,97] (.bool b8) Z Z (fun CU=>?_) (fun CU=>?_) ?_
   · replace h63:=cO CU h63; refine Ev.is uq 102 CU Z (Ev.cs aG 1 Z ?_); refine B1 h63 fun e15 h64 h63=>Ev.run Z Z Z Z Z Z Z (AO.aI h64 Z Z (ak.aB _) Z fZ (ak.aD _) Z zg) (Ev.cs aG 1 Z ?_); refine BR h63 fun x25 h65 h63=>?_; refine Ev.run Z Z Z Z Z Z Z (AO.call Z _ Z Z pU (jW _ _ h65 zg)) ?_; cases h63; refine Ev.cs aG 1 Z ?_; exact Ev.nil (Less.settle (ps:=[107,4,97]) Z)
   · replace h63:=cZ CU h63; refine Ev.is uq 102 CU Z ?_; cases h63; refine Ev.cs aG 5 Z ?_; exact Ev.nil (Less.settle (ps:=[107,4,97]) Z)
   refine Ev.nil (TF.dh Z Z (AO.dW (i:=0) Z Z Z bI Z Z Z Z Z (TF.nil ?_))); show AR _ _ _ _ _ _ _ _
   cases hf; exact N 1 Z (ZC [1] Z Z h)
  cases h57.symm.trans h58
 refine V 2 Z (C hf Z (fun h66 hf=>?_) fun h66 hf=>?_)
 ·
  refine V 0 Z (AW.Bc 6 11 12 1 mixed (by kernel_rfl) (by kernel_rfl) (by kernel_rfl) Z Z Z Z ?_); refine B1 hf fun x26 h67 hf=>Ev.cons Z Z Z (AO.call Z _ Z Z Aj (iU _ h67 zg)) (Ev.cs aG 1 Z ?_); refine B1 hf fun e16 h68 hf=>Ev.cons Z Z Z (AO.aI h68 Z Z (ak.aB _) Z fZ (ak.aD _) Z zg) (Ev.cs aG 1 Z ?_); refine B1 hf fun x27 h69 hf=>Ev.cons Z Z Z (AO.call Z _ Z Z pU (jW _ _ h69 zg)) (Ev.cs aG 1 Z (Ev.nil ?_)); show Ev _ _ _ _ _ _ _
  refine B1 hf fun b9 h71 hf=>Ev.dB UN 5 102 107 true [4,97] (.bool b9) Z Z (fun h70=>?_) (fun h70=>?_) ?_
  · replace h71:=cO h70 h71; refine Ev.is uq 102 h70 Z (Ev.cs aG 1 Z ?_); refine B1 h71 fun e17 h72 h71=>Ev.run Z Z Z Z Z Z Z (AO.aI h72 Z Z (ak.aB _) Z fZ (ak.aD _) Z zg) (Ev.cs aG 1 Z ?_); refine BR h71 fun x28 h73 h71=>?_; refine Ev.run Z Z Z Z Z Z Z (AO.call Z _ Z Z pU (jW _ _ h73 zg)) ?_; cases h71; refine Ev.cs aG 1 Z ?_; exact Ev.nil (Less.settle (ps:=[107,4,97]) Z)
  · replace h71:=cZ h70 h71; refine Ev.is uq 102 h70 Z ?_; cases h71; refine Ev.cs aG 5 Z ?_; exact Ev.nil (Less.settle (ps:=[107,4,97]) Z)
  refine Ev.nil (TF.dh Z Z (AO.dW (i:=0) Z Z Z bI Z Z Z Z Z (TF.nil ?_))); show AR _ _ _ _ _ _ _ _
  cases hf; exact N 1 Z (ZC [1] Z Z h)
 refine V 2 Z (C hf Z (fun h74 hf=>?_) fun h74 hf=>?_)
 ·
  refine V 0 Z (AW.Bc 7 13 14 1 mixed (by kernel_rfl) (by kernel_rfl) (by kernel_rfl) Z Z Z Z ?_); refine Ev.cons Z Z Z (AO.aY (i:=0) Z Z Z bI Z Z zg) (Ev.cs aG 1 Z ?_); refine B1 hf fun e18 h75 hf=>Ev.cons Z Z Z (AO.aI h75 Z Z (ak.aB _) Z fZ (ak.aD _) Z zg) (Ev.cs aG 4 Z (Ev.nil ?_)); show Ev _ _ _ _ _ _ _
  refine B1 hf fun b10 h77 hf=>Ev.dB UN 6 116 122 true [4,110] (.bool b10) Z Z (fun h76=>?_) (fun h76=>?_) ?_
  · replace h77:=cO h76 h77; refine Ev.is uq 116 h76 Z (Ev.cs aG 1 Z ?_); refine B1 h77 fun e19 h78 h77=>Ev.run Z Z Z Z Z Z Z (AO.aI h78 Z Z (ak.aB _) Z fZ (ak.aD _) Z zg) (Ev.cs aG 3 Z ?_); cases h77; refine Ev.cs aG 1 Z ?_; exact Ev.nil (Less.settle (ps:=[122,4,110]) Z)
  · replace h77:=cZ h76 h77; refine Ev.is uq 116 h76 Z ?_; cases h77; refine Ev.cs aG 6 Z ?_; exact Ev.nil (Less.settle (ps:=[122,4,110]) Z)
  refine Ev.nil (TF.dh Z Z (AO.dW (i:=0) Z Z Z bI Z Z Z Z Z (TF.nil ?_))); show AR _ _ _ _ _ _ _ _
  cases hf; exact N 1 Z (ZC [1] Z Z h)
 refine V 2 Z (C hf Z (fun h79 hf=>?_) fun h79 hf=>?_)
 ·
  refine V 0 Z (AW.draw 5 mixed (by kernel_rfl) Z ?_); refine B1 hf fun x29 h80 hf=>Ev.cons Z Z Z (AO.call Z _ Z Z Aj (iU _ h80 zg)) (Ev.cs aG 1 Z ?_); refine B1 hf fun e20 h81 hf=>Ev.cons Z Z Z (AO.aI h81 Z Z (ak.aB _) Z fZ (ak.aD _) Z zg) (Ev.cs aG 1 Z ?_); refine B1 hf fun x30 h82 hf=>Ev.cons Z Z Z (AO.call Z _ Z Z pU (jW _ _ h82 zg)) (Ev.nil ?_); show AR _ _ _ _ _ _ _ _
  cases hf; exact Rx 2 [1] Z Z (ZC [1] Z Z h)
 refine V 2 Z (C hf Z (fun h83 hf=>?_) fun h83 hf=>?_)
 ·
  refine V 0 Z (AW.draw 7 mixed (by kernel_rfl) Z ?_); refine Ev.cons Z Z Z (AO.aY (i:=0) Z Z Z bI Z Z zg) ?_; refine B1 hf fun x31 h84 hf=>Ev.cons Z Z Z (AO.call Z _ Z Z acE (uj _ _ h84 zg)) (Ev.cs aG 1 Z ?_); refine B1 hf fun e21 h85 hf=>Ev.cons Z Z Z (AO.aI h85 Z Z (ak.aB _) Z fZ (ak.aD _) Z zg) (Ev.cs aG 1 Z ?_); refine B1 hf fun x32 h86 hf=>Ev.cons Z Z Z (AO.call Z _ Z Z VF (EG _ h86 zg)) ?_
  refine B1 hf fun x33 h87 hf=>Ev.cons Z Z Z (AO.call Z _ Z Z MV (oO _ _ h87 zg)) (Ev.nil ?_); show AR _ _ _ _ _ _ _ _
  cases hf; exact Rx 2 [1] Z Z (ZC [1] Z Z h)
 refine B1 hf fun e22 h88 hf=>W 1 Z (AS Z (AO.aI h88 Z Z (ak.aB _) Z fZ (ak.aD _) Z (J 3 Z (C hf Z (fun h89 hf=>?_) fun h89 hf=>?_))))
 · refine B1 hf fun e23 h90 hf=>W 1 Z (AS Z (AO.aI h90 Z Z (ak.aB _) Z fZ (ak.aD _) Z ?_)); cases hf; exact Rx 3 [1] Z Z (ZC [1] Z Z h)
 refine B1 hf fun e24 h91 hf=>W 1 Z (AS Z (AO.aI h91 Z Z (ak.aB _) Z fZ (ak.aD _) Z ?_)); cases hf; exact Rx 3 [1] Z Z (ZC [1] Z Z h)

theorem Cr (a1:ak) (b1:ak) {r0:Int} (hf:rD a1 b1=some r0) (h:Q (.ret (iP r0)) τ):PC 210 [.agg (aW a1),.agg (aW b1)] τ Q:=by
 unfold rD at hf; refine BN 20 [.tmp 4] [0,1] Tryz.func210 Z Z Z Z Z ?_; refine B1 hf fun x1 h1 hf=>W 4 Z (CL Z (kM _ h1 (J 0 Z (C hf Z (fun h2 hf=>?_) fun h2 hf=>?_))))
 · cases hf; exact M 3 Z (Y Z h)
 refine B1 hf fun x2 h3 hf=>W 1 Z (CL Z (kM _ h3 (U 1 Z (On 6 11 17 [2] (a1.kind == b1.kind) Z Z Z Z (J 0 Z (C hf Z (fun h5 hf=>?_) fun h5 hf=>?_))))))
 · cases hf; exact M 3 Z (Y Z h)
 cases hf; exact M 1 Z (Y Z h)

theorem O1 (t1:ak) {r0:ak} (hf:AJ t1=some r0) (h:Q (.ret (.agg (aW r0))) τ):PC 256 [.agg (aW t1)] τ Q:=by
 unfold AJ at hf; refine BN 10 [.cell 2 54] [0] Tryz.func256 Z Z Z Z Z (W 1 Z (AS Z (AO.aF Z jk (fun b2=>?_)))); refine B1 hf fun x1 h1 hf=>U 1 Z (CL Z (kM _ h1 (J 0 Z (C hf Z (fun h2 hf=>?_) fun h2 hf=>?_))))
 · cases hf; exact Wx 2 [0] Z Z (ZC [0] Z Z h)
 refine BR hf fun e1 h3 hf=>?_; refine W 2 Z (AS Z (AO.aI h3 Z Z (ak.aB _) Z fZ (ak.aD _) Z ?_)); cases hf; exact Rx 2 [0] Z Z (ZC [0] Z Z h)


end Go.Proofs.YtggpjlegajicnaaGreatDoor
