/- Proved here: each function does what its functional text says (part 12). -/
import Derived.Test.YtggpjlegajicnaaGreatDoorCoWalk3
import Derived.Test.YtggpjlegajicnaaGreatDoorCoWalk4
import Derived.Test.YtggpjlegajicnaaGreatDoorCoWalk5
import Derived.Test.YtggpjlegajicnaaGreatDoorCoWalk6
import Derived.Test.YtggpjlegajicnaaGreatDoorCoWalk7
import Derived.Test.YtggpjlegajicnaaGreatDoorCoWalk9
import Derived.Test.YtggpjlegajicnaaGreatDoorCoPre1
import Derived.Test.YtggpjlegajicnaaGreatDoorCoPre2
import Derived.Test.YtggpjlegajicnaaGreatDoorCoPre3
import Derived.Test.YtggpjlegajicnaaGreatDoorCoFt1
import Derived.Test.YtggpjlegajicnaaGreatDoorCoFt2
import Derived.Test.YtggpjlegajicnaaGreatDoorCoFt3
import Derived.Test.YtggpjlegajicnaaGreatDoorCoFt4
import Derived.Test.YtggpjlegajicnaaGreatDoorCoFt5
import Derived.Test.YtggpjlegajicnaaGreatDoorCoFt6
import Derived.Test.YtggpjlegajicnaaGreatDoorCoFt10
import Derived.Test.YtggpjlegajicnaaGreatDoorProg
import Derived.KernelRfl
set_option linter.unusedVariables false
set_option linter.unusedSimpArgs false
set_option linter.unusedSectionVars false
namespace Go.Proofs.YtggpjlegajicnaaGreatDoor
open Go Go.Abs Go.Ft
set_option maxRecDepth 20000
attribute [local irreducible] AO AR AW AC
variable [gX]
variable {τ : List bJ} {Q : eT → List bJ → Prop}
theorem zm (s1:Str) {r0:ah} (hf:qE s1=some r0) (h:Q (.ret (.agg (aK r0))) τ):PC 131 [.str s1] τ Q:=by
 unfold qE at hf; refine BN 5 [.cell 2 31] [0] Tryz.func131 Z Z Z Z Z (W 0 Z (AS Z (AO.aF Z gq (fun b2=>?_)))); cases hf; exact Rx 3 [0] Z Z (ZC [0] Z Z h)

theorem SK (v1:ah) (key1:Str) {r0:ah} {r1:Bool} (hf:Kv v1 key1=some (r0,r1)) (h:Q (.ret (.tuple [.agg (aK r0),.bool r1])) τ):PC 190 [.agg (aK v1),.str key1] τ Q:=by
 unfold Kv at hf; refine BN 37 [.cell 4 31,.tmp 5] [0,1] Tryz.func190 Z Z Z Z Z (W 1 Z (AS Z (AO.aF Z gq (fun b4=>(J 4 Z (C hf Z (fun h1 hf=>?_) fun h1 hf=>?_))))))
 · cases hf; exact Wx 3 [0] Z Z (ZC [0] Z Z h)
 refine V 1 Z (Gh (fun i1=>[(1,.str key1),(2,.ref (aK v1)),(4,pP b4),(6,iP i1)]) (fun i1=>[.box b4 [iP 0,.bool false,iP 0,.str ([]:Str),.own (.slice none 0 0) [],.own (.slice none 0 0) []]]) (fun bT i1=>Dh v1 key1 bT i1=some (r0,r1)) BIG 0 Z Z hf (fun _ hz=>bQ hz) ?_); intro bT i1 hf; rw [Dh] at hf; refine W 3 Z (AS Z (AO.aP (l:=v1.keys) Z Z Z Z f_ Z Z (J 1 Z (C hf Z (fun h2 hf=>?_) fun h2 hf=>?_))))
 ·
  refine B1 hf fun e1 h3 hf=>W 3 Z (AS Z (AO.aI h3 Z Z Z Z f_ Z Z (J 3 Z (C hf Z (fun h4 hf=>?_) fun h4 hf=>?_))))
  ·
   refine W 3 Z (AS Z (AO.aP (l:=v1.aO) Z Z Z Z dX Z (ah.aB _) (J 1 Z (C hf Z (fun h5 hf=>?_) fun h5 hf=>?_))))
   · cases hf; exact Wx 3 [0] Z Z (ZC [0] Z Z h)
   refine B1 hf fun e2 h6 hf=>W 3 Z (AS Z (AO.aI h6 Z Z (ah.aB _) Z dX (ah.aD _) Z ?_)); cases hf; exact Rx 3 [0] Z Z (ZC [0] Z Z h)
  exact M 3 Z ⟨(bZ (i1 + 1)),Z,Z,Z,hf⟩
 cases hf; exact Wx 3 [0] Z Z (ZC [0] Z Z h)

theorem TI (a1:ah) (b1:ah) {r0:ah} {r1:Int} (hf:F4 a1 b1=some (r0,r1)) (h:Q (.ret (.tuple [.agg (aK r0),iP r1])) τ):PC 130 [.agg (aK a1),.agg (aK b1)] τ Q:=by
 unfold F4 at hf; refine BN 54 [.cell 4 31,.tmp 5] [0,1] Tryz.func130 Z Z Z Z Z (W 2 Z (AS Z (AO.aF Z gq (fun b4=>(U 5 Z (An 4 11 15 [2,3,4] (b1.kind == 2) Z Z Z Z (J 0 Z (C hf Z (fun h2 hf=>?_) fun h2 hf=>?_))))))))
 ·
  refine W 4 Z (AR.or 7 19 26 [2,3,4] (x:=(decide ((a1.aO.length:Int)≤b1.dI))) Z Z (fun h3=>?_) (fun h3=>?_) ?_)
  · refine Is 19 h3 Z (U 4 Z (GO Z (AO.aP (l:=a1.aO) Z Z Z Z dX Z (ah.aB _) ?_))); exact eG 2 Z (En [26,2,3,4] Z)
  · refine Is 19 h3 Z ?_; exact eG 7 Z (En [26,2,3,4] Z)
  refine J 0 Z (C hf Z (fun h4 hf=>?_) fun h4 hf=>?_)
  · cases hf; exact Wx 3 [0] Z Z (ZC [0] Z Z h)
  refine B1 hf fun e1 h5 hf=>W 4 Z (AS Z (AO.aI h5 Z Z (ah.aB _) Z dX (ah.aD _) Z ?_)); cases hf; exact Rx 3 [0] Z Z (ZC [0] Z Z h)
 refine W 4 Z (On 4 37 41 [2,3,4] (b1.kind != 3) Z Z Z Z (J 0 Z (C hf Z (fun h7 hf=>?_) fun h7 hf=>?_)))
 · cases hf; exact Wx 3 [0] Z Z (ZC [0] Z Z h)
 obtain ⟨x1,ok1,h8,hf⟩:=aV hf; refine W 3 Z (CL Z (SK _ _ h8 (U 3 Z (AS Z (AO.aF Z gq (fun b6=>(Rw 4 [0] Z Z (C hf Z (fun h9 hf=>?_) fun h9 hf=>?_))))))))
 · cases hf; exact Wx 3 [1] Z Z (ZC [1] Z Z h)
 cases hf; exact Wx 3 [0,1] Z Z (ZC [1] Z Z h)


abbrev Pb (rJ:Int→Option Str):Prop:=∀ (Ug:Int) {aR:Str},rJ Ug=some aR→∀ {τ:List bJ} {Q:eT→List bJ→Prop} (h:Q (.ret (.str aR)) τ),PC 285 [iP Ug] τ Q
theorem XO (rJ) (Ls:Pb rJ) (n1:Int) {r0:Str} (hf:wm rJ n1=some r0) (h:Q (.ret (.str r0)) τ):PC 285 [iP n1] τ Q:=by
 unfold wm at hf; refine BN 40 [.tmp 2] [0] Tryz.func285 Z Z Z Z Z (V 3 Z (C hf Z (fun h1 hf=>?_) fun h1 hf=>?_))
 ·
  refine V 2 Z (C hf Z (fun h2 hf=>?_) fun h2 hf=>?_)
  · refine W 2 Z (AS Z (AO.Hq Z Ib CP Z (AS Z (AO.aS (List.map ny ([(Ft.byteOf (bZ (48 - n1)))]:List UInt8)) Z vB Z Z Z Z (AS Z (AO.ru Z CQ CP dM Z Z ?_)))))); refine BR hf fun x1 h3 hf=>?_; refine AS Z (AO.zF h3 Z Z Z ?_); cases hf; exact N 1 Z (Y Z h)
  refine V 0 Z (AW.draw 11 mixed (by kernel_rfl) Z ?_); refine Ev.cs aG 1 Z (Ev.cons Z Z Z (AO.quo Z Z Z (by decide) zg) ?_); refine B1 hf fun x2 h4 hf=>Ev.cons Z Z Z (AO.call Z _ Z Z ai9 (Ls _ h4 zg)) (Ev.cs aG 1 Z (Ev.cons Z Z Z (AO.rem Z Z Z (by decide) zg) ?_))
  refine Ev.cs aG 1 Z (Ev.cons Z Z Z (AO.Hq Z Ib CP Z zg) (Ev.cons Z Z Z (AO.aS (List.map ny ([(Ft.byteOf (bZ (48 - ((n1:Int).tmod 10))))]:List UInt8)) Z vB Z Z Z Z zg) (Ev.cons Z Z Z (AO.ru Z CQ CP dM Z Z zg) ?_))); refine BR hf fun x3 h5 hf=>?_; refine Ev.cons Z Z Z (AO.zF h5 Z Z Z zg) (Ev.cs aG 1 Z (Ev.nil ?_)); show AR _ _ _ _ _ _ _ _
  cases hf; exact N 0 Z (Y Z h)
 refine V 2 Z (C hf Z (fun h6 hf=>?_) fun h6 hf=>?_)
 · refine W 2 Z (AS Z (AO.Hq Z Ib CP Z (AS Z (AO.aS (List.map ny ([(Ft.byteOf (bZ (48 + n1)))]:List UInt8)) Z vB Z Z Z Z (AS Z (AO.ru Z CQ CP dM Z Z ?_)))))); cases hf; exact N 1 Z (Y Z h)
 refine V 0 Z (AW.draw 11 mixed (by kernel_rfl) Z ?_); refine Ev.cs aG 1 Z (Ev.cons Z Z Z (AO.quo Z Z Z (by decide) zg) ?_); refine B1 hf fun x4 h7 hf=>Ev.cons Z Z Z (AO.call Z _ Z Z ai9 (Ls _ h7 zg)) (Ev.cs aG 1 Z (Ev.cons Z Z Z (AO.rem Z Z Z (by decide) zg) ?_))
 refine Ev.cs aG 1 Z (Ev.cons Z Z Z (AO.Hq Z Ib CP Z zg) (Ev.cons Z Z Z (AO.aS (List.map ny ([(Ft.byteOf (bZ (48 + ((n1:Int).tmod 10))))]:List UInt8)) Z vB Z Z Z Z zg) (Ev.cons Z Z Z (AO.ru Z CQ CP dM Z Z zg) ?_))); refine BR hf fun x5 h8 hf=>?_; refine Ev.cons Z Z Z (AO.zF h8 Z Z Z zg) (Ev.cs aG 1 Z (Ev.nil ?_)); show AR _ _ _ _ _ _ _ _
 cases hf; exact N 0 Z (Y Z h)
theorem XZ :∀ k:Nat,(Pb (lM k)):=by
 intro k
 induction k with
 | zero=>exact fun _ _ hz=>by first | cases hz | (unfold lM at hz; cases hz)
 | succ k ih=>exact fun Ug aR hz τ Q hq=>XO (lM k) ih Ug hz hq
theorem Yn (Ug:Int) {aR:Str} (hf:IC Ug=some aR) (h:Q (.ret (.str aR)) τ):PC 285 [iP Ug] τ Q:=
 ((XZ BIG)) Ug hf h

theorem Uv (c1:UInt8) {r0:Str} (hf:Jf c1=some r0) (h:Q (.ret (.str r0)) τ):PC 322 [.int .u8 (c1.toNat:Int)] τ Q:=by
 unfold Jf at hf; refine BN 44 [.tmp 2] [0] Tryz.func322 Z Z Z Z Z (V 4 Z (C hf Z (fun h1 hf=>?_) fun h1 hf=>?_))
 · refine W 0 Z (AS Z (AO.aS (List.map ny ([92,34]:List UInt8)) Z vB Z Z Z Z (AS Z (AO.ru Z CQ CP dM Z Z ?_)))); cases hf; exact N 1 Z (Y Z h)
 refine V 3 Z (C hf Z (fun h2 hf=>?_) fun h2 hf=>?_)
 · refine W 0 Z (AS Z (AO.aS (List.map ny ([92,92]:List UInt8)) Z vB Z Z Z Z (AS Z (AO.ru Z CQ CP dM Z Z ?_)))); cases hf; exact N 1 Z (Y Z h)
 refine V 3 Z (C hf Z (fun h3 hf=>?_) fun h3 hf=>?_)
 · refine W 0 Z (AS Z (AO.aS (List.map ny ([92,110]:List UInt8)) Z vB Z Z Z Z (AS Z (AO.ru Z CQ CP dM Z Z ?_)))); cases hf; exact N 1 Z (Y Z h)
 refine V 3 Z (C hf Z (fun h4 hf=>?_) fun h4 hf=>?_)
 · refine W 0 Z (AS Z (AO.aS (List.map ny ([92,116]:List UInt8)) Z vB Z Z Z Z (AS Z (AO.ru Z CQ CP dM Z Z ?_)))); cases hf; exact N 1 Z (Y Z h)
 refine W 3 Z (An 3 27 30 [0] (decide ((c1.toNat:Int)≤126)) Z Z Z Z (J 1 Z (C hf Z (fun h6 hf=>?_) fun h6 hf=>?_)))
 · refine W 1 Z (AS Z (AO.aS (List.map ny ([c1]:List UInt8)) Z vB Z Z Z Z (AS Z (AO.ru Z CQ CP dM Z Z ?_)))); cases hf; exact N 1 Z (Y Z h)
 refine V 1 Z (AW.draw 11 mixed (by kernel_rfl) Z ?_); refine Ev.cs aG 2 Z (Ev.cons Z Z Z (AO.u8_quo c1 16 Z Z Z Z Z (by decide) zg) ?_); refine B1 hf fun x1 h7 hf=>Ev.cons Z Z Z (AO.gy h7 Z dM Z Z zg) (Ev.cs aG 2 Z (Ev.cons Z Z Z (AO.aiv c1 16 Z Z Z Z Z (by decide) zg) ?_)); refine B1 hf fun x2 h8 hf=>Ev.cons Z Z Z (AO.gy h8 Z dM Z Z zg) (Ev.cons Z Z Z (AO.aS (List.map ny ([92,120,x1,x2]:List UInt8)) Z vB Z Z Z Z zg) (Ev.cons Z Z Z (AO.ru Z CQ CP dM Z Z zg) (Ev.cs aG 1 Z ?_)))
 refine Ev.nil ?_; show AR _ _ _ _ _ _ _ _
 cases hf; exact N 0 Z (Y Z h)

theorem Nz (s1:Str) {r0:Str} (hf:JN s1=some r0) (h:Q (.ret (.str r0)) τ):PC 286 [.str s1] τ Q:=by
 unfold JN at hf; refine BN 23 [.tmp 2] [0] Tryz.func286 Z Z Z Z Z (W 1 Z (AS Z (AO.aS (List.map ny ([34]:List UInt8)) Z vB Z Z Z Z (AS Z (AO.ru Z CQ CP dM Z Z (J 2 Z (Xy (fun bH i1=>[(0,.str s1),(3,.str bH),(4,iP i1)]) (fun bH i1=>[]) (fun bT bH i1=>Fj s1 bT bH i1=some r0) BIG ([34]:List UInt8) 0 Z Z hf (fun _ _ hz=>bQ hz) ?_))))))); intro bT bH i1 hf; rw [Fj] at hf
 refine W 2 Z (AS Z (AO.b_ Z Z Z Z dM Z (J 1 Z (C hf Z (fun h1 hf=>?_) fun h1 hf=>?_))))
 · refine B1 hf fun x1 h2 hf=>W 3 Z (AS Z (AO.gy h2 Z dM Z Z ?_)); refine B1 hf fun x2 h3 hf=>CL Z (Uv _ h3 ?_); refine B1 hf fun yS h4 hf=>AS Z (AO.zF h4 Z Z Z ?_); exact N 4 Z ⟨yS,(bZ (i1 + 1)),Z,Z,Z,hf⟩
 refine W 1 Z (AS Z (AO.aS (List.map ny ([34]:List UInt8)) Z vB Z Z Z Z (AS Z (AO.ru Z CQ CP dM Z Z ?_)))); refine BR hf fun x3 h5 hf=>?_; refine AS Z (AO.zF h5 Z Z Z ?_); cases hf; exact N 1 Z (Y Z h)


abbrev O_ (iH:ah→Option Str):Prop:=∀ (qg:ah) {aR:Str},iH qg=some aR→∀ {τ:List bJ} {Q:eT→List bJ→Prop} (h:Q (.ret (.str aR)) τ),PC 249 [.agg (aK qg)] τ Q
theorem XM (iH) (Ad:O_ iH) (v1:ah) {r0:Str} (hf:DK iH v1=some r0) (h:Q (.ret (.str r0)) τ):PC 249 [.agg (aK v1)] τ Q:=by
 unfold DK at hf; refine BN 63 [.tmp 2] [0] Tryz.func249 Z Z Z Z Z (V 6 Z (C hf Z (fun h1 hf=>?_) fun h1 hf=>?_))
 · cases hf; exact M 1 Z (Y Z h)
 refine V 2 Z (C hf Z (fun h2 hf=>?_) fun h2 hf=>?_)
 ·
  refine V 2 Z (C hf Z (fun h3 hf=>?_) fun h3 hf=>?_)
  · cases hf; exact M 1 Z (Y Z h)
  cases hf; exact M 1 Z (Y Z h)
 refine V 2 Z (C hf Z (fun h4 hf=>?_) fun h4 hf=>?_)
 · refine BR hf fun x1 h5 hf=>?_; refine W 2 Z (CL Z (Yn _ h5 ?_)); cases hf; exact N 1 Z (Y Z h)
 refine V 2 Z (C hf Z (fun h6 hf=>?_) fun h6 hf=>?_)
 · refine BR hf fun x2 h7 hf=>?_; refine W 2 Z (CL Z (Nz _ h7 ?_)); cases hf; exact N 1 Z (Y Z h)
 refine V 2 Z (Xy (fun s1 i1=>[(1,.ref (aK v1)),(3,.str s1),(4,iP i1)]) (fun s1 i1=>[]) (fun bT s1 i1=>rF iH v1 bT s1 i1=some r0) BIG ([]:Str) 0 Z Z hf (fun _ _ hz=>bQ hz) ?_); intro bT s1 i1 hf; rw [rF] at hf; refine W 3 Z (AS Z (AO.aP (l:=v1.aO) Z Z Z Z dX Z (ah.aB _) (J 1 Z (C hf Z (fun h8 hf=>?_) fun h8 hf=>?_))))
 ·
  refine V 2 Z (C hf Z (fun h9 hf=>?_) fun h9 hf=>?_)
  ·
   refine B1 hf fun s2 h10 hf=>W 1 Z (AS Z (AO.zF h10 Z Z Z (J 4 Z (C hf Z (fun h11 hf=>?_) fun h11 hf=>?_))))
   ·
    refine B1 hf fun e1 h12 hf=>W 4 Z (AS Z (AO.aI h12 Z Z Z Z f_ Z Z ?_)); refine B1 hf fun x3 jJ hf=>U 1 Z (CL Z (Nz _ jJ ?_)); refine B1 hf fun x4 j5 hf=>AS Z (AO.zF j5 Z Z Z ?_); refine B1 hf fun s3 mo hf=>AS Z (AO.zF mo Z Z Z ?_); refine B1 hf fun e2 h16 hf=>U 5 Z (AS Z (AO.aI h16 Z Z (ah.aB _) Z dX (ah.aD _) Z ?_)); refine B1 hf fun x5 qB hf=>U 1 Z (CL Z (Ad _ qB ?_)); refine B1 hf fun s4 h18 hf=>AS Z (AO.zF h18 Z Z Z ?_)
    exact N 4 Z ⟨s4,(bZ (i1 + 1)),Z,Z,Z,hf⟩
   refine B1 hf fun e3 h19 hf=>W 4 Z (AS Z (AO.aI h19 Z Z (ah.aB _) Z dX (ah.aD _) Z ?_)); refine B1 hf fun x6 h20 hf=>U 1 Z (CL Z (Ad _ h20 ?_)); refine B1 hf fun s5 h21 hf=>AS Z (AO.zF h21 Z Z Z ?_); exact N 4 Z ⟨s5,(bZ (i1 + 1)),Z,Z,Z,hf⟩
  refine V 3 Z (C hf Z (fun h22 hf=>?_) fun h22 hf=>?_)
  ·
   refine B1 hf fun e4 h23 hf=>W 4 Z (AS Z (AO.aI h23 Z Z Z Z f_ Z Z ?_)); refine B1 hf fun x7 wT hf=>U 1 Z (CL Z (Nz _ wT ?_)); refine B1 hf fun x8 Cv hf=>AS Z (AO.zF Cv Z Z Z ?_); refine B1 hf fun s6 Ic hf=>AS Z (AO.zF Ic Z Z Z ?_); refine B1 hf fun e5 h27 hf=>U 5 Z (AS Z (AO.aI h27 Z Z (ah.aB _) Z dX (ah.aD _) Z ?_)); refine B1 hf fun x9 RQ hf=>U 1 Z (CL Z (Ad _ RQ ?_)); refine B1 hf fun s7 Na hf=>AS Z (AO.zF Na Z Z Z ?_)
   exact N 4 Z ⟨s7,(bZ (i1 + 1)),Z,Z,Z,hf⟩
  refine B1 hf fun e6 LY hf=>W 4 Z (AS Z (AO.aI LY Z Z (ah.aB _) Z dX (ah.aD _) Z ?_)); refine B1 hf fun wS h31 hf=>U 1 Z (CL Z (Ad _ h31 ?_)); refine B1 hf fun s8 h32 hf=>AS Z (AO.zF h32 Z Z Z ?_); exact N 4 Z ⟨s8,(bZ (i1 + 1)),Z,Z,Z,hf⟩
 refine V 3 Z (C hf Z (fun Js hf=>?_) fun Js hf=>?_)
 · refine B1 hf fun H8 XE hf=>W 1 Z (AS Z (AO.zF XE Z Z Z ?_)); refine BR hf fun LQ PK hf=>?_; refine AS Z (AO.zF PK Z Z Z ?_); cases hf; exact N 1 Z (Y Z h)
 refine B1 hf fun Mg QZ hf=>W 1 Z (AS Z (AO.zF QZ Z Z Z ?_)); refine BR hf fun RP h37 hf=>?_; refine AS Z (AO.zF h37 Z Z Z ?_); cases hf; exact N 1 Z (Y Z h)
theorem XY :∀ k:Nat,(O_ (wh k)):=by
 intro k
 induction k with
 | zero=>exact fun _ _ hz=>by first | cases hz | (unfold wh at hz; cases hz)
 | succ k ih=>exact fun qg aR hz τ Q hq=>XM (wh k) ih qg hz hq
theorem Ym (qg:ah) {aR:Str} (hf:MQ qg=some aR) (h:Q (.ret (.str aR)) τ):PC 249 [.agg (aK qg)] τ Q:=
 ((XY BIG)) qg hf h

theorem afs (v1:ah) {r0:Str} {r1:Int} (hf:MR v1=some (r0,r1)) (h:Q (.ret (.tuple [.str r0,iP r1])) τ):PC 191 [.agg (aK v1)] τ Q:=by
 unfold MR at hf; refine BN 28 [.tmp 2,.tmp 3] [0] Tryz.func191 Z Z Z Z Z (W 7 Z (On 4 8 12 [1] (v1.kind == 5) Z Z Z Z (J 0 Z (C hf Z (fun h2 hf=>?_) fun h2 hf=>?_))))
 · cases hf; exact M 2 Z (Y Z h)
 refine B1 hf fun e1 h3 hf=>W 1 Z (CL Z (EI _ h3 (J 3 Z (C hf Z (fun h4 hf=>?_) fun h4 hf=>?_))))
 · cases hf; exact M 3 Z (Y Z h)
 refine V 4 Z (C hf Z (fun h5 hf=>?_) fun h5 hf=>?_)
 · cases hf; exact M 2 Z (Y Z h)
 refine V 2 Z (C hf Z (fun h6 hf=>?_) fun h6 hf=>?_)
 · cases hf; exact M 4 Z (Y Z h)
 refine B1 hf fun x1 h7 hf=>W 1 Z (CL Z (Ym _ h7 ?_)); cases hf; exact N 2 Z (Y Z h)

theorem TJ (s1:Str) (Jj:UInt8) (M_:UInt8) (Cw:Int) {r0:Str} (hf:F5 s1 Jj M_ Cw=some r0) (h:Q (.ret (.str r0)) τ):PC 192 [.str s1,.int .u8 (Jj.toNat:Int),.int .u8 (M_.toNat:Int),iP Cw] τ Q:=by
 unfold F5 at hf; refine BN 40 [.tmp 8] [0,1,2,3] Tryz.func192 Z Z Z Z Z (V 3 Z (AW.row 1 5 (ZU (fun b1 v1 i1=>[(0,.str s1),(1,.int .u8 (Jj.toNat:Int)),(2,.int .u8 (M_.toNat:Int)),(3,iP Cw),(9,.own v1 (List.map ny b1)),(10,iP i1)]) (fun b1 v1 i1=>[.row v1 (List.map ny b1).length 1 5]) (fun bT b1 v1 i1=>yH s1 Jj M_ Cw bT b1 i1=some r0) BIG [] (.slice none 0 0) 0 Z Z hf (fun _ _ _ hz=>bQ hz) ?_))); intro bT b1 v1 i1 hf; rw [yH] at hf
 refine W 2 Z (AS Z (AO.b_ Z Z Z Z dM Z (J 1 Z (C hf Z (fun h1 hf=>?_) fun h1 hf=>?_))))
 ·
  refine B1 hf fun c1 h2 hf=>W 2 Z (AS Z (AO.gy h2 Z dM Z Z (U 5 Z (An 4 24 28 [0,1,2,3,9,10,11] (decide ((c1.toNat:Int)≤(M_.toNat:Int))) Z Z Z Z (J 0 Z (C hf Z (fun h4 hf=>?_) fun h4 hf=>?_))))))
  · refine W 1 Z (AS Z (AO.Du Z CP Ib Z Z (U 2 Z (AS Z (AO.Hq Z Ib CP Z (U 3 Z (AS Z (AO.aS (List.map ny ([(Ft.byteOf (bZ ((c1.toNat:Int) + Cw)))]:List UInt8)) Z vB Z Z Z Z ?_)))))))); refine B1 hf fun b2 h5 hf=>AS Z (AO.fK (i:=0) (l:=b1) (m:=([(Ft.byteOf (bZ ((c1.toNat:Int) + Cw)))]:List UInt8)) h5 Z Z Z Z Z Z Z vB Wv Z Z Z (fun _=>Z) (fun _=>Z) (by decide) (fun v2 s2 hs2=>?_)); cases hs2; exact N 4 Z ⟨b2,v2,(bZ (i1 + 1)),Z,Z,Z,hf⟩
  refine W 2 Z (AS Z (AO.aS (List.map ny ([c1]:List UInt8)) Z vB Z Z Z Z ?_)); refine B1 hf fun b3 h6 hf=>AS Z (AO.fK (i:=0) (l:=b1) (m:=([c1]:List UInt8)) h6 Z Z Z Z Z Z Z vB Wv Z Z Z (fun _=>Z) (fun _=>Z) (by decide) (fun v3 s3 hs3=>?_)); cases hs3; exact N 4 Z ⟨b3,v3,(bZ (i1 + 1)),Z,Z,Z,hf⟩
 refine W 1 Z (AS Z (AO.ru Z CQ CP dM Z Z ?_)); cases hf; exact N 1 Z (Y Z h)

theorem ZG (s1:Str) {r0:Int} {r1:Bool} (hf:Oa s1=some (r0,r1)) (h:Q (.ret (.tuple [iP r0,.bool r1])) τ):PC 250 [.str s1] τ Q:=by
 unfold Oa at hf; refine BN 45 [.tmp 2,.tmp 3] [0] Tryz.func250 Z Z Z Z Z (W 5 Z (AR.or 4 8 12 [0] (x:=(decide (16 < (s1.length:Int)))) Z Z (fun h1=>?_) (fun h1=>?_) ?_))
 · refine Is 8 h1 Z (U 1 Z (GO Z (AO.b_ Z Z Z Z dM Z ?_))); exact eG 2 Z (En [12,0] Z)
 · refine Is 8 h1 Z ?_; exact eG 4 Z (En [12,0] Z)
 refine B1 hf fun b1 h3 hf=>U 1 Z (AR.dB 9 13 22 false [0] b1 Z Z (fun h2=>?_) (fun h2=>?_) ?_)
 ·
  replace h3:=cZ h2 h3; refine Is 13 h2 Z (U 1 Z (GO Z (AO.b_ Z Z Z Z dM Z ?_))); refine BR h3 fun b2 h5 h3=>?_; refine U 2 Z (AR.dB 4 17 21 true [0,13] b2 Z Z (fun h4=>?_) (fun h4=>?_) ?_)
  · refine IT 17 h4 h5 Z fun h5=>?_; refine B1 h5 fun x1 h6 h5=>U 1 Z (GO Z (AO.gy h6 Z dM Z Z ?_)); cases h5; exact eG 2 Z (En [21,0,13] Z)
  · refine IF 17 h4 h5 Z fun h5=>?_; cases h5; exact eG 4 Z (En [21,0,13] Z)
  cases h3; exact eG 1 Z (En [22,0] Z)
 · refine IT 13 h2 h3 Z fun h3=>?_; cases h3; exact eG 9 Z (En [22,0] Z)
 refine J 0 Z (C hf Z (fun h7 hf=>?_) fun h7 hf=>?_)
 · cases hf; exact M 2 Z (Y Z h)
 refine V 2 Z (Xy (fun n1 i1=>[(0,.str s1),(4,iP n1),(5,iP i1)]) (fun n1 i1=>[]) (fun bT n1 i1=>Dc s1 bT n1 i1=some (r0,r1)) BIG 0 0 Z Z hf (fun _ _ hz=>bQ hz) ?_); intro bT n1 i1 hf; rw [Dc] at hf; refine W 2 Z (AS Z (AO.b_ Z Z Z Z dM Z (J 1 Z (C hf Z (fun h8 hf=>?_) fun h8 hf=>?_))))
 ·
  refine B1 hf fun x2 h9 hf=>W 2 Z (AS Z (AO.gy h9 Z dM Z Z ?_)); refine B1 hf fun x3 h10 hf=>CL Z (TM _ h10 (J 1 Z (C hf Z (fun h11 hf=>?_) fun h11 hf=>?_)))
  · cases hf; exact M 2 Z (Y Z h)
  refine B1 hf fun x4 h12 hf=>W 4 Z (AS Z (AO.gy h12 Z dM Z Z (AS Z (AO.Du Z CP Ib Z Z ?_)))); exact N 6 Z ⟨(bZ ((bZ ((bZ (10 * n1)) + (x4.toNat:Int))) - 48)),(bZ (i1 + 1)),Z,Z,Z,hf⟩
 cases hf; exact M 5 Z (Y Z h)

theorem abl (s1:Str) {r0:Int} {r1:Bool} (hf:Ag s1=some (r0,r1)) (h:Q (.ret (.tuple [iP r0,.bool r1])) τ):PC 193 [.str s1] τ Q:=by
 unfold Ag at hf; refine BN 30 [.tmp 2,.tmp 3] [0] Tryz.func193 Z Z Z Z Z ?_; refine B1 hf fun b1 h2 hf=>W 5 Z (AR.dB 4 8 12 true [0] b1 Z Z (fun h1=>?_) (fun h1=>?_) ?_)
 · refine IT 8 h1 h2 Z fun h2=>?_; refine B1 h2 fun x1 h3 h2=>U 1 Z (GO Z (AO.gy h3 Z dM Z Z ?_)); cases h2; exact eG 2 Z (En [12,0] Z)
 · refine IF 8 h1 h2 Z fun h2=>?_; cases h2; exact eG 4 Z (En [12,0] Z)
 refine J 0 Z (C hf Z (fun h4 hf=>?_) fun h4 hf=>?_)
 · refine B1 hf fun x2 h5 hf=>W 1 Z (AS Z (AO.r_ h5 Z dM Z ⟨_,Z⟩ Z ?_)); obtain ⟨n1,ok1,h6,hf⟩:=aV hf; refine CL Z (ZG _ h6 (U 9 Z (An 3 22 25 [20] (n1 != 0) Z Z Z Z ?_))); cases hf; exact N 2 Z (Y Z h)
 replace hf:=(eH _).trans hf; obtain ⟨x3,x4,h8,hf⟩:=aV hf; refine W 1 Z (CL Z (ZG _ h8 ?_)); cases hf; exact N 4 Z (Y Z h)

theorem ahQ (name1:Str) (a1:ah) {r0:ah} {r1:Int} (hf:QF name1 a1=some (r0,r1)) (h:Q (.ret (.tuple [.agg (aK r0),iP r1])) τ):PC 132 [.str name1,.agg (aK a1)] τ Q:=by
 unfold QF at hf; refine BN 102 [.cell 4 31,.tmp 5] [0,1] Tryz.func132 Z Z Z Z Z (W 1 Z (AS Z (AO.aF Z gq (fun b4=>(U 4 Z (An 4 14 18 [0,3,4] (decide (3≤a1.kind)) Z Z Z Z (J 0 Z (C hf Z (fun h2 hf=>?_) fun h2 hf=>?_))))))))
 · refine W 2 Z (AS Z (AO.b_ Z Z Z Z dM Z (U 2 Z (AS Z (AO.aP (l:=a1.aO) Z Z Z Z dX Z (ah.aB _) ?_))))); cases hf; exact Rx 4 [0] Z Z (ZC [0] Z Z h)
 refine W 3 Z (An 4 29 33 [0,3,4] (a1.kind == 5) Z Z Z Z (J 0 Z (C hf Z (fun h4 hf=>?_) fun h4 hf=>?_)))
 ·
  refine W 1 Z (AS Z (AO.aF Z gq (fun b6=>?_)))
  refine Rw 2 [0] Z Z (AW.row 6 31 (AW.settle [3,4,6,7] Z (AW.D6 1 [false,false,false,false,false,true] Z (ZU (fun i1 v1 v2=>[(3,.ref (aK a1)),(4,pP b4),(6,pP b6),(7,iP i1)]) (fun i1 v1 v2=>[.row v2 (ah.aU v1.aO).length 6 31,.box b6 [iP v1.kind,.bool v1.dO,iP v1.dI,.str v1.bR,.own v2 (ah.aU v1.aO),sP v1.keys],.box b4 [iP 0,.bool false,iP 0,.str ([]:Str),.own (.slice none 0 0) [],.own (.slice none 0 0) []]]) (fun bT i1 v1 v2=>CZ a1 bT i1 v1=some (r0,r1)) BIG 0 (ah.mk 4 false 0 ([]:Str) [] []) (.slice none 0 0) Z Z hf (fun _ _ _ hz=>bQ hz) ?_))))
  intro bT i1 v1 v2 hf; rw [CZ] at hf; refine W 3 Z (AS Z (AO.aP (l:=a1.keys) Z Z Z Z f_ Z Z (J 1 Z (C hf Z (fun h5 hf=>?_) fun h5 hf=>?_))))
  ·
   refine V 0 Z (AW.draw 9 mixed (by kernel_rfl) Z ?_); refine Ev.cs aG 1 Z (Ev.cons Z Z Z (AO.aY (i:=1) Z Z Z Jy Z Z zg) (Ev.cs aG 3 Z ?_)); refine B1 hf fun e1 h6 hf=>Ev.cons Z Z Z (AO.aI h6 Z Z Z Z f_ Z Z zg) (Ev.cs aG 1 Z ?_); refine B1 hf fun x1 h7 hf=>Ev.cons rfl rfl rfl (AO.call rfl _ rfl rfl ajp (zm _ h7 ⟨rfl,rfl⟩)) (Ev.cons rfl rfl rfl (AO.aS (ah.aU [x1]) rfl qM rfl rfl rfl (by first | rfl | simp only [List.map,ah.aD,ah.aU]) ⟨rfl,rfl⟩) ?_)
   refine Ev.nil ?_; show AR _ _ _ _ _ _ _ _
   refine B1 hf fun x2 h8 hf=>AS Z (AO.fK (i:=0) (l:=v1.aO) (m:=[x1]) h8 Z Z Z Z Z Z Z qM dX (ah.aB _) (ah.aB _) (ah.aB _).symm (ah.dD) (ah.cells_one) (by decide) (fun v3 s1 hs1=>?_)); cases hs1; exact Rx 5 [1] Z Z ⟨(bZ (i1 + 1)),(ah.mk v1.kind v1.dO v1.dI v1.bR x2 v1.keys),v3,Z,Z,Z,hf⟩
  cases hf; exact Wx 3 [1,2] Z Z (ZC [2] Z Z h)
 refine V 2 Z (C hf Z (fun h9 hf=>?_) fun h9 hf=>?_)
 ·
  obtain ⟨s2,e2,h10,hf⟩:=aV hf; refine W 1 Z (CL Z (afs _ h10 (J 7 Z (C hf Z (fun h11 hf=>?_) fun h11 hf=>?_))))
  · cases hf; exact Wx 4 [0] Z Z (ZC [0] Z Z h)
  refine B1 hf fun x3 h12 hf=>W 1 Z (CL Z (zm _ h12 ?_)); cases hf; exact Rx 2 [0] Z Z (ZC [0] Z Z h)
 refine W 4 Z (On 3 70 73 [0,3,4] (name1 == ([108,101,110]:Str)) Z Z Z Z (U 1 Z (On 3 74 77 [0,3,4] (name1 == ([107,101,121,115]:Str)) Z Z Z Z (J 0 Z (C hf Z (fun mo hf=>?_) fun mo hf=>?_)))))
 · cases hf; exact Wx 3 [0] Z Z (ZC [0] Z Z h)
 refine V 2 Z (C hf Z (fun h16 hf=>?_) fun h16 hf=>?_)
 · refine B1 hf fun x4 qB hf=>W 2 Z (CL Z (TJ _ _ _ _ qB ?_)); refine B1 hf fun x5 h18 hf=>CL Z (zm _ h18 ?_); cases hf; exact Rx 2 [0] Z Z (ZC [0] Z Z h)
 refine V 2 Z (C hf Z (fun h19 hf=>?_) fun h19 hf=>?_)
 · refine B1 hf fun x6 h20 hf=>W 2 Z (CL Z (TJ _ _ _ _ h20 ?_)); refine B1 hf fun x7 h21 hf=>CL Z (zm _ h21 ?_); cases hf; exact Rx 2 [0] Z Z (ZC [0] Z Z h)
 obtain ⟨n1,ok1,h22,hf⟩:=aV hf; refine W 2 Z (CL Z (abl _ h22 (J 7 Z (C hf Z (fun h23 hf=>?_) fun h23 hf=>?_))))
 · cases hf; exact Wx 3 [0] Z Z (ZC [0] Z Z h)
 cases hf; exact Wx 4 [0] Z Z (ZC [0] Z Z h)

theorem P_ (s1:Str) (t1:Str) (IQ:Int) {r0:Int} (hf:Gu s1 t1 IQ=some r0) (h:Q (.ret (iP r0)) τ):PC 251 [.str s1,.str t1,iP IQ] τ Q:=by
 unfold Gu at hf; refine BN 28 [.tmp 6] [0,1,2] Tryz.func251 Z Z Z Z Z (V 3 Z (Gh (fun i1=>[(0,.str s1),(1,.str t1),(7,iP i1)]) (fun i1=>[]) (fun bT i1=>Az s1 t1 bT i1=some r0) BIG IQ Z Z hf (fun _ hz=>bQ hz) ?_)); intro bT i1 hf; rw [Az] at hf; refine W 2 Z (AS Z (AO.b_ Z Z Z Z dM Z (U 2 Z (AS Z (AO.b_ Z Z Z Z dM Z (J 1 Z (C hf Z (fun h1 hf=>?_) fun h1 hf=>?_)))))))
 ·
  refine W 4 Z (AS Z (AO.b_ Z Z Z Z dM Z ?_)); refine B1 hf fun x1 h2 hf=>U 1 Z (AS Z (AO.r_ h2 Z dM Z ⟨_,Z⟩ ⟨_,Z⟩ (J 2 Z (C hf Z (fun h3 hf=>?_) fun h3 hf=>?_))))
  · cases hf; exact M 2 Z (Y Z h)
  exact M 3 Z ⟨(bZ (i1 + 1)),Z,Z,Z,hf⟩
 cases hf; exact M 1 Z (Y Z h)

theorem WV (a1:ah) (b1:ah) {r0:ah} {r1:Int} (hf:Bq a1 b1=some (r0,r1)) (h:Q (.ret (.tuple [.agg (aK r0),iP r1])) τ):PC 194 [.agg (aK a1),.agg (aK b1)] τ Q:=by
 unfold Bq at hf; refine BN 61 [.cell 4 31,.tmp 5] [0,1] Tryz.func194 Z Z Z Z Z (W 2 Z (AS Z (AO.aF Z gq (fun b4=>(J 4 Z (C hf Z (fun h1 hf=>?_) fun h1 hf=>?_))))))
 ·
  refine V 1 Z (Gh (fun i1=>[(2,.ref (aK a1)),(3,.ref (aK b1)),(4,pP b4),(6,iP i1)]) (fun i1=>[.box b4 [iP 0,.bool false,iP 0,.str ([]:Str),.own (.slice none 0 0) [],.own (.slice none 0 0) []]]) (fun bT i1=>sG a1 b1 bT i1=some (r0,r1)) BIG 0 Z Z hf (fun _ hz=>bQ hz) ?_); intro bT i1 hf; rw [sG] at hf; refine W 3 Z (AS Z (AO.aP (l:=a1.aO) Z Z Z Z dX Z (ah.aB _) (J 1 Z (C hf Z (fun h2 hf=>?_) fun h2 hf=>?_))))
  ·
   refine V 0 Z (AW.draw 7 mixed (by kernel_rfl) Z ?_); refine Ev.cs aG 3 Z ?_; refine B1 hf fun e1 h3 hf=>Ev.cons Z Z Z (AO.aI h3 Z Z (ah.aB _) Z dX (ah.aD _) Z zg) (Ev.cs aG 2 Z ?_); refine B1 hf fun x1 h4 hf=>Ev.cons Z Z Z (AO.call Z _ Z Z amG (NA _ _ h4 zg)) (Ev.nil ?_); show AR _ _ _ _ _ _ _ _
   refine J 0 Z (C hf Z (fun h5 hf=>?_) fun h5 hf=>?_)
   · refine B1 hf fun x2 h6 hf=>W 0 Z (CL Z (lH _ h6 ?_)); cases hf; exact Rx 2 [0] Z Z (ZC [0] Z Z h)
   exact M 3 Z ⟨(bZ (i1 + 1)),Z,Z,Z,hf⟩
  refine B1 hf fun x3 h7 hf=>W 0 Z (CL Z (lH _ h7 ?_)); cases hf; exact Rx 2 [0] Z Z (ZC [0] Z Z h)
 refine W 4 Z (AR.or 9 31 40 [2,3,4] (x:=((a1.kind != 3) && (a1.kind != 5))) Z Z (fun h8=>?_) (fun h8=>?_) ?_)
 · refine Is 31 h8 Z (U 4 Z (An 4 35 39 [2,3,4,31] (a1.kind != 5) Z Z Z Z ?_)); exact eG 1 Z (En [40,2,3,4] Z)
 · refine Is 31 h8 Z ?_; exact eG 9 Z (En [40,2,3,4] Z)
 refine J 0 Z (C hf Z (fun h10 hf=>?_) fun h10 hf=>?_)
 · cases hf; exact Wx 3 [0] Z Z (ZC [0] Z Z h)
 refine V 3 Z (C hf Z (fun h11 hf=>?_) fun h11 hf=>?_)
 · obtain ⟨x4,ok1,h12,hf⟩:=aV hf; refine W 3 Z (CL Z (SK _ _ h12 (U 3 Z (AS Z (AO.aF Z gq (fun b7=>?_)))))); refine B1 hf fun x5 jJ hf=>Rr 3 [0] Z Z (CL Z (lH _ jJ ?_)); cases hf; exact Rx 2 [1] Z Z (ZC [1] Z Z h)
 refine B1 hf fun x6 j5 hf=>W 4 Z (CL Z (P_ _ _ _ j5 ?_)); refine B1 hf fun x7 mo hf=>U 1 Z (CL Z (lH _ mo ?_)); cases hf; exact Rx 2 [0] Z Z (ZC [0] Z Z h)


abbrev RL (nG:ah→Option Int):Prop:=∀ (qg:ah) {aR:Int},nG qg=some aR→∀ {τ:List bJ} {Q:eT→List bJ→Prop} (h:Q (.ret (iP aR)) τ),PC 200 [.agg (aK qg)] τ Q
theorem Z_ (nG) (Wj:RL nG) (v1:ah) {r0:Int} (hf:Fp nG v1=some r0) (h:Q (.ret (iP r0)) τ):PC 200 [.agg (aK v1)] τ Q:=by
 unfold Fp at hf; refine BN 30 [.tmp 2] [0] Tryz.func200 Z Z Z Z Z (W 6 Z (An 4 8 12 [1] (v1.kind != 5) Z Z Z Z (J 0 Z (C hf Z (fun h2 hf=>?_) fun h2 hf=>?_))))
 · cases hf; exact M 1 Z (Y Z h)
 refine V 2 Z (Xy (fun n1 i1=>[(1,.ref (aK v1)),(3,iP n1),(4,iP i1)]) (fun n1 i1=>[]) (fun bT n1 i1=>zO nG v1 bT n1 i1=some r0) BIG 2 0 Z Z hf (fun _ _ hz=>bQ hz) ?_); intro bT n1 i1 hf; rw [zO] at hf; refine W 3 Z (AS Z (AO.aP (l:=v1.aO) Z Z Z Z dX Z (ah.aB _) (J 1 Z (C hf Z (fun h3 hf=>?_) fun h3 hf=>?_))))
 · refine B1 hf fun e1 h4 hf=>W 4 Z (AS Z (AO.aI h4 Z Z (ah.aB _) Z dX (ah.aD _) Z ?_)); refine B1 hf fun x1 h5 hf=>U 1 Z (CL Z (Wj _ h5 (U 1 Z (AS Z (AO.max2 Z Z Z Z Z ?_))))); exact N 4 Z ⟨(if n1 < (bZ (1 + x1)) then (bZ (1 + x1)) else n1),(bZ (i1 + 1)),Z,Z,Z,hf⟩
 cases hf; exact M 2 Z (Y Z h)
theorem aaG :∀ k:Nat,(RL (qG k)):=by
 intro k
 induction k with
 | zero=>exact fun _ _ hz=>by first | cases hz | (unfold qG at hz; cases hz)
 | succ k ih=>exact fun qg aR hz τ Q hq=>Z_ (qG k) ih qg hz hq
theorem Ru (qg:ah) {aR:Int} (hf:Gz qg=some aR) (h:Q (.ret (iP aR)) τ):PC 200 [.agg (aK qg)] τ Q:=
 ((aaG BIG)) qg hf h

theorem pz (v1:ah) {r0:ah} {r1:Int} (hf:lD v1=some (r0,r1)) (h:Q (.ret (.tuple [.agg (aK r0),iP r1])) τ):PC 135 [.agg (aK v1)] τ Q:=by
 unfold lD at hf; refine BN 29 [.cell 2 31,.tmp 3] [0] Tryz.func135 Z Z Z Z Z (W 1 Z (AS Z (AO.aF Z gq (fun b2=>(U 5 Z (On 4 7 11 [1,2] (decide (9007199254740992 < v1.dI)) Z Z Z Z (J 0 Z (C hf Z (fun h2 hf=>?_) fun h2 hf=>?_))))))))
 · cases hf; exact Wx 3 [0] Z Z (ZC [0] Z Z h)
 refine W 2 Z (AS Z (AO.b_ Z Z Z Z dM Z (U 2 Z (AR.or 5 17 22 [1,2] (x:=(decide (1024 < (v1.aO.length:Int)))) Z Z (fun h3=>?_) (fun h3=>?_) ?_))))
 · refine Is 17 h3 Z (U 2 Z (GO Z (AO.aP (l:=v1.aO) Z Z Z Z dX Z (ah.aB _) ?_))); exact eG 2 Z (En [22,1,2] Z)
 · refine Is 17 h3 Z ?_; exact eG 5 Z (En [22,1,2] Z)
 refine J 0 Z (C hf Z (fun h4 hf=>?_) fun h4 hf=>?_)
 · cases hf; exact Wx 3 [0] Z Z (ZC [0] Z Z h)
 refine B1 hf fun x1 h5 hf=>W 1 Z (CL Z (Ru _ h5 (J 1 Z (C hf Z (fun h6 hf=>?_) fun h6 hf=>?_))))
 · cases hf; exact Wx 3 [0] Z Z (ZC [0] Z Z h)
 cases hf; exact Wx 3 [0] Z Z (ZC [0] Z Z h)

theorem afh (a1:ah) (b1:ah) {r0:ah} {r1:Int} (hf:MH a1 b1=some (r0,r1)) (h:Q (.ret (.tuple [.agg (aK r0),iP r1])) τ):PC 195 [.agg (aK a1),.agg (aK b1)] τ Q:=by
 unfold MH at hf; refine BN 51 [.cell 4 31,.tmp 5] [0,1] Tryz.func195 Z Z Z Z Z (W 2 Z (AS Z (AO.aF Z gq (fun b4=>(U 5 Z (On 4 11 15 [2,3,4] (b1.kind != 3) Z Z Z Z (J 0 Z (C hf Z (fun h2 hf=>?_) fun h2 hf=>?_))))))))
 · cases hf; exact Wx 3 [0] Z Z (ZC [0] Z Z h)
 refine V 2 Z (Xy (fun s1 i1=>[(2,.ref (aK a1)),(3,.ref (aK b1)),(4,pP b4),(6,.str s1),(7,iP i1)]) (fun s1 i1=>[.box b4 [iP 0,.bool false,iP 0,.str ([]:Str),.own (.slice none 0 0) [],.own (.slice none 0 0) []]]) (fun bT s1 i1=>u7 a1 b1 bT s1 i1=some (r0,r1)) BIG ([]:Str) 0 Z Z hf (fun _ _ hz=>bQ hz) ?_); intro bT s1 i1 hf; rw [u7] at hf; refine W 3 Z (AS Z (AO.aP (l:=a1.aO) Z Z Z Z dX Z (ah.aB _) (J 1 Z (C hf Z (fun h3 hf=>?_) fun h3 hf=>?_))))
 ·
  refine B1 hf fun e1 h4 hf=>W 3 Z (AS Z (AO.aI h4 Z Z (ah.aB _) Z dX (ah.aD _) Z (J 3 Z (C hf Z (fun h5 hf=>?_) fun h5 hf=>?_))))
  · cases hf; exact Wx 3 [0] Z Z (ZC [0] Z Z h)
  refine V 2 Z (C hf Z (fun h6 hf=>?_) fun h6 hf=>?_)
  · refine B1 hf fun s2 h7 hf=>W 3 Z (AS Z (AO.zF h7 Z Z Z ?_)); refine B1 hf fun e2 h8 hf=>U 5 Z (AS Z (AO.aI h8 Z Z (ah.aB _) Z dX (ah.aD _) Z ?_)); refine B1 hf fun s3 h9 hf=>U 2 Z (AS Z (AO.zF h9 Z Z Z ?_)); exact N 4 Z ⟨s3,(bZ (i1 + 1)),Z,Z,Z,hf⟩
  refine B1 hf fun e3 h10 hf=>W 4 Z (AS Z (AO.aI h10 Z Z (ah.aB _) Z dX (ah.aD _) Z ?_)); refine B1 hf fun s4 h11 hf=>U 2 Z (AS Z (AO.zF h11 Z Z Z ?_)); exact N 4 Z ⟨s4,(bZ (i1 + 1)),Z,Z,Z,hf⟩
 refine B1 hf fun x1 h12 hf=>W 1 Z (CL Z (zm _ h12 ?_)); replace hf:=(eH _).trans hf; obtain ⟨x2,x3,jJ,hf⟩:=aV hf; refine CL Z (pz _ jJ ?_); cases hf; exact Rx 4 [0] Z Z (ZC [0] Z Z h)

theorem adz (s1:Str) (Cw:Str) {r0:ah} {r1:Int} (hf:CY s1 Cw=some (r0,r1)) (h:Q (.ret (.tuple [.agg (aK r0),iP r1])) τ):PC 196 [.str s1,.str Cw] τ Q:=by
 unfold CY at hf; refine BN 44 [.cell 4 31,.tmp 5] [0,1] Tryz.func196 Z Z Z Z Z (W 0 Z (AS Z (AO.aF Z gq (fun b4=>(J 3 Z (C hf Z (fun h1 hf=>?_) fun h1 hf=>?_))))))
 · cases hf; exact Wx 3 [0] Z Z (ZC [0] Z Z h)
 refine B1 hf fun mE h2 hf=>W 4 Z (CL Z (P_ _ _ _ h2 (J 1 Z (AW.row 6 31 (LK4 (fun l1 v1 IQ at2=>[(0,.str s1),(1,.str Cw),(4,pP b4),(6,.own v1 (ah.aU l1)),(7,iP IQ),(8,iP at2)]) (fun l1 v1 IQ at2=>[.row v1 (ah.aU l1).length 6 31,.box b4 [iP 0,.bool false,iP 0,.str ([]:Str),.own (.slice none 0 0) [],.own (.slice none 0 0) []]]) (fun bT l1 v1 IQ at2=>yG s1 Cw bT l1 IQ at2=some (r0,r1)) BIG [] (.slice none 0 0) 0 mE Z Z hf (fun _ _ _ _ hz=>bQ hz) ?_))))); intro bT l1 v1 IQ at2 hf
 rw [yG] at hf; refine V 2 Z (C hf Z (fun h3 hf=>?_) fun h3 hf=>?_)
 ·
  refine B1 hf fun x1 h4 hf=>W 4 Z (AS Z (AO.r_ h4 Z dM Z ⟨_,Z⟩ ⟨_,Z⟩ ?_)); refine B1 hf fun x2 h5 hf=>CL rfl (zm _ h5 (AS rfl (AO.aS (ah.aU [x2]) rfl qM rfl rfl rfl (by first | rfl | simp only [List.map,ah.aD,ah.aU]) ?_))); refine B1 hf fun l2 h6 hf=>AS Z (AO.fK (i:=0) (l:=l1) (m:=[x2]) h6 Z Z Z Z Z Z Z qM dX (ah.aB _) (ah.aB _) (ah.aB _).symm (ah.dD) (ah.cells_one) (by decide) (fun v2 s2 hs2=>?_)); cases hs2
  refine U 3 Z (AS Z (AO.b_ Z Z Z Z dM Z ?_)); refine B1 hf fun at3 h7 hf=>U 5 Z (CL Z (P_ _ _ _ h7 ?_)); exact N 1 Z ⟨l2,v2,(bZ (at2 + (Cw.length:Int))),at3,Z,Z,Z,hf⟩
 refine B1 hf fun x3 h8 hf=>W 3 Z (AS Z (AO.r_ h8 Z dM Z ⟨_,Z⟩ Z ?_)); refine B1 hf fun x4 h9 hf=>CL rfl (zm _ h9 (AS rfl (AO.aS (ah.aU [x4]) rfl qM rfl rfl rfl (by first | rfl | simp only [List.map,ah.aD,ah.aU]) ?_))); refine B1 hf fun x5 h10 hf=>AS Z (AO.fK (i:=0) (l:=l1) (m:=[x4]) h10 Z Z Z Z Z Z Z qM dX (ah.aB _) (ah.aB _) (ah.aB _).symm (ah.dD) (ah.cells_one) (by decide) (fun v3 s3 hs3=>?_)); cases hs3
 replace hf:=(eH _).trans hf; obtain ⟨x6,x7,h11,hf⟩:=aV hf; refine U 1 Z (CL Z (pz _ h11 ?_)); cases hf; exact Rx 4 [1] Z Z (ZC [1] Z Z h)

theorem ahP (name1:Str) (a1:ah) (b1:ah) {r0:ah} {r1:Int} (hf:QE name1 a1 b1=some (r0,r1)) (h:Q (.ret (.tuple [.agg (aK r0),iP r1])) τ):PC 133 [.str name1,.agg (aK a1),.agg (aK b1)] τ Q:=by
 unfold QE at hf; refine BN 86 [.cell 6 31,.tmp 7] [0,1,2] Tryz.func133 Z Z Z Z Z (W 2 Z (AS Z (AO.aF Z gq (fun b6=>(J 4 Z (C hf Z (fun h1 hf=>?_) fun h1 hf=>?_))))))
 · replace hf:=(eH _).trans hf; obtain ⟨x1,x2,h2,hf⟩:=aV hf; refine W 2 Z (CL Z (WV _ _ h2 ?_)); cases hf; exact Rx 4 [0] Z Z (ZC [0] Z Z h)
 refine V 2 Z (C hf Z (fun h3 hf=>?_) fun h3 hf=>?_)
 · replace hf:=(eH _).trans hf; obtain ⟨x3,x4,h4,hf⟩:=aV hf; refine W 2 Z (CL Z (afh _ _ h4 ?_)); cases hf; exact Rx 4 [0] Z Z (ZC [0] Z Z h)
 refine V 2 Z (C hf Z (fun h5 hf=>?_) fun h5 hf=>?_)
 ·
  refine V 3 Z (C hf Z (fun h6 hf=>?_) fun h6 hf=>?_)
  · cases hf; exact Wx 3 [0] Z Z (ZC [0] Z Z h)
  cases hf; exact Wx 3 [0] Z Z (ZC [0] Z Z h)
 refine W 4 Z (On 4 35 39 [0,4,5,6] (b1.kind != 3) Z Z Z Z (J 0 Z (C hf Z (fun h8 hf=>?_) fun h8 hf=>?_)))
 · cases hf; exact Wx 3 [0] Z Z (ZC [0] Z Z h)
 refine V 0 Z (AW.draw 6 mixed (by kernel_rfl) Z ?_); refine Ev.cs aG 6 Z (Ev.nil ?_); show AR _ _ _ _ _ _ _ _
 refine J 3 Z (C hf Z (fun h9 hf=>?_) fun h9 hf=>?_)
 · replace hf:=(eH _).trans hf; obtain ⟨x5,x6,h10,hf⟩:=aV hf; refine W 2 Z (CL Z (adz _ _ h10 ?_)); cases hf; exact Rx 4 [0] Z Z (ZC [0] Z Z h)
 refine V 2 Z (C hf Z (fun h11 hf=>?_) fun h11 hf=>?_)
 ·
  refine W 1 Z (AS Z (AO.b_ Z Z Z Z dM Z (U 1 Z (AS Z (AO.b_ Z Z Z Z dM Z ?_))))); refine B1 hf fun b2 jJ hf=>U 2 Z (AR.dB 7 60 67 true [6] b2 Z Z (fun h12=>?_) (fun h12=>?_) ?_)
  · replace jJ:=cO h12 jJ; refine Is 60 h12 Z (U 2 Z (GO Z (AO.b_ Z Z Z Z dM Z ?_))); refine B1 jJ fun x7 j5 jJ=>GO Z (AO.r_ j5 Z dM Z Z ⟨_,Z⟩ ?_); cases jJ; exact eG 3 Z (En [67,6] Z)
  · refine IF 60 h12 jJ Z fun jJ=>?_; cases jJ; exact eG 7 Z (En [67,6] Z)
  refine B1 hf fun x8 mo hf=>CL Z (lH _ mo ?_); cases hf; exact Rx 2 [0] Z Z (ZC [0] Z Z h)
 refine W 1 Z (AS Z (AO.b_ Z Z Z Z dM Z (U 1 Z (AS Z (AO.b_ Z Z Z Z dM Z ?_))))); refine B1 hf fun b3 qB hf=>U 2 Z (AR.dB 10 74 84 true [6] b3 Z Z (fun h16=>?_) (fun h16=>?_) ?_)
 · replace qB:=cO h16 qB; refine Is 74 h16 Z (U 2 Z (GO Z (AO.b_ Z Z Z Z dM Z (U 1 Z (GO Z (AO.b_ Z Z Z Z dM Z ?_)))))); refine B1 qB fun x9 h18 qB=>U 1 Z (GO Z (AO.r_ h18 Z dM Z ⟨_,Z⟩ Z ?_)); cases qB; exact eG 3 Z (En [84,6] Z)
 · refine IF 74 h16 qB Z fun qB=>?_; cases qB; exact eG 10 Z (En [84,6] Z)
 refine B1 hf fun wS h19 hf=>CL Z (lH _ h19 ?_); cases hf; exact Rx 2 [0] Z Z (ZC [0] Z Z h)

theorem Rt (op1:Str) (OP:Bool) (acT:Bool) {r0:ah} {r1:Int} (hf:xg op1 OP acT=some (r0,r1)) (h:Q (.ret (.tuple [.agg (aK r0),iP r1])) τ):PC 198 [.str op1,.bool OP,.bool acT] τ Q:=by
 unfold xg at hf; refine BN 25 [.cell 6 31,.tmp 7] [0,1,2] Tryz.func198 Z Z Z Z Z (W 0 Z (AS Z (AO.aF Z gq (fun b6=>(J 4 Z (C hf Z (fun h1 hf=>?_) fun h1 hf=>?_))))))
 · refine B1 hf fun x1 h2 hf=>W 1 Z (CL Z (lH _ h2 ?_)); cases hf; exact Rx 2 [0] Z Z (ZC [0] Z Z h)
 refine V 2 Z (C hf Z (fun h3 hf=>?_) fun h3 hf=>?_)
 · refine B1 hf fun x2 h4 hf=>W 2 Z (CL Z (lH _ h4 ?_)); cases hf; exact Rx 2 [0] Z Z (ZC [0] Z Z h)
 refine V 2 Z (C hf Z (fun h5 hf=>?_) fun h5 hf=>?_)
 · refine B1 hf fun x3 h6 hf=>W 1 Z (CL Z (lH _ h6 ?_)); cases hf; exact Rx 2 [0] Z Z (ZC [0] Z Z h)
 refine B1 hf fun x4 h7 hf=>W 2 Z (CL Z (lH _ h7 ?_)); cases hf; exact Rx 2 [0] Z Z (ZC [0] Z Z h)

theorem W_ (n1:Int) {r0:BitVec 64} (hf:Em n1=some r0) (h:Q (.ret (.int .u64 (r0.toNat:Int))) τ):PC 323 [iP n1] τ Q:=by
 unfold Em at hf; refine BN 12 [.tmp 2] [0] Tryz.func323 Z Z Z Z Z (V 3 Z (C hf Z (fun h1 hf=>?_) fun h1 hf=>?_))
 · refine W 3 Z (AS Z (AO.aah Z Ib Kl Z ?_)); refine BR hf fun x1 h2 hf=>?_; refine AS Z (AO.Vg (BitVec.ofInt 64 (bZ (0 - (bZ (n1 + 1))))) (1:BitVec 64) h2 Z Z Z Z Z ?_); cases hf; exact N 1 Z (Y Z h)
 refine W 1 Z (AS Z (AO.aah Z Ib Kl Z ?_)); cases hf; exact N 1 Z (Y Z h)

theorem Yp (a1:Int) (b1:Int) {r0:d9} (hf:Eo a1 b1=some r0) (h:Q (.ret (.agg (GZ r0))) τ):PC 287 [iP a1,iP b1] τ Q:=by
 unfold Eo at hf; refine BN 75 [.cell 4 250] [0,1] Tryz.func287 Z Z Z Z Z (W 0 Z (AS Z (AO.aF Z ad4 (fun b4=>?_)))); refine B1 hf fun x1 h1 hf=>U 1 Z (CL Z (W_ _ h1 ?_)); refine B1 hf fun y1 h2 hf=>U 1 Z (CL Z (W_ _ h2 (U 3 Z (AS Z (AO.Qs x1 (4294967296:BitVec 64) Z Z Z Z Z (by decide) ?_))))); refine U 1 Z (AS Z (AO.u64_quo x1 (4294967296:BitVec 64) Z Z Z Z Z (by decide) ?_)); refine U 3 Z (AS Z (AO.Qs y1 (4294967296:BitVec 64) Z Z Z Z Z (by decide) ?_))
 refine U 1 Z (AS Z (AO.u64_quo y1 (4294967296:BitVec 64) Z Z Z Z Z (by decide) ?_)); refine B1 hf fun ET h3 hf=>U 4 Z (AS Z (AO.Eb (x1 % (4294967296:BitVec 64)) (y1 % (4294967296:BitVec 64)) h3 Z Z Z Z Z ?_)); refine B1 hf fun x2 h4 hf=>U 3 Z (AS Z (AO.Eb (x1 / (4294967296:BitVec 64)) (y1 % (4294967296:BitVec 64)) h4 Z Z Z Z Z (U 1 Z (AS Z (AO.u64_quo ET (4294967296:BitVec 64) Z Z Z Z Z (by decide) ?_))))); refine AS Z (AO.Il x2 (ET / (4294967296:BitVec 64)) Z Z Z Z Z ?_)
 refine B1 hf fun x3 h5 hf=>U 3 Z (AS Z (AO.Eb (x1 % (4294967296:BitVec 64)) (y1 / (4294967296:BitVec 64)) h5 Z Z Z Z Z ?_)); refine B1 hf fun x4 h6 hf=>U 1 Z (AS Z (AO.aiw (x2 + (ET / (4294967296:BitVec 64))) (4294967296:BitVec 64) h6 Z Z Z Z Z (by decide) ?_)); refine AS Z (AO.Il x3 x4 Z Z Z Z Z ?_); refine B1 hf fun x5 h7 hf=>U 3 Z (AS Z (AO.Eb (x1 / (4294967296:BitVec 64)) (y1 / (4294967296:BitVec 64)) h7 Z Z Z Z Z ?_)); refine B1 hf fun x6 h8 hf=>U 1 Z (AS Z (AO.aix (x2 + (ET / (4294967296:BitVec 64))) (4294967296:BitVec 64) h8 Z Z Z Z Z (by decide) ?_))
 refine AS Z (AO.Il x5 x6 Z Z Z Z Z (U 1 Z (AS Z (AO.u64_quo (x3 + x4) (4294967296:BitVec 64) Z Z Z Z Z (by decide) ?_)))); refine B1 hf fun x7 h9 hf=>AS Z (AO.Vg (x5 + x6) ((x3 + x4) / (4294967296:BitVec 64)) h9 Z Z Z Z Z (U 1 Z (AS Z (AO.Qs (x3 + x4) (4294967296:BitVec 64) Z Z Z Z Z (by decide) ?_)))); refine B1 hf fun x8 h10 hf=>AS Z (AO.Eb ((x3 + x4) % (4294967296:BitVec 64)) (4294967296:BitVec 64) h10 Z Z Z Z Z (U 1 Z (AS Z (AO.Qs ET (4294967296:BitVec 64) Z Z Z Z Z (by decide) ?_))))
 refine AS Z (AO.Il x8 (ET % (4294967296:BitVec 64)) Z Z Z Z Z (U 1 Z (AS Z (AO.aF Z ad4 (fun b14=>(Rr 5 [0] Z Z (AS Z (AO.RD Z XQ Z Z (U 1 Z (AR.and 9 63 72 [4,14] (x:=(((x7.toNat:Int) != 0) || (((x8 + (ET % (4294967296:BitVec 64))).toNat:Int) != 0))) Z Z (fun h11=>?_) (fun h11=>?_) ?_))))))))))
 ·
  refine Is 63 h11 Z (U 1 Z (GO Z (AO.aY (i:=0) Z Z Z aiD Z Z (U 2 Z (AR.or 4 67 71 [4,14,63] (x:=(((x8 + (ET % (4294967296:BitVec 64))).toNat:Int) != 0)) Z Z (fun h12=>?_) (fun h12=>?_) ?_)))))
  · refine Is 67 h12 Z (U 1 Z (GO Z (AO.aY (i:=0) Z Z Z aiD Z Z ?_))); exact eG 2 Z (En [71,4,14,63] Z)
  · refine Is 67 h12 Z ?_; exact eG 4 Z (En [71,4,14,63] Z)
  exact eG 1 Z (En [72,4,14] Z)
 · refine Is 63 h11 Z ?_; exact eG 9 Z (En [72,4,14] Z)
 cases hf; exact Rx 4 [0,0,1] Z Z (ZC [1] Z Z h)

theorem abr (w1:d9) {r0:Int} {r1:Bool} (hf:Kw w1=some (r0,r1)) (h:Q (.ret (.tuple [iP r0,.bool r1])) τ):PC 288 [.agg (GZ w1)] τ Q:=by
 unfold Kw at hf; refine BN 34 [.tmp 2,.tmp 3] [0] Tryz.func288 Z Z Z Z Z (W 7 Z (On 4 7 11 [1] (decide (9223372036854775808 < (w1.lo.toNat:Int))) Z Z Z Z (U 1 Z (AR.or 9 12 21 [1] (x:=(((w1.lo.toNat:Int) == 9223372036854775808) && (!w1.neg))) Z Z (fun h2=>?_) (fun h2=>?_) ?_))))
 · refine Is 12 h2 Z (U 4 Z (An 4 16 20 [1,12] (!w1.neg) Z Z Z Z ?_)); exact eG 1 Z (En [21,1] Z)
 · refine Is 12 h2 Z ?_; exact eG 9 Z (En [21,1] Z)
 refine J 0 Z (C hf Z (fun h4 hf=>?_) fun h4 hf=>?_)
 · cases hf; exact M 2 Z (Y Z h)
 refine V 3 Z (C hf Z (fun h5 hf=>?_) fun h5 hf=>?_)
 · cases hf; exact M 2 Z (Y Z h)
 refine V 2 Z (C hf Z (fun h6 hf=>?_) fun h6 hf=>?_)
 · refine W 2 Z (AS Z (AO.Hr Z Kl Ib Z ?_)); cases hf; exact N 3 Z (Y Z h)
 refine W 2 Z (AS Z (AO.Hr Z Kl Ib Z ?_)); cases hf; exact N 2 Z (Y Z h)

theorem ahU (a1:Int) (b1:Int) {r0:Int} (hf:QL a1 b1=some r0) (h:Q (.ret (iP r0)) τ):PC 252 [iP a1,iP b1] τ Q:=by
 unfold QL at hf; refine BN 20 [.tmp 4] [0,1] Tryz.func252 Z Z Z Z Z ?_; refine B1 hf fun x1 h1 hf=>W 3 Z (CL Z (Yp _ _ h1 (AS Z (AO.aF Z ad4 (fun b5=>?_))))); obtain ⟨n1,ok1,h2,hf⟩:=aV hf; refine Rr 2 [0,0] Z Z (CL Z (abr _ h2 (J 6 Z (C hf Z (fun h3 hf=>?_) fun h3 hf=>?_))))
 · cases hf; exact M 2 Z (Y Z h)
 refine Ww 2 [0] Z Z (C hf Z (fun h4 hf=>?_) fun h4 hf=>?_)
 · cases hf; exact M 1 Z (Y Z h)
 cases hf; exact M 1 Z (Y Z h)

theorem afi (op1:Str) (a1:Int) (b1:Int) {r0:ah} {r1:Int} (hf:MI op1 a1 b1=some (r0,r1)) (h:Q (.ret (.tuple [.agg (aK r0),iP r1])) τ):PC 199 [.str op1,iP a1,iP b1] τ Q:=by
 unfold MI at hf; refine BN 41 [.cell 6 31,.tmp 7] [0,1,2] Tryz.func199 Z Z Z Z Z (W 0 Z (AS Z (AO.aF Z gq (fun b6=>(J 5 Z (C hf Z (fun h1 hf=>?_) fun h1 hf=>?_))))))
 · replace hf:=(eH _).trans hf; obtain ⟨x1,x2,h2,hf⟩:=aV hf; refine W 6 Z (CL Z (pz _ h2 ?_)); cases hf; exact Rx 4 [0] Z Z (ZC [0] Z Z h)
 refine V 2 Z (C hf Z (fun h3 hf=>?_) fun h3 hf=>?_)
 · replace hf:=(eH _).trans hf; obtain ⟨x3,x4,h4,hf⟩:=aV hf; refine W 6 Z (CL Z (pz _ h4 ?_)); cases hf; exact Rx 4 [0] Z Z (ZC [0] Z Z h)
 refine V 2 Z (C hf Z (fun h5 hf=>?_) fun h5 hf=>?_)
 · refine B1 hf fun n1 h6 hf=>W 2 Z (CL Z (ahU _ _ h6 ?_)); replace hf:=(eH _).trans hf; obtain ⟨x5,x6,h7,hf⟩:=aV hf; refine U 3 Z (CL Z (pz _ h7 ?_)); cases hf; exact Rx 4 [0] Z Z (ZC [0] Z Z h)
 refine V 2 Z (C hf Z (fun h8 hf=>?_) fun h8 hf=>?_)
 · cases hf; exact Wx 3 [0] Z Z (ZC [0] Z Z h)
 refine B1 hf fun _ h9 hf=>W 2 Z (AS Z (AO.apD h9 Z Z Z (J 3 Z (C hf Z (fun h10 hf=>?_) fun h10 hf=>?_))))
 · refine B1 hf fun _ h11 hf=>W 2 Z (AS Z (AO.apB h11 Z Z Z ?_)); replace hf:=(eH _).trans hf; obtain ⟨x7,x8,h12,hf⟩:=aV hf; refine U 3 Z (CL Z (pz _ h12 ?_)); cases hf; exact Rx 4 [0] Z Z (ZC [0] Z Z h)
 replace hf:=(eH _).trans hf; obtain ⟨x9,wS,jJ,hf⟩:=aV hf; refine W 2 Z (CL Z (pz _ jJ ?_)); cases hf; exact Rx 4 [0] Z Z (ZC [0] Z Z h)

theorem abk (op1:Str) (a1:ah) (b1:ah) {r0:ah} {r1:Int} (hf:qh op1 a1 b1=some (r0,r1)) (h:Q (.ret (.tuple [.agg (aK r0),iP r1])) τ):PC 134 [.str op1,.agg (aK a1),.agg (aK b1)] τ Q:=by
 unfold qh at hf; refine BN 124 [.cell 6 31,.tmp 7] [0,1,2] Tryz.func134 Z Z Z Z Z (W 2 Z (AS Z (AO.aF Z gq (fun b6=>(U 4 Z (On 3 12 15 [0,4,5,6] (op1 == ([33,61]:Str)) Z Z Z Z (J 0 Z (C hf Z (fun h2 hf=>?_) fun h2 hf=>?_))))))))
 · refine B1 hf fun x1 h3 hf=>W 2 Z (CL Z (NA _ _ h3 (U 2 Z (AS Z (AO.J_ Z XQ Z Z ?_))))); refine B1 hf fun x2 h4 hf=>CL Z (lH _ h4 ?_); cases hf; exact Rx 2 [0] Z Z (ZC [0] Z Z h)
 refine V 5 Z (C hf Z (fun h5 hf=>?_) fun h5 hf=>?_)
 · cases hf; exact Wx 3 [0] Z Z (ZC [0] Z Z h)
 refine B1 hf fun x3 h6 hf=>W 1 Z (CL Z (Ny _ h6 (U 6 Z (An 2 36 38 [0,4,5,6,8] (x3 == 4) Z Z Z Z (J 1 Z (C hf Z (fun h8 hf=>?_) fun h8 hf=>?_))))))
 · replace hf:=(eH _).trans hf; obtain ⟨x4,x5,h9,hf⟩:=aV hf; refine W 11 Z (CL Z (Rt _ _ _ h9 ?_)); cases hf; exact Rx 4 [0] Z Z (ZC [0] Z Z h)
 refine V 4 Z (C hf Z (fun h10 hf=>?_) fun h10 hf=>?_)
 · replace hf:=(eH _).trans hf; obtain ⟨x6,x7,h11,hf⟩:=aV hf; refine W 5 Z (CL Z (afi _ _ _ h11 ?_)); cases hf; exact Rx 4 [0] Z Z (ZC [0] Z Z h)
 refine W 4 Z (An 2 69 71 [0,4,5,6] (x3 == 4) Z Z Z Z (J 1 Z (C hf Z (fun jJ hf=>?_) fun jJ hf=>?_)))
 · replace hf:=(eH _).trans hf; obtain ⟨x8,x9,j5,hf⟩:=aV hf; refine W 11 Z (CL Z (Rt _ _ _ j5 ?_)); cases hf; exact Rx 4 [0] Z Z (ZC [0] Z Z h)
 refine W 4 Z (An 3 90 93 [0,4,5,6] (op1 == ([43]:Str)) Z Z Z Z (J 1 Z (C hf Z (fun h16 hf=>?_) fun h16 hf=>?_)))
 · refine B1 hf fun wS qB hf=>W 4 Z (AS Z (AO.zF qB Z Z Z ?_)); refine B1 hf fun H8 h18 hf=>CL Z (zm _ h18 ?_); replace hf:=(eH _).trans hf; obtain ⟨LQ,Mg,h19,hf⟩:=aV hf; refine CL Z (pz _ h19 ?_); cases hf; exact Rx 4 [0] Z Z (ZC [0] Z Z h)
 refine W 4 Z (An 3 107 110 [4,5,6] (op1 == ([43]:Str)) Z Z Z Z (J 1 Z (C hf Z (fun h21 hf=>?_) fun h21 hf=>?_)))
 ·
  refine W 4 Z (AR.row 6 31 ?_); refine B1 hf fun l1 h22 hf=>AS Z (AO.fK (i:=0) (l:=[]) (m:=a1.aO) h22 Z Z Z Z Z Z Z qM dX (show ([]:List (List PV))=List.map ah.cells [] from Z) (ah.aB _) (ah.aB _).symm (ah.dD) (ah.cells_one) (by decide) (fun v1 s1 hs1=>?_)); cases hs1; refine B1 hf fun RP h23 hf=>U 4 Z (AS Z (AO.fK (i:=0) (l:=l1) (m:=b1.aO) h23 Z Z Z Z Z Z Z qM dX (ah.aB _) (ah.aB _) (ah.aB _).symm (ah.dD) (ah.cells_one) (by decide) (fun v2 s2 hs2=>?_)))
  cases hs2; replace hf:=(eH _).trans hf; obtain ⟨RO,LP,wT,hf⟩:=aV hf; refine U 1 Z (CL Z (pz _ wT ?_)); cases hf; exact Rx 4 [1] Z Z (ZC [1] Z Z h)
 cases hf; exact Wx 3 [0] Z Z (ZC [0] Z Z h)

theorem afr (v1:ah) (x1:aA) {r0:ah} (hf:MP v1 x1=some r0) (h:Q (.ret (.agg (aK r0))) τ):PC 201 [.agg (aK v1),.agg (DT x1)] τ Q:=by
 unfold MP at hf; refine BN 80 [.cell 4 31] [0,1] Tryz.func201 Z Z Z Z Z (W 2 Z (AS Z (AO.aF Z gq (fun b4=>(U 1 Z (AS Z (AO.aF Z gq (fun b5=>?_))))))))
 refine Rw 3 [0] Z Z (AW.row 6 31 (AW.row 1 9 (LK5 (fun OW i1 bH v2 v3=>[(2,.ref (aK v1)),(3,.ref (DT x1)),(4,pP b4),(5,pP b5),(6,.bool OW),(7,iP i1)]) (fun OW i1 bH v2 v3=>[.row v3 (List.map qC bH.keys).length 1 9,.row v2 (ah.aU bH.aO).length 6 31,.box b5 [iP bH.kind,.bool bH.dO,iP bH.dI,.str bH.bR,.own v2 (ah.aU bH.aO),.own v3 (List.map qC bH.keys)],.box b4 [iP 0,.bool false,iP 0,.str ([]:Str),.own (.slice none 0 0) [],.own (.slice none 0 0) []]]) (fun bT OW i1 bH v2 v3=>xA v1 x1 bT OW i1 bH=some r0) BIG false 0 (ah.mk 5 false 0 ([]:Str) [] []) (.slice none 0 0) (.slice none 0 0) Z Z hf (fun _ _ _ _ _ hz=>bQ hz) ?_)))
 intro bT OW i1 bH v2 v3 hf; rw [xA] at hf; refine W 3 Z (AS Z (AO.aP (l:=v1.keys) Z Z Z Z f_ Z Z (J 1 Z (C hf Z (fun h1 hf=>?_) fun h1 hf=>?_))))
 ·
  refine V 0 Z (AW.draw 13 mixed (by kernel_rfl) Z ?_); refine Ev.cs aG 3 Z ?_; refine B1 hf fun b1 h3 hf=>Ev.dB hKA 10 18 28 true [2,3,4,5,6,7] (.bool b1) Z Z (fun h2=>?_) (fun h2=>?_) ?_
  · replace h3:=cO h2 h3; refine Ev.is uq 18 h2 Z (Ev.cs aG 5 Z ?_); refine B1 h3 fun e1 h4 h3=>Ev.run Z Z Z Z Z Z Z (AO.aI h4 Z Z Z Z f_ Z Z zg) (Ev.cs aG 1 Z ?_); refine B1 h3 fun x2 h5 h3=>Ev.run Z Z Z Z Z Z Z (AO.call Z _ Z Z aeE (Jm _ _ h5 zg)) (Ev.cs aG 1 Z ?_); cases h3; refine Ev.cs aG 1 Z ?_; exact Ev.nil (Less.settle (ps:=[28,2,3,4,5,6,7]) Z)
  · replace h3:=cZ h2 h3; refine Ev.is uq 18 h2 Z ?_; cases h3; refine Ev.cs aG 10 Z ?_; exact Ev.nil (Less.settle (ps:=[28,2,3,4,5,6,7]) Z)
  refine Ev.nil ?_; show AR _ _ _ _ _ _ _ _
  refine J 0 Z (C hf Z (fun h6 hf=>?_) fun h6 hf=>?_)
  ·
   refine Wr 4 [2] Z Z (AS Z (AO.aS (List.map qC ([x1.name]:List Str)) Z u6 Z Z Z Z ?_)); refine B1 hf fun x3 h7 hf=>AS Z (AO.fK (i:=0) (l:=bH.keys) (m:=([x1.name]:List Str)) h7 Z Z Z Z Z Z Z u6 f_ Z Z Z (fun _=>Z) (fun _=>Z) (by decide) (fun v4 s1 hs1=>?_)); cases hs1; refine Rr 6 [2,2] rfl rfl (AS rfl (AO.aS (ah.aU [x1.value]) rfl qM rfl rfl rfl (by first | rfl | simp only [List.map,ah.aD,ah.aU]) ?_)); refine B1 hf fun x4 h8 hf=>?_
   refine AS Z (AO.fK (i:=1) (l:=bH.aO) (m:=[x1.value]) h8 Z Z Z Z Z Z Z qM dX (ah.aB _) (ah.aB _) (ah.aB _).symm (ah.dD) (ah.cells_one) (by decide) (fun v5 s2 hs2=>?_)); cases hs2; refine Rw 3 [2] Z Z (AW.draw 8 mixed (by kernel_rfl) Z ?_); refine Ev.cs aG 1 Z (Ev.cons Z Z Z (AO.aY (i:=2) Z Z Z afR Z Z zg) (Ev.cs aG 3 Z ?_)); refine B1 hf fun e2 h9 hf=>Ev.cons Z Z Z (AO.aI h9 Z Z Z Z f_ Z Z zg) (Ev.cs aG 1 Z (Ev.cons Z Z Z (AO.aS (List.map qC ([e2]:List Str)) Z u6 Z Z Z Z zg) (Ev.nil ?_)))
   show AR _ _ _ _ _ _ _ _
   refine B1 hf fun x5 h10 hf=>AS Z (AO.fK (i:=0) (l:=x3) (m:=([e2]:List Str)) h10 Z Z Z Z Z Z Z u6 f_ Z Z Z (fun _=>Z) (fun _=>Z) (by decide) (fun v6 s3 hs3=>?_)); cases hs3; refine Rw 2 [2] Z Z (AW.draw 8 mixed (by kernel_rfl) Z ?_); refine Ev.cs aG 1 Z (Ev.cons Z Z Z (AO.aY (i:=2) Z Z Z Jy Z Z zg) (Ev.cs aG 3 Z ?_)); refine B1 hf fun e3 h11 hf=>Ev.cons rfl rfl rfl (AO.aI h11 rfl rfl (ah.aB _) rfl dX (ah.aD _) rfl ⟨rfl,rfl⟩) (Ev.cs aG 1 rfl (Ev.cons rfl rfl rfl (AO.aS (ah.aU [e3]) rfl qM rfl rfl rfl (by first | rfl | simp only [List.map,ah.aD,ah.aU]) ⟨rfl,rfl⟩) ?_))
   refine Ev.nil ?_; show AR _ _ _ _ _ _ _ _
   refine B1 hf fun x6 h12 hf=>AS Z (AO.fK (i:=1) (l:=x4) (m:=[e3]) h12 Z Z Z Z Z Z Z qM dX (ah.aB _) (ah.aB _) (ah.aB _).symm (ah.dD) (ah.cells_one) (by decide) (fun v7 s4 hs4=>?_)); cases hs4; exact Rx 5 [2] Z Z ⟨true,(bZ (i1 + 1)),(ah.mk bH.kind bH.dO bH.dI bH.bR x6 x5),v7,v6,Z,Z,Z,hf⟩
  refine V 0 Z (AW.draw 8 mixed (by kernel_rfl) Z ?_); refine Ev.cs aG 1 Z (Ev.cons Z Z Z (AO.aY (i:=2) Z Z Z afR Z Z zg) (Ev.cs aG 3 Z ?_)); refine B1 hf fun e4 jJ hf=>Ev.cons Z Z Z (AO.aI jJ Z Z Z Z f_ Z Z zg) (Ev.cs aG 1 Z (Ev.cons Z Z Z (AO.aS (List.map qC ([e4]:List Str)) Z u6 Z Z Z Z zg) (Ev.nil ?_))); show AR _ _ _ _ _ _ _ _
  refine B1 hf fun x7 j5 hf=>AS Z (AO.fK (i:=0) (l:=bH.keys) (m:=([e4]:List Str)) j5 Z Z Z Z Z Z Z u6 f_ Z Z Z (fun _=>Z) (fun _=>Z) (by decide) (fun v8 s5 hs5=>?_)); cases hs5; refine Rw 2 [2] Z Z (AW.draw 8 mixed (by kernel_rfl) Z ?_); refine Ev.cs aG 1 Z (Ev.cons Z Z Z (AO.aY (i:=2) Z Z Z Jy Z Z zg) (Ev.cs aG 3 Z ?_)); refine B1 hf fun e5 mo hf=>Ev.cons rfl rfl rfl (AO.aI mo rfl rfl (ah.aB _) rfl dX (ah.aD _) rfl ⟨rfl,rfl⟩) (Ev.cs aG 1 rfl (Ev.cons rfl rfl rfl (AO.aS (ah.aU [e5]) rfl qM rfl rfl rfl (by first | rfl | simp only [List.map,ah.aD,ah.aU]) ⟨rfl,rfl⟩) ?_))
  refine Ev.nil ?_; show AR _ _ _ _ _ _ _ _
  refine B1 hf fun x8 h16 hf=>AS Z (AO.fK (i:=1) (l:=bH.aO) (m:=[e5]) h16 Z Z Z Z Z Z Z qM dX (ah.aB _) (ah.aB _) (ah.aB _).symm (ah.dD) (ah.cells_one) (by decide) (fun v9 s6 hs6=>?_)); cases hs6; exact Rx 5 [2] Z Z ⟨OW,(bZ (i1 + 1)),(ah.mk bH.kind bH.dO bH.dI bH.bR x8 x7),v9,v8,Z,Z,Z,hf⟩
 refine V 2 Z (C hf Z (fun qB hf=>?_) fun qB hf=>?_)
 ·
  refine Wr 4 [2] Z Z (AS Z (AO.aS (List.map qC ([x1.name]:List Str)) Z u6 Z Z Z Z ?_)); refine B1 hf fun x9 h18 hf=>AS Z (AO.fK (i:=0) (l:=bH.keys) (m:=([x1.name]:List Str)) h18 Z Z Z Z Z Z Z u6 f_ Z Z Z (fun _=>Z) (fun _=>Z) (by decide) (fun v10 s7 hs7=>?_)); cases hs7; refine Rr 6 [2,2] rfl rfl (AS rfl (AO.aS (ah.aU [x1.value]) rfl qM rfl rfl rfl (by first | rfl | simp only [List.map,ah.aD,ah.aU]) ?_)); refine B1 hf fun wS h19 hf=>?_
  refine AS Z (AO.fK (i:=1) (l:=bH.aO) (m:=[x1.value]) h19 Z Z Z Z Z Z Z qM dX (ah.aB _) (ah.aB _) (ah.aB _).symm (ah.dD) (ah.cells_one) (by decide) (fun v11 s8 hs8=>?_)); cases hs8; cases hf; exact Rx 4 [2,2,3] Z Z (ZC [3] Z Z h)
 cases hf; exact Wx 2 [2,3] Z Z (ZC [3] Z Z h)

theorem ahT (bG:List aA) {r0:ah} {r1:Int} (hf:Oc bG=some (r0,r1)) (h:Q (.ret (.tuple [.agg (aK r0),iP r1])) τ):PC 136 [.list (List.map aA.cells bG)] τ Q:=by
 unfold Oc at hf; refine BN 65 [.cell 2 31,.tmp 3] [0] Tryz.func136 Z Z Z Z Z (W 0 Z (AS Z (AO.aF Z gq (fun b2=>(U 2 Z (AS Z (AO.aP (l:=bG) Z Z Z Z jN Z Z (J 1 Z (C hf Z (fun h1 hf=>?_) fun h1 hf=>?_)))))))))
 · cases hf; exact Wx 3 [0] Z Z (ZC [0] Z Z h)
 refine W 1 Z (AS Z (AO.aF Z gq (fun b4=>?_))); refine Rw 2 [0] Z Z (AW.settle [0,2,4,5] Z (AW.YI 0 Z (Xy (fun i1 v1=>[(0,.list (List.map aA.cells bG)),(2,pP b2),(4,pP b4),(5,iP i1)]) (fun i1 v1=>[.box b4 (aK v1),.box b2 [iP 0,.bool false,iP 0,.str ([]:Str),.own (.slice none 0 0) [],.own (.slice none 0 0) []]]) (fun bT i1 v1=>Dg bG bT i1 v1=some (r0,r1)) BIG 0 (ah.mk 5 false 0 ([]:Str) [] []) Z Z hf (fun _ _ hz=>bQ hz) ?_))); intro bT i1 v1 hf; rw [Dg] at hf
 refine W 2 Z (AS Z (AO.aP (l:=bG) Z Z Z Z jN Z Z (J 1 Z (C hf Z (fun h2 hf=>?_) fun h2 hf=>?_))))
 ·
  refine B1 hf fun e1 h3 hf=>W 2 Z (AS Z (AO.aI h3 Z Z Z Z jN (aA.aD _) Z ?_)); refine B1 hf fun x1 h4 hf=>U 2 Z (CL Z (ZH _ h4 (J 1 Z (C hf Z (fun h5 hf=>?_) fun h5 hf=>?_))))
  · cases hf; exact Wx 3 [1] Z Z (ZC [1] Z Z h)
  refine B1 hf fun e2 h6 hf=>W 2 Z (AS Z (AO.aI h6 Z Z Z Z jN (aA.aD _) Z ?_)); refine B1 hf fun e3 h7 hf=>U 2 Z (CL Z (EI _ h7 (J 3 Z (C hf Z (fun h8 hf=>?_) fun h8 hf=>?_))))
  · cases hf; exact Wx 4 [1] Z Z (ZC [1] Z Z h)
  refine B1 hf fun e4 h9 hf=>W 2 Z (AS Z (AO.aI h9 Z Z Z Z jN (aA.aD _) Z ?_)); refine B1 hf fun x2 h10 hf=>U 2 Z (CL Z (Ru _ h10 (J 1 Z (C hf Z (fun h11 hf=>?_) fun h11 hf=>?_))))
  · cases hf; exact Wx 3 [1] Z Z (ZC [1] Z Z h)
  refine V 0 Z (AW.WC 0 10 12 [_,_] [] mixed (by kernel_rfl) (by kernel_rfl) (by kernel_rfl) Z Z Z (List.Perm.refl _) ?_); refine Ev.nil ?_; show Ev _ _ _ _ _ _ _
  refine Ev.cons Z Z Z (AO.aY (i:=0) Z Z Z dF Z Z zg) (Ev.cs aG 2 Z ?_); refine B1 hf fun e5 h12 hf=>Ev.cons Z Z Z (AO.aI h12 Z Z Z Z jN (aA.aD _) Z zg) (Ev.cs aG 2 Z ?_); obtain ⟨x3,ok1,jJ,hf⟩:=aV hf; refine Ev.cons Z Z Z (AO.call Z _ Z Z anZ (SK _ _ jJ zg)) (Ev.cs aG 3 Z (Ev.nil (TF.step Z Z Z (AO.aF Z gq (fun b7=>?_))))); refine TF.dh Z Z (AO.dW (i:=0) Z Z Z dF Z Z Z Z Z (TF.nil ?_))
  show AR _ _ _ _ _ _ _ _
  refine J 2 Z (C hf Z (fun j5 hf=>?_) fun j5 hf=>?_)
  · cases hf; exact Wx 3 [1] Z Z (ZC [1] Z Z h)
  refine V 0 Z (AW.draw 6 mixed (by kernel_rfl) Z ?_); refine Ev.cons Z Z Z (AO.aY (i:=0) Z Z Z dF Z Z zg) (Ev.cs aG 2 Z ?_); refine B1 hf fun e6 mo hf=>Ev.cons Z Z Z (AO.aI mo Z Z Z Z jN (aA.aD _) Z zg) (Ev.cs aG 1 Z ?_); refine B1 hf fun x4 h16 hf=>Ev.cons Z Z Z (AO.call Z _ Z Z anY (afr _ _ h16 zg)) (Ev.nil ?_); show AR _ _ _ _ _ _ _ _
  refine Rn 4 [0] Z Z (AR.akd 2 Z ?_); exact N 0 Z ⟨(bZ (i1 + 1)),x4,Z,Z,Z,hf⟩
 cases hf; exact Wx 3 [0,1] Z Z (ZC [1] Z Z h)

theorem afg (e1:aj) (l1:List ah) {r0:ah} {r1:Int} (hf:JE e1 l1=some (r0,r1)) (h:Q (.ret (.tuple [.agg (aK r0),iP r1])) τ):PC 80 [.agg (bA e1),.list (ah.aU l1)] τ Q:=by
 unfold JE at hf; refine BN 134 [.cell 4 31,.tmp 5] [0,1] Tryz.func80 Z Z Z Z Z (W 1 Z (AS Z (AO.aF Z gq (fun b4=>(J 5 Z (C hf Z (fun h1 hf=>?_) fun h1 hf=>?_))))))
 ·
  refine V 0 Z (AW.draw 9 mixed (by kernel_rfl) Z ?_); refine Ev.cs aG 1 Z ?_; refine B1 hf fun e2 h2 hf=>Ev.cons Z Z Z (AO.aI h2 Z Z (ah.aB _) Z dX (ah.aD _) Z zg) (Ev.cs aG 3 Z ?_); refine B1 hf fun x1 h3 hf=>Ev.cons Z Z Z (AO.call Z _ Z Z ajp (zm _ h3 zg)) ?_; replace hf:=(eH _).trans hf; obtain ⟨x2,x3,h4,hf⟩:=aV hf; refine Ev.cons Z Z Z (AO.call Z _ Z Z ajq (TI _ _ h4 zg)) (Ev.cs aG 2 Z (Ev.nil ?_)); show AR _ _ _ _ _ _ _ _
  cases hf; exact Rx 2 [0] Z Z (ZC [0] Z Z h)
 refine V 2 Z (C hf Z (fun h5 hf=>?_) fun h5 hf=>?_)
 ·
  refine V 0 Z (AW.draw 9 mixed (by kernel_rfl) Z ?_); refine Ev.cs aG 1 Z ?_; refine B1 hf fun e3 h6 hf=>Ev.cons Z Z Z (AO.aI h6 Z Z (ah.aB _) Z dX (ah.aD _) Z zg) (Ev.cs aG 2 Z ?_); refine B1 hf fun e4 h7 hf=>Ev.cons Z Z Z (AO.aI h7 Z Z (ah.aB _) Z dX (ah.aD _) Z zg) (Ev.cs aG 1 Z ?_); replace hf:=(eH _).trans hf; obtain ⟨x4,x5,h8,hf⟩:=aV hf
  refine Ev.cons Z Z Z (AO.call Z _ Z Z ajq (TI _ _ h8 zg)) (Ev.cs aG 2 Z (Ev.nil ?_)); show AR _ _ _ _ _ _ _ _
  cases hf; exact Rx 2 [0] Z Z (ZC [0] Z Z h)
 refine V 2 Z (C hf Z (fun h9 hf=>?_) fun h9 hf=>?_)
 ·
  refine W 1 Z (AS Z (AO.aP (l:=l1) Z Z Z Z dX Z (ah.aB _) (J 1 Z (C hf Z (fun h10 hf=>?_) fun h10 hf=>?_))))
  ·
   refine V 0 Z (AW.draw 8 mixed (by kernel_rfl) Z ?_); refine Ev.cs aG 3 Z ?_; refine B1 hf fun e5 h11 hf=>Ev.cons Z Z Z (AO.aI h11 Z Z (ah.aB _) Z dX (ah.aD _) Z zg) (Ev.cs aG 1 Z ?_); replace hf:=(eH _).trans hf; obtain ⟨x6,x7,h12,hf⟩:=aV hf; refine Ev.cons Z Z Z (AO.call Z _ Z Z aoa (ahQ _ _ h12 zg)) (Ev.cs aG 2 Z (Ev.nil ?_)); show AR _ _ _ _ _ _ _ _
   cases hf; exact Rx 2 [0] Z Z (ZC [0] Z Z h)
  refine V 0 Z (AW.draw 11 mixed (by kernel_rfl) Z ?_); refine Ev.cs aG 3 Z ?_; refine B1 hf fun e6 jJ hf=>Ev.cons Z Z Z (AO.aI jJ Z Z (ah.aB _) Z dX (ah.aD _) Z zg) (Ev.cs aG 2 Z ?_); refine B1 hf fun e7 j5 hf=>Ev.cons Z Z Z (AO.aI j5 Z Z (ah.aB _) Z dX (ah.aD _) Z zg) (Ev.cs aG 1 Z ?_); replace hf:=(eH _).trans hf; obtain ⟨x8,x9,mo,hf⟩:=aV hf
  refine Ev.cons Z Z Z (AO.call Z _ Z Z an_ (ahP _ _ _ mo zg)) (Ev.cs aG 2 Z (Ev.nil ?_)); show AR _ _ _ _ _ _ _ _
  cases hf; exact Rx 2 [0] Z Z (ZC [0] Z Z h)
 refine V 2 Z (C hf Z (fun h16 hf=>?_) fun h16 hf=>?_)
 ·
  refine B1 hf fun b1 h18 hf=>W 4 Z (AR.dB 6 61 67 true [1,2,4] b1 Z Z (fun qB=>?_) (fun qB=>?_) ?_)
  · refine IT 61 qB h18 Z fun h18=>?_; refine B1 h18 fun e8 h19 h18=>U 1 Z (GO Z (AO.aI h19 Z Z (ah.aB _) Z dX (ah.aD _) Z ?_)); cases h18; exact eG 4 Z (En [67,1,2,4] Z)
  · refine IF 61 qB h18 Z fun h18=>?_; cases h18; exact eG 6 Z (En [67,1,2,4] Z)
  refine J 0 Z (C hf Z (fun h20 hf=>?_) fun h20 hf=>?_)
  · refine B1 hf fun e9 h21 hf=>W 1 Z (AS Z (AO.aI h21 Z Z (ah.aB _) Z dX (ah.aD _) Z ?_)); refine B1 hf fun wS h22 hf=>U 3 Z (CL Z (lH _ h22 ?_)); cases hf; exact Rx 2 [0] Z Z (ZC [0] Z Z h)
  refine B1 hf fun b2 wT hf=>W 4 Z (AR.dB 6 77 83 true [1,4] b2 Z Z (fun h23=>?_) (fun h23=>?_) ?_)
  · refine IT 77 h23 wT Z fun wT=>?_; refine B1 wT fun e10 Cv wT=>U 1 Z (GO Z (AO.aI Cv Z Z (ah.aB _) Z dX (ah.aD _) Z ?_)); cases wT; exact eG 4 Z (En [83,1,4] Z)
  · refine IF 77 h23 wT Z fun wT=>?_; cases wT; exact eG 6 Z (En [83,1,4] Z)
  refine J 0 Z (C hf Z (fun Ic hf=>?_) fun Ic hf=>?_)
  · refine B1 hf fun e11 h27 hf=>W 1 Z (AS Z (AO.aI h27 Z Z (ah.aB _) Z dX (ah.aD _) Z ?_)); cases hf; exact Rx 6 [0] Z Z (ZC [0] Z Z h)
  cases hf; exact Wx 3 [0] Z Z (ZC [0] Z Z h)
 refine V 2 Z (C hf Z (fun RQ hf=>?_) fun RQ hf=>?_)
 ·
  refine V 0 Z (AW.draw 11 mixed (by kernel_rfl) Z ?_); refine Ev.cs aG 3 Z ?_; refine B1 hf fun e12 Na hf=>Ev.cons Z Z Z (AO.aI Na Z Z (ah.aB _) Z dX (ah.aD _) Z zg) (Ev.cs aG 2 Z ?_); refine B1 hf fun e13 LY hf=>Ev.cons Z Z Z (AO.aI LY Z Z (ah.aB _) Z dX (ah.aD _) Z zg) (Ev.cs aG 1 Z ?_); replace hf:=(eH _).trans hf; obtain ⟨H8,LQ,h31,hf⟩:=aV hf
  refine Ev.cons Z Z Z (AO.call Z _ Z Z an9 (abk _ _ _ h31 zg)) (Ev.cs aG 2 Z (Ev.nil ?_)); show AR _ _ _ _ _ _ _ _
  cases hf; exact Rx 2 [0] Z Z (ZC [0] Z Z h)
 refine V 2 Z (C hf Z (fun h32 hf=>?_) fun h32 hf=>?_)
 · replace hf:=(eH _).trans hf; obtain ⟨Mg,RP,Js,hf⟩:=aV hf; refine W 2 Z (CL Z (pz _ Js ?_)); cases hf; exact Rx 4 [0] Z Z (ZC [0] Z Z h)
 refine V 2 Z (AW.row 7 51 (ZU (fun bG v1 i1=>[(1,.list (ah.aU l1)),(2,.ref (bA e1)),(4,pP b4),(6,.own v1 (List.map aA.cells bG)),(7,iP i1)]) (fun bG v1 i1=>[.row v1 (List.map aA.cells bG).length 7 51,.box b4 [iP 0,.bool false,iP 0,.str ([]:Str),.own (.slice none 0 0) [],.own (.slice none 0 0) []]]) (fun bT bG v1 i1=>Ay e1 l1 bT bG i1=some (r0,r1)) BIG [] (.slice none 0 0) 0 Z Z hf (fun _ _ _ hz=>bQ hz) ?_)); intro bT bG v1 i1 hf; rw [Ay] at hf
 refine W 2 Z (AS Z (AO.aP (l:=l1) Z Z Z Z dX Z (ah.aB _) (J 1 Z (C hf Z (fun XE hf=>?_) fun XE hf=>?_))))
 ·
  refine V 0 Z (AW.draw 12 mixed (by kernel_rfl) Z ?_); refine Ev.cs aG 4 Z ?_; refine B1 hf fun e14 PK hf=>Ev.cons Z Z Z (AO.aI PK Z Z Z Z f_ Z Z zg) (Ev.cs aG 3 Z ?_); refine B1 hf fun e15 QZ hf=>Ev.cons rfl rfl rfl (AO.aI QZ rfl rfl (ah.aB _) rfl dX (ah.aD _) rfl ⟨rfl,rfl⟩) (Ev.cs aG 1 rfl (Ev.cons rfl rfl rfl (AO.build rfl OH aeo rfl ⟨rfl,rfl⟩) (Ev.cons rfl rfl rfl (AO.aS (List.map aA.cells [(aA.mk e14 e15)]) rfl zK rfl rfl rfl (by first | rfl | simp only [List.map,aA.aD]) ⟨rfl,rfl⟩) ?_)))
  refine Ev.nil ?_; show AR _ _ _ _ _ _ _ _
  refine B1 hf fun Gl h37 hf=>AS Z (AO.fK (i:=0) (l:=bG) (m:=[(aA.mk e14 e15)]) h37 Z Z Z Z Z Z Z zK jN Z Z Z (aA.dD) (aA.cells_one) (by decide) (fun v2 s1 hs1=>?_)); cases hs1; exact N 4 Z ⟨Gl,v2,(bZ (i1 + 1)),Z,Z,Z,hf⟩
 replace hf:=(eH _).trans hf; obtain ⟨RO,LP,UO,hf⟩:=aV hf; refine W 1 Z (CL Z (ahT _ UO ?_)); cases hf; exact Rx 4 [1] Z Z (ZC [1] Z Z h)


abbrev Lf (gV:aj→List aA→Option (ah × Int)):Prop:=∀ (iY:aj) (eU:List aA) {aR:ah} {iW:Int},gV iY eU=some (aR,iW)→∀ {τ:List bJ} {Q:eT→List bJ→Prop} (h:Q (.ret (.tuple [.agg (aK aR),iP iW])) τ),PC 54 [.agg (bA iY),.list (List.map aA.cells eU)] τ Q
abbrev FN (jE:aj→List aA→Option (ah × Int)):Prop:=∀ (iY:aj) (eU:List aA) {aR:ah} {iW:Int},jE iY eU=some (aR,iW)→∀ {τ:List bJ} {Q:eT→List bJ→Prop} (h:Q (.ret (.tuple [.agg (aK aR),iP iW])) τ),PC 78 [.agg (bA iY),.list (List.map aA.cells eU)] τ Q
abbrev DZ (jg:aj→List aA→Option (ah × Int)):Prop:=∀ (iY:aj) (eU:List aA) {aR:ah} {iW:Int},jg iY eU=some (aR,iW)→∀ {τ:List bJ} {Q:eT→List bJ→Prop} (h:Q (.ret (.tuple [.agg (aK aR),iP iW])) τ),PC 129 [.agg (bA iY),.list (List.map aA.cells eU)] τ Q
theorem aeb (gV) (ze:Lf gV) (jE) (Ce:FN jE) (jg) (Ac:DZ jg) (e1:aj) (cB:List aA) {r0:ah} {r1:Int} (hf:Kt gV jE jg e1 cB=some (r0,r1)) (h:Q (.ret (.tuple [.agg (aK r0),iP r1])) τ):PC 54 [.agg (bA e1),.list (List.map aA.cells cB)] τ Q:=by
 unfold Kt at hf; refine BN 118 [.cell 4 31,.tmp 5] [0,1] Tryz.func54 Z Z Z Z Z (W 1 Z (AS Z (AO.aF Z gq (fun b4=>?_)))); refine Rv0 1 Z (CU ([(1,.list (List.map aA.cells cB)),(2,.ref (bA e1)),(4,pP b4)]) ([.box b4 [iP 0,.bool false,iP 0,.str ([]:Str),.own (.slice none 0 0) [],.own (.slice none 0 0) []]]) (Eh gV e1 cB=some (r0,r1)) ?_ ?_)
 ·
  refine V 4 Z (C hf Z (fun h1 hf=>?_) fun h1 hf=>?_)
  · cases hf; exact Wx 4 [0] Z Z (ZC [0] Z Z h)
  refine V 4 Z (C hf Z (fun h2 hf=>?_) fun h2 hf=>?_)
  ·
   refine V 1 Z (Gh (fun i1=>[(1,.list (List.map aA.cells cB)),(2,.ref (bA e1)),(4,pP b4),(6,iP i1)]) (fun i1=>[.box b4 [iP 0,.bool false,iP 0,.str ([]:Str),.own (.slice none 0 0) [],.own (.slice none 0 0) []]]) (fun bT i1=>AA e1 cB bT i1=some (r0,r1)) BIG 0 Z Z hf (fun _ hz=>bQ hz) ?_); intro bT i1 hf; rw [AA] at hf; refine W 2 Z (AS Z (AO.aP (l:=cB) Z Z Z Z jN Z Z (J 1 Z (C hf Z (fun h3 hf=>?_) fun h3 hf=>?_))))
   ·
    refine V 0 Z (AW.draw 8 mixed (by kernel_rfl) Z ?_); refine Ev.cs aG 2 Z ?_; refine B1 hf fun e2 h4 hf=>Ev.cons Z Z Z (AO.aI h4 Z Z Z Z jN (aA.aD _) Z zg) (Ev.cs aG 5 Z (Ev.nil ?_)); show AR _ _ _ _ _ _ _ _
    refine J 0 Z (C hf Z (fun h5 hf=>?_) fun h5 hf=>?_)
    · refine B1 hf fun e3 h6 hf=>W 2 Z (AS Z (AO.aI h6 Z Z Z Z jN (aA.aD _) Z ?_)); cases hf; exact Rx 4 [0] Z Z (ZC [0] Z Z h)
    exact M 3 Z ⟨(bZ (i1 + 1)),Z,Z,Z,hf⟩
   cases hf; exact Wx 3 [0] Z Z (ZC [0] Z Z h)
  refine V 4 Z (C hf Z (fun h7 hf=>?_) fun h7 hf=>?_)
  ·
   refine V 0 Z (AW.cond Z (fun h8=>?_) (fun h8=>?_))
   · replace hf:=(eH _).trans hf; obtain ⟨x1,x2,h9,hf⟩:=aV hf; refine W 2 Z (CL Z (Ce _ _ h9 ?_)); cases hf; exact Rx 4 [0] Z Z (ZC [0] Z Z h)
   cases h7.symm.trans h8
  refine W 4 Z (AR.and 9 48 57 [1,2,4,41] (x:=((e1.name == ([38,38]:Str)) || (e1.name == ([124,124]:Str)))) Z Z (fun h10=>?_) (fun h10=>?_) ?_)
  · refine Is 48 h10 Z (U 4 Z (On 4 52 56 [1,2,4,41,48] (e1.name == ([124,124]:Str)) Z Z Z Z ?_)); exact eG 1 Z (En [57,1,2,4,41] Z)
  · refine Is 48 h10 Z ?_; exact eG 9 Z (En [57,1,2,4,41] Z)
  refine J 1 Z (C hf Z (fun h12 hf=>?_) fun h12 hf=>?_)
  · replace hf:=(eH _).trans hf; obtain ⟨x3,x4,jJ,hf⟩:=aV hf; refine W 2 Z (CL Z (Ce _ _ jJ ?_)); cases hf; exact Rx 4 [0] Z Z (ZC [0] Z Z h)
  refine B1 hf fun b1 mo hf=>W 4 Z (AR.dB 5 67 72 true [1,2,4] b1 Z Z (fun j5=>?_) (fun j5=>?_) ?_)
  · refine IT 67 j5 mo Z fun mo=>?_; refine B1 mo fun x5 h16 mo=>U 2 Z (GO Z (AO.call Z _ Z Z af9 (K6 _ h16 ?_))); cases mo; exact eG 2 Z (En [72,1,2,4] Z)
  · refine IF 67 j5 mo Z fun mo=>?_; cases mo; exact eG 5 Z (En [72,1,2,4] Z)
  refine J 1 Z (C hf Z (fun qB hf=>?_) fun qB hf=>?_)
  · cases hf; exact Wx 3 [0] Z Z (ZC [0] Z Z h)
  refine V 0 Z (AW.draw 13 mixed (by kernel_rfl) Z ?_); refine Ev.cs aG 4 Z ?_; refine B1 hf fun b2 h19 hf=>Ev.dB hKA 8 78 86 true [1,2,4] (.bool b2) Z Z (fun h18=>?_) (fun h18=>?_) ?_
  · replace h19:=cO h18 h19; refine Ev.is uq 78 h18 Z (Ev.cs aG 2 Z ?_); refine B1 h19 fun x6 h20 h19=>Ev.run Z Z Z Z Z Z Z (AO.call Z _ Z Z af9 (K6 _ h20 zg)) (Ev.cs aG 2 Z (Ev.run Z Z Z Z Z Z Z (AO.aP (l:=e1.args) Z Z Z Z iT Z (aj.aB _) zg) (Ev.cs aG 1 Z ?_))); cases h19; refine Ev.cs aG 1 Z ?_; exact Ev.nil (Less.settle (ps:=[86,1,2,4]) Z)
  · replace h19:=cZ h18 h19; refine Ev.is uq 78 h18 Z ?_; cases h19; refine Ev.cs aG 8 Z ?_; exact Ev.nil (Less.settle (ps:=[86,1,2,4]) Z)
  refine Ev.cs aG 1 Z (Ev.nil ?_); show AR _ _ _ _ _ _ _ _
  refine J 0 Z (C hf Z (fun h21 hf=>?_) fun h21 hf=>?_)
  · cases hf; exact Wx 3 [0] Z Z (ZC [0] Z Z h)
  exact M 0 Z ⟨Z,Z,Z,hf⟩
 intro  hf; unfold Eh at hf; refine Xw0 2 Z (AW.row 6 31 (ZU (fun l1 v1 i2=>[(1,.list (List.map aA.cells cB)),(2,.ref (bA e1)),(4,pP b4),(7,.own v1 (ah.aU l1)),(8,iP i2)]) (fun l1 v1 i2=>[.row v1 (ah.aU l1).length 6 31,.box b4 [iP 0,.bool false,iP 0,.str ([]:Str),.own (.slice none 0 0) [],.own (.slice none 0 0) []]]) (fun KQ l1 v1 i2=>Ef gV e1 cB KQ l1 i2=some (r0,r1)) BIG [] (.slice none 0 0) 0 Z Z hf (fun _ _ _ hz=>bQ hz) ?_)); intro KQ l1 v1 i2 hf; rw [Ef] at hf
 refine W 3 Z (AS Z (AO.aP (l:=e1.args) Z Z Z Z iT Z (aj.aB _) (J 1 Z (C hf Z (fun h22 hf=>?_) fun h22 hf=>?_))))
 ·
  refine B1 hf fun e4 h23 hf=>W 3 Z (AS Z (AO.aI h23 Z Z (aj.aB _) Z iT (aj.aD _) Z ?_)); obtain ⟨x7,f1,wT,hf⟩:=aV hf; refine U 2 Z (CL Z (ze _ _ wT (U 3 Z (AS Z (AO.aF Z gq (fun b9=>(Rw 4 [0] Z Z (C hf Z (fun Cv hf=>?_) fun Cv hf=>?_))))))))
  · cases hf; exact Wx 4 [2] Z Z (ZC [2] Z Z h)
  refine Wr 2 [0] rfl rfl (AS rfl (AO.aS (ah.aU [x7]) rfl qM rfl rfl rfl (by first | rfl | simp only [List.map,ah.aD,ah.aU]) ?_)); refine B1 hf fun l2 Ic hf=>AS Z (AO.fK (i:=1) (l:=l1) (m:=[x7]) Ic Z Z Z Z Z Z Z qM dX (ah.aB _) (ah.aB _) (ah.aB _).symm (ah.dD) (ah.cells_one) (by decide) (fun v2 s1 hs1=>?_)); cases hs1; refine eG 4 Z (AR.drop1 ?_); exact N 0 Z ⟨l2,v2,(bZ (i2 + 1)),Z,Z,Z,hf⟩
 replace hf:=(eH _).trans hf; obtain ⟨x8,x9,h27,hf⟩:=aV hf; refine W 2 Z (CL Z (afg _ _ h27 ?_)); cases hf; exact Rx 4 [1] Z Z (ZC [1] Z Z h)
theorem Z8 (gV) (ze:Lf gV) (jE) (Ce:FN jE) (jg) (Ac:DZ jg) (e1:aj) (cB:List aA) {r0:ah} {r1:Int} (hf:yI gV jE jg e1 cB=some (r0,r1)) (h:Q (.ret (.tuple [.agg (aK r0),iP r1])) τ):PC 78 [.agg (bA e1),.list (List.map aA.cells cB)] τ Q:=by
 unfold yI at hf; refine BN 57 [.cell 4 31,.tmp 5] [0,1] Tryz.func78 Z Z Z Z Z (W 1 Z (AS Z (AO.aF Z gq (fun b4=>?_)))); refine B1 hf fun e2 h1 hf=>U 3 Z (AS Z (AO.aI h1 Z Z (aj.aB _) Z iT (aj.aD _) Z ?_)); obtain ⟨x1,f1,h2,hf⟩:=aV hf; refine U 2 Z (CL Z (Ac _ _ h2 (U 3 Z (AS Z (AO.aF Z gq (fun b6=>(Rw 4 [0] Z Z (C hf Z (fun h3 hf=>?_) fun h3 hf=>?_))))))))
 · cases hf; exact Wx 4 [1] Z Z (ZC [1] Z Z h)
 refine V 3 Z (C hf Z (fun h4 hf=>?_) fun h4 hf=>?_)
 ·
  refine Ww 2 [0] Z Z (C hf Z (fun h5 hf=>?_) fun h5 hf=>?_)
  · refine B1 hf fun e3 h6 hf=>W 2 Z (AS Z (AO.aI h6 Z Z (aj.aB _) Z iT (aj.aD _) Z ?_)); replace hf:=(eH _).trans hf; obtain ⟨x2,x3,h7,hf⟩:=aV hf; refine U 2 Z (CL Z (ze _ _ h7 ?_)); cases hf; exact Rx 4 [1] Z Z (ZC [1] Z Z h)
  refine B1 hf fun e4 h8 hf=>W 2 Z (AS Z (AO.aI h8 Z Z (aj.aB _) Z iT (aj.aD _) Z ?_)); replace hf:=(eH _).trans hf; obtain ⟨x4,x5,h9,hf⟩:=aV hf; refine U 2 Z (CL Z (ze _ _ h9 ?_)); cases hf; exact Rx 4 [1] Z Z (ZC [1] Z Z h)
 refine Wr 5 [0] Z Z (AS Z (AO.J_ Z XQ Z Z (J 0 Z (C hf Z (fun h10 hf=>?_) fun h10 hf=>?_))))
 · cases hf; exact Wx 3 [0,1] Z Z (ZC [1] Z Z h)
 refine B1 hf fun e5 h11 hf=>W 2 Z (AS Z (AO.aI h11 Z Z (aj.aB _) Z iT (aj.aD _) Z ?_)); replace hf:=(eH _).trans hf; obtain ⟨x6,x7,h12,hf⟩:=aV hf; refine U 2 Z (CL Z (Ac _ _ h12 ?_)); cases hf; exact Rx 4 [1] Z Z (ZC [1] Z Z h)
theorem XL (gV) (ze:Lf gV) (jE) (Ce:FN jE) (jg) (Ac:DZ jg) (e1:aj) (cB:List aA) {r0:ah} {r1:Int} (hf:zL gV jE jg e1 cB=some (r0,r1)) (h:Q (.ret (.tuple [.agg (aK r0),iP r1])) τ):PC 129 [.agg (bA e1),.list (List.map aA.cells cB)] τ Q:=by
 unfold zL at hf; refine BN 24 [.cell 4 31,.tmp 5] [0,1] Tryz.func129 Z Z Z Z Z (W 1 Z (AS Z (AO.aF Z gq (fun b4=>?_)))); obtain ⟨x1,f1,h1,hf⟩:=aV hf; refine U 3 Z (CL Z (ze _ _ h1 (U 3 Z (AS Z (AO.aF Z gq (fun b6=>(Rr 5 [0] Z Z (AR.and 4 16 20 [4,6,7] (x:=(x1.kind != 1)) Z Z (fun h2=>?_) (fun h2=>?_) ?_))))))))
 · refine Is 16 h2 Z (U 1 Z (GO Z (AO.aY (i:=0) Z Z Z EP Z Z ?_))); exact eG 2 Z (En [20,4,6,7] Z)
 · refine Is 16 h2 Z ?_; exact eG 4 Z (En [20,4,6,7] Z)
 refine J 0 Z (C hf Z (fun h3 hf=>?_) fun h3 hf=>?_)
 · cases hf; exact Wx 3 [1] Z Z (ZC [1] Z Z h)
 cases hf; exact Wx 4 [0,1] Z Z (ZC [1] Z Z h)
theorem Pt :∀ k:Nat,(Lf (lF k))∧(FN (nI k))∧(DZ (mJ k)):=by
 intro k
 induction k with
 | zero=>exact ⟨fun _ _ _ _ hz=>by first | cases hz | (unfold lF at hz; cases hz),fun _ _ _ _ hz=>by first | cases hz | (unfold nI at hz; cases hz),fun _ _ _ _ hz=>by first | cases hz | (unfold mJ at hz; cases hz)⟩
 | succ k ih=>exact ⟨fun iY eU aR iW hz τ Q hq=>aeb (lF k) ih.1 (nI k) ih.2.1 (mJ k) ih.2.2 iY eU hz hq,fun iY eU aR iW hz τ Q hq=>Z8 (lF k) ih.1 (nI k) ih.2.1 (mJ k) ih.2.2 iY eU hz hq,fun iY eU aR iW hz τ Q hq=>XL (lF k) ih.1 (nI k) ih.2.1 (mJ k) ih.2.2 iY eU hz hq⟩
theorem afj (iY:aj) (eU:List aA) {aR:ah} {iW:Int} (hf:acw iY eU=some (aR,iW)) (h:Q (.ret (.tuple [.agg (aK aR),iP iW])) τ):PC 54 [.agg (bA iY),.list (List.map aA.cells eU)] τ Q:=
 ((Pt BIG).1) iY eU hf h
theorem ame (iY:aj) (eU:List aA) {aR:ah} {iW:Int} (hf:aeA iY eU=some (aR,iW)) (h:Q (.ret (.tuple [.agg (aK aR),iP iW])) τ):PC 78 [.agg (bA iY),.list (List.map aA.cells eU)] τ Q:=
 ((Pt BIG).2.1) iY eU hf h
theorem ak0 (iY:aj) (eU:List aA) {aR:ah} {iW:Int} (hf:acy iY eU=some (aR,iW)) (h:Q (.ret (.tuple [.agg (aK aR),iP iW])) τ):PC 129 [.agg (bA iY),.list (List.map aA.cells eU)] τ Q:=
 ((Pt BIG).2.2) iY eU hf h

theorem afk (e1:aj) (cB:List aA) {r0:ah} {r1:Int} (hf:MJ e1 cB=some (r0,r1)) (h:Q (.ret (.tuple [.agg (aK r0),iP r1])) τ):PC 35 [.agg (bA e1),.list (List.map aA.cells cB)] τ Q:=by
 unfold MJ at hf; refine BN 25 [.cell 4 31,.tmp 5] [0,1] Tryz.func35 Z Z Z Z Z (W 1 Z (AS Z (AO.aF Z gq (fun b4=>?_)))); refine B1 hf fun f1 h1 hf=>U 2 Z (CL Z (ZF _ h1 (J 3 Z (C hf Z (fun h2 hf=>?_) fun h2 hf=>?_))))
 · cases hf; exact Wx 4 [0] Z Z (ZC [0] Z Z h)
 refine B1 hf fun f2 h3 hf=>W 1 Z (CL Z (TK _ h3 (J 3 Z (C hf Z (fun h4 hf=>?_) fun h4 hf=>?_))))
 · cases hf; exact Wx 4 [0] Z Z (ZC [0] Z Z h)
 replace hf:=(eH _).trans hf; obtain ⟨x1,x2,h5,hf⟩:=aV hf; refine W 2 Z (CL Z (afj _ _ h5 ?_)); cases hf; exact Rx 4 [0] Z Z (ZC [0] Z Z h)

theorem aff (fD:aj) (bC:List Int) (bG:List aA) {r0:Bool} {r1:Int} (hf:MF fD bC bG=some (r0,r1)) (h:Q (.ret (.tuple [.bool r0,iP r1])) τ):PC 15 [.agg (bA fD),.list (List.map vT bC),.list (List.map aA.cells bG)] τ Q:=by
 unfold MF at hf; refine BN 26 [.tmp 6,.tmp 7] [0,1,2] Tryz.func15 Z Z Z Z Z (V 3 Z (AW.WC 0 8 10 [] [] mixed (by kernel_rfl) (by kernel_rfl) (by kernel_rfl) Z Z Z (List.Perm.refl _) ?_)); refine Ev.nil ?_; show Ev _ _ _ _ _ _ _
 refine Ev.cs aG 3 Z ?_; refine B1 hf fun x1 h1 hf=>Ev.cons Z Z Z (AO.call Z _ Z Z amN (SI _ _ h1 zg)) ?_; obtain ⟨x2,e1,h2,hf⟩:=aV hf; refine Ev.cons Z Z Z (AO.call Z _ Z Z apW (afk _ _ h2 zg)) (Ev.cs aG 3 Z (Ev.nil (TF.step Z Z Z (AO.aF Z gq (fun b8=>?_))))); refine TF.dh Z Z (AO.dW (i:=0) Z Z Z dF Z Z Z Z Z (TF.nil ?_)); show AR _ _ _ _ _ _ _ _
 refine J 3 Z (C hf Z (fun h3 hf=>?_) fun h3 hf=>?_)
 · cases hf; exact M 3 Z (Y Z h)
 refine Ww 3 [0] Z Z (C hf Z (fun h4 hf=>?_) fun h4 hf=>?_)
 · cases hf; exact M 2 Z (Y Z h)
 cases hf; exact Wx 4 [0] Z Z (Y Z h)

section
variable [FR]
theorem NK (fD:aj) (bC:List Int) (bG:List aA) {r0:Bool} (hf:vH fD bC bG=some r0) (h:Q (.ret (.bool r0)) τ):PC 4 [.agg (bA fD),.list (List.map vT bC),.list (List.map aA.cells bG)] τ Q:=by
 unfold vH at hf; refine BN 45 [.tmp 6] [0,1,2] Tryz.func4 Z Z Z Z Z (W 4 Z (AS Z (AO.aP (l:=bC) Z Z Z Z xU Z Z (U 1 Z (AS Z (AO.aP (l:=bG) Z Z Z Z jN Z Z ?_)))))); refine B1 hf fun x1 h1 hf=>U 1 Z (CL Z (I7 _ _ h1 (J 1 Z (C hf Z (fun h2 hf=>?_) fun h2 hf=>?_))))
 · refine BR hf fun x2 h3 hf=>?_; refine W 0 Z (CL Z (m_  h3 ?_)); cases hf; exact N 1 Z (Y Z h)
 obtain ⟨b1,e1,h4,hf⟩:=aV hf; refine W 3 Z (CL Z (qY _ _ _ h4 ?_)); obtain ⟨c1,f1,h5,hf⟩:=aV hf; refine U 8 Z (CL Z (aff _ _ _ h5 (U 7 Z (AS Z (AO.J_ Z XQ Z Z (U 1 Z (An 4 37 41 [] (e1 == f1) Z Z Z Z ?_))))))); refine BR hf fun b2 h8 hf=>?_; refine U 1 Z (AR.dB 2 42 44 true [] b2 Z Z (fun h7=>?_) (fun h7=>?_) ?_)
 · refine IT 42 h7 h8 Z fun h8=>?_; refine BR h8 fun x3 h9 h8=>?_; refine GO Z (AO.call Z _ Z Z ahf (m_  h9 ?_)); cases h8; exact eG 1 Z (En [44] Z)
 · refine IF 42 h7 h8 Z fun h8=>?_; cases h8; exact eG 2 Z (En [44] Z)
 cases hf; exact N 1 Z (Y Z h)
end


end Go.Proofs.YtggpjlegajicnaaGreatDoor
